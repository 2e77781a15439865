-- Written by a program of this session for this claim (the kit's printer with changes).
import Derived.Test.YtopbkdcicidajaaQFnShadowsx0
import Derived.Test.YtopbkdcicidajaaQFnShadowsx1
import Derived.Test.YtopbkdcicidajaaQFnShadowsx2
namespace Go.Proofs.Ytopbkdcicidajaa.PFnShadows
open Go.RowKit Go.Proofs.YtopbkdcicidajaaW.PrintWords Go.Proofs.YtopbkdcicidajaaW.PrintLast Go.Proofs.YtopbkdcicidajaaW.PrintMore
attribute [local go_sem] max2_int min2_int max_two min_two max_three min_three max_four min_four   -- for this text's walks alone
set_option linter.unusedVariables false
set_option linter.unusedSimpArgs false

section
variable {P : Program} {ops : Array Oper} {Q : Exit → Act → World → Prop}
theorem gate_fnval {rest : List Oper} {o : Oper} {a : Act} {W : World} {s : Tmp} {az : Array Operand} {ts : Array TypeId} (_ho : o.op = .call { callee := .value (.tmp s), args := az, argTypes := ts }) (h : wpList P ops Q (o :: rest) a W) : wpList P ops Q (o :: rest) a W := h
theorem goesF_ {rest : List Oper} {oi : Oper} {a : Act} {w : World} (N : Option Tmp) (hd : oi.dst = N) (hg : oi.guard = none) {f : FuncId} {lb : Array Value} {s : Tmp} {az : Array Operand} {ts : Array TypeId} (eg : ∀ args w, (callFunc f args).run P w = .ok (.enter f args) w) (args : Array Value)
  (hop : oi.op = .call { callee := .value (.tmp s), args := az, argTypes := ts }) (hs : a.eval (.tmp s) = .func (.func f) #[] lb) (hargs : az.map a.eval = args)
  (h : Calls P f (args ++ lb) w fun e w' => ∃ v, e = .returned v ∧ wpList P ops Q rest (a.put N v) w') : wpList P ops Q (oi :: rest) a w := by
 refine wpList_plain hg fun K hK => ?_
 have he := eg (args ++ lb) w
 have hrun : (execOp a.eval oi).run P w = .ok (.enter f (args ++ lb)) w := by
  unfold execOp
  simp [hop, resolve, Deferred.ofValue, invoke, hs, hargs, he]
 unfold Oper.wp
 rw [hrun, Oper.upon_enter]
 refine h.mono fun e w'' hh => ?_
 obtain ⟨v, rfl, hk⟩ := hh
 subst hd
 exact hK _ _ hk
end
/-! ### spansWhere, at any function value: function 61 -/
def sw.l0 (q : Nat → Int → Option Bool) : Nat → Int → List (S82) → Int → Option ((List (S82)))
 | 0, _, _, _ => none
 | k + 1, x1, x7, x8 => if x8 < (mn x1 1000) then ((q k x8).bind fun t289 => (if t289 = true then (if (wrap64 ((x7.length : Int) - 1)) ≥ 0 then (if 0 ≤ (wrap64 ((x7.length : Int) - 1)) then (if (wrap64 ((x7.length : Int) - 1)) < (x7.length : Int) then (if ((rd_T82 x7 (wrap64 ((x7.length : Int) - 1))).f1) = x8 then (sw.l0 q k x1 (x7.set ((wrap64 ((x7.length : Int) - 1)) : Int).toNat (⟨(rd_T82 x7 (wrap64 ((x7.length : Int) - 1))).f0, wrap64 (((rd_T82 x7 (wrap64 ((x7.length : Int) - 1))).f1) + 1)⟩ : S82)) (wrap64 (x8 + 1))) else (if x7.length < 8796093022208 then (sw.l0 q k x1 (x7 ++ [(⟨x8, wrap64 (x8 + 1)⟩ : S82)]) (wrap64 (x8 + 1))) else (none))) else (none)) else (none)) else (if x7.length < 8796093022208 then (sw.l0 q k x1 (x7 ++ [(⟨x8, wrap64 (x8 + 1)⟩ : S82)]) (wrap64 (x8 + 1))) else (none))) else (sw.l0 q k x1 x7 (wrap64 (x8 + 1))))) else (some x7)
def sw.f (q : Nat → Int → Option Bool) (k : Nat) (a0 : Int) (a1 : Int) : Option ((List (S82))) := sw.l0 q k a1 (([] : List (S82))) (mx a0 0)
theorem sw.mono_l (q : Nat → Int → Option Bool) (hm : ∀ t k, LeO (q k t) (q (k + 1) t)) : ∀ k, (∀ y0 y1 y2, LeO (sw.l0 q k y0 y1 y2) (sw.l0 q (k + 1) y0 y1 y2))
 | 0 => fun _ _ _ r h => by simp [sw.l0] at h
 | k + 1 => by
  have ih0 := sw.mono_l q hm k
  ·intro y0 y1 y2
   unfold sw.l0
   repeat' first | (with_reducible first | exact ih0 _ _ _ | exact hm _ _ | exact LeO.refl _ | exact LeO.none _ | refine LeO.ite ?_ ?_ | refine LeO.bind ?_ (fun _ => ?_)) | exact LeO.none _ | refine LeO.ite ?_ ?_ | refine LeO.bind ?_ (fun _ => ?_)
theorem sw.mono (q : Nat → Int → Option Bool) (hm : ∀ t k, LeO (q k t) (q (k + 1) t)) : ∀ a0 a1 k, LeO (sw.f q k a0 a1) (sw.f q (k + 1) a0 a1) := by
 intro a0 a1 k
 have ih0 := sw.mono_l q hm k
 unfold sw.f
 repeat' first | (with_reducible first | exact ih0 _ _ _ | exact hm _ _ | exact LeO.refl _ | exact LeO.none _ | refine LeO.ite ?_ ?_ | refine LeO.bind ?_ (fun _ => ?_)) | exact LeO.none _ | refine LeO.ite ?_ ?_ | refine LeO.bind ?_ (fun _ => ?_)
set_option maxHeartbeats 8000000 in
set_option maxRecDepth 100000 in
theorem sw.calls (q : Nat → Int → Option Bool) (k : Nat) (a0 : Int) (a1 : Int) (r : List (S82)) (w : World) (gF : FuncId) (lb : Array Value) (eg : ∀ args w, (callFunc gF args).run Try.prog w = .ok (.enter gF args) w) (hq : ∀ (k' : Nat) (t : Int) (b : Bool) (W : World), q k' t = some b → Below w.heap.size w W → Calls Try.prog gF (#[iv_ t] ++ lb) W fun e w' => e = .returned (.bool b) ∧ Below W.heap.size W w') (h : sw.f q k a0 a1 = some r) :
  Calls Try.prog 61 #[iv_ a0, iv_ a1, .func (.func gF) #[] lb] w fun e w' => ∃ v0_ : Value, e = .returned (v0_) ∧ Kd.R k82 82 w' w.heap.size (fun _ => True) v0_ r ∧ Below w.heap.size w w' := by
 have hu82 := Try.underlying82
 have HB := Aside0.mk (Below.refl w.heap.size w)
 have H := h
 clear h
 unfold sw.f at H
 replace H : ∃ y_ : List (S82), Aside0 (y_ = (([] : List (S82)))) ∧ (sw.l0 q k a1 y_ (mx a0 0)) = some r := ⟨_, ⟨rfl⟩, yh_ H⟩
 obtain ⟨y286, Ny286, H⟩ := H
 obtain ⟨ji4, hji4⟩ : ∃ j_ : Int, (mx a0 0) = j_ := ⟨_, rfl⟩
 replace H : (sw.l0 q k a1 y286 ji4) = some r := by first | (rw [hji4] at H; exact H) | (simp only [hji4] at H ⊢; exact H)
 (try (have hji4l : 0 ≤ ji4 := by (rw [← hji4]; unfold mx; (repeat' split) <;> omega)))
 (try (have hji4m : 0 ≤ ji4 := by omega))
 have hji4_ : (if a0 < 0 then 0 else a0) = ji4 := hji4
 have H' := Aside0.mk H
 clear H
 go_enter Try.func61, Try.ntmps61
 go_wp2_with (first | ((with_reducible refine gate_dst (N := 10) rfl ?_); refine Kd.R_lit k82 _ 82 ?hg (N := 10) ?hd (xs := ([] : List (S82))) (inner := []) (ok := fun _ => True) (okp := fun _ => True) ?hr ?hp (fun _ hk => hk) trivial (Below.refl _ _) (Nat.le_refl _) (by simp) ?_; (case hd => rfl); (case hg => rfl); (case hr => first | (go_simp; done) | (go_simp; rfl)); (case hp => exact (Reps.none _ _)); intro v287 w5 ho6 hb hg_ hnew_; clear hg_ hnew_; (first | rw [← Ny286.out] at ho6 | (simp only [Int.reduceToNat] at ho6; rw [← Ny286.out] at ho6)); refine sh2_ (Kd.R_lower ho6 (below_size (bl_ HB))) (below_step (bl_ HB) hb) ?_; clear HB hb ho6; intro HO288 HB))
 go_loopg [7, 8] k (fun kq v7 v8 w' => ∃ (x7_1 : List (S82)) (x8_1 : Int), v8 = iv_ x8_1 ∧ Aside0 (sw.l0 q kq a1 x7_1 x8_1 = some r) ∧ Aside0 (kq ≤ k) ∧ Aside0 (Kd.R k82 82 w' w.heap.size (fun _ => True) v7 x7_1) ∧ Aside0 (Below w.heap.size w w'))
 case atStart => exact ⟨(y286), (ji4), (by first | rfl | (simp; done) | (simp only [← hji4] <;> (first | rfl | simp)) | (simp [*]; done)), H', ⟨Nat.le_refl _⟩, ⟨ra_ HO288⟩, ⟨bl_ HB⟩⟩
 case round =>
  clear H'
  obtain ⟨x7_1, x8_1, rfl, HA, HK1, HO_7, HB⟩ := hrel
  cases gk with
  | zero => exact absurd HA.out (by simp [sw.l0])
  | succ k1 =>
   have H := HA.out
   clear HA
   simp only [sw.l0] at H
   obtain ⟨ji7, hji7⟩ : ∃ j_ : Int, (mn a1 1000) = j_ := ⟨_, rfl⟩
   replace H : (if x8_1 < (ji7) then ((q k1 x8_1).bind fun t289 => (if t289 = true then (if (wrap64 ((x7_1.length : Int) - 1)) ≥ 0 then (if 0 ≤ (wrap64 ((x7_1.length : Int) - 1)) then (if (wrap64 ((x7_1.length : Int) - 1)) < (x7_1.length : Int) then (if ((rd_T82 x7_1 (wrap64 ((x7_1.length : Int) - 1))).f1) = x8_1 then (sw.l0 q k1 a1 (x7_1.set ((wrap64 ((x7_1.length : Int) - 1)) : Int).toNat (⟨(rd_T82 x7_1 (wrap64 ((x7_1.length : Int) - 1))).f0, wrap64 (((rd_T82 x7_1 (wrap64 ((x7_1.length : Int) - 1))).f1) + 1)⟩ : S82)) (wrap64 (x8_1 + 1))) else (if x7_1.length < 8796093022208 then (sw.l0 q k1 a1 (x7_1 ++ [(⟨x8_1, wrap64 (x8_1 + 1)⟩ : S82)]) (wrap64 (x8_1 + 1))) else (none))) else (none)) else (none)) else (if x7_1.length < 8796093022208 then (sw.l0 q k1 a1 (x7_1 ++ [(⟨x8_1, wrap64 (x8_1 + 1)⟩ : S82)]) (wrap64 (x8_1 + 1))) else (none))) else (sw.l0 q k1 a1 x7_1 (wrap64 (x8_1 + 1))))) else (some x7_1)) = some r := by first | (rw [hji7] at H; exact H) | (simp only [hji7] at H ⊢; exact H)
   have hji7_ : (if 1000 < a1 then 1000 else a1) = ji7 := hji7
   by_cases c8 : x8_1 < (ji7)
   ·rw [if_pos c8] at H
    have c8b0 := decide_eq_true c8
    clear c8
    replace H := bs_ H
    obtain ⟨t289, A9, H⟩ := H
    by_cases c10 : t289 = true
    ·subst c10
     rw [if_pos rfl] at H
     by_cases c11 : (wrap64 ((x7_1.length : Int) - 1)) ≥ 0
     ·rw [if_pos c11] at H
      have c11b0 : decide (0 ≤ (wrap64 ((x7_1.length : Int) - 1))) = true := decide_eq_true c11
      clear c11
      obtain ⟨ji12, hji12⟩ : ∃ j_ : Int, (wrap64 ((x7_1.length : Int) - 1)) = j_ := ⟨_, rfl⟩
      replace H : (if 0 ≤ (ji12) then (if (ji12) < (x7_1.length : Int) then (if ((rd_T82 x7_1 (ji12)).f1) = x8_1 then (sw.l0 q k1 a1 (x7_1.set ((ji12) : Int).toNat (⟨(rd_T82 x7_1 (ji12)).f0, wrap64 (((rd_T82 x7_1 (ji12)).f1) + 1)⟩ : S82)) (wrap64 (x8_1 + 1))) else (if x7_1.length < 8796093022208 then (sw.l0 q k1 a1 (x7_1 ++ [(⟨x8_1, wrap64 (x8_1 + 1)⟩ : S82)]) (wrap64 (x8_1 + 1))) else (none))) else (none)) else (none)) = some r := by first | (rw [hji12] at H; exact H) | (simp only [hji12] at H ⊢; exact H)
      (try rw [hji12] at c11b0)
      (try rw [hji12] at A9)
      have hji12w : (IntKind.i64.wrap ((x7_1.length : Int) - 1)) = ji12 := (i64_w _).trans hji12
      replace H := ifn_ H
      obtain ⟨c13, H⟩ := H
      have c13b0 := decide_eq_true c13
      clear c13
      replace H := ifn_ H
      obtain ⟨c14, H⟩ := H
      have c14b0 := decide_eq_true c14
      clear c14
      by_cases c15 : ((rd_T82 x7_1 (ji12)).f1) = x8_1
      ·rw [if_pos c15] at H
       obtain ⟨c15b0, c15b1⟩ := bt_ c15
       clear c15
       replace H : ∃ y_ : List (S82), Aside0 (y_ = (x7_1.set ((ji12) : Int).toNat (⟨(rd_T82 x7_1 (ji12)).f0, wrap64 (((rd_T82 x7_1 (ji12)).f1) + 1)⟩ : S82))) ∧ (sw.l0 q k1 a1 y_ (wrap64 (x8_1 + 1))) = some r := ⟨_, ⟨rfl⟩, yh_ H⟩
       obtain ⟨y292, Ny292, H⟩ := H
       have H' := Aside0.mk H
       clear H
       go_wp2_with (first | ((with_reducible refine gate_fnval (s := 19) rfl ?_); refine goesF_ (some 21) rfl rfl eg #[iv_ x8_1] rfl rfl mp_ ?_; (refine (hq k1 x8_1 true _ A9.out (bl_ HB)).mono ?_); rintro e w17 ⟨rfl, hb⟩; refine ⟨_, rfl, sh2_ (Kd.R_below (ra_ HO_7) hb) (below_step (bl_ HB) hb) ?_⟩; clear HO_7 HB hb; intro HO_7 HB; obtain ⟨Ao18, co18, eo18⟩ := Kd.R_slice HO_7.out; subst eo18; have p290 : 0 ≤ ((ji12) : Int) := od_; have q290 : (ji12) < (x7_1.length : Int) := od_; obtain ⟨ad290, e290, hx290_0, hx290_1⟩ := at_T82 (Kd.R_reads' HO_7.out).2.2 (ji12) p290 q290; cases e290; replace p290 := eq_true p290; replace q290 := eq_true q290; have p291 : 0 ≤ ((ji12) : Int) := od_; have q291 : (ji12) < (x7_1.length : Int) := od_; obtain ⟨ad291, e291, hx291_0, hx291_1⟩ := at_T82 (Kd.R_reads' HO_7.out).2.2 (ji12) p291 q291; obtain rfl : ad290 = ad291 := (by injection e291); replace p291 := eq_true p291; replace q291 := eq_true q291; have p16 : 0 ≤ ((ji12) : Int) := od_; have q16 : ((ji12) : Int) < ((x7_1.length : Int) : Int) := od_; obtain ⟨go16, co16, eo16, gb16, gl16, cl16, HG16⟩ := Kd.R_form HO_7.out (by omega); (first | cases eo16 | (injection eo16 with ea_ en_ ec_; (first | subst ea_ | (injection ea_ with ea_; subst ea_)); subst ec_; clear en_)); have GB16 := Aside0.mk gb16; have GG16 := Aside0.mk HG16; clear gb16 gl16 HG16; (first | simp only [add_plain] at hx290_0 | skip); (first | simp only [add_plain] at hx290_1 | skip); (first | simp only [add_plain] at hx291_0 | skip); (first | simp only [add_plain] at hx291_1 | skip); obtain ⟨ce16, hcl16, hM16, hcc16, hfr16⟩ := Kd.R_elem HO_7.out z82 ((ji12) : Int) p16 q16; obtain rfl := k82_openM hM16; have hx16_0 : w17.cell? ⟨go16, ((ji12) : Int).toNat * 2, none⟩ = some (iv_ ((rd_T82 x7_1 (ji12)).f0)) := hcc16 0 _ rfl; have hx16_1 : w17.cell? ⟨go16, ((ji12) : Int).toNat * 2 + 1, none⟩ = some (iv_ ((rd_T82 x7_1 (ji12)).f1)) := hcc16 1 _ rfl; have hf16_0 : w17.frozen? ⟨go16, ((ji12) : Int).toNat * 2, none⟩ = false := hfr16 0; have hf16_1 : w17.frozen? ⟨go16, ((ji12) : Int).toNat * 2 + 1, none⟩ = false := hfr16 1; clear hcl16 hcc16 hfr16 hM16; replace p16 := eq_true p16; replace q16 := eq_true q16; have HX19 := Aside0.mk (show Kd.R k82 82 w17 w.heap.size (fun _ => True) (.slice (some ⟨go16, 0, none⟩) x7_1.length co18) x7_1 from (ra_ HO_7)); obtain ⟨ce19, hcl19, hM19, hcc19, hfr19⟩ := Kd.R_elem HX19.out z82 ((ji12) : Int) od_ (by have h_ : ((ji12) : Int) < ((x7_1.length : Int) : Int) := od_; first | exact h_ | (have e_ := (Kd.R_reads' HO_7.out).1; omega) | simpa using h_); obtain rfl := k82_openM hM19; have HP19 := Kd.R_seg HX19.out ((ji12) : Int) od_ (by have h_ : ((ji12) : Int) < ((x7_1.length : Int) : Int) := od_; first | exact h_ | (have e_ := (Kd.R_reads' HO_7.out).1; omega) | simpa using h_) (seg := [iv_ (wrap64 (((rd_T82 x7_1 (ji12)).f1) + 1))]) (j := 1) hcl19 hcc19 (show 2 ≤ 2 from by decide) (x' := (⟨(rd_T82 x7_1 (ji12)).f0, wrap64 (((rd_T82 x7_1 (ji12)).f1) + 1)⟩ : S82)) (k82_mkM _ _ _ (⟨(rd_T82 x7_1 (ji12)).f0, wrap64 (((rd_T82 x7_1 (ji12)).f1) + 1)⟩ : S82) ) (fun _ hk => hk); have hx19_1 := hcc19 1 _ rfl; (try simp only [show (k82).sz = 2 from rfl, Nat.mul_one, Nat.add_zero] at hx19_1); have hf19_1 := hfr19 1; (try simp only [show (k82).sz = 2 from rfl, Nat.mul_one, Nat.add_zero] at hf19_1); clear hcl19 hcc19 hfr19 hM19) | ((with_reducible refine gate_store (t := 3) (p := 44) rfl ?_); refine store_event (t := 3) (p := 44) (v := ?vo_w20) (w1 := (w17.setCell ⟨go16, ((ji12) : Int).toNat * 2 + 1, none⟩ (iv_ (wrap64 (((rd_T82 x7_1 (ji12)).f1) + 1))))) ?hg ?ho ?hn ?hr ?_; (case ho => rfl); (case hg => rfl); (case hn => rfl); (case hr => first | (go_simp; done) | (go_simp; rfl)); intro w20 hw; have hg : w17.grownBy w20 (some go16) := (by rw [hw]; exact HP19.2); have hp_ : Kd.R k82 82 w20 w.heap.size (fun _ => True) (.slice (some ⟨go16, 0, none⟩) x7_1.length co18) y292 := (by rw [hw, Ny292.out]; exact HP19.1); clear HP19; refine sh2_ hp_ ((by rw [hw]; exact below_set (HB.out) GB16.out : Below w.heap.size w w20)) ?_; clear HO_7 HB; intro HO_7 HB; clear hg hw hp_))
       go_roundg k1
       case measure => have := HK1.out; omega
       case rel => exact ⟨(y292), (wrap64 (x8_1 + 1)), (by first | rfl | (simp; done) | (simp [*]; done)), H', ⟨by have := HK1.out; omega⟩, ⟨ra_ HO_7⟩, ⟨bl_ HB⟩⟩
      ·rw [if_neg c15] at H
       obtain ⟨c15b0, c15b1⟩ := bn_ c15
       replace H := ifn_ H
       obtain ⟨c21, H⟩ := H
       have LMc21 := Aside0.mk c21
       clear c21
       replace H : ∃ y_ : List (S82), Aside0 (y_ = (x7_1 ++ [(⟨x8_1, wrap64 (x8_1 + 1)⟩ : S82)])) ∧ (sw.l0 q k1 a1 y_ (wrap64 (x8_1 + 1))) = some r := ⟨_, ⟨rfl⟩, yh_ H⟩
       obtain ⟨y293, Ny293, H⟩ := H
       have H' := Aside0.mk H
       clear H
       go_wp2_with (first | ((with_reducible refine gate_fnval (s := 19) rfl ?_); refine goesF_ (some 21) rfl rfl eg #[iv_ x8_1] rfl rfl mp_ ?_; (refine (hq k1 x8_1 true _ A9.out (bl_ HB)).mono ?_); rintro e w22 ⟨rfl, hb⟩; refine ⟨_, rfl, sh2_ (Kd.R_below (ra_ HO_7) hb) (below_step (bl_ HB) hb) ?_⟩; clear HO_7 HB hb; intro HO_7 HB; obtain ⟨Ao23, co23, eo23⟩ := Kd.R_slice HO_7.out; subst eo23; have p290 : 0 ≤ ((ji12) : Int) := od_; have q290 : (ji12) < (x7_1.length : Int) := od_; obtain ⟨ad290, e290, hx290_0, hx290_1⟩ := at_T82 (Kd.R_reads' HO_7.out).2.2 (ji12) p290 q290; cases e290; replace p290 := eq_true p290; replace q290 := eq_true q290) | ((with_reducible refine gate_builtin (b := .append) (xs := #[.tmp 45, .tmp 50]) rfl ?_); at_builtin; refine Kd.R_append k82 (w0 := w) w.heap.size rfl (.tmp 45) (.tmp 50) 40 82 (.agg #[(iv_ 0), (iv_ 0)]) 16 rfl Try.underlying40 info82 rfl (by decide) (by omega) (.slice (some ad290) x7_1.length co23) x7_1 (⟨x8_1, wrap64 (x8_1 + 1)⟩ : S82) [iv_ x8_1, iv_ (wrap64 (x8_1 + 1))] (fun _ => True) (fun _ => False) rfl rfl ?aP (fun _ hk => hk.elim) ?aF ?aO ?aB ?aS ?aL ?_; (case aP => exact k82_mkM _ _ _ (⟨x8_1, wrap64 (x8_1 + 1)⟩ : S82)); (case aB => exact (bl_ HB)); (case aF => exact (fun _ _ => trivial)); (case aO => exact (ra_ HO_7)); (case aS => exact (below_size (bl_ HB))); (case aL => have := LMc21.out; omega); intro v294 w24 ho hb hg hat; rw [← Ny293.out] at ho; refine sh2_ hb ho ?_; clear HB HO_7 ho hb hg hat; intro HB HO295))
       go_roundg k1
       case measure => have := HK1.out; omega
       case rel => exact ⟨(y293), (wrap64 (x8_1 + 1)), (by first | rfl | (simp; done) | (simp [*]; done)), H', ⟨by have := HK1.out; omega⟩, ⟨ra_ HO295⟩, ⟨bl_ HB⟩⟩
     ·rw [if_neg c11] at H
      have c11b0 : decide (0 ≤ (wrap64 ((x7_1.length : Int) - 1))) = false := decide_eq_false c11
      clear c11
      replace H := ifn_ H
      obtain ⟨c25, H⟩ := H
      have LMc25 := Aside0.mk c25
      clear c25
      replace H : ∃ y_ : List (S82), Aside0 (y_ = (x7_1 ++ [(⟨x8_1, wrap64 (x8_1 + 1)⟩ : S82)])) ∧ (sw.l0 q k1 a1 y_ (wrap64 (x8_1 + 1))) = some r := ⟨_, ⟨rfl⟩, yh_ H⟩
      obtain ⟨y296, Ny296, H⟩ := H
      have H' := Aside0.mk H
      clear H
      go_wp2_with (first | ((with_reducible refine gate_fnval (s := 19) rfl ?_); refine goesF_ (some 21) rfl rfl eg #[iv_ x8_1] rfl rfl mp_ ?_; (refine (hq k1 x8_1 true _ A9.out (bl_ HB)).mono ?_); rintro e w26 ⟨rfl, hb⟩; refine ⟨_, rfl, sh2_ (Kd.R_below (ra_ HO_7) hb) (below_step (bl_ HB) hb) ?_⟩; clear HO_7 HB hb; intro HO_7 HB; obtain ⟨Ao27, co27, eo27⟩ := Kd.R_slice HO_7.out; subst eo27) | ((with_reducible refine gate_builtin (b := .append) (xs := #[.tmp 45, .tmp 50]) rfl ?_); at_builtin; refine Kd.R_append k82 (w0 := w) w.heap.size rfl (.tmp 45) (.tmp 50) 40 82 (.agg #[(iv_ 0), (iv_ 0)]) 16 rfl Try.underlying40 info82 rfl (by decide) (by omega) (.slice Ao27 x7_1.length co27) x7_1 (⟨x8_1, wrap64 (x8_1 + 1)⟩ : S82) [iv_ x8_1, iv_ (wrap64 (x8_1 + 1))] (fun _ => True) (fun _ => False) rfl rfl ?aP (fun _ hk => hk.elim) ?aF ?aO ?aB ?aS ?aL ?_; (case aP => exact k82_mkM _ _ _ (⟨x8_1, wrap64 (x8_1 + 1)⟩ : S82)); (case aB => exact (bl_ HB)); (case aF => exact (fun _ _ => trivial)); (case aO => exact (ra_ HO_7)); (case aS => exact (below_size (bl_ HB))); (case aL => have := LMc25.out; omega); intro v297 w28 ho hb hg hat; rw [← Ny296.out] at ho; refine sh2_ hb ho ?_; clear HB HO_7 ho hb hg hat; intro HB HO298))
      go_roundg k1
      case measure => have := HK1.out; omega
      case rel => exact ⟨(y296), (wrap64 (x8_1 + 1)), (by first | rfl | (simp; done) | (simp [*]; done)), H', ⟨by have := HK1.out; omega⟩, ⟨ra_ HO298⟩, ⟨bl_ HB⟩⟩
    ·replace c10 := Bool.eq_false_iff.mpr c10
     subst c10
     have H1 : (sw.l0 q k1 a1 x7_1 (wrap64 (x8_1 + 1))) = some r := by rw [if_neg (show ¬ (false = true) by decide)] at H; exact H
     clear H
     have H := H1
     clear H1
     have H' := Aside0.mk H
     clear H
     go_wp2_with (first | ((with_reducible refine gate_fnval (s := 19) rfl ?_); refine goesF_ (some 21) rfl rfl eg #[iv_ x8_1] rfl rfl mp_ ?_; (refine (hq k1 x8_1 false _ A9.out (bl_ HB)).mono ?_); rintro e w29 ⟨rfl, hb⟩; refine ⟨_, rfl, sh2_ (Kd.R_below (ra_ HO_7) hb) (below_step (bl_ HB) hb) ?_⟩; clear HO_7 HB hb; intro HO_7 HB))
     go_roundg k1
     case measure => have := HK1.out; omega
     case rel => exact ⟨(x7_1), (wrap64 (x8_1 + 1)), (by first | rfl | (simp; done) | (simp [*]; done)), H', ⟨by have := HK1.out; omega⟩, ⟨ra_ HO_7⟩, ⟨bl_ HB⟩⟩
   ·rw [if_neg c8] at H
    have c8b0 : decide (x8_1 < (ji7)) = false := decide_eq_false c8
    clear c8
    obtain rfl := Option.some.inj H
    go_wp2
    go_ret
    exact ⟨_, by first | rfl | (rw [hRT_.out]; rfl) | (simp [errW_none, errW_some] <;> rfl) | (simp only [← hji4, ← hji7]; first | rfl | (simp [errW_none, errW_some] <;> rfl)) | (simp [*, errW_none, errW_some] <;> rfl), ra_ HO_7, bl_ HB⟩

/-! ### impl_SunAt: function 23 -/
def impl_SunAt.f (a0_0 : Int) (l0_1 : List (S72)) (l0_2 : List (S74)) (a0_3 : Int) (a0_4 : Int) (a0_5 : Int) (a0_6 : Int) (a0_7 : Int) (l0_8 : List (S88)) (a0_9 : Int) (a1 : Int) : Option (Int) := (impl_PlaceAt.f 0 0 a0_6 0 a1).bind fun t300 => (some t300)
set_option maxHeartbeats 8000000 in
set_option maxRecDepth 100000 in
theorem impl_SunAt.calls (a0_0 : Int) (A0_1 : Option Addr) (c0_1 : Nat) (l0_1 : List (S72)) (A0_2 : Option Addr) (c0_2 : Nat) (l0_2 : List (S74)) (a0_3 : Int) (a0_4 : Int) (a0_5 : Int) (a0_6 : Int) (a0_7 : Int) (A0_8 : Option Addr) (c0_8 : Nat) (l0_8 : List (S88)) (a0_9 : Int) (a1 : Int) (r : Int) (w : World) (hr0_1 : Kd.C k72 w A0_1 l0_1.length l0_1) (hc0_1 : l0_1.length ≤ c0_1) (hr0_2 : Kd.C k74 w A0_2 l0_2.length l0_2) (hc0_2 : l0_2.length ≤ c0_2) (hr0_8 : Kd.C k88 w A0_8 l0_8.length l0_8) (hc0_8 : l0_8.length ≤ c0_8) (h : impl_SunAt.f a0_0 l0_1 l0_2 a0_3 a0_4 a0_5 a0_6 a0_7 l0_8 a0_9 a1 = some r) :
  Calls Try.prog 23 #[.agg #[iv_ a0_0, .slice A0_1 l0_1.length c0_1, .slice A0_2 l0_2.length c0_2, iv_ a0_3, iv_ a0_4, iv_ a0_5, iv_ a0_6, iv_ a0_7, .slice A0_8 l0_8.length c0_8, iv_ a0_9], iv_ a1] w fun e w' => e = .returned (iv_ r) ∧ Below w.heap.size w w' := by
 have hu28 := Try.underlying28
 have hu72 := Try.underlying72
 have HR0_1 := Aside0.mk hr0_1
 have HC0_1 := Aside0.mk hc0_1
 clear hr0_1 hc0_1
 have HR0_2 := Aside0.mk hr0_2
 have HC0_2 := Aside0.mk hc0_2
 clear hr0_2 hc0_2
 have HR0_8 := Aside0.mk hr0_8
 have HC0_8 := Aside0.mk hc0_8
 clear hr0_8 hc0_8
 have HB := Aside0.mk (Below.refl w.heap.size w)
 have H := h
 clear h
 unfold impl_SunAt.f at H
 replace H := bs_ H
 obtain ⟨t300, A3, H⟩ := H
 obtain rfl := Option.some.inj H
 go_enter Try.func23, Try.ntmps23
 go_wp2_with (first | ((with_reducible refine gd_ 2 ?_); refine bx_ 2 28 #[iv_ a0_0, .slice A0_1 l0_1.length c0_1, .slice A0_2 l0_2.length c0_2, iv_ a0_3, iv_ a0_4, iv_ a0_5, iv_ a0_6, iv_ a0_7, .slice A0_8 l0_8.length c0_8, iv_ a0_9] ?_; intro gb299 hg w4 hbox hb; refine sh3_ (below_step (bl_ HB) hb) hbox (ge_ hg (bl_ HB)) ?_; clear HB hb hbox hg; intro HB BK299 GE299; have hcz5 := cf10_ BK299) | ((with_reducible refine gate_callee (f := 57) rfl ?_); refine gl_ 9 Try.func57 (impl_PlaceAt.calls 0 0 a0_6 0 a1 t300 _ A3.out) ?_; rintro e w6 ⟨rfl, hb⟩; refine ⟨_, rfl, sh2_ (blk_below (bk_ BK299) hb) (below_step (bl1_ HB GE299) hb) ?_⟩; clear BK299 HB hb; intro BK299 HB))
 go_ret
 exact ⟨by first | (rw [hRT_.out]; rfl) | exact er_, bl1_ HB GE299⟩

/-! ### impl_MiddleOf: function 51 -/
def impl_MiddleOf.f (a0_0 : Int) (a0_1 : Int) : Option (Int) := (impl_isWidth.f a0_1).bind fun t302 => (if t302 = true then ((impl_AngleOf.f a0_0).bind fun t303 => ((impl_AngleOf.f (wrap64 (t303 + (wrap64 (Int.tdiv a0_1 2))))).bind fun t304 => (some t304))) else ((impl_AngleOf.f a0_0).bind fun t305 => (some t305)))
set_option maxHeartbeats 8000000 in
set_option maxRecDepth 100000 in
theorem impl_MiddleOf.calls (a0_0 : Int) (a0_1 : Int) (r : Int) (w : World) (h : impl_MiddleOf.f a0_0 a0_1 = some r) :
  Calls Try.prog 51 #[.agg #[iv_ a0_0, iv_ a0_1]] w fun e w' => e = .returned (iv_ r) ∧ Below w.heap.size w w' := by
 have hu35 := Try.underlying35
 have HB := Aside0.mk (Below.refl w.heap.size w)
 have H := h
 clear h
 unfold impl_MiddleOf.f at H
 replace H := bs_ H
 obtain ⟨t302, A2, H⟩ := H
 by_cases c3 : t302 = true
 ·subst c3
  rw [if_pos rfl] at H
  replace H := bs_ H
  obtain ⟨t303, A4, H⟩ := H
  replace H := bs_ H
  obtain ⟨t304, A5, H⟩ := H
  obtain rfl := Option.some.inj H
  go_enter Try.func51, Try.ntmps51
  go_wp2_with (first | ((with_reducible refine gd_ 1 ?_); refine bx_ 1 35 #[iv_ a0_0, iv_ a0_1] ?_; intro gb301 hg w6 hbox hb; refine sh3_ (below_step (bl_ HB) hb) hbox (ge_ hg (bl_ HB)) ?_; clear HB hb hbox hg; intro HB BK301 GE301; have hcz7 := cf2_ BK301) | (go_at_call 92; (with_reducible refine (impl_isWidth.calls a0_1 true _ A2.out).mono ?_); rintro e w' ⟨rfl, ⟨nd, rfl⟩⟩; (try exact dd_)) | (go_at_call 58; (with_reducible refine (impl_AngleOf.calls a0_0 t303 _ A4.out).mono ?_); rintro e w' ⟨rfl, ⟨nd, rfl⟩⟩; (try exact dd_)) | (go_at_call 58; (with_reducible refine (impl_AngleOf.calls (wrap64 (t303 + (wrap64 (Int.tdiv a0_1 2)))) t304 _ A5.out).mono ?_); rintro e w' ⟨rfl, ⟨nd, rfl⟩⟩; (try exact dd_)))
  repeat (go_quiet (first | ((with_reducible refine gd_ 1 ?_); refine bx_ 1 35 #[iv_ a0_0, iv_ a0_1] ?_; intro gb301 hg w6 hbox hb; refine sh3_ (below_step (bl_ HB) hb) hbox (ge_ hg (bl_ HB)) ?_; clear HB hb hbox hg; intro HB BK301 GE301; have hcz7 := cf2_ BK301) | (go_at_call 92; (with_reducible refine (impl_isWidth.calls a0_1 true _ A2.out).mono ?_); rintro e w' ⟨rfl, ⟨nd, rfl⟩⟩; (try exact dd_)) | (go_at_call 58; (with_reducible refine (impl_AngleOf.calls a0_0 t303 _ A4.out).mono ?_); rintro e w' ⟨rfl, ⟨nd, rfl⟩⟩; (try exact dd_)) | (go_at_call 58; (with_reducible refine (impl_AngleOf.calls (wrap64 (t303 + (wrap64 (Int.tdiv a0_1 2)))) t304 _ A5.out).mono ?_); rintro e w' ⟨rfl, ⟨nd, rfl⟩⟩; (try exact dd_))); try go_wp2_with (first | ((with_reducible refine gd_ 1 ?_); refine bx_ 1 35 #[iv_ a0_0, iv_ a0_1] ?_; intro gb301 hg w6 hbox hb; refine sh3_ (below_step (bl_ HB) hb) hbox (ge_ hg (bl_ HB)) ?_; clear HB hb hbox hg; intro HB BK301 GE301; have hcz7 := cf2_ BK301) | (go_at_call 92; (with_reducible refine (impl_isWidth.calls a0_1 true _ A2.out).mono ?_); rintro e w' ⟨rfl, ⟨nd, rfl⟩⟩; (try exact dd_)) | (go_at_call 58; (with_reducible refine (impl_AngleOf.calls a0_0 t303 _ A4.out).mono ?_); rintro e w' ⟨rfl, ⟨nd, rfl⟩⟩; (try exact dd_)) | (go_at_call 58; (with_reducible refine (impl_AngleOf.calls (wrap64 (t303 + (wrap64 (Int.tdiv a0_1 2)))) t304 _ A5.out).mono ?_); rintro e w' ⟨rfl, ⟨nd, rfl⟩⟩; (try exact dd_))))
  go_ret
  exact ⟨by first | (rw [hRT_.out]; rfl) | exact er_, bl1_ HB GE301⟩
 ·replace c3 := Bool.eq_false_iff.mpr c3
  subst c3
  have H1 : ((impl_AngleOf.f a0_0).bind fun t305 => (some t305)) = some r := by rw [if_neg (show ¬ (false = true) by decide)] at H; exact H
  clear H
  have H := H1
  clear H1
  replace H := bs_ H
  obtain ⟨t305, A8, H⟩ := H
  obtain rfl := Option.some.inj H
  go_enter Try.func51, Try.ntmps51
  go_wp2_with (first | ((with_reducible refine gd_ 1 ?_); refine bx_ 1 35 #[iv_ a0_0, iv_ a0_1] ?_; intro gb301 hg w9 hbox hb; refine sh3_ (below_step (bl_ HB) hb) hbox (ge_ hg (bl_ HB)) ?_; clear HB hb hbox hg; intro HB BK301 GE301; have hcz10 := cf2_ BK301) | (go_at_call 92; (with_reducible refine (impl_isWidth.calls a0_1 false _ A2.out).mono ?_); rintro e w' ⟨rfl, ⟨nd, rfl⟩⟩; (try exact dd_)) | (go_at_call 58; (with_reducible refine (impl_AngleOf.calls a0_0 t305 _ A8.out).mono ?_); rintro e w' ⟨rfl, ⟨nd, rfl⟩⟩; (try exact dd_)))
  repeat (go_quiet (first | ((with_reducible refine gd_ 1 ?_); refine bx_ 1 35 #[iv_ a0_0, iv_ a0_1] ?_; intro gb301 hg w9 hbox hb; refine sh3_ (below_step (bl_ HB) hb) hbox (ge_ hg (bl_ HB)) ?_; clear HB hb hbox hg; intro HB BK301 GE301; have hcz10 := cf2_ BK301) | (go_at_call 92; (with_reducible refine (impl_isWidth.calls a0_1 false _ A2.out).mono ?_); rintro e w' ⟨rfl, ⟨nd, rfl⟩⟩; (try exact dd_)) | (go_at_call 58; (with_reducible refine (impl_AngleOf.calls a0_0 t305 _ A8.out).mono ?_); rintro e w' ⟨rfl, ⟨nd, rfl⟩⟩; (try exact dd_))); try go_wp2_with (first | ((with_reducible refine gd_ 1 ?_); refine bx_ 1 35 #[iv_ a0_0, iv_ a0_1] ?_; intro gb301 hg w9 hbox hb; refine sh3_ (below_step (bl_ HB) hb) hbox (ge_ hg (bl_ HB)) ?_; clear HB hb hbox hg; intro HB BK301 GE301; have hcz10 := cf2_ BK301) | (go_at_call 92; (with_reducible refine (impl_isWidth.calls a0_1 false _ A2.out).mono ?_); rintro e w' ⟨rfl, ⟨nd, rfl⟩⟩; (try exact dd_)) | (go_at_call 58; (with_reducible refine (impl_AngleOf.calls a0_0 t305 _ A8.out).mono ?_); rintro e w' ⟨rfl, ⟨nd, rfl⟩⟩; (try exact dd_))))
  go_ret
  exact ⟨by first | (rw [hRT_.out]; rfl) | exact er_, bl1_ HB GE301⟩

/-! ### impl_ShadowAt: function 21 -/
def impl_ShadowAt.f (a0_0 : Int) (l0_1 : List (S72)) (l0_2 : List (S74)) (a0_3 : Int) (a0_4 : Int) (a0_5 : Int) (a0_6 : Int) (a0_7 : Int) (l0_8 : List (S88)) (a0_9 : Int) (a1 : Int) (a2 : Int) : Option (Int) := (impl_isSatellite.f a0_0 l0_1 l0_2 a0_3 a0_4 a0_5 a0_6 a0_7 l0_8 a0_9 a1).bind fun t307 => (if t307 = true then ((impl_NodeAt.f a0_0 l0_1 l0_2 a0_3 a0_4 a0_5 a0_6 a0_7 l0_8 a0_9 a1 a2).bind fun bt308 => ((impl_MiddleOf.f bt308.1 bt308.2).bind fun t311 => ((impl_SunAt.f a0_0 l0_1 l0_2 a0_3 a0_4 a0_5 a0_6 a0_7 l0_8 a0_9 a2).bind fun t312 => ((impl_GapOf.f t311 (wrap64 (t312 + 180))).bind fun t313 => (if (wrap64 (t313 - (wrap64 (Int.tdiv bt308.2 2)))) > a0_7 then (some 0) else (if (wrap64 (t313 + (wrap64 (Int.tdiv bt308.2 2)))) ≤ a0_7 then (some 2) else (some 1))))))) else (some 0))
def impl_ShadowAt.T4 : Bool × List (List Nat × List Nat) := (true, [([], []), ([0], [0]), ([], []), ([], []), ([2, 3, 1], [2, 3]), ([4], [4]), ([1, 5, 4], [1, 5]), ([], []), ([7], [7]), ([8], [8]), ([6, 6, 0, 1, 2, 3, 4, 5, 6], [6]), ([9, 10, 0, 1, 2, 3, 4, 5, 6, 7, 8, 9, 10], [9])])
def impl_ShadowAt.B4 : List Nat := [0, 1, 0, 0, 15, 31, 63, 0, 128, 384, 127, 2047]
theorem impl_ShadowAt.tab4 : rtab .any (opsOf Try.f21 4) = impl_ShadowAt.T4 := by kernel_rfl
theorem impl_ShadowAt.bits4 : waitsOk impl_ShadowAt.T4.2 impl_ShadowAt.B4 = true := by kernel_rfl
set_option maxHeartbeats 8000000 in
set_option maxRecDepth 100000 in
theorem impl_ShadowAt.calls (a0_0 : Int) (A0_1 : Option Addr) (c0_1 : Nat) (l0_1 : List (S72)) (A0_2 : Option Addr) (c0_2 : Nat) (l0_2 : List (S74)) (a0_3 : Int) (a0_4 : Int) (a0_5 : Int) (a0_6 : Int) (a0_7 : Int) (A0_8 : Option Addr) (c0_8 : Nat) (l0_8 : List (S88)) (a0_9 : Int) (a1 : Int) (a2 : Int) (r : Int) (w : World) (hr0_1 : Kd.C k72 w A0_1 l0_1.length l0_1) (hc0_1 : l0_1.length ≤ c0_1) (hr0_2 : Kd.C k74 w A0_2 l0_2.length l0_2) (hc0_2 : l0_2.length ≤ c0_2) (hr0_8 : Kd.C k88 w A0_8 l0_8.length l0_8) (hc0_8 : l0_8.length ≤ c0_8) (h : impl_ShadowAt.f a0_0 l0_1 l0_2 a0_3 a0_4 a0_5 a0_6 a0_7 l0_8 a0_9 a1 a2 = some r) :
  Calls Try.prog 21 #[.agg #[iv_ a0_0, .slice A0_1 l0_1.length c0_1, .slice A0_2 l0_2.length c0_2, iv_ a0_3, iv_ a0_4, iv_ a0_5, iv_ a0_6, iv_ a0_7, .slice A0_8 l0_8.length c0_8, iv_ a0_9], iv_ a1, iv_ a2] w fun e w' => e = .returned (iv_ r) ∧ Below w.heap.size w w' := by
 have hu28 := Try.underlying28
 have hu35 := Try.underlying35
 have HR0_1 := Aside0.mk hr0_1
 have HC0_1 := Aside0.mk hc0_1
 clear hr0_1 hc0_1
 have HR0_2 := Aside0.mk hr0_2
 have HC0_2 := Aside0.mk hc0_2
 clear hr0_2 hc0_2
 have HR0_8 := Aside0.mk hr0_8
 have HC0_8 := Aside0.mk hc0_8
 clear hr0_8 hc0_8
 have HB := Aside0.mk (Below.refl w.heap.size w)
 have H := h
 clear h
 unfold impl_ShadowAt.f at H
 replace H := bs_ H
 obtain ⟨t307, A4, H⟩ := H
 by_cases c5 : t307 = true
 ·subst c5
  rw [if_pos rfl] at H
  replace H := bs_ H
  obtain ⟨⟨t308, t309⟩, A6, H⟩ := H
  dsimp only at H
  replace H := bs_ H
  obtain ⟨t311, A7, H⟩ := H
  replace H := bs_ H
  obtain ⟨t312, A8, H⟩ := H
  replace H := bs_ H
  obtain ⟨t313, A9, H⟩ := H
  by_cases c10 : (wrap64 (t313 - (wrap64 (Int.tdiv t309 2)))) > a0_7
  ·rw [if_pos c10] at H
   have c10b0 : decide (a0_7 < (wrap64 (t313 - (wrap64 (Int.tdiv t309 2))))) = true := decide_eq_true c10
   clear c10
   obtain rfl := Option.some.inj H
   go_enter Try.func21, Try.ntmps21
   try go_wp2_with (first | ((with_reducible refine gd_ 3 ?_); refine bx_ 3 28 #[iv_ a0_0, .slice A0_1 l0_1.length c0_1, .slice A0_2 l0_2.length c0_2, iv_ a0_3, iv_ a0_4, iv_ a0_5, iv_ a0_6, iv_ a0_7, .slice A0_8 l0_8.length c0_8, iv_ a0_9] ?_; intro gb306 hg w11 hbox hb; refine sh3_ (below_step (bl_ HB) hb) hbox (ge_ hg (bl_ HB)) ?_; clear HB hb hbox hg; intro HB BK306 GE306; have hcz12 := cf10_ BK306) | ((with_reducible refine gate_callee (f := 53) rfl ?_); refine gl_ 12 Try.func53 (impl_isSatellite.calls a0_0 _ _ l0_1 _ _ l0_2 a0_3 a0_4 a0_5 a0_6 a0_7 _ _ l0_8 a0_9 a1 true _ (ck_ HR0_1 HB) HC0_1.out (ck_ HR0_2 HB) HC0_2.out (ck_ HR0_8 HB) HC0_8.out A4.out) ?_; rintro e w13 ⟨rfl, hb⟩; refine ⟨_, rfl, sh2_ (blk_below (bk_ BK306) hb) (below_step (bl1_ HB GE306) hb) ?_⟩; clear BK306 HB hb; intro BK306 HB; have hcz14 := cf10_ BK306) | ((with_reducible refine gate_callee (f := 13) rfl ?_); refine gl_ 17 Try.func13 (impl_NodeAt.calls a0_0 _ _ l0_1 _ _ l0_2 a0_3 a0_4 a0_5 a0_6 a0_7 _ _ l0_8 a0_9 a1 a2 t308 t309 _ (ck_ HR0_1 HB) HC0_1.out (ck_ HR0_2 HB) HC0_2.out (ck_ HR0_8 HB) HC0_8.out A6.out) ?_; rintro e w15 ⟨rfl, hb⟩; refine ⟨_, rfl, sh2_ (blk_below (bk_ BK306) hb) (below_step (bl1_ HB GE306) hb) ?_⟩; clear BK306 HB hb; intro BK306 HB) | ((with_reducible refine gd_ 7 ?_); refine bx_ 7 35 #[iv_ 0, iv_ 0] ?_; intro gb310 hg w16 hbox hb; refine sh6_ (blk_below (bk_ BK306) hb) (below_step (bl1_ HB GE306) hb) hbox (ge_ hg (bl1_ HB GE306)) (nl_ hg (bk_ BK306)) (ng_ hg (bk_ BK306)) ?_; clear BK306 HB hb hbox hg; intro BK306 HB BK310 GE310 NB306_310 NB310_306; have hnb17 := NB310_306.out; have hnc17 := NB306_310.out; have hcz18 := cf2_ BK310))
   have n0_ : Aside0 (((w16.setCell ⟨gb310, 0, none⟩ (iv_ t308)).setCell ⟨gb310, 1, none⟩ (iv_ t309)).heap[gb306]? = some (.cells #[iv_ a0_0, .slice A0_1 l0_1.length c0_1, .slice A0_2 l0_2.length c0_2, iv_ a0_3, iv_ a0_4, iv_ a0_5, iv_ a0_6, iv_ a0_7, .slice A0_8 l0_8.length c0_8, iv_ a0_9] 28 (0, 0))) := ⟨by (with_reducible repeat (first | refine blk_drewN ?_ _ | refine blk_drew ?_ | refine blk_alloc ?_ _)); refine blk_far ?_ NB306_310.out _; (with_reducible repeat (first | refine blk_drewN ?_ _ | refine blk_drew ?_ | refine blk_alloc ?_ _)); refine blk_far ?_ NB306_310.out _; (with_reducible repeat (first | refine blk_drewN ?_ _ | refine blk_drew ?_ | refine blk_alloc ?_ _)); exact BK306.out⟩
   have n1_ : Aside0 (((w16.setCell ⟨gb310, 0, none⟩ (iv_ t308)).setCell ⟨gb310, 1, none⟩ (iv_ t309)).heap[gb310]? = some (.cells #[iv_ t308, iv_ t309] 35 (0, 0))) := ⟨by (with_reducible repeat (first | refine blk_drewN ?_ _ | refine blk_drew ?_ | refine blk_alloc ?_ _)); refine blk_put (cs := #[iv_ t308, iv_ 0]) ?_ 1 _ rfl; (with_reducible repeat (first | refine blk_drewN ?_ _ | refine blk_drew ?_ | refine blk_alloc ?_ _)); refine blk_put (cs := #[iv_ 0, iv_ 0]) ?_ 0 _ rfl; (with_reducible repeat (first | refine blk_drewN ?_ _ | refine blk_drew ?_ | refine blk_alloc ?_ _)); exact BK310.out⟩
   have n2_ : Aside0 (Below w.heap.size w ((w16.setCell ⟨gb310, 0, none⟩ (iv_ t308)).setCell ⟨gb310, 1, none⟩ (iv_ t309))) := ⟨bl2_ HB GE306 GE310⟩
   (try clear BK306)
   (try clear BK310)
   (try clear HB)
   generalize ((w16.setCell ⟨gb310, 0, none⟩ (iv_ t308)).setCell ⟨gb310, 1, none⟩ (iv_ t309)) = w19 at n0_ n1_ n2_ ⊢
   have BK306 := n0_
   have BK310 := n1_
   have HB := n2_
   clear n0_ n1_ n2_
   refine sh3_ (blk_drew BK306.out) (blk_drew BK310.out) (below_drew1 HB.out) ?_
   clear BK306 BK310 HB
   intro BK306 BK310 HB
   refine start_ (n := 12) (S := fun w' => Ck2 w' gb310 (iv_ t308) (iv_ t309) (Cz10 w' gb306 (iv_ a0_0) (.slice A0_1 l0_1.length c0_1) (.slice A0_2 l0_2.length c0_2) (iv_ a0_3) (iv_ a0_4) (iv_ a0_5) (iv_ a0_6) (iv_ a0_7) (.slice A0_8 l0_8.length c0_8) (iv_ a0_9))) (ds := []) (bo_ 12 0) (by kernel_rfl) rfl rfl ⟨(bc_ BK310 0 rfl), (bc_ BK310 1 rfl), cz10_ BK306⟩ (fun hHeld => ?_); refine with_tabW impl_ShadowAt.tab4 impl_ShadowAt.bits4 (fun HT_ HW_ => ?_)
   generalize w19.drew = w20 at BK306 BK310 HB hHeld ⊢
   refine pur_ 3 (bo_ 12 8) (some 21) HT_ ?_
   refine pur_ 7 (bo_ 12 136) (some 25) HT_ ?_
   refine tak_ 0 (bo_ 12 137) (some 18) HT_ HW_ hHeld ?_
   refine tak_ 2 (bo_ 12 141) (some 20) HT_ HW_ hHeld ?_
   refine tak_ 8 (bo_ 12 397) (some 26) HT_ HW_ hHeld ?_
   refine pur_ 9 (bo_ 12 909) (some 27) HT_ ?_
   refine onc_ 1 (bo_ 12 911) (some 19) HT_ Try.func51 (impl_MiddleOf.calls t308 t309 t311 _ A7.out) ?_
   rintro e w21 ⟨rfl, hb⟩
   refine sh3_ (blk_below (bk_ BK306) hb) (blk_below (bk_ BK310) hb) (below_step (bl2_ HB GE306 GE310) hb) ?_
   clear BK306 BK310 HB hb
   intro BK306 BK310 HB
   refine ⟨_, _, rfl, ⟨(bc_ BK310 0 rfl), (bc_ BK310 1 rfl), cz10_ BK306⟩, pt_, fun hHeld => ?_⟩
   refine onc_ 4 (bo_ 12 927) (some 22) HT_ Try.func23 (impl_SunAt.calls a0_0 _ _ l0_1 _ _ l0_2 a0_3 a0_4 a0_5 a0_6 a0_7 _ _ l0_8 a0_9 a2 t312 _ (ck_ HR0_1 HB) HC0_1.out (ck_ HR0_2 HB) HC0_2.out (ck_ HR0_8 HB) HC0_8.out A8.out) ?_
   rintro e w22 ⟨rfl, hb⟩
   refine sh3_ (blk_below (bk_ BK306) hb) (blk_below (bk_ BK310) hb) (below_step (bl2_ HB GE306 GE310) hb) ?_
   clear BK306 BK310 HB hb
   intro BK306 BK310 HB
   refine ⟨_, _, rfl, ⟨(bc_ BK310 0 rfl), (bc_ BK310 1 rfl), cz10_ BK306⟩, pt_, fun hHeld => ?_⟩
   refine pur_ 5 (bo_ 12 959) (some 23) HT_ ?_
   refine onc_ 6 (bo_ 12 1023) (some 24) HT_ Try.func14 (impl_GapOf.calls t311 (wrap64 (t312 + 180)) t313 _ A9.out) ?_
   rintro e w23 ⟨rfl, hb⟩
   refine sh3_ (blk_below (bk_ BK306) hb) (blk_below (bk_ BK310) hb) (below_step (bl2_ HB GE306 GE310) hb) ?_
   clear BK306 BK310 HB hb
   intro BK306 BK310 HB
   refine ⟨_, _, rfl, ⟨(bc_ BK310 0 rfl), (bc_ BK310 1 rfl), cz10_ BK306⟩, pt_, fun hHeld => ?_⟩
   refine pur_ 10 (bo_ 12 2047) (some 8) HT_ ?_
   refine pur_ 11 (bo_ 12 4095) (some 9) HT_ ?_
   refine done_ (done_of HT_.out (by kernel_rfl)) ?_
   have hcz24 := cf10_ BK306
   try go_wp2
   go_ret
   exact ⟨by first | (rw [hRT_.out]; rfl) | exact er_, bl2_ HB GE306 GE310⟩
  ·rw [if_neg c10] at H
   have c10b0 : decide (a0_7 < (wrap64 (t313 - (wrap64 (Int.tdiv t309 2))))) = false := decide_eq_false c10
   clear c10
   by_cases c25 : (wrap64 (t313 + (wrap64 (Int.tdiv t309 2)))) ≤ a0_7
   ·rw [if_pos c25] at H
    have c25b0 := decide_eq_true c25
    clear c25
    obtain rfl := Option.some.inj H
    go_enter Try.func21, Try.ntmps21
    try go_wp2_with (first | ((with_reducible refine gd_ 3 ?_); refine bx_ 3 28 #[iv_ a0_0, .slice A0_1 l0_1.length c0_1, .slice A0_2 l0_2.length c0_2, iv_ a0_3, iv_ a0_4, iv_ a0_5, iv_ a0_6, iv_ a0_7, .slice A0_8 l0_8.length c0_8, iv_ a0_9] ?_; intro gb306 hg w26 hbox hb; refine sh3_ (below_step (bl_ HB) hb) hbox (ge_ hg (bl_ HB)) ?_; clear HB hb hbox hg; intro HB BK306 GE306; have hcz27 := cf10_ BK306) | ((with_reducible refine gate_callee (f := 53) rfl ?_); refine gl_ 12 Try.func53 (impl_isSatellite.calls a0_0 _ _ l0_1 _ _ l0_2 a0_3 a0_4 a0_5 a0_6 a0_7 _ _ l0_8 a0_9 a1 true _ (ck_ HR0_1 HB) HC0_1.out (ck_ HR0_2 HB) HC0_2.out (ck_ HR0_8 HB) HC0_8.out A4.out) ?_; rintro e w28 ⟨rfl, hb⟩; refine ⟨_, rfl, sh2_ (blk_below (bk_ BK306) hb) (below_step (bl1_ HB GE306) hb) ?_⟩; clear BK306 HB hb; intro BK306 HB; have hcz29 := cf10_ BK306) | ((with_reducible refine gate_callee (f := 13) rfl ?_); refine gl_ 17 Try.func13 (impl_NodeAt.calls a0_0 _ _ l0_1 _ _ l0_2 a0_3 a0_4 a0_5 a0_6 a0_7 _ _ l0_8 a0_9 a1 a2 t308 t309 _ (ck_ HR0_1 HB) HC0_1.out (ck_ HR0_2 HB) HC0_2.out (ck_ HR0_8 HB) HC0_8.out A6.out) ?_; rintro e w30 ⟨rfl, hb⟩; refine ⟨_, rfl, sh2_ (blk_below (bk_ BK306) hb) (below_step (bl1_ HB GE306) hb) ?_⟩; clear BK306 HB hb; intro BK306 HB) | ((with_reducible refine gd_ 7 ?_); refine bx_ 7 35 #[iv_ 0, iv_ 0] ?_; intro gb310 hg w31 hbox hb; refine sh6_ (blk_below (bk_ BK306) hb) (below_step (bl1_ HB GE306) hb) hbox (ge_ hg (bl1_ HB GE306)) (nl_ hg (bk_ BK306)) (ng_ hg (bk_ BK306)) ?_; clear BK306 HB hb hbox hg; intro BK306 HB BK310 GE310 NB306_310 NB310_306; have hnb32 := NB310_306.out; have hnc32 := NB306_310.out; have hcz33 := cf2_ BK310))
    have n0_ : Aside0 (((w31.setCell ⟨gb310, 0, none⟩ (iv_ t308)).setCell ⟨gb310, 1, none⟩ (iv_ t309)).heap[gb306]? = some (.cells #[iv_ a0_0, .slice A0_1 l0_1.length c0_1, .slice A0_2 l0_2.length c0_2, iv_ a0_3, iv_ a0_4, iv_ a0_5, iv_ a0_6, iv_ a0_7, .slice A0_8 l0_8.length c0_8, iv_ a0_9] 28 (0, 0))) := ⟨by (with_reducible repeat (first | refine blk_drewN ?_ _ | refine blk_drew ?_ | refine blk_alloc ?_ _)); refine blk_far ?_ NB306_310.out _; (with_reducible repeat (first | refine blk_drewN ?_ _ | refine blk_drew ?_ | refine blk_alloc ?_ _)); refine blk_far ?_ NB306_310.out _; (with_reducible repeat (first | refine blk_drewN ?_ _ | refine blk_drew ?_ | refine blk_alloc ?_ _)); exact BK306.out⟩
    have n1_ : Aside0 (((w31.setCell ⟨gb310, 0, none⟩ (iv_ t308)).setCell ⟨gb310, 1, none⟩ (iv_ t309)).heap[gb310]? = some (.cells #[iv_ t308, iv_ t309] 35 (0, 0))) := ⟨by (with_reducible repeat (first | refine blk_drewN ?_ _ | refine blk_drew ?_ | refine blk_alloc ?_ _)); refine blk_put (cs := #[iv_ t308, iv_ 0]) ?_ 1 _ rfl; (with_reducible repeat (first | refine blk_drewN ?_ _ | refine blk_drew ?_ | refine blk_alloc ?_ _)); refine blk_put (cs := #[iv_ 0, iv_ 0]) ?_ 0 _ rfl; (with_reducible repeat (first | refine blk_drewN ?_ _ | refine blk_drew ?_ | refine blk_alloc ?_ _)); exact BK310.out⟩
    have n2_ : Aside0 (Below w.heap.size w ((w31.setCell ⟨gb310, 0, none⟩ (iv_ t308)).setCell ⟨gb310, 1, none⟩ (iv_ t309))) := ⟨bl2_ HB GE306 GE310⟩
    (try clear BK306)
    (try clear BK310)
    (try clear HB)
    generalize ((w31.setCell ⟨gb310, 0, none⟩ (iv_ t308)).setCell ⟨gb310, 1, none⟩ (iv_ t309)) = w34 at n0_ n1_ n2_ ⊢
    have BK306 := n0_
    have BK310 := n1_
    have HB := n2_
    clear n0_ n1_ n2_
    refine sh3_ (blk_drew BK306.out) (blk_drew BK310.out) (below_drew1 HB.out) ?_
    clear BK306 BK310 HB
    intro BK306 BK310 HB
    refine start_ (n := 12) (S := fun w' => Ck2 w' gb310 (iv_ t308) (iv_ t309) (Cz10 w' gb306 (iv_ a0_0) (.slice A0_1 l0_1.length c0_1) (.slice A0_2 l0_2.length c0_2) (iv_ a0_3) (iv_ a0_4) (iv_ a0_5) (iv_ a0_6) (iv_ a0_7) (.slice A0_8 l0_8.length c0_8) (iv_ a0_9))) (ds := []) (bo_ 12 0) (by kernel_rfl) rfl rfl ⟨(bc_ BK310 0 rfl), (bc_ BK310 1 rfl), cz10_ BK306⟩ (fun hHeld => ?_); refine with_tabW impl_ShadowAt.tab4 impl_ShadowAt.bits4 (fun HT_ HW_ => ?_)
    generalize w34.drew = w35 at BK306 BK310 HB hHeld ⊢
    refine pur_ 3 (bo_ 12 8) (some 21) HT_ ?_
    refine pur_ 7 (bo_ 12 136) (some 25) HT_ ?_
    refine tak_ 0 (bo_ 12 137) (some 18) HT_ HW_ hHeld ?_
    refine tak_ 2 (bo_ 12 141) (some 20) HT_ HW_ hHeld ?_
    refine tak_ 8 (bo_ 12 397) (some 26) HT_ HW_ hHeld ?_
    refine pur_ 9 (bo_ 12 909) (some 27) HT_ ?_
    refine onc_ 1 (bo_ 12 911) (some 19) HT_ Try.func51 (impl_MiddleOf.calls t308 t309 t311 _ A7.out) ?_
    rintro e w36 ⟨rfl, hb⟩
    refine sh3_ (blk_below (bk_ BK306) hb) (blk_below (bk_ BK310) hb) (below_step (bl2_ HB GE306 GE310) hb) ?_
    clear BK306 BK310 HB hb
    intro BK306 BK310 HB
    refine ⟨_, _, rfl, ⟨(bc_ BK310 0 rfl), (bc_ BK310 1 rfl), cz10_ BK306⟩, pt_, fun hHeld => ?_⟩
    refine onc_ 4 (bo_ 12 927) (some 22) HT_ Try.func23 (impl_SunAt.calls a0_0 _ _ l0_1 _ _ l0_2 a0_3 a0_4 a0_5 a0_6 a0_7 _ _ l0_8 a0_9 a2 t312 _ (ck_ HR0_1 HB) HC0_1.out (ck_ HR0_2 HB) HC0_2.out (ck_ HR0_8 HB) HC0_8.out A8.out) ?_
    rintro e w37 ⟨rfl, hb⟩
    refine sh3_ (blk_below (bk_ BK306) hb) (blk_below (bk_ BK310) hb) (below_step (bl2_ HB GE306 GE310) hb) ?_
    clear BK306 BK310 HB hb
    intro BK306 BK310 HB
    refine ⟨_, _, rfl, ⟨(bc_ BK310 0 rfl), (bc_ BK310 1 rfl), cz10_ BK306⟩, pt_, fun hHeld => ?_⟩
    refine pur_ 5 (bo_ 12 959) (some 23) HT_ ?_
    refine onc_ 6 (bo_ 12 1023) (some 24) HT_ Try.func14 (impl_GapOf.calls t311 (wrap64 (t312 + 180)) t313 _ A9.out) ?_
    rintro e w38 ⟨rfl, hb⟩
    refine sh3_ (blk_below (bk_ BK306) hb) (blk_below (bk_ BK310) hb) (below_step (bl2_ HB GE306 GE310) hb) ?_
    clear BK306 BK310 HB hb
    intro BK306 BK310 HB
    refine ⟨_, _, rfl, ⟨(bc_ BK310 0 rfl), (bc_ BK310 1 rfl), cz10_ BK306⟩, pt_, fun hHeld => ?_⟩
    refine pur_ 10 (bo_ 12 2047) (some 8) HT_ ?_
    refine pur_ 11 (bo_ 12 4095) (some 9) HT_ ?_
    refine done_ (done_of HT_.out (by kernel_rfl)) ?_
    have hcz39 := cf10_ BK306
    try go_wp2
    go_ret
    exact ⟨by first | (rw [hRT_.out]; rfl) | exact er_, bl2_ HB GE306 GE310⟩
   ·rw [if_neg c25] at H
    have c25b0 := decide_eq_false c25
    clear c25
    obtain rfl := Option.some.inj H
    go_enter Try.func21, Try.ntmps21
    try go_wp2_with (first | ((with_reducible refine gd_ 3 ?_); refine bx_ 3 28 #[iv_ a0_0, .slice A0_1 l0_1.length c0_1, .slice A0_2 l0_2.length c0_2, iv_ a0_3, iv_ a0_4, iv_ a0_5, iv_ a0_6, iv_ a0_7, .slice A0_8 l0_8.length c0_8, iv_ a0_9] ?_; intro gb306 hg w40 hbox hb; refine sh3_ (below_step (bl_ HB) hb) hbox (ge_ hg (bl_ HB)) ?_; clear HB hb hbox hg; intro HB BK306 GE306; have hcz41 := cf10_ BK306) | ((with_reducible refine gate_callee (f := 53) rfl ?_); refine gl_ 12 Try.func53 (impl_isSatellite.calls a0_0 _ _ l0_1 _ _ l0_2 a0_3 a0_4 a0_5 a0_6 a0_7 _ _ l0_8 a0_9 a1 true _ (ck_ HR0_1 HB) HC0_1.out (ck_ HR0_2 HB) HC0_2.out (ck_ HR0_8 HB) HC0_8.out A4.out) ?_; rintro e w42 ⟨rfl, hb⟩; refine ⟨_, rfl, sh2_ (blk_below (bk_ BK306) hb) (below_step (bl1_ HB GE306) hb) ?_⟩; clear BK306 HB hb; intro BK306 HB; have hcz43 := cf10_ BK306) | ((with_reducible refine gate_callee (f := 13) rfl ?_); refine gl_ 17 Try.func13 (impl_NodeAt.calls a0_0 _ _ l0_1 _ _ l0_2 a0_3 a0_4 a0_5 a0_6 a0_7 _ _ l0_8 a0_9 a1 a2 t308 t309 _ (ck_ HR0_1 HB) HC0_1.out (ck_ HR0_2 HB) HC0_2.out (ck_ HR0_8 HB) HC0_8.out A6.out) ?_; rintro e w44 ⟨rfl, hb⟩; refine ⟨_, rfl, sh2_ (blk_below (bk_ BK306) hb) (below_step (bl1_ HB GE306) hb) ?_⟩; clear BK306 HB hb; intro BK306 HB) | ((with_reducible refine gd_ 7 ?_); refine bx_ 7 35 #[iv_ 0, iv_ 0] ?_; intro gb310 hg w45 hbox hb; refine sh6_ (blk_below (bk_ BK306) hb) (below_step (bl1_ HB GE306) hb) hbox (ge_ hg (bl1_ HB GE306)) (nl_ hg (bk_ BK306)) (ng_ hg (bk_ BK306)) ?_; clear BK306 HB hb hbox hg; intro BK306 HB BK310 GE310 NB306_310 NB310_306; have hnb46 := NB310_306.out; have hnc46 := NB306_310.out; have hcz47 := cf2_ BK310))
    have n0_ : Aside0 (((w45.setCell ⟨gb310, 0, none⟩ (iv_ t308)).setCell ⟨gb310, 1, none⟩ (iv_ t309)).heap[gb306]? = some (.cells #[iv_ a0_0, .slice A0_1 l0_1.length c0_1, .slice A0_2 l0_2.length c0_2, iv_ a0_3, iv_ a0_4, iv_ a0_5, iv_ a0_6, iv_ a0_7, .slice A0_8 l0_8.length c0_8, iv_ a0_9] 28 (0, 0))) := ⟨by (with_reducible repeat (first | refine blk_drewN ?_ _ | refine blk_drew ?_ | refine blk_alloc ?_ _)); refine blk_far ?_ NB306_310.out _; (with_reducible repeat (first | refine blk_drewN ?_ _ | refine blk_drew ?_ | refine blk_alloc ?_ _)); refine blk_far ?_ NB306_310.out _; (with_reducible repeat (first | refine blk_drewN ?_ _ | refine blk_drew ?_ | refine blk_alloc ?_ _)); exact BK306.out⟩
    have n1_ : Aside0 (((w45.setCell ⟨gb310, 0, none⟩ (iv_ t308)).setCell ⟨gb310, 1, none⟩ (iv_ t309)).heap[gb310]? = some (.cells #[iv_ t308, iv_ t309] 35 (0, 0))) := ⟨by (with_reducible repeat (first | refine blk_drewN ?_ _ | refine blk_drew ?_ | refine blk_alloc ?_ _)); refine blk_put (cs := #[iv_ t308, iv_ 0]) ?_ 1 _ rfl; (with_reducible repeat (first | refine blk_drewN ?_ _ | refine blk_drew ?_ | refine blk_alloc ?_ _)); refine blk_put (cs := #[iv_ 0, iv_ 0]) ?_ 0 _ rfl; (with_reducible repeat (first | refine blk_drewN ?_ _ | refine blk_drew ?_ | refine blk_alloc ?_ _)); exact BK310.out⟩
    have n2_ : Aside0 (Below w.heap.size w ((w45.setCell ⟨gb310, 0, none⟩ (iv_ t308)).setCell ⟨gb310, 1, none⟩ (iv_ t309))) := ⟨bl2_ HB GE306 GE310⟩
    (try clear BK306)
    (try clear BK310)
    (try clear HB)
    generalize ((w45.setCell ⟨gb310, 0, none⟩ (iv_ t308)).setCell ⟨gb310, 1, none⟩ (iv_ t309)) = w48 at n0_ n1_ n2_ ⊢
    have BK306 := n0_
    have BK310 := n1_
    have HB := n2_
    clear n0_ n1_ n2_
    refine sh3_ (blk_drew BK306.out) (blk_drew BK310.out) (below_drew1 HB.out) ?_
    clear BK306 BK310 HB
    intro BK306 BK310 HB
    refine start_ (n := 12) (S := fun w' => Ck2 w' gb310 (iv_ t308) (iv_ t309) (Cz10 w' gb306 (iv_ a0_0) (.slice A0_1 l0_1.length c0_1) (.slice A0_2 l0_2.length c0_2) (iv_ a0_3) (iv_ a0_4) (iv_ a0_5) (iv_ a0_6) (iv_ a0_7) (.slice A0_8 l0_8.length c0_8) (iv_ a0_9))) (ds := []) (bo_ 12 0) (by kernel_rfl) rfl rfl ⟨(bc_ BK310 0 rfl), (bc_ BK310 1 rfl), cz10_ BK306⟩ (fun hHeld => ?_); refine with_tabW impl_ShadowAt.tab4 impl_ShadowAt.bits4 (fun HT_ HW_ => ?_)
    generalize w48.drew = w49 at BK306 BK310 HB hHeld ⊢
    refine pur_ 3 (bo_ 12 8) (some 21) HT_ ?_
    refine pur_ 7 (bo_ 12 136) (some 25) HT_ ?_
    refine tak_ 0 (bo_ 12 137) (some 18) HT_ HW_ hHeld ?_
    refine tak_ 2 (bo_ 12 141) (some 20) HT_ HW_ hHeld ?_
    refine tak_ 8 (bo_ 12 397) (some 26) HT_ HW_ hHeld ?_
    refine pur_ 9 (bo_ 12 909) (some 27) HT_ ?_
    refine onc_ 1 (bo_ 12 911) (some 19) HT_ Try.func51 (impl_MiddleOf.calls t308 t309 t311 _ A7.out) ?_
    rintro e w50 ⟨rfl, hb⟩
    refine sh3_ (blk_below (bk_ BK306) hb) (blk_below (bk_ BK310) hb) (below_step (bl2_ HB GE306 GE310) hb) ?_
    clear BK306 BK310 HB hb
    intro BK306 BK310 HB
    refine ⟨_, _, rfl, ⟨(bc_ BK310 0 rfl), (bc_ BK310 1 rfl), cz10_ BK306⟩, pt_, fun hHeld => ?_⟩
    refine onc_ 4 (bo_ 12 927) (some 22) HT_ Try.func23 (impl_SunAt.calls a0_0 _ _ l0_1 _ _ l0_2 a0_3 a0_4 a0_5 a0_6 a0_7 _ _ l0_8 a0_9 a2 t312 _ (ck_ HR0_1 HB) HC0_1.out (ck_ HR0_2 HB) HC0_2.out (ck_ HR0_8 HB) HC0_8.out A8.out) ?_
    rintro e w51 ⟨rfl, hb⟩
    refine sh3_ (blk_below (bk_ BK306) hb) (blk_below (bk_ BK310) hb) (below_step (bl2_ HB GE306 GE310) hb) ?_
    clear BK306 BK310 HB hb
    intro BK306 BK310 HB
    refine ⟨_, _, rfl, ⟨(bc_ BK310 0 rfl), (bc_ BK310 1 rfl), cz10_ BK306⟩, pt_, fun hHeld => ?_⟩
    refine pur_ 5 (bo_ 12 959) (some 23) HT_ ?_
    refine onc_ 6 (bo_ 12 1023) (some 24) HT_ Try.func14 (impl_GapOf.calls t311 (wrap64 (t312 + 180)) t313 _ A9.out) ?_
    rintro e w52 ⟨rfl, hb⟩
    refine sh3_ (blk_below (bk_ BK306) hb) (blk_below (bk_ BK310) hb) (below_step (bl2_ HB GE306 GE310) hb) ?_
    clear BK306 BK310 HB hb
    intro BK306 BK310 HB
    refine ⟨_, _, rfl, ⟨(bc_ BK310 0 rfl), (bc_ BK310 1 rfl), cz10_ BK306⟩, pt_, fun hHeld => ?_⟩
    refine pur_ 10 (bo_ 12 2047) (some 8) HT_ ?_
    refine pur_ 11 (bo_ 12 4095) (some 9) HT_ ?_
    refine done_ (done_of HT_.out (by kernel_rfl)) ?_
    have hcz53 := cf10_ BK306
    try go_wp2
    go_ret
    exact ⟨by first | (rw [hRT_.out]; rfl) | exact er_, bl2_ HB GE306 GE310⟩
 ·replace c5 := Bool.eq_false_iff.mpr c5
  subst c5
  have H1 : (some 0) = some r := by rw [if_neg (show ¬ (false = true) by decide)] at H; exact H
  clear H
  have H := H1
  clear H1
  obtain rfl := Option.some.inj H
  go_enter Try.func21, Try.ntmps21
  go_wp2_with (first | ((with_reducible refine gd_ 3 ?_); refine bx_ 3 28 #[iv_ a0_0, .slice A0_1 l0_1.length c0_1, .slice A0_2 l0_2.length c0_2, iv_ a0_3, iv_ a0_4, iv_ a0_5, iv_ a0_6, iv_ a0_7, .slice A0_8 l0_8.length c0_8, iv_ a0_9] ?_; intro gb306 hg w54 hbox hb; refine sh3_ (below_step (bl_ HB) hb) hbox (ge_ hg (bl_ HB)) ?_; clear HB hb hbox hg; intro HB BK306 GE306; have hcz55 := cf10_ BK306) | ((with_reducible refine gate_callee (f := 53) rfl ?_); refine gl_ 12 Try.func53 (impl_isSatellite.calls a0_0 _ _ l0_1 _ _ l0_2 a0_3 a0_4 a0_5 a0_6 a0_7 _ _ l0_8 a0_9 a1 false _ (ck_ HR0_1 HB) HC0_1.out (ck_ HR0_2 HB) HC0_2.out (ck_ HR0_8 HB) HC0_8.out A4.out) ?_; rintro e w56 ⟨rfl, hb⟩; refine ⟨_, rfl, sh2_ (blk_below (bk_ BK306) hb) (below_step (bl1_ HB GE306) hb) ?_⟩; clear BK306 HB hb; intro BK306 HB))
  go_ret
  exact ⟨by first | (rw [hRT_.out]; rfl) | exact er_, bl1_ HB GE306⟩

/-! ### impl_LitSpans_1: function 64 -/
def impl_LitSpans_1.f (a0 : Int) (a1_0 : Int) (l1_1 : List (S72)) (l1_2 : List (S74)) (a1_3 : Int) (a1_4 : Int) (a1_5 : Int) (a1_6 : Int) (a1_7 : Int) (l1_8 : List (S88)) (a1_9 : Int) (a2 : Int) : Option (Bool) := (impl_ShadowAt.f a1_0 l1_1 l1_2 a1_3 a1_4 a1_5 a1_6 a1_7 l1_8 a1_9 a2 a0).bind fun t314 => (some (t314 == 0))
set_option maxHeartbeats 8000000 in
set_option maxRecDepth 100000 in
theorem impl_LitSpans_1.calls (a0 : Int) (a1_0 : Int) (A1_1 : Option Addr) (c1_1 : Nat) (l1_1 : List (S72)) (A1_2 : Option Addr) (c1_2 : Nat) (l1_2 : List (S74)) (a1_3 : Int) (a1_4 : Int) (a1_5 : Int) (a1_6 : Int) (a1_7 : Int) (A1_8 : Option Addr) (c1_8 : Nat) (l1_8 : List (S88)) (a1_9 : Int) (a2 : Int) (r : Bool) (w : World) (B0 : Nat) (hB0 : w.heap[B0]? = some (.cells #[iv_ a1_0, .slice A1_1 l1_1.length c1_1, .slice A1_2 l1_2.length c1_2, iv_ a1_3, iv_ a1_4, iv_ a1_5, iv_ a1_6, iv_ a1_7, .slice A1_8 l1_8.length c1_8, iv_ a1_9] 28 (0, 0))) (B1 : Nat) (hB1 : w.heap[B1]? = some (.cells #[iv_ a2] 3 (0, 0))) (hr1_1 : Kd.C k72 w A1_1 l1_1.length l1_1) (hc1_1 : l1_1.length ≤ c1_1) (hr1_2 : Kd.C k74 w A1_2 l1_2.length l1_2) (hc1_2 : l1_2.length ≤ c1_2) (hr1_8 : Kd.C k88 w A1_8 l1_8.length l1_8) (hc1_8 : l1_8.length ≤ c1_8) (h : impl_LitSpans_1.f a0 a1_0 l1_1 l1_2 a1_3 a1_4 a1_5 a1_6 a1_7 l1_8 a1_9 a2 = some r) :
  Calls Try.prog 64 #[iv_ a0, .pointer (some ⟨B0, 0, none⟩), .pointer (some ⟨B1, 0, none⟩)] w fun e w' => e = .returned (.bool r) ∧ Below w.heap.size w w' := by
 have hcB0_0 : w.cell? ⟨B0, 0, none⟩ = some (iv_ a1_0) := (blk_cell hB0 0).trans rfl
 have hcB0_1 : w.cell? ⟨B0, 1, none⟩ = some (.slice A1_1 l1_1.length c1_1) := (blk_cell hB0 1).trans rfl
 have hcB0_2 : w.cell? ⟨B0, 2, none⟩ = some (.slice A1_2 l1_2.length c1_2) := (blk_cell hB0 2).trans rfl
 have hcB0_3 : w.cell? ⟨B0, 3, none⟩ = some (iv_ a1_3) := (blk_cell hB0 3).trans rfl
 have hcB0_4 : w.cell? ⟨B0, 4, none⟩ = some (iv_ a1_4) := (blk_cell hB0 4).trans rfl
 have hcB0_5 : w.cell? ⟨B0, 5, none⟩ = some (iv_ a1_5) := (blk_cell hB0 5).trans rfl
 have hcB0_6 : w.cell? ⟨B0, 6, none⟩ = some (iv_ a1_6) := (blk_cell hB0 6).trans rfl
 have hcB0_7 : w.cell? ⟨B0, 7, none⟩ = some (iv_ a1_7) := (blk_cell hB0 7).trans rfl
 have hcB0_8 : w.cell? ⟨B0, 8, none⟩ = some (.slice A1_8 l1_8.length c1_8) := (blk_cell hB0 8).trans rfl
 have hcB0_9 : w.cell? ⟨B0, 9, none⟩ = some (iv_ a1_9) := (blk_cell hB0 9).trans rfl
 have hcB1_0 : w.cell? ⟨B1, 0, none⟩ = some (iv_ a2) := (blk_cell hB1 0).trans rfl
 have HR1_1 := Aside0.mk hr1_1
 have HC1_1 := Aside0.mk hc1_1
 clear hr1_1 hc1_1
 have HR1_2 := Aside0.mk hr1_2
 have HC1_2 := Aside0.mk hc1_2
 clear hr1_2 hc1_2
 have HR1_8 := Aside0.mk hr1_8
 have HC1_8 := Aside0.mk hc1_8
 clear hr1_8 hc1_8
 have HB := Aside0.mk (Below.refl w.heap.size w)
 have H := h
 clear h
 unfold impl_LitSpans_1.f at H
 replace H := bs_ H
 obtain ⟨t314, A4, H⟩ := H
 obtain rfl := Option.some.inj H
 go_enter Try.func64, Try.ntmps64
 go_wp2_with (first | ((with_reducible refine gate_callee (f := 21) rfl ?_); refine gl_ 8 Try.func21 (impl_ShadowAt.calls a1_0 _ _ l1_1 _ _ l1_2 a1_3 a1_4 a1_5 a1_6 a1_7 _ _ l1_8 a1_9 a2 a0 t314 _ (cq_ HR1_1) HC1_1.out (cq_ HR1_2) HC1_2.out (cq_ HR1_8) HC1_8.out A4.out) ?_; rintro e w5 ⟨rfl, hb⟩; refine ⟨_, rfl, sh1_ (below_step (bl_ HB) hb) ?_⟩; clear HB hb; intro HB))
 go_ret
 exact ⟨by first | (rw [hRT_.out]; rfl) | exact er_, bl_ HB⟩


def where_impl_LitSpans_1.f (k : Nat) (y0 y1 : Int) (a1_0 : Int) (l1_1 : List (S72)) (l1_2 : List (S74)) (a1_3 : Int) (a1_4 : Int) (a1_5 : Int) (a1_6 : Int) (a1_7 : Int) (l1_8 : List (S88)) (a1_9 : Int) (a2 : Int) : Option (List (S82)) := sw.f (fun k' t' => impl_LitSpans_1.f t' a1_0 l1_1 l1_2 a1_3 a1_4 a1_5 a1_6 a1_7 l1_8 a1_9 a2) k y0 y1
theorem where_impl_LitSpans_1.mono : ∀ y0 y1 a1_0 l1_1 l1_2 a1_3 a1_4 a1_5 a1_6 a1_7 l1_8 a1_9 a2 k, LeO (where_impl_LitSpans_1.f k y0 y1 a1_0 l1_1 l1_2 a1_3 a1_4 a1_5 a1_6 a1_7 l1_8 a1_9 a2) (where_impl_LitSpans_1.f (k + 1) y0 y1 a1_0 l1_1 l1_2 a1_3 a1_4 a1_5 a1_6 a1_7 l1_8 a1_9 a2) := fun y0 y1 a1_0 l1_1 l1_2 a1_3 a1_4 a1_5 a1_6 a1_7 l1_8 a1_9 a2 k => sw.mono _ (fun _ _ => LeO.refl _) y0 y1 k
theorem where_impl_LitSpans_1.calls (k : Nat) (y0 y1 : Int) (a1_0 : Int) (A1_1 : Option Addr) (c1_1 : Nat) (l1_1 : List (S72)) (A1_2 : Option Addr) (c1_2 : Nat) (l1_2 : List (S74)) (a1_3 : Int) (a1_4 : Int) (a1_5 : Int) (a1_6 : Int) (a1_7 : Int) (A1_8 : Option Addr) (c1_8 : Nat) (l1_8 : List (S88)) (a1_9 : Int) (a2 : Int) (r : List (S82)) (w : World) (B0 : Nat) (hB0 : w.heap[B0]? = some (.cells #[iv_ a1_0, .slice A1_1 l1_1.length c1_1, .slice A1_2 l1_2.length c1_2, iv_ a1_3, iv_ a1_4, iv_ a1_5, iv_ a1_6, iv_ a1_7, .slice A1_8 l1_8.length c1_8, iv_ a1_9] 28 (0, 0))) (B1 : Nat) (hB1 : w.heap[B1]? = some (.cells #[iv_ a2] 3 (0, 0))) (hr1_1 : Kd.C k72 w A1_1 l1_1.length l1_1) (hc1_1 : l1_1.length ≤ c1_1) (hr1_2 : Kd.C k74 w A1_2 l1_2.length l1_2) (hc1_2 : l1_2.length ≤ c1_2) (hr1_8 : Kd.C k88 w A1_8 l1_8.length l1_8) (hc1_8 : l1_8.length ≤ c1_8) (h : where_impl_LitSpans_1.f k y0 y1 a1_0 l1_1 l1_2 a1_3 a1_4 a1_5 a1_6 a1_7 l1_8 a1_9 a2 = some r) :
  Calls Try.prog 61 #[iv_ y0, iv_ y1, .func (.func 64) #[] #[.pointer (some ⟨B0, 0, none⟩), .pointer (some ⟨B1, 0, none⟩)]] w fun e w' => ∃ v0_ : Value, e = .returned (v0_) ∧ Kd.R k82 82 w' w.heap.size (fun _ => True) v0_ r ∧ Below w.heap.size w w' := by
 refine sw.calls (fun k' t' => impl_LitSpans_1.f t' a1_0 l1_1 l1_2 a1_3 a1_4 a1_5 a1_6 a1_7 l1_8 a1_9 a2) k y0 y1 r w 64 _ (fun args w => enters_ Try.func64 (by kernel_rfl) rfl args w) (fun k' t b W hq hb => ?_) h
 have hB0' := blk_below hB0 hb
 have hB1' := blk_below hB1 hb
 have hh := impl_LitSpans_1.calls t a1_0 A1_1 c1_1 l1_1 A1_2 c1_2 l1_2 a1_3 a1_4 a1_5 a1_6 a1_7 A1_8 c1_8 l1_8 a1_9 a2 b W B0 hB0' B1 hB1' (Kd.C_below hr1_1 hb) hc1_1 (Kd.C_below hr1_2 hb) hc1_2 (Kd.C_below hr1_8 hb) hc1_8 hq
 exact hh.mono (fun e w' hx => ⟨hx.1, hx.2⟩)

/-! ### impl_LitSpans: function 19 -/
def impl_LitSpans.f (k : Nat) (a0_0 : Int) (l0_1 : List (S72)) (l0_2 : List (S74)) (a0_3 : Int) (a0_4 : Int) (a0_5 : Int) (a0_6 : Int) (a0_7 : Int) (l0_8 : List (S88)) (a0_9 : Int) (a1 : Int) (a2 : Int) (a3 : Int) : Option ((List (S82))) := (where_impl_LitSpans_1.f k a2 a3 a0_0 l0_1 l0_2 a0_3 a0_4 a0_5 a0_6 a0_7 l0_8 a0_9 a1).bind fun t315 => (some t315)
theorem impl_LitSpans.mono : ∀ a0 a1 a2 a3 a4 a5 a6 a7 a8 a9 a10 a11 a12 k, LeO (impl_LitSpans.f k a0 a1 a2 a3 a4 a5 a6 a7 a8 a9 a10 a11 a12) (impl_LitSpans.f (k + 1) a0 a1 a2 a3 a4 a5 a6 a7 a8 a9 a10 a11 a12) := by
 intro a0 a1 a2 a3 a4 a5 a6 a7 a8 a9 a10 a11 a12 k
 unfold impl_LitSpans.f
 repeat' first | (with_reducible first | exact where_impl_LitSpans_1.mono _ _ _ _ _ _ _ _ _ _ _ _ _ _ | exact LeO.refl _ | exact LeO.none _ | refine LeO.ite ?_ ?_ | refine LeO.bind ?_ (fun _ => ?_)) | exact LeO.none _ | refine LeO.ite ?_ ?_ | refine LeO.bind ?_ (fun _ => ?_)
set_option maxHeartbeats 8000000 in
set_option maxRecDepth 100000 in
theorem impl_LitSpans.calls (k : Nat) (a0_0 : Int) (A0_1 : Option Addr) (c0_1 : Nat) (l0_1 : List (S72)) (A0_2 : Option Addr) (c0_2 : Nat) (l0_2 : List (S74)) (a0_3 : Int) (a0_4 : Int) (a0_5 : Int) (a0_6 : Int) (a0_7 : Int) (A0_8 : Option Addr) (c0_8 : Nat) (l0_8 : List (S88)) (a0_9 : Int) (a1 : Int) (a2 : Int) (a3 : Int) (r : List (S82)) (w : World) (hr0_1 : Kd.C k72 w A0_1 l0_1.length l0_1) (hc0_1 : l0_1.length ≤ c0_1) (hr0_2 : Kd.C k74 w A0_2 l0_2.length l0_2) (hc0_2 : l0_2.length ≤ c0_2) (hr0_8 : Kd.C k88 w A0_8 l0_8.length l0_8) (hc0_8 : l0_8.length ≤ c0_8) (h : impl_LitSpans.f k a0_0 l0_1 l0_2 a0_3 a0_4 a0_5 a0_6 a0_7 l0_8 a0_9 a1 a2 a3 = some r) :
  Calls Try.prog 19 #[.agg #[iv_ a0_0, .slice A0_1 l0_1.length c0_1, .slice A0_2 l0_2.length c0_2, iv_ a0_3, iv_ a0_4, iv_ a0_5, iv_ a0_6, iv_ a0_7, .slice A0_8 l0_8.length c0_8, iv_ a0_9], iv_ a1, iv_ a2, iv_ a3] w fun e w' => ∃ v0_ : Value, e = .returned (v0_) ∧ Kd.R k82 82 w' w.heap.size (fun _ => True) v0_ r ∧ Below w.heap.size w w' := by
 have HR0_1 := Aside0.mk hr0_1
 have HC0_1 := Aside0.mk hc0_1
 clear hr0_1 hc0_1
 have HR0_2 := Aside0.mk hr0_2
 have HC0_2 := Aside0.mk hc0_2
 clear hr0_2 hc0_2
 have HR0_8 := Aside0.mk hr0_8
 have HC0_8 := Aside0.mk hc0_8
 clear hr0_8 hc0_8
 have HB := Aside0.mk (Below.refl w.heap.size w)
 have H := h
 clear h
 unfold impl_LitSpans.f at H
 replace H := bs_ H
 obtain ⟨t315, A5, H⟩ := H
 obtain rfl := Option.some.inj H
 go_enter Try.func19, Try.ntmps19
 go_wp2_with (first | ((with_reducible refine gd_ 4 ?_); refine bx_ 4 28 #[iv_ a0_0, .slice A0_1 l0_1.length c0_1, .slice A0_2 l0_2.length c0_2, iv_ a0_3, iv_ a0_4, iv_ a0_5, iv_ a0_6, iv_ a0_7, .slice A0_8 l0_8.length c0_8, iv_ a0_9] ?_; intro gx4 hg wx4 hbox hb; refine sh1_ (below_step HB.out hb) ?_; clear HB; intro HB; have BK4_ := Aside0.mk hbox; clear hb hg hbox) | ((with_reducible refine gd_ 5 ?_); refine bx_ 5 3 #[iv_ a1] ?_; intro gx5 hg wx5 hbox hb; have n0_ := Aside0.mk (below_step HB.out hb); have BKn4_ := Aside0.mk (blk_below BK4_.out hb); clear BK4_; have BK4_ := BKn4_; clear BKn4_; clear HB; have HB := n0_; clear n0_; have BK5_ := Aside0.mk hbox; clear hb hg hbox) | ((with_reducible refine gate_callee (f := 61) rfl ?_); refine gl_ 12 Try.func61 (where_impl_LitSpans_1.calls k a2 a3 a0_0 _ _ l0_1 _ _ l0_2 a0_3 a0_4 a0_5 a0_6 a0_7 _ _ l0_8 a0_9 a1 t315 _ gx4 BK4_.out gx5 BK5_.out (ck_ HR0_1 HB) HC0_1.out (ck_ HR0_2 HB) HC0_2.out (ck_ HR0_8 HB) HC0_8.out A5.out) ?_; rintro e w6 ⟨v316, rfl, ho0, hb⟩; refine ⟨_, rfl, sh2_ (Kd.R_lower ho0 (below_size (bl_ HB))) (below_step (bl_ HB) hb) ?_⟩; clear HB hb ho0; intro HO317 HB))
 go_ret
 exact ⟨_, by first | (rw [hRT_.out]; rfl) | exact er_, ra_ HO317, bl_ HB⟩

/-! ### impl_DarkSpans_1: function 65 -/
def impl_DarkSpans_1.f (a0 : Int) (a1_0 : Int) (l1_1 : List (S72)) (l1_2 : List (S74)) (a1_3 : Int) (a1_4 : Int) (a1_5 : Int) (a1_6 : Int) (a1_7 : Int) (l1_8 : List (S88)) (a1_9 : Int) (a2 : Int) : Option (Bool) := (impl_ShadowAt.f a1_0 l1_1 l1_2 a1_3 a1_4 a1_5 a1_6 a1_7 l1_8 a1_9 a2 a0).bind fun t318 => (some (t318 != 0))
set_option maxHeartbeats 8000000 in
set_option maxRecDepth 100000 in
theorem impl_DarkSpans_1.calls (a0 : Int) (a1_0 : Int) (A1_1 : Option Addr) (c1_1 : Nat) (l1_1 : List (S72)) (A1_2 : Option Addr) (c1_2 : Nat) (l1_2 : List (S74)) (a1_3 : Int) (a1_4 : Int) (a1_5 : Int) (a1_6 : Int) (a1_7 : Int) (A1_8 : Option Addr) (c1_8 : Nat) (l1_8 : List (S88)) (a1_9 : Int) (a2 : Int) (r : Bool) (w : World) (B0 : Nat) (hB0 : w.heap[B0]? = some (.cells #[iv_ a1_0, .slice A1_1 l1_1.length c1_1, .slice A1_2 l1_2.length c1_2, iv_ a1_3, iv_ a1_4, iv_ a1_5, iv_ a1_6, iv_ a1_7, .slice A1_8 l1_8.length c1_8, iv_ a1_9] 28 (0, 0))) (B1 : Nat) (hB1 : w.heap[B1]? = some (.cells #[iv_ a2] 3 (0, 0))) (hr1_1 : Kd.C k72 w A1_1 l1_1.length l1_1) (hc1_1 : l1_1.length ≤ c1_1) (hr1_2 : Kd.C k74 w A1_2 l1_2.length l1_2) (hc1_2 : l1_2.length ≤ c1_2) (hr1_8 : Kd.C k88 w A1_8 l1_8.length l1_8) (hc1_8 : l1_8.length ≤ c1_8) (h : impl_DarkSpans_1.f a0 a1_0 l1_1 l1_2 a1_3 a1_4 a1_5 a1_6 a1_7 l1_8 a1_9 a2 = some r) :
  Calls Try.prog 65 #[iv_ a0, .pointer (some ⟨B0, 0, none⟩), .pointer (some ⟨B1, 0, none⟩)] w fun e w' => e = .returned (.bool r) ∧ Below w.heap.size w w' := by
 have hcB0_0 : w.cell? ⟨B0, 0, none⟩ = some (iv_ a1_0) := (blk_cell hB0 0).trans rfl
 have hcB0_1 : w.cell? ⟨B0, 1, none⟩ = some (.slice A1_1 l1_1.length c1_1) := (blk_cell hB0 1).trans rfl
 have hcB0_2 : w.cell? ⟨B0, 2, none⟩ = some (.slice A1_2 l1_2.length c1_2) := (blk_cell hB0 2).trans rfl
 have hcB0_3 : w.cell? ⟨B0, 3, none⟩ = some (iv_ a1_3) := (blk_cell hB0 3).trans rfl
 have hcB0_4 : w.cell? ⟨B0, 4, none⟩ = some (iv_ a1_4) := (blk_cell hB0 4).trans rfl
 have hcB0_5 : w.cell? ⟨B0, 5, none⟩ = some (iv_ a1_5) := (blk_cell hB0 5).trans rfl
 have hcB0_6 : w.cell? ⟨B0, 6, none⟩ = some (iv_ a1_6) := (blk_cell hB0 6).trans rfl
 have hcB0_7 : w.cell? ⟨B0, 7, none⟩ = some (iv_ a1_7) := (blk_cell hB0 7).trans rfl
 have hcB0_8 : w.cell? ⟨B0, 8, none⟩ = some (.slice A1_8 l1_8.length c1_8) := (blk_cell hB0 8).trans rfl
 have hcB0_9 : w.cell? ⟨B0, 9, none⟩ = some (iv_ a1_9) := (blk_cell hB0 9).trans rfl
 have hcB1_0 : w.cell? ⟨B1, 0, none⟩ = some (iv_ a2) := (blk_cell hB1 0).trans rfl
 have HR1_1 := Aside0.mk hr1_1
 have HC1_1 := Aside0.mk hc1_1
 clear hr1_1 hc1_1
 have HR1_2 := Aside0.mk hr1_2
 have HC1_2 := Aside0.mk hc1_2
 clear hr1_2 hc1_2
 have HR1_8 := Aside0.mk hr1_8
 have HC1_8 := Aside0.mk hc1_8
 clear hr1_8 hc1_8
 have HB := Aside0.mk (Below.refl w.heap.size w)
 have H := h
 clear h
 unfold impl_DarkSpans_1.f at H
 replace H := bs_ H
 obtain ⟨t318, A4, H⟩ := H
 obtain rfl := Option.some.inj H
 go_enter Try.func65, Try.ntmps65
 go_wp2_with (first | ((with_reducible refine gate_callee (f := 21) rfl ?_); refine gl_ 8 Try.func21 (impl_ShadowAt.calls a1_0 _ _ l1_1 _ _ l1_2 a1_3 a1_4 a1_5 a1_6 a1_7 _ _ l1_8 a1_9 a2 a0 t318 _ (cq_ HR1_1) HC1_1.out (cq_ HR1_2) HC1_2.out (cq_ HR1_8) HC1_8.out A4.out) ?_; rintro e w5 ⟨rfl, hb⟩; refine ⟨_, rfl, sh1_ (below_step (bl_ HB) hb) ?_⟩; clear HB hb; intro HB))
 go_ret
 exact ⟨by first | (rw [hRT_.out]; rfl) | exact er_, bl_ HB⟩


def where_impl_DarkSpans_1.f (k : Nat) (y0 y1 : Int) (a1_0 : Int) (l1_1 : List (S72)) (l1_2 : List (S74)) (a1_3 : Int) (a1_4 : Int) (a1_5 : Int) (a1_6 : Int) (a1_7 : Int) (l1_8 : List (S88)) (a1_9 : Int) (a2 : Int) : Option (List (S82)) := sw.f (fun k' t' => impl_DarkSpans_1.f t' a1_0 l1_1 l1_2 a1_3 a1_4 a1_5 a1_6 a1_7 l1_8 a1_9 a2) k y0 y1
theorem where_impl_DarkSpans_1.mono : ∀ y0 y1 a1_0 l1_1 l1_2 a1_3 a1_4 a1_5 a1_6 a1_7 l1_8 a1_9 a2 k, LeO (where_impl_DarkSpans_1.f k y0 y1 a1_0 l1_1 l1_2 a1_3 a1_4 a1_5 a1_6 a1_7 l1_8 a1_9 a2) (where_impl_DarkSpans_1.f (k + 1) y0 y1 a1_0 l1_1 l1_2 a1_3 a1_4 a1_5 a1_6 a1_7 l1_8 a1_9 a2) := fun y0 y1 a1_0 l1_1 l1_2 a1_3 a1_4 a1_5 a1_6 a1_7 l1_8 a1_9 a2 k => sw.mono _ (fun _ _ => LeO.refl _) y0 y1 k
theorem where_impl_DarkSpans_1.calls (k : Nat) (y0 y1 : Int) (a1_0 : Int) (A1_1 : Option Addr) (c1_1 : Nat) (l1_1 : List (S72)) (A1_2 : Option Addr) (c1_2 : Nat) (l1_2 : List (S74)) (a1_3 : Int) (a1_4 : Int) (a1_5 : Int) (a1_6 : Int) (a1_7 : Int) (A1_8 : Option Addr) (c1_8 : Nat) (l1_8 : List (S88)) (a1_9 : Int) (a2 : Int) (r : List (S82)) (w : World) (B0 : Nat) (hB0 : w.heap[B0]? = some (.cells #[iv_ a1_0, .slice A1_1 l1_1.length c1_1, .slice A1_2 l1_2.length c1_2, iv_ a1_3, iv_ a1_4, iv_ a1_5, iv_ a1_6, iv_ a1_7, .slice A1_8 l1_8.length c1_8, iv_ a1_9] 28 (0, 0))) (B1 : Nat) (hB1 : w.heap[B1]? = some (.cells #[iv_ a2] 3 (0, 0))) (hr1_1 : Kd.C k72 w A1_1 l1_1.length l1_1) (hc1_1 : l1_1.length ≤ c1_1) (hr1_2 : Kd.C k74 w A1_2 l1_2.length l1_2) (hc1_2 : l1_2.length ≤ c1_2) (hr1_8 : Kd.C k88 w A1_8 l1_8.length l1_8) (hc1_8 : l1_8.length ≤ c1_8) (h : where_impl_DarkSpans_1.f k y0 y1 a1_0 l1_1 l1_2 a1_3 a1_4 a1_5 a1_6 a1_7 l1_8 a1_9 a2 = some r) :
  Calls Try.prog 61 #[iv_ y0, iv_ y1, .func (.func 65) #[] #[.pointer (some ⟨B0, 0, none⟩), .pointer (some ⟨B1, 0, none⟩)]] w fun e w' => ∃ v0_ : Value, e = .returned (v0_) ∧ Kd.R k82 82 w' w.heap.size (fun _ => True) v0_ r ∧ Below w.heap.size w w' := by
 refine sw.calls (fun k' t' => impl_DarkSpans_1.f t' a1_0 l1_1 l1_2 a1_3 a1_4 a1_5 a1_6 a1_7 l1_8 a1_9 a2) k y0 y1 r w 65 _ (fun args w => enters_ Try.func65 (by kernel_rfl) rfl args w) (fun k' t b W hq hb => ?_) h
 have hB0' := blk_below hB0 hb
 have hB1' := blk_below hB1 hb
 have hh := impl_DarkSpans_1.calls t a1_0 A1_1 c1_1 l1_1 A1_2 c1_2 l1_2 a1_3 a1_4 a1_5 a1_6 a1_7 A1_8 c1_8 l1_8 a1_9 a2 b W B0 hB0' B1 hB1' (Kd.C_below hr1_1 hb) hc1_1 (Kd.C_below hr1_2 hb) hc1_2 (Kd.C_below hr1_8 hb) hc1_8 hq
 exact hh.mono (fun e w' hx => ⟨hx.1, hx.2⟩)

/-! ### impl_DarkSpans: function 20 -/
def impl_DarkSpans.f (k : Nat) (a0_0 : Int) (l0_1 : List (S72)) (l0_2 : List (S74)) (a0_3 : Int) (a0_4 : Int) (a0_5 : Int) (a0_6 : Int) (a0_7 : Int) (l0_8 : List (S88)) (a0_9 : Int) (a1 : Int) (a2 : Int) (a3 : Int) : Option ((List (S82))) := (where_impl_DarkSpans_1.f k a2 a3 a0_0 l0_1 l0_2 a0_3 a0_4 a0_5 a0_6 a0_7 l0_8 a0_9 a1).bind fun t319 => (some t319)
theorem impl_DarkSpans.mono : ∀ a0 a1 a2 a3 a4 a5 a6 a7 a8 a9 a10 a11 a12 k, LeO (impl_DarkSpans.f k a0 a1 a2 a3 a4 a5 a6 a7 a8 a9 a10 a11 a12) (impl_DarkSpans.f (k + 1) a0 a1 a2 a3 a4 a5 a6 a7 a8 a9 a10 a11 a12) := by
 intro a0 a1 a2 a3 a4 a5 a6 a7 a8 a9 a10 a11 a12 k
 unfold impl_DarkSpans.f
 repeat' first | (with_reducible first | exact where_impl_DarkSpans_1.mono _ _ _ _ _ _ _ _ _ _ _ _ _ _ | exact LeO.refl _ | exact LeO.none _ | refine LeO.ite ?_ ?_ | refine LeO.bind ?_ (fun _ => ?_)) | exact LeO.none _ | refine LeO.ite ?_ ?_ | refine LeO.bind ?_ (fun _ => ?_)
set_option maxHeartbeats 8000000 in
set_option maxRecDepth 100000 in
theorem impl_DarkSpans.calls (k : Nat) (a0_0 : Int) (A0_1 : Option Addr) (c0_1 : Nat) (l0_1 : List (S72)) (A0_2 : Option Addr) (c0_2 : Nat) (l0_2 : List (S74)) (a0_3 : Int) (a0_4 : Int) (a0_5 : Int) (a0_6 : Int) (a0_7 : Int) (A0_8 : Option Addr) (c0_8 : Nat) (l0_8 : List (S88)) (a0_9 : Int) (a1 : Int) (a2 : Int) (a3 : Int) (r : List (S82)) (w : World) (hr0_1 : Kd.C k72 w A0_1 l0_1.length l0_1) (hc0_1 : l0_1.length ≤ c0_1) (hr0_2 : Kd.C k74 w A0_2 l0_2.length l0_2) (hc0_2 : l0_2.length ≤ c0_2) (hr0_8 : Kd.C k88 w A0_8 l0_8.length l0_8) (hc0_8 : l0_8.length ≤ c0_8) (h : impl_DarkSpans.f k a0_0 l0_1 l0_2 a0_3 a0_4 a0_5 a0_6 a0_7 l0_8 a0_9 a1 a2 a3 = some r) :
  Calls Try.prog 20 #[.agg #[iv_ a0_0, .slice A0_1 l0_1.length c0_1, .slice A0_2 l0_2.length c0_2, iv_ a0_3, iv_ a0_4, iv_ a0_5, iv_ a0_6, iv_ a0_7, .slice A0_8 l0_8.length c0_8, iv_ a0_9], iv_ a1, iv_ a2, iv_ a3] w fun e w' => ∃ v0_ : Value, e = .returned (v0_) ∧ Kd.R k82 82 w' w.heap.size (fun _ => True) v0_ r ∧ Below w.heap.size w w' := by
 have HR0_1 := Aside0.mk hr0_1
 have HC0_1 := Aside0.mk hc0_1
 clear hr0_1 hc0_1
 have HR0_2 := Aside0.mk hr0_2
 have HC0_2 := Aside0.mk hc0_2
 clear hr0_2 hc0_2
 have HR0_8 := Aside0.mk hr0_8
 have HC0_8 := Aside0.mk hc0_8
 clear hr0_8 hc0_8
 have HB := Aside0.mk (Below.refl w.heap.size w)
 have H := h
 clear h
 unfold impl_DarkSpans.f at H
 replace H := bs_ H
 obtain ⟨t319, A5, H⟩ := H
 obtain rfl := Option.some.inj H
 go_enter Try.func20, Try.ntmps20
 go_wp2_with (first | ((with_reducible refine gd_ 4 ?_); refine bx_ 4 28 #[iv_ a0_0, .slice A0_1 l0_1.length c0_1, .slice A0_2 l0_2.length c0_2, iv_ a0_3, iv_ a0_4, iv_ a0_5, iv_ a0_6, iv_ a0_7, .slice A0_8 l0_8.length c0_8, iv_ a0_9] ?_; intro gx4 hg wx4 hbox hb; refine sh1_ (below_step HB.out hb) ?_; clear HB; intro HB; have BK4_ := Aside0.mk hbox; clear hb hg hbox) | ((with_reducible refine gd_ 5 ?_); refine bx_ 5 3 #[iv_ a1] ?_; intro gx5 hg wx5 hbox hb; have n0_ := Aside0.mk (below_step HB.out hb); have BKn4_ := Aside0.mk (blk_below BK4_.out hb); clear BK4_; have BK4_ := BKn4_; clear BKn4_; clear HB; have HB := n0_; clear n0_; have BK5_ := Aside0.mk hbox; clear hb hg hbox) | ((with_reducible refine gate_callee (f := 61) rfl ?_); refine gl_ 12 Try.func61 (where_impl_DarkSpans_1.calls k a2 a3 a0_0 _ _ l0_1 _ _ l0_2 a0_3 a0_4 a0_5 a0_6 a0_7 _ _ l0_8 a0_9 a1 t319 _ gx4 BK4_.out gx5 BK5_.out (ck_ HR0_1 HB) HC0_1.out (ck_ HR0_2 HB) HC0_2.out (ck_ HR0_8 HB) HC0_8.out A5.out) ?_; rintro e w6 ⟨v320, rfl, ho0, hb⟩; refine ⟨_, rfl, sh2_ (Kd.R_lower ho0 (below_size (bl_ HB))) (below_step (bl_ HB) hb) ?_⟩; clear HB hb ho0; intro HO321 HB))
 go_ret
 exact ⟨_, by first | (rw [hRT_.out]; rfl) | exact er_, ra_ HO321, bl_ HB⟩

/-! ### spec_l1Int: function 91 -/
def spec_l1Int.f (s0_0 : List Int) (s0_1 : Int) (s0_2 : Int) (l1 : List Int) : Option (Int × Int × Int) := (spec_l1Below.f s0_0 s0_1 s0_2 (l1.length : Int)).bind fun bt322 => (if 0 ≤ bt322.1 then (if bt322.1 < (l1.length : Int) then (some (rd l1 bt322.1, bt322.2.1, bt322.2.2)) else (none)) else (none))
set_option maxHeartbeats 8000000 in
set_option maxRecDepth 100000 in
theorem spec_l1Int.calls (g : Nat) (s0_0 : List Int) (s0_1 : Int) (s0_2 : Int) (A1 : Option Addr) (c1 : Nat) (l1 : List Int) (r1 : Int) (r2 : Int) (r3 : Int) (w0 w : World) (hI : IsS102 w0 w g s0_0 s0_1 s0_2) (hB : Below w0.heap.size w0 w) (hr1 : Kd.C (Kd.int .i64) w A1 l1.length l1) (hc1 : l1.length ≤ c1) (hf1 : ∀ ad, A1 = some ad → 0 < l1.length → ad.block ≠ g) (h : spec_l1Int.f s0_0 s0_1 s0_2 l1 = some (r1, r2, r3)) :
  Calls Try.prog 91 #[.pointer (some ⟨g, 0, none⟩), .slice A1 l1.length c1] w fun e w' => e = .returned (iv_ r1) ∧ IsS102 w0 w' g s0_0 r2 r3 ∧ Below w0.heap.size w0 w' ∧ KeepBut w w' g none := by
 have HR1 := Aside0.mk hr1
 have HC1 := Aside0.mk hc1
 clear hr1 hc1
 have HI0 := Aside0.mk hI
 have HK := Aside0.mk (KeepBut.refl w g none)
 have HL := Aside0.mk hB.size
 clear hI
 have HW0 := Aside0.mk hB.size
 have HB := Aside0.mk hB
 clear hB
 have H := h
 clear h
 unfold spec_l1Int.f at H
 replace H := bs_ H
 obtain ⟨⟨t322, t323, t324⟩, A3, H⟩ := H
 dsimp only at H
 replace H := ifn_ H
 obtain ⟨c4, H⟩ := H
 have c4b0 := decide_eq_true c4
 clear c4
 replace H := ifn_ H
 obtain ⟨c5, H⟩ := H
 have c5b0 := decide_eq_true c5
 clear c5
 simp only [Option.some.injEq, Prod.mk.injEq] at H
 obtain ⟨rfl, rfl, rfl⟩ := H
 go_enter Try.func91, Try.ntmps91
 go_wp2_with (first | ((with_reducible refine gate_callee (f := 60) rfl ?_); refine goesL_ (some 9) rfl rfl Try.func60 (by kernel_rfl) rfl #[.pointer (some ⟨g, 0, none⟩), iv_ (l1.length : Int)] rfl mp_ ?_; (with_reducible refine (spec_l1Below.calls g s0_0 s0_1 s0_2 (l1.length : Int) t322 t323 t324 w0 _ ?side1 ?side2 A3.out).mono ?_); (case side1 => repeat (first | (with_reducible first | exact HI0.out | apply IsS102.alloc | apply IsS102.drewN | apply IsS102.drew | apply IsS102.set_1 | apply IsS102.set_2) | exact HI0.out)); (case side2 => repeat (first | (with_reducible first | exact HB.out | apply below_alloc | apply pw_below_drewN | apply below_drew1 | refine below_set ?_ (IsS102.ge HI0.out)) | exact HB.out)); rintro e w6 ⟨rfl, hi, hb, hk⟩; refine ⟨_, rfl, sh3_ (KeepBut.trans (by repeat (first | (with_reducible first | exact HK.out | apply KeepBut.set_ | apply keep_drewN | apply keep_drew | apply keep_alloc) | exact HK.out)) hk (.inl rfl)) hb hi ?_⟩; clear HK HB HI0 hb hk hi; intro HK HB HI0; have p325 : 0 ≤ (t322 : Int) := od_; have q325 : t322 < (l1.length : Int) := od_; obtain ⟨ad325, e325, hx325_0⟩ := Kd.at_int HR1.out t322 p325 q325; cases e325; replace hx325_0 := keep_cell HK.out hx325_0 (by first | (rw [add_block]; exact hf1 _ rfl (by omega)) | exact hf1 _ rfl (by omega) | exact hf1 ad325 rfl (by omega)); replace p325 := eq_true p325; replace q325 := eq_true q325))
 go_ret
 exact ⟨by first | (rw [hRT_.out]; rfl) | exact er_, by repeat (first | (with_reducible first | exact HI0.out | apply IsS102.alloc | apply IsS102.drewN | apply IsS102.drew | apply IsS102.set_1 | apply IsS102.set_2) | exact HI0.out), by repeat (first | (with_reducible first | exact HB.out | apply below_alloc | apply pw_below_drewN | apply below_drew1 | refine below_set ?_ (IsS102.ge HI0.out)) | exact HB.out), by repeat (first | (with_reducible first | exact HK.out | apply KeepBut.set_ | apply keep_drewN | apply keep_drew | apply keep_alloc) | exact HK.out)⟩

/-! ### spec_l4Raw: function 50 -/
def spec_l4Raw.f (s0_0 : List Int) (s0_1 : Int) (s0_2 : Int) : Option (Int × Int × Int) := (spec_l1Once.f s0_0 s0_1 s0_2 6).bind fun bt326 => (if bt326.1 = true then ((spec_l1Int.f s0_0 bt326.2.1 bt326.2.2 (([(-1), 0, 1000, 1001, 9223372036854775807, (-9223372036854775808)] : List Int))).bind fun bt332 => (some (bt332.1, bt332.2.1, bt332.2.2))) else ((spec_l1Below.f s0_0 bt326.2.1 bt326.2.2 40).bind fun bt335 => (some (bt335.1, bt335.2.1, bt335.2.2))))
set_option maxHeartbeats 8000000 in
set_option maxRecDepth 100000 in
theorem spec_l4Raw.calls (g : Nat) (s0_0 : List Int) (s0_1 : Int) (s0_2 : Int) (r1 : Int) (r2 : Int) (r3 : Int) (w0 w : World) (hI : IsS102 w0 w g s0_0 s0_1 s0_2) (hB : Below w0.heap.size w0 w) (h : spec_l4Raw.f s0_0 s0_1 s0_2 = some (r1, r2, r3)) :
  Calls Try.prog 50 #[.pointer (some ⟨g, 0, none⟩)] w fun e w' => e = .returned (iv_ r1) ∧ IsS102 w0 w' g s0_0 r2 r3 ∧ Below w0.heap.size w0 w' ∧ KeepBut w w' g none := by
 have HI0 := Aside0.mk hI
 have HK := Aside0.mk (KeepBut.refl w g none)
 have HL := Aside0.mk hB.size
 clear hI
 have HW0 := Aside0.mk hB.size
 have HB := Aside0.mk hB
 clear hB
 have H := h
 clear h
 unfold spec_l4Raw.f at H
 replace H := bs_ H
 obtain ⟨⟨t326, t327, t328⟩, A2, H⟩ := H
 dsimp only at H
 by_cases c3 : t326 = true
 ·subst c3
  have H1 : ((spec_l1Int.f s0_0 t327 t328 (([(-1), 0, 1000, 1001, 9223372036854775807, (-9223372036854775808)] : List Int))).bind fun bt332 => (some (bt332.1, bt332.2.1, bt332.2.2))) = some (r1, r2, r3) := by rw [if_pos rfl] at H; exact H
  clear H
  have H := H1
  clear H1
  replace H : ∃ y_ : List Int, Aside0 (y_ = (([(-1), 0, 1000, 1001, 9223372036854775807, (-9223372036854775808)] : List Int))) ∧ ((spec_l1Int.f s0_0 t327 t328 y_).bind fun bt332 => (some (bt332.1, bt332.2.1, bt332.2.2))) = some (r1, r2, r3) := ⟨_, ⟨rfl⟩, yh_ H⟩
  obtain ⟨y329, Ny329, H⟩ := H
  replace H := bs_ H
  obtain ⟨⟨t332, t333, t334⟩, A4, H⟩ := H
  dsimp only at H
  simp only [Option.some.injEq, Prod.mk.injEq] at H
  obtain ⟨rfl, rfl, rfl⟩ := H
  go_enter Try.func50, Try.ntmps50
  go_wp2_with (first | ((with_reducible refine gate_callee (f := 77) rfl ?_); refine goesL_ (some 4) rfl rfl Try.func77 (by kernel_rfl) rfl #[.pointer (some ⟨g, 0, none⟩), iv_ 6] rfl mp_ ?_; (with_reducible refine (spec_l1Once.calls g s0_0 s0_1 s0_2 6 true t327 t328 w0 _ ?side1 ?side2 A2.out).mono ?_); (case side1 => repeat (first | (with_reducible first | exact HI0.out | apply IsS102.alloc | apply IsS102.drewN | apply IsS102.drew | apply IsS102.set_1 | apply IsS102.set_2) | exact HI0.out)); (case side2 => repeat (first | (with_reducible first | exact HB.out | apply below_alloc | apply pw_below_drewN | apply below_drew1 | refine below_set ?_ (IsS102.ge HI0.out)) | exact HB.out)); rintro e w5 ⟨rfl, hi, hb, hk⟩; refine ⟨_, rfl, sh3_ (KeepBut.trans (by repeat (first | (with_reducible first | exact HK.out | apply KeepBut.set_ | apply keep_drewN | apply keep_drew | apply keep_alloc) | exact HK.out)) hk (.inl rfl)) hb hi ?_⟩; clear HK HB HI0 hb hk hi; intro HK HB HI0) | ((with_reducible refine gate_dst (N := 6) rfl ?_); refine Kd.R_lit (Kd.int .i64) _ 3 ?hg (N := 6) ?hd (xs := ([(-1), 0, 1000, 1001, 9223372036854775807, (-9223372036854775808)] : List Int)) (inner := [iv_ (-1), iv_ 0, iv_ 1000, iv_ 1001, iv_ 9223372036854775807, iv_ (-9223372036854775808)]) (ok := fun _ => True) (okp := fun _ => True) ?hr ?hp (fun _ hk => hk) trivial (Below.refl _ _) (Nat.le_refl _) (by simp) ?_; (case hd => rfl); (case hg => rfl); (case hr => first | (go_simp; done) | (go_simp; rfl)); (case hp => exact (Reps.one (show Kd.M (Kd.int .i64) _ _ _ (-1) [iv_ (-1)] from rfl) (Reps.one (show Kd.M (Kd.int .i64) _ _ _ 0 [iv_ 0] from rfl) (Reps.one (show Kd.M (Kd.int .i64) _ _ _ 1000 [iv_ 1000] from rfl) (Reps.one (show Kd.M (Kd.int .i64) _ _ _ 1001 [iv_ 1001] from rfl) (Reps.one (show Kd.M (Kd.int .i64) _ _ _ 9223372036854775807 [iv_ 9223372036854775807] from rfl) (Reps.one (show Kd.M (Kd.int .i64) _ _ _ (-9223372036854775808) [iv_ (-9223372036854775808)] from rfl) (Reps.none _ _)))))))); intro v330 w6 ho7 hb hg_ hnew_; clear hg_ hnew_; (first | rw [← Ny329.out] at ho7 | (simp only [Int.reduceToNat] at ho7; rw [← Ny329.out] at ho7)); refine sh4_ (Kd.R_lower ho7 (keep_size (w := w) (g := g) (row := none) (by repeat (first | (with_reducible first | exact HK.out | apply KeepBut.set_ | apply keep_drewN | apply keep_drew | apply keep_alloc) | exact HK.out)))) (IsS102.below (by repeat (first | (with_reducible first | exact HI0.out | apply IsS102.alloc | apply IsS102.drewN | apply IsS102.drew | apply IsS102.set_1 | apply IsS102.set_2) | exact HI0.out)) hb) (KeepBut.trans (by repeat (first | (with_reducible first | exact HK.out | apply KeepBut.set_ | apply keep_drewN | apply keep_drew | apply keep_alloc) | exact HK.out)) (KeepBut.of_below hb g none) (.inl rfl)) (below_step (by repeat (first | (with_reducible first | exact HB.out | apply below_alloc | apply pw_below_drewN | apply below_drew1 | refine below_set ?_ (IsS102.ge HI0.out)) | exact HB.out)) hb) ?_; clear HI0 HK HB hb ho7; intro HO331 HI0 HK HB; obtain ⟨Ao8, co8, eo8⟩ := Kd.R_slice HO331.out; subst eo8) | ((with_reducible refine gate_callee (f := 91) rfl ?_); refine goesL_ (some 7) rfl rfl Try.func91 (by kernel_rfl) rfl #[.pointer (some ⟨g, 0, none⟩), .slice Ao8 y329.length co8] rfl mp_ ?_; (with_reducible refine (spec_l1Int.calls g s0_0 t327 t328 _ _ y329 t332 t333 t334 w0 _ ?side1 ?side2 ?side3 ?side4 ?side5 A4.out).mono ?_); (case side1 => repeat (first | (with_reducible first | exact HI0.out | apply IsS102.alloc | apply IsS102.drewN | apply IsS102.drew | apply IsS102.set_1 | apply IsS102.set_2) | exact HI0.out)); (case side2 => repeat (first | (with_reducible first | exact HB.out | apply below_alloc | apply pw_below_drewN | apply below_drew1 | refine below_set ?_ (IsS102.ge HI0.out)) | exact HB.out)); (case side3 => repeat (first | exact (Kd.R_reads' HO331.out).2.2 | (with_reducible refine Kd.C_alloc ?_ _) | (with_reducible refine Kd.C_drewN ?_ _) | (with_reducible refine Kd.C_drew ?_))); (case side4 => exact (Kd.R_reads' HO331.out).2.1); (case side5 => exact far_slice (IsS102.own_ne HI0.out HO331.out (by decide))); rintro e w9 ⟨rfl, hi, hb, hk⟩; refine ⟨_, rfl, sh4_ (Kd.R_mono (Kd.R_keep (IsS102.apart (show IsS102 w0 _ g s0_0 t327 t328 from by repeat (first | (with_reducible first | exact HI0.out | apply IsS102.alloc | apply IsS102.drewN | apply IsS102.drew | apply IsS102.set_1 | apply IsS102.set_2) | exact HI0.out)) (ra_ HO331) (by decide)) hk (fun _ h => h.2)) (fun _ h => h.1)) (KeepBut.trans (by repeat (first | (with_reducible first | exact HK.out | apply KeepBut.set_ | apply keep_drewN | apply keep_drew | apply keep_alloc) | exact HK.out)) hk (.inl rfl)) hb hi ?_⟩; clear HO331 HK HB HI0 hb hk hi; intro HO331 HK HB HI0))
  go_ret
  exact ⟨by first | (rw [hRT_.out]; rfl) | exact er_, by repeat (first | (with_reducible first | exact HI0.out | apply IsS102.alloc | apply IsS102.drewN | apply IsS102.drew | apply IsS102.set_1 | apply IsS102.set_2) | exact HI0.out), by repeat (first | (with_reducible first | exact HB.out | apply below_alloc | apply pw_below_drewN | apply below_drew1 | refine below_set ?_ (IsS102.ge HI0.out)) | exact HB.out), by repeat (first | (with_reducible first | exact HK.out | apply KeepBut.set_ | apply keep_drewN | apply keep_drew | apply keep_alloc) | exact HK.out)⟩
 ·replace c3 := Bool.eq_false_iff.mpr c3
  subst c3
  have H1 : ((spec_l1Below.f s0_0 t327 t328 40).bind fun bt335 => (some (bt335.1, bt335.2.1, bt335.2.2))) = some (r1, r2, r3) := by rw [if_neg (show ¬ (false = true) by decide)] at H; exact H
  clear H
  have H := H1
  clear H1
  replace H := bs_ H
  obtain ⟨⟨t335, t336, t337⟩, A10, H⟩ := H
  dsimp only at H
  simp only [Option.some.injEq, Prod.mk.injEq] at H
  obtain ⟨rfl, rfl, rfl⟩ := H
  go_enter Try.func50, Try.ntmps50
  go_wp2_with (first | ((with_reducible refine gate_callee (f := 77) rfl ?_); refine goesL_ (some 4) rfl rfl Try.func77 (by kernel_rfl) rfl #[.pointer (some ⟨g, 0, none⟩), iv_ 6] rfl mp_ ?_; (with_reducible refine (spec_l1Once.calls g s0_0 s0_1 s0_2 6 false t327 t328 w0 _ ?side1 ?side2 A2.out).mono ?_); (case side1 => repeat (first | (with_reducible first | exact HI0.out | apply IsS102.alloc | apply IsS102.drewN | apply IsS102.drew | apply IsS102.set_1 | apply IsS102.set_2) | exact HI0.out)); (case side2 => repeat (first | (with_reducible first | exact HB.out | apply below_alloc | apply pw_below_drewN | apply below_drew1 | refine below_set ?_ (IsS102.ge HI0.out)) | exact HB.out)); rintro e w11 ⟨rfl, hi, hb, hk⟩; refine ⟨_, rfl, sh3_ (KeepBut.trans (by repeat (first | (with_reducible first | exact HK.out | apply KeepBut.set_ | apply keep_drewN | apply keep_drew | apply keep_alloc) | exact HK.out)) hk (.inl rfl)) hb hi ?_⟩; clear HK HB HI0 hb hk hi; intro HK HB HI0) | ((with_reducible refine gate_callee (f := 60) rfl ?_); refine goesL_ (some 9) rfl rfl Try.func60 (by kernel_rfl) rfl #[.pointer (some ⟨g, 0, none⟩), iv_ 40] rfl mp_ ?_; (with_reducible refine (spec_l1Below.calls g s0_0 t327 t328 40 t335 t336 t337 w0 _ ?side1 ?side2 A10.out).mono ?_); (case side1 => repeat (first | (with_reducible first | exact HI0.out | apply IsS102.alloc | apply IsS102.drewN | apply IsS102.drew | apply IsS102.set_1 | apply IsS102.set_2) | exact HI0.out)); (case side2 => repeat (first | (with_reducible first | exact HB.out | apply below_alloc | apply pw_below_drewN | apply below_drew1 | refine below_set ?_ (IsS102.ge HI0.out)) | exact HB.out)); rintro e w12 ⟨rfl, hi, hb, hk⟩; refine ⟨_, rfl, sh3_ (KeepBut.trans (by repeat (first | (with_reducible first | exact HK.out | apply KeepBut.set_ | apply keep_drewN | apply keep_drew | apply keep_alloc) | exact HK.out)) hk (.inl rfl)) hb hi ?_⟩; clear HK HB HI0 hb hk hi; intro HK HB HI0))
  go_ret
  exact ⟨by first | (rw [hRT_.out]; rfl) | exact er_, by repeat (first | (with_reducible first | exact HI0.out | apply IsS102.alloc | apply IsS102.drewN | apply IsS102.drew | apply IsS102.set_1 | apply IsS102.set_2) | exact HI0.out), by repeat (first | (with_reducible first | exact HB.out | apply below_alloc | apply pw_below_drewN | apply below_drew1 | refine below_set ?_ (IsS102.ge HI0.out)) | exact HB.out), by repeat (first | (with_reducible first | exact HK.out | apply KeepBut.set_ | apply keep_drewN | apply keep_drew | apply keep_alloc) | exact HK.out)⟩

/-! ### spec_l5Angle: function 111 -/
def spec_l5Angle.f (s0_0 : List Int) (s0_1 : Int) (s0_2 : Int) : Option (Int × Int × Int) := (spec_l1Once.f s0_0 s0_1 s0_2 6).bind fun bt338 => (if bt338.1 = true then ((spec_l1Int.f s0_0 bt338.2.1 bt338.2.2 (([(-1), (-360), (-361), 359, 360, 361, 9223372036854775807, (-9223372036854775808)] : List Int))).bind fun bt344 => (some (bt344.1, bt344.2.1, bt344.2.2))) else ((spec_l1Below.f s0_0 bt338.2.1 bt338.2.2 360).bind fun bt347 => (some (bt347.1, bt347.2.1, bt347.2.2))))
set_option maxHeartbeats 8000000 in
set_option maxRecDepth 100000 in
theorem spec_l5Angle.calls (g : Nat) (s0_0 : List Int) (s0_1 : Int) (s0_2 : Int) (r1 : Int) (r2 : Int) (r3 : Int) (w0 w : World) (hI : IsS102 w0 w g s0_0 s0_1 s0_2) (hB : Below w0.heap.size w0 w) (h : spec_l5Angle.f s0_0 s0_1 s0_2 = some (r1, r2, r3)) :
  Calls Try.prog 111 #[.pointer (some ⟨g, 0, none⟩)] w fun e w' => e = .returned (iv_ r1) ∧ IsS102 w0 w' g s0_0 r2 r3 ∧ Below w0.heap.size w0 w' ∧ KeepBut w w' g none := by
 have HI0 := Aside0.mk hI
 have HK := Aside0.mk (KeepBut.refl w g none)
 have HL := Aside0.mk hB.size
 clear hI
 have HW0 := Aside0.mk hB.size
 have HB := Aside0.mk hB
 clear hB
 have H := h
 clear h
 unfold spec_l5Angle.f at H
 replace H := bs_ H
 obtain ⟨⟨t338, t339, t340⟩, A2, H⟩ := H
 dsimp only at H
 by_cases c3 : t338 = true
 ·subst c3
  have H1 : ((spec_l1Int.f s0_0 t339 t340 (([(-1), (-360), (-361), 359, 360, 361, 9223372036854775807, (-9223372036854775808)] : List Int))).bind fun bt344 => (some (bt344.1, bt344.2.1, bt344.2.2))) = some (r1, r2, r3) := by rw [if_pos rfl] at H; exact H
  clear H
  have H := H1
  clear H1
  replace H : ∃ y_ : List Int, Aside0 (y_ = (([(-1), (-360), (-361), 359, 360, 361, 9223372036854775807, (-9223372036854775808)] : List Int))) ∧ ((spec_l1Int.f s0_0 t339 t340 y_).bind fun bt344 => (some (bt344.1, bt344.2.1, bt344.2.2))) = some (r1, r2, r3) := ⟨_, ⟨rfl⟩, yh_ H⟩
  obtain ⟨y341, Ny341, H⟩ := H
  replace H := bs_ H
  obtain ⟨⟨t344, t345, t346⟩, A4, H⟩ := H
  dsimp only at H
  simp only [Option.some.injEq, Prod.mk.injEq] at H
  obtain ⟨rfl, rfl, rfl⟩ := H
  go_enter Try.func111, Try.ntmps111
  go_wp2_with (first | ((with_reducible refine gate_callee (f := 77) rfl ?_); refine goesL_ (some 4) rfl rfl Try.func77 (by kernel_rfl) rfl #[.pointer (some ⟨g, 0, none⟩), iv_ 6] rfl mp_ ?_; (with_reducible refine (spec_l1Once.calls g s0_0 s0_1 s0_2 6 true t339 t340 w0 _ ?side1 ?side2 A2.out).mono ?_); (case side1 => repeat (first | (with_reducible first | exact HI0.out | apply IsS102.alloc | apply IsS102.drewN | apply IsS102.drew | apply IsS102.set_1 | apply IsS102.set_2) | exact HI0.out)); (case side2 => repeat (first | (with_reducible first | exact HB.out | apply below_alloc | apply pw_below_drewN | apply below_drew1 | refine below_set ?_ (IsS102.ge HI0.out)) | exact HB.out)); rintro e w5 ⟨rfl, hi, hb, hk⟩; refine ⟨_, rfl, sh3_ (KeepBut.trans (by repeat (first | (with_reducible first | exact HK.out | apply KeepBut.set_ | apply keep_drewN | apply keep_drew | apply keep_alloc) | exact HK.out)) hk (.inl rfl)) hb hi ?_⟩; clear HK HB HI0 hb hk hi; intro HK HB HI0) | ((with_reducible refine gate_dst (N := 6) rfl ?_); refine Kd.R_lit (Kd.int .i64) _ 3 ?hg (N := 6) ?hd (xs := ([(-1), (-360), (-361), 359, 360, 361, 9223372036854775807, (-9223372036854775808)] : List Int)) (inner := [iv_ (-1), iv_ (-360), iv_ (-361), iv_ 359, iv_ 360, iv_ 361, iv_ 9223372036854775807, iv_ (-9223372036854775808)]) (ok := fun _ => True) (okp := fun _ => True) ?hr ?hp (fun _ hk => hk) trivial (Below.refl _ _) (Nat.le_refl _) (by simp) ?_; (case hd => rfl); (case hg => rfl); (case hr => first | (go_simp; done) | (go_simp; rfl)); (case hp => exact (Reps.one (show Kd.M (Kd.int .i64) _ _ _ (-1) [iv_ (-1)] from rfl) (Reps.one (show Kd.M (Kd.int .i64) _ _ _ (-360) [iv_ (-360)] from rfl) (Reps.one (show Kd.M (Kd.int .i64) _ _ _ (-361) [iv_ (-361)] from rfl) (Reps.one (show Kd.M (Kd.int .i64) _ _ _ 359 [iv_ 359] from rfl) (Reps.one (show Kd.M (Kd.int .i64) _ _ _ 360 [iv_ 360] from rfl) (Reps.one (show Kd.M (Kd.int .i64) _ _ _ 361 [iv_ 361] from rfl) (Reps.one (show Kd.M (Kd.int .i64) _ _ _ 9223372036854775807 [iv_ 9223372036854775807] from rfl) (Reps.one (show Kd.M (Kd.int .i64) _ _ _ (-9223372036854775808) [iv_ (-9223372036854775808)] from rfl) (Reps.none _ _)))))))))); intro v342 w6 ho7 hb hg_ hnew_; clear hg_ hnew_; (first | rw [← Ny341.out] at ho7 | (simp only [Int.reduceToNat] at ho7; rw [← Ny341.out] at ho7)); refine sh4_ (Kd.R_lower ho7 (keep_size (w := w) (g := g) (row := none) (by repeat (first | (with_reducible first | exact HK.out | apply KeepBut.set_ | apply keep_drewN | apply keep_drew | apply keep_alloc) | exact HK.out)))) (IsS102.below (by repeat (first | (with_reducible first | exact HI0.out | apply IsS102.alloc | apply IsS102.drewN | apply IsS102.drew | apply IsS102.set_1 | apply IsS102.set_2) | exact HI0.out)) hb) (KeepBut.trans (by repeat (first | (with_reducible first | exact HK.out | apply KeepBut.set_ | apply keep_drewN | apply keep_drew | apply keep_alloc) | exact HK.out)) (KeepBut.of_below hb g none) (.inl rfl)) (below_step (by repeat (first | (with_reducible first | exact HB.out | apply below_alloc | apply pw_below_drewN | apply below_drew1 | refine below_set ?_ (IsS102.ge HI0.out)) | exact HB.out)) hb) ?_; clear HI0 HK HB hb ho7; intro HO343 HI0 HK HB; obtain ⟨Ao8, co8, eo8⟩ := Kd.R_slice HO343.out; subst eo8) | ((with_reducible refine gate_callee (f := 91) rfl ?_); refine goesL_ (some 7) rfl rfl Try.func91 (by kernel_rfl) rfl #[.pointer (some ⟨g, 0, none⟩), .slice Ao8 y341.length co8] rfl mp_ ?_; (with_reducible refine (spec_l1Int.calls g s0_0 t339 t340 _ _ y341 t344 t345 t346 w0 _ ?side1 ?side2 ?side3 ?side4 ?side5 A4.out).mono ?_); (case side1 => repeat (first | (with_reducible first | exact HI0.out | apply IsS102.alloc | apply IsS102.drewN | apply IsS102.drew | apply IsS102.set_1 | apply IsS102.set_2) | exact HI0.out)); (case side2 => repeat (first | (with_reducible first | exact HB.out | apply below_alloc | apply pw_below_drewN | apply below_drew1 | refine below_set ?_ (IsS102.ge HI0.out)) | exact HB.out)); (case side3 => repeat (first | exact (Kd.R_reads' HO343.out).2.2 | (with_reducible refine Kd.C_alloc ?_ _) | (with_reducible refine Kd.C_drewN ?_ _) | (with_reducible refine Kd.C_drew ?_))); (case side4 => exact (Kd.R_reads' HO343.out).2.1); (case side5 => exact far_slice (IsS102.own_ne HI0.out HO343.out (by decide))); rintro e w9 ⟨rfl, hi, hb, hk⟩; refine ⟨_, rfl, sh4_ (Kd.R_mono (Kd.R_keep (IsS102.apart (show IsS102 w0 _ g s0_0 t339 t340 from by repeat (first | (with_reducible first | exact HI0.out | apply IsS102.alloc | apply IsS102.drewN | apply IsS102.drew | apply IsS102.set_1 | apply IsS102.set_2) | exact HI0.out)) (ra_ HO343) (by decide)) hk (fun _ h => h.2)) (fun _ h => h.1)) (KeepBut.trans (by repeat (first | (with_reducible first | exact HK.out | apply KeepBut.set_ | apply keep_drewN | apply keep_drew | apply keep_alloc) | exact HK.out)) hk (.inl rfl)) hb hi ?_⟩; clear HO343 HK HB HI0 hb hk hi; intro HO343 HK HB HI0))
  go_ret
  exact ⟨by first | (rw [hRT_.out]; rfl) | exact er_, by repeat (first | (with_reducible first | exact HI0.out | apply IsS102.alloc | apply IsS102.drewN | apply IsS102.drew | apply IsS102.set_1 | apply IsS102.set_2) | exact HI0.out), by repeat (first | (with_reducible first | exact HB.out | apply below_alloc | apply pw_below_drewN | apply below_drew1 | refine below_set ?_ (IsS102.ge HI0.out)) | exact HB.out), by repeat (first | (with_reducible first | exact HK.out | apply KeepBut.set_ | apply keep_drewN | apply keep_drew | apply keep_alloc) | exact HK.out)⟩
 ·replace c3 := Bool.eq_false_iff.mpr c3
  subst c3
  have H1 : ((spec_l1Below.f s0_0 t339 t340 360).bind fun bt347 => (some (bt347.1, bt347.2.1, bt347.2.2))) = some (r1, r2, r3) := by rw [if_neg (show ¬ (false = true) by decide)] at H; exact H
  clear H
  have H := H1
  clear H1
  replace H := bs_ H
  obtain ⟨⟨t347, t348, t349⟩, A10, H⟩ := H
  dsimp only at H
  simp only [Option.some.injEq, Prod.mk.injEq] at H
  obtain ⟨rfl, rfl, rfl⟩ := H
  go_enter Try.func111, Try.ntmps111
  go_wp2_with (first | ((with_reducible refine gate_callee (f := 77) rfl ?_); refine goesL_ (some 4) rfl rfl Try.func77 (by kernel_rfl) rfl #[.pointer (some ⟨g, 0, none⟩), iv_ 6] rfl mp_ ?_; (with_reducible refine (spec_l1Once.calls g s0_0 s0_1 s0_2 6 false t339 t340 w0 _ ?side1 ?side2 A2.out).mono ?_); (case side1 => repeat (first | (with_reducible first | exact HI0.out | apply IsS102.alloc | apply IsS102.drewN | apply IsS102.drew | apply IsS102.set_1 | apply IsS102.set_2) | exact HI0.out)); (case side2 => repeat (first | (with_reducible first | exact HB.out | apply below_alloc | apply pw_below_drewN | apply below_drew1 | refine below_set ?_ (IsS102.ge HI0.out)) | exact HB.out)); rintro e w11 ⟨rfl, hi, hb, hk⟩; refine ⟨_, rfl, sh3_ (KeepBut.trans (by repeat (first | (with_reducible first | exact HK.out | apply KeepBut.set_ | apply keep_drewN | apply keep_drew | apply keep_alloc) | exact HK.out)) hk (.inl rfl)) hb hi ?_⟩; clear HK HB HI0 hb hk hi; intro HK HB HI0) | ((with_reducible refine gate_callee (f := 60) rfl ?_); refine goesL_ (some 9) rfl rfl Try.func60 (by kernel_rfl) rfl #[.pointer (some ⟨g, 0, none⟩), iv_ 360] rfl mp_ ?_; (with_reducible refine (spec_l1Below.calls g s0_0 t339 t340 360 t347 t348 t349 w0 _ ?side1 ?side2 A10.out).mono ?_); (case side1 => repeat (first | (with_reducible first | exact HI0.out | apply IsS102.alloc | apply IsS102.drewN | apply IsS102.drew | apply IsS102.set_1 | apply IsS102.set_2) | exact HI0.out)); (case side2 => repeat (first | (with_reducible first | exact HB.out | apply below_alloc | apply pw_below_drewN | apply below_drew1 | refine below_set ?_ (IsS102.ge HI0.out)) | exact HB.out)); rintro e w12 ⟨rfl, hi, hb, hk⟩; refine ⟨_, rfl, sh3_ (KeepBut.trans (by repeat (first | (with_reducible first | exact HK.out | apply KeepBut.set_ | apply keep_drewN | apply keep_drew | apply keep_alloc) | exact HK.out)) hk (.inl rfl)) hb hi ?_⟩; clear HK HB HI0 hb hk hi; intro HK HB HI0))
  go_ret
  exact ⟨by first | (rw [hRT_.out]; rfl) | exact er_, by repeat (first | (with_reducible first | exact HI0.out | apply IsS102.alloc | apply IsS102.drewN | apply IsS102.drew | apply IsS102.set_1 | apply IsS102.set_2) | exact HI0.out), by repeat (first | (with_reducible first | exact HB.out | apply below_alloc | apply pw_below_drewN | apply below_drew1 | refine below_set ?_ (IsS102.ge HI0.out)) | exact HB.out), by repeat (first | (with_reducible first | exact HK.out | apply KeepBut.set_ | apply keep_drewN | apply keep_drew | apply keep_alloc) | exact HK.out)⟩

/-! ### spec_l5Arc: function 78 -/
def spec_l5Arc.f (s0_0 : List Int) (s0_1 : Int) (s0_2 : Int) : Option (Int × Int × Int × Int) := (spec_l5Angle.f s0_0 s0_1 s0_2).bind fun bt351 => ((spec_l1Below.f s0_0 bt351.2.1 bt351.2.2 80).bind fun bt354 => ((spec_l1Once.f s0_0 bt354.2.1 bt354.2.2 6).bind fun bt358 => (if bt358.1 = true then ((spec_l1Int.f s0_0 bt358.2.1 bt358.2.2 (([(-1), 0, 359, 360, 9223372036854775807] : List Int))).bind fun bt364 => (some (bt351.1, bt364.1, bt364.2.1, bt364.2.2))) else (some (bt351.1, bt354.1, bt358.2.1, bt358.2.2)))))
set_option maxHeartbeats 8000000 in
set_option maxRecDepth 100000 in
theorem spec_l5Arc.calls (g : Nat) (s0_0 : List Int) (s0_1 : Int) (s0_2 : Int) (r1 : Int) (r2 : Int) (r3 : Int) (r4 : Int) (w0 w : World) (hI : IsS102 w0 w g s0_0 s0_1 s0_2) (hB : Below w0.heap.size w0 w) (h : spec_l5Arc.f s0_0 s0_1 s0_2 = some (r1, r2, r3, r4)) :
  Calls Try.prog 78 #[.pointer (some ⟨g, 0, none⟩)] w fun e w' => e = .returned (.agg #[iv_ r1, iv_ r2]) ∧ IsS102 w0 w' g s0_0 r3 r4 ∧ Below w0.heap.size w0 w' ∧ KeepBut w w' g none := by
 have hu35 := Try.underlying35
 have HI0 := Aside0.mk hI
 have HK := Aside0.mk (KeepBut.refl w g none)
 have HL := Aside0.mk hB.size
 clear hI
 have HW0 := Aside0.mk hB.size
 have HB := Aside0.mk hB
 clear hB
 have H := h
 clear h
 unfold spec_l5Arc.f at H
 replace H := bs_ H
 obtain ⟨⟨t351, t352, t353⟩, A2, H⟩ := H
 dsimp only at H
 replace H := bs_ H
 obtain ⟨⟨t354, t355, t356⟩, A3, H⟩ := H
 dsimp only at H
 replace H := bs_ H
 obtain ⟨⟨t358, t359, t360⟩, A4, H⟩ := H
 dsimp only at H
 by_cases c5 : t358 = true
 ·subst c5
  have H1 : ((spec_l1Int.f s0_0 t359 t360 (([(-1), 0, 359, 360, 9223372036854775807] : List Int))).bind fun bt364 => (some (t351, bt364.1, bt364.2.1, bt364.2.2))) = some (r1, r2, r3, r4) := by rw [if_pos rfl] at H; exact H
  clear H
  have H := H1
  clear H1
  replace H : ∃ y_ : List Int, Aside0 (y_ = (([(-1), 0, 359, 360, 9223372036854775807] : List Int))) ∧ ((spec_l1Int.f s0_0 t359 t360 y_).bind fun bt364 => (some (t351, bt364.1, bt364.2.1, bt364.2.2))) = some (r1, r2, r3, r4) := ⟨_, ⟨rfl⟩, yh_ H⟩
  obtain ⟨y361, Ny361, H⟩ := H
  replace H := bs_ H
  obtain ⟨⟨t364, t365, t366⟩, A6, H⟩ := H
  dsimp only at H
  simp only [Option.some.injEq, Prod.mk.injEq] at H
  obtain ⟨rfl, rfl, rfl, rfl⟩ := H
  go_enter Try.func78, Try.ntmps78
  go_wp2_with (first | ((with_reducible refine gd_ 2 ?_); refine bx_ 2 35 #[iv_ 0, iv_ 0] ?_; intro gb350 hg w7 hbox hb; refine sh8_ (IsS102.below (by repeat (first | (with_reducible first | exact HI0.out | apply IsS102.alloc | apply IsS102.drewN | apply IsS102.drew | apply IsS102.set_1 | apply IsS102.set_2) | exact HI0.out)) hb) (KeepBut.trans (by repeat (first | (with_reducible first | exact HK.out | apply KeepBut.set_ | apply keep_drewN | apply keep_drew | apply keep_alloc) | exact HK.out)) (KeepBut.of_below hb g none) (.inl rfl)) (below_step (by repeat (first | (with_reducible first | exact HB.out | apply below_alloc | apply pw_below_drewN | apply below_drew1 | refine below_set ?_ (IsS102.ge HI0.out)) | exact HB.out)) hb) hbox ((by rw [hg]; exact (keep_size (w := w) (g := g) (row := none) (by repeat (first | (with_reducible first | exact HK.out | apply KeepBut.set_ | apply keep_drewN | apply keep_drew | apply keep_alloc) | exact HK.out))) : w.heap.size ≤ gb350)) ((Nat.le_trans HW0.out (by rw [hg]; exact (keep_size (w := w) (g := g) (row := none) (by repeat (first | (with_reducible first | exact HK.out | apply KeepBut.set_ | apply keep_drewN | apply keep_drew | apply keep_alloc) | exact HK.out))) : w.heap.size ≤ gb350) : w0.heap.size ≤ gb350)) ((by rw [hg]; exact Nat.ne_of_lt (IsS102.lt (show IsS102 w0 _ g s0_0 s0_1 s0_2 from by repeat (first | (with_reducible first | exact HI0.out | apply IsS102.alloc | apply IsS102.drewN | apply IsS102.drew | apply IsS102.set_1 | apply IsS102.set_2) | exact HI0.out))) : g ≠ gb350)) ((by rw [hg]; exact Nat.ne_of_gt (IsS102.lt (show IsS102 w0 _ g s0_0 s0_1 s0_2 from by repeat (first | (with_reducible first | exact HI0.out | apply IsS102.alloc | apply IsS102.drewN | apply IsS102.drew | apply IsS102.set_1 | apply IsS102.set_2) | exact HI0.out))) : gb350 ≠ g)) ?_; clear HI0 HK HB hb hbox hg; intro HI0 HK HB BK350 GW350 GE350 NB0_350 NB350_0) | ((with_reducible refine gate_callee (f := 111) rfl ?_); refine goesL_ (some 5) rfl rfl Try.func111 (by kernel_rfl) rfl #[.pointer (some ⟨g, 0, none⟩)] rfl mp_ ?_; (with_reducible refine (spec_l5Angle.calls g s0_0 s0_1 s0_2 t351 t352 t353 w0 _ ?side1 ?side2 A2.out).mono ?_); (case side1 => repeat (first | (with_reducible first | exact HI0.out | apply IsS102.alloc | apply IsS102.drewN | apply IsS102.drew | apply IsS102.set_1 | apply IsS102.set_2 | refine IsS102.far ?_ NB0_350.out _) | exact HI0.out)); (case side2 => repeat (first | (with_reducible first | exact HB.out | apply below_alloc | apply pw_below_drewN | apply below_drew1 | refine below_set ?_ (IsS102.ge HI0.out) | refine below_set ?_ GE350.out) | exact HB.out)); rintro e w8 ⟨rfl, hi, hb, hk⟩; refine ⟨_, rfl, sh4_ (KeepBut.blk hk (g' := gb350) (o := .cells #[iv_ 0, iv_ 0] 35 (0, 0)) (bk_ BK350) NB350_0.out (by simp)) (KeepBut.trans (by repeat (first | (with_reducible first | exact HK.out | apply KeepBut.set_ | apply keep_drewN | apply keep_drew | apply keep_alloc | refine keep_far ?_ GW350.out _) | exact HK.out)) hk (.inl rfl)) hb hi ?_⟩; clear BK350 HK HB HI0 hb hk hi; intro BK350 HK HB HI0) | ((with_reducible refine gate_callee (f := 60) rfl ?_); refine goesL_ (some 7) rfl rfl Try.func60 (by kernel_rfl) rfl #[.pointer (some ⟨g, 0, none⟩), iv_ 80] rfl mp_ ?_; (with_reducible refine (spec_l1Below.calls g s0_0 t352 t353 80 t354 t355 t356 w0 _ ?side1 ?side2 A3.out).mono ?_); (case side1 => repeat (first | (with_reducible first | exact HI0.out | apply IsS102.alloc | apply IsS102.drewN | apply IsS102.drew | apply IsS102.set_1 | apply IsS102.set_2 | refine IsS102.far ?_ NB0_350.out _) | exact HI0.out)); (case side2 => repeat (first | (with_reducible first | exact HB.out | apply below_alloc | apply pw_below_drewN | apply below_drew1 | refine below_set ?_ (IsS102.ge HI0.out) | refine below_set ?_ GE350.out) | exact HB.out)); rintro e w9 ⟨rfl, hi, hb, hk⟩; refine ⟨_, rfl, sh4_ (KeepBut.blk hk (g' := gb350) (o := .cells #[iv_ 0, iv_ 0] 35 (0, 0)) (bk_ BK350) NB350_0.out (by simp)) (KeepBut.trans (by repeat (first | (with_reducible first | exact HK.out | apply KeepBut.set_ | apply keep_drewN | apply keep_drew | apply keep_alloc | refine keep_far ?_ GW350.out _) | exact HK.out)) hk (.inl rfl)) hb hi ?_⟩; clear BK350 HK HB HI0 hb hk hi; intro BK350 HK HB HI0) | ((with_reducible refine gd_ 3 ?_); refine bx_ 3 35 #[iv_ 0, iv_ 0] ?_; intro gb357 hg w10 hbox hb; refine sh11_ (IsS102.below (by repeat (first | (with_reducible first | exact HI0.out | apply IsS102.alloc | apply IsS102.drewN | apply IsS102.drew | apply IsS102.set_1 | apply IsS102.set_2 | refine IsS102.far ?_ NB0_350.out _) | exact HI0.out)) hb) (blk_below (bk_ BK350) hb) (KeepBut.trans (by repeat (first | (with_reducible first | exact HK.out | apply KeepBut.set_ | apply keep_drewN | apply keep_drew | apply keep_alloc | refine keep_far ?_ GW350.out _) | exact HK.out)) (KeepBut.of_below hb g none) (.inl rfl)) (below_step (by repeat (first | (with_reducible first | exact HB.out | apply below_alloc | apply pw_below_drewN | apply below_drew1 | refine below_set ?_ (IsS102.ge HI0.out) | refine below_set ?_ GE350.out) | exact HB.out)) hb) hbox ((by rw [hg]; exact (keep_size (w := w) (g := g) (row := none) (by repeat (first | (with_reducible first | exact HK.out | apply KeepBut.set_ | apply keep_drewN | apply keep_drew | apply keep_alloc | refine keep_far ?_ GW350.out _) | exact HK.out))) : w.heap.size ≤ gb357)) ((Nat.le_trans HW0.out (by rw [hg]; exact (keep_size (w := w) (g := g) (row := none) (by repeat (first | (with_reducible first | exact HK.out | apply KeepBut.set_ | apply keep_drewN | apply keep_drew | apply keep_alloc | refine keep_far ?_ GW350.out _) | exact HK.out))) : w.heap.size ≤ gb357) : w0.heap.size ≤ gb357)) (nl_ hg (bk_ BK350)) (ng_ hg (bk_ BK350)) ((by rw [hg]; exact Nat.ne_of_lt (IsS102.lt (show IsS102 w0 _ g s0_0 t355 t356 from by repeat (first | (with_reducible first | exact HI0.out | apply IsS102.alloc | apply IsS102.drewN | apply IsS102.drew | apply IsS102.set_1 | apply IsS102.set_2 | refine IsS102.far ?_ NB0_350.out _) | exact HI0.out))) : g ≠ gb357)) ((by rw [hg]; exact Nat.ne_of_gt (IsS102.lt (show IsS102 w0 _ g s0_0 t355 t356 from by repeat (first | (with_reducible first | exact HI0.out | apply IsS102.alloc | apply IsS102.drewN | apply IsS102.drew | apply IsS102.set_1 | apply IsS102.set_2 | refine IsS102.far ?_ NB0_350.out _) | exact HI0.out))) : gb357 ≠ g)) ?_; clear HI0 BK350 HK HB hb hbox hg; intro HI0 BK350 HK HB BK357 GW357 GE357 NB350_357 NB357_350 NB0_357 NB357_0; have hnb11 := NB357_350.out; have hnc11 := NB350_357.out; have hnb12 := NB357_0.out; have hnc12 := NB0_357.out; have hcz13 := cf2_ BK357) | ((with_reducible refine gate_callee (f := 77) rfl ?_); refine goesL_ (some 10) rfl rfl Try.func77 (by kernel_rfl) rfl #[.pointer (some ⟨g, 0, none⟩), iv_ 6] rfl mp_ ?_; (with_reducible refine (spec_l1Once.calls g s0_0 t355 t356 6 true t359 t360 w0 _ ?side1 ?side2 A4.out).mono ?_); (case side1 => repeat (first | (with_reducible first | exact HI0.out | apply IsS102.alloc | apply IsS102.drewN | apply IsS102.drew | apply IsS102.set_1 | apply IsS102.set_2 | refine IsS102.far ?_ NB0_350.out _ | refine IsS102.far ?_ NB0_357.out _) | exact HI0.out)); (case side2 => repeat (first | (with_reducible first | exact HB.out | apply below_alloc | apply pw_below_drewN | apply below_drew1 | refine below_set ?_ (IsS102.ge HI0.out) | refine below_set ?_ GE350.out | refine below_set ?_ GE357.out) | exact HB.out)); rintro e w14 ⟨rfl, hi, hb, hk⟩; refine ⟨_, rfl, sh5_ (KeepBut.blk hk (g' := gb350) (o := .cells #[iv_ 0, iv_ 0] 35 (0, 0)) (bp_ BK350) NB350_0.out (by simp)) (KeepBut.blk hk (g' := gb357) (o := .cells #[iv_ t351, iv_ t354] 35 (0, 0)) (bp_ BK357) NB357_0.out (by simp)) (KeepBut.trans (by repeat (first | (with_reducible first | exact HK.out | apply KeepBut.set_ | apply keep_drewN | apply keep_drew | apply keep_alloc | refine keep_far ?_ GW350.out _ | refine keep_far ?_ GW357.out _) | exact HK.out)) hk (.inl rfl)) hb hi ?_⟩; clear BK350 BK357 HK HB HI0 hb hk hi; intro BK350 BK357 HK HB HI0) | ((with_reducible refine gate_dst (N := 12) rfl ?_); refine Kd.R_lit (Kd.int .i64) _ 3 ?hg (N := 12) ?hd (xs := ([(-1), 0, 359, 360, 9223372036854775807] : List Int)) (inner := [iv_ (-1), iv_ 0, iv_ 359, iv_ 360, iv_ 9223372036854775807]) (ok := fun _ => True) (okp := fun _ => True) ?hr ?hp (fun _ hk => hk) trivial (Below.refl _ _) (Nat.le_refl _) (by simp) ?_; (case hd => rfl); (case hg => rfl); (case hr => first | (go_simp; done) | (go_simp; rfl)); (case hp => exact (Reps.one (show Kd.M (Kd.int .i64) _ _ _ (-1) [iv_ (-1)] from rfl) (Reps.one (show Kd.M (Kd.int .i64) _ _ _ 0 [iv_ 0] from rfl) (Reps.one (show Kd.M (Kd.int .i64) _ _ _ 359 [iv_ 359] from rfl) (Reps.one (show Kd.M (Kd.int .i64) _ _ _ 360 [iv_ 360] from rfl) (Reps.one (show Kd.M (Kd.int .i64) _ _ _ 9223372036854775807 [iv_ 9223372036854775807] from rfl) (Reps.none _ _))))))); intro v362 w15 ho16 hb hg_ hnew_; clear hg_ hnew_; (first | rw [← Ny361.out] at ho16 | (simp only [Int.reduceToNat] at ho16; rw [← Ny361.out] at ho16)); refine sh6_ (Kd.R_lower ho16 (keep_size (w := w) (g := g) (row := none) (by repeat (first | (with_reducible first | exact HK.out | apply KeepBut.set_ | apply keep_drewN | apply keep_drew | apply keep_alloc | refine keep_far ?_ GW350.out _ | refine keep_far ?_ GW357.out _) | exact HK.out)))) (IsS102.below (by repeat (first | (with_reducible first | exact HI0.out | apply IsS102.alloc | apply IsS102.drewN | apply IsS102.drew | apply IsS102.set_1 | apply IsS102.set_2 | refine IsS102.far ?_ NB0_350.out _ | refine IsS102.far ?_ NB0_357.out _) | exact HI0.out)) hb) (blk_below (bk_ BK350) hb) (blk_below (bk_ BK357) hb) (KeepBut.trans (by repeat (first | (with_reducible first | exact HK.out | apply KeepBut.set_ | apply keep_drewN | apply keep_drew | apply keep_alloc | refine keep_far ?_ GW350.out _ | refine keep_far ?_ GW357.out _) | exact HK.out)) (KeepBut.of_below hb g none) (.inl rfl)) (below_step (by repeat (first | (with_reducible first | exact HB.out | apply below_alloc | apply pw_below_drewN | apply below_drew1 | refine below_set ?_ (IsS102.ge HI0.out) | refine below_set ?_ GE350.out | refine below_set ?_ GE357.out) | exact HB.out)) hb) ?_; clear HI0 BK350 BK357 HK HB hb ho16; intro HO363 HI0 BK350 BK357 HK HB; obtain ⟨Ao17, co17, eo17⟩ := Kd.R_slice HO363.out; subst eo17) | ((with_reducible refine gate_callee (f := 91) rfl ?_); refine goesL_ (some 13) rfl rfl Try.func91 (by kernel_rfl) rfl #[.pointer (some ⟨g, 0, none⟩), .slice Ao17 y361.length co17] rfl mp_ ?_; (with_reducible refine (spec_l1Int.calls g s0_0 t359 t360 _ _ y361 t364 t365 t366 w0 _ ?side1 ?side2 ?side3 ?side4 ?side5 A6.out).mono ?_); (case side1 => repeat (first | (with_reducible first | exact HI0.out | apply IsS102.alloc | apply IsS102.drewN | apply IsS102.drew | apply IsS102.set_1 | apply IsS102.set_2 | refine IsS102.far ?_ NB0_350.out _ | refine IsS102.far ?_ NB0_357.out _) | exact HI0.out)); (case side2 => repeat (first | (with_reducible first | exact HB.out | apply below_alloc | apply pw_below_drewN | apply below_drew1 | refine below_set ?_ (IsS102.ge HI0.out) | refine below_set ?_ GE350.out | refine below_set ?_ GE357.out) | exact HB.out)); (case side3 => repeat (first | exact (Kd.R_reads' HO363.out).2.2 | (with_reducible refine Kd.C_alloc ?_ _) | (with_reducible refine Kd.C_drewN ?_ _) | (with_reducible refine Kd.C_drew ?_))); (case side4 => exact (Kd.R_reads' HO363.out).2.1); (case side5 => exact far_slice (IsS102.own_ne HI0.out HO363.out (by decide))); rintro e w18 ⟨rfl, hi, hb, hk⟩; refine ⟨_, rfl, sh6_ (KeepBut.blk hk (g' := gb350) (o := .cells #[iv_ 0, iv_ 0] 35 (0, 0)) (bk_ BK350) NB350_0.out (by simp)) (KeepBut.blk hk (g' := gb357) (o := .cells #[iv_ t351, iv_ t354] 35 (0, 0)) (bk_ BK357) NB357_0.out (by simp)) (Kd.R_mono (Kd.R_keep (IsS102.apart (show IsS102 w0 _ g s0_0 t359 t360 from by repeat (first | (with_reducible first | exact HI0.out | apply IsS102.alloc | apply IsS102.drewN | apply IsS102.drew | apply IsS102.set_1 | apply IsS102.set_2 | refine IsS102.far ?_ NB0_350.out _ | refine IsS102.far ?_ NB0_357.out _) | exact HI0.out)) (ra_ HO363) (by decide)) hk (fun _ h => h.2)) (fun _ h => h.1)) (KeepBut.trans (by repeat (first | (with_reducible first | exact HK.out | apply KeepBut.set_ | apply keep_drewN | apply keep_drew | apply keep_alloc | refine keep_far ?_ GW350.out _ | refine keep_far ?_ GW357.out _) | exact HK.out)) hk (.inl rfl)) hb hi ?_⟩; clear BK350 BK357 HO363 HK HB HI0 hb hk hi; intro BK350 BK357 HO363 HK HB HI0; have hcz19 := cf2_ BK357; have hnb20 := NB350_0.out; have hnc20 := NB0_350.out; have hcz21 := cf2_ BK350))
  refine bodyPost_ret (results_cell_row rfl _ _ gb350 35 #[iv_ t351, iv_ t364] (0, 0) _ rfl (bp_ BK350) Try.underlying35 rfl (by kernel_rfl)) rfl ?_
  exact ⟨by first | (rw [hRT_.out]; rfl) | exact er_, by repeat (first | (with_reducible first | exact HI0.out | apply IsS102.alloc | apply IsS102.drewN | apply IsS102.drew | apply IsS102.set_1 | apply IsS102.set_2 | refine IsS102.far ?_ NB0_350.out _ | refine IsS102.far ?_ NB0_357.out _) | exact HI0.out), by repeat (first | (with_reducible first | exact HB.out | apply below_alloc | apply pw_below_drewN | apply below_drew1 | refine below_set ?_ (IsS102.ge HI0.out) | refine below_set ?_ GE350.out | refine below_set ?_ GE357.out) | exact HB.out), by repeat (first | (with_reducible first | exact HK.out | apply KeepBut.set_ | apply keep_drewN | apply keep_drew | apply keep_alloc | refine keep_far ?_ GW350.out _ | refine keep_far ?_ GW357.out _) | exact HK.out)⟩
 ·replace c5 := Bool.eq_false_iff.mpr c5
  subst c5
  have H1 : (some (t351, t354, t359, t360)) = some (r1, r2, r3, r4) := by rw [if_neg (show ¬ (false = true) by decide)] at H; exact H
  clear H
  have H := H1
  clear H1
  simp only [Option.some.injEq, Prod.mk.injEq] at H
  obtain ⟨rfl, rfl, rfl, rfl⟩ := H
  go_enter Try.func78, Try.ntmps78
  go_wp2_with (first | ((with_reducible refine gd_ 2 ?_); refine bx_ 2 35 #[iv_ 0, iv_ 0] ?_; intro gb350 hg w22 hbox hb; refine sh8_ (IsS102.below (by repeat (first | (with_reducible first | exact HI0.out | apply IsS102.alloc | apply IsS102.drewN | apply IsS102.drew | apply IsS102.set_1 | apply IsS102.set_2) | exact HI0.out)) hb) (KeepBut.trans (by repeat (first | (with_reducible first | exact HK.out | apply KeepBut.set_ | apply keep_drewN | apply keep_drew | apply keep_alloc) | exact HK.out)) (KeepBut.of_below hb g none) (.inl rfl)) (below_step (by repeat (first | (with_reducible first | exact HB.out | apply below_alloc | apply pw_below_drewN | apply below_drew1 | refine below_set ?_ (IsS102.ge HI0.out)) | exact HB.out)) hb) hbox ((by rw [hg]; exact (keep_size (w := w) (g := g) (row := none) (by repeat (first | (with_reducible first | exact HK.out | apply KeepBut.set_ | apply keep_drewN | apply keep_drew | apply keep_alloc) | exact HK.out))) : w.heap.size ≤ gb350)) ((Nat.le_trans HW0.out (by rw [hg]; exact (keep_size (w := w) (g := g) (row := none) (by repeat (first | (with_reducible first | exact HK.out | apply KeepBut.set_ | apply keep_drewN | apply keep_drew | apply keep_alloc) | exact HK.out))) : w.heap.size ≤ gb350) : w0.heap.size ≤ gb350)) ((by rw [hg]; exact Nat.ne_of_lt (IsS102.lt (show IsS102 w0 _ g s0_0 s0_1 s0_2 from by repeat (first | (with_reducible first | exact HI0.out | apply IsS102.alloc | apply IsS102.drewN | apply IsS102.drew | apply IsS102.set_1 | apply IsS102.set_2) | exact HI0.out))) : g ≠ gb350)) ((by rw [hg]; exact Nat.ne_of_gt (IsS102.lt (show IsS102 w0 _ g s0_0 s0_1 s0_2 from by repeat (first | (with_reducible first | exact HI0.out | apply IsS102.alloc | apply IsS102.drewN | apply IsS102.drew | apply IsS102.set_1 | apply IsS102.set_2) | exact HI0.out))) : gb350 ≠ g)) ?_; clear HI0 HK HB hb hbox hg; intro HI0 HK HB BK350 GW350 GE350 NB0_350 NB350_0) | ((with_reducible refine gate_callee (f := 111) rfl ?_); refine goesL_ (some 5) rfl rfl Try.func111 (by kernel_rfl) rfl #[.pointer (some ⟨g, 0, none⟩)] rfl mp_ ?_; (with_reducible refine (spec_l5Angle.calls g s0_0 s0_1 s0_2 t351 t352 t353 w0 _ ?side1 ?side2 A2.out).mono ?_); (case side1 => repeat (first | (with_reducible first | exact HI0.out | apply IsS102.alloc | apply IsS102.drewN | apply IsS102.drew | apply IsS102.set_1 | apply IsS102.set_2 | refine IsS102.far ?_ NB0_350.out _) | exact HI0.out)); (case side2 => repeat (first | (with_reducible first | exact HB.out | apply below_alloc | apply pw_below_drewN | apply below_drew1 | refine below_set ?_ (IsS102.ge HI0.out) | refine below_set ?_ GE350.out) | exact HB.out)); rintro e w23 ⟨rfl, hi, hb, hk⟩; refine ⟨_, rfl, sh4_ (KeepBut.blk hk (g' := gb350) (o := .cells #[iv_ 0, iv_ 0] 35 (0, 0)) (bk_ BK350) NB350_0.out (by simp)) (KeepBut.trans (by repeat (first | (with_reducible first | exact HK.out | apply KeepBut.set_ | apply keep_drewN | apply keep_drew | apply keep_alloc | refine keep_far ?_ GW350.out _) | exact HK.out)) hk (.inl rfl)) hb hi ?_⟩; clear BK350 HK HB HI0 hb hk hi; intro BK350 HK HB HI0) | ((with_reducible refine gate_callee (f := 60) rfl ?_); refine goesL_ (some 7) rfl rfl Try.func60 (by kernel_rfl) rfl #[.pointer (some ⟨g, 0, none⟩), iv_ 80] rfl mp_ ?_; (with_reducible refine (spec_l1Below.calls g s0_0 t352 t353 80 t354 t355 t356 w0 _ ?side1 ?side2 A3.out).mono ?_); (case side1 => repeat (first | (with_reducible first | exact HI0.out | apply IsS102.alloc | apply IsS102.drewN | apply IsS102.drew | apply IsS102.set_1 | apply IsS102.set_2 | refine IsS102.far ?_ NB0_350.out _) | exact HI0.out)); (case side2 => repeat (first | (with_reducible first | exact HB.out | apply below_alloc | apply pw_below_drewN | apply below_drew1 | refine below_set ?_ (IsS102.ge HI0.out) | refine below_set ?_ GE350.out) | exact HB.out)); rintro e w24 ⟨rfl, hi, hb, hk⟩; refine ⟨_, rfl, sh4_ (KeepBut.blk hk (g' := gb350) (o := .cells #[iv_ 0, iv_ 0] 35 (0, 0)) (bk_ BK350) NB350_0.out (by simp)) (KeepBut.trans (by repeat (first | (with_reducible first | exact HK.out | apply KeepBut.set_ | apply keep_drewN | apply keep_drew | apply keep_alloc | refine keep_far ?_ GW350.out _) | exact HK.out)) hk (.inl rfl)) hb hi ?_⟩; clear BK350 HK HB HI0 hb hk hi; intro BK350 HK HB HI0) | ((with_reducible refine gd_ 3 ?_); refine bx_ 3 35 #[iv_ 0, iv_ 0] ?_; intro gb357 hg w25 hbox hb; refine sh11_ (IsS102.below (by repeat (first | (with_reducible first | exact HI0.out | apply IsS102.alloc | apply IsS102.drewN | apply IsS102.drew | apply IsS102.set_1 | apply IsS102.set_2 | refine IsS102.far ?_ NB0_350.out _) | exact HI0.out)) hb) (blk_below (bk_ BK350) hb) (KeepBut.trans (by repeat (first | (with_reducible first | exact HK.out | apply KeepBut.set_ | apply keep_drewN | apply keep_drew | apply keep_alloc | refine keep_far ?_ GW350.out _) | exact HK.out)) (KeepBut.of_below hb g none) (.inl rfl)) (below_step (by repeat (first | (with_reducible first | exact HB.out | apply below_alloc | apply pw_below_drewN | apply below_drew1 | refine below_set ?_ (IsS102.ge HI0.out) | refine below_set ?_ GE350.out) | exact HB.out)) hb) hbox ((by rw [hg]; exact (keep_size (w := w) (g := g) (row := none) (by repeat (first | (with_reducible first | exact HK.out | apply KeepBut.set_ | apply keep_drewN | apply keep_drew | apply keep_alloc | refine keep_far ?_ GW350.out _) | exact HK.out))) : w.heap.size ≤ gb357)) ((Nat.le_trans HW0.out (by rw [hg]; exact (keep_size (w := w) (g := g) (row := none) (by repeat (first | (with_reducible first | exact HK.out | apply KeepBut.set_ | apply keep_drewN | apply keep_drew | apply keep_alloc | refine keep_far ?_ GW350.out _) | exact HK.out))) : w.heap.size ≤ gb357) : w0.heap.size ≤ gb357)) (nl_ hg (bk_ BK350)) (ng_ hg (bk_ BK350)) ((by rw [hg]; exact Nat.ne_of_lt (IsS102.lt (show IsS102 w0 _ g s0_0 t355 t356 from by repeat (first | (with_reducible first | exact HI0.out | apply IsS102.alloc | apply IsS102.drewN | apply IsS102.drew | apply IsS102.set_1 | apply IsS102.set_2 | refine IsS102.far ?_ NB0_350.out _) | exact HI0.out))) : g ≠ gb357)) ((by rw [hg]; exact Nat.ne_of_gt (IsS102.lt (show IsS102 w0 _ g s0_0 t355 t356 from by repeat (first | (with_reducible first | exact HI0.out | apply IsS102.alloc | apply IsS102.drewN | apply IsS102.drew | apply IsS102.set_1 | apply IsS102.set_2 | refine IsS102.far ?_ NB0_350.out _) | exact HI0.out))) : gb357 ≠ g)) ?_; clear HI0 BK350 HK HB hb hbox hg; intro HI0 BK350 HK HB BK357 GW357 GE357 NB350_357 NB357_350 NB0_357 NB357_0; have hnb26 := NB357_350.out; have hnc26 := NB350_357.out; have hnb27 := NB357_0.out; have hnc27 := NB0_357.out; have hcz28 := cf2_ BK357) | ((with_reducible refine gate_callee (f := 77) rfl ?_); refine goesL_ (some 10) rfl rfl Try.func77 (by kernel_rfl) rfl #[.pointer (some ⟨g, 0, none⟩), iv_ 6] rfl mp_ ?_; (with_reducible refine (spec_l1Once.calls g s0_0 t355 t356 6 false t359 t360 w0 _ ?side1 ?side2 A4.out).mono ?_); (case side1 => repeat (first | (with_reducible first | exact HI0.out | apply IsS102.alloc | apply IsS102.drewN | apply IsS102.drew | apply IsS102.set_1 | apply IsS102.set_2 | refine IsS102.far ?_ NB0_350.out _ | refine IsS102.far ?_ NB0_357.out _) | exact HI0.out)); (case side2 => repeat (first | (with_reducible first | exact HB.out | apply below_alloc | apply pw_below_drewN | apply below_drew1 | refine below_set ?_ (IsS102.ge HI0.out) | refine below_set ?_ GE350.out | refine below_set ?_ GE357.out) | exact HB.out)); rintro e w29 ⟨rfl, hi, hb, hk⟩; refine ⟨_, rfl, sh5_ (KeepBut.blk hk (g' := gb350) (o := .cells #[iv_ 0, iv_ 0] 35 (0, 0)) (bp_ BK350) NB350_0.out (by simp)) (KeepBut.blk hk (g' := gb357) (o := .cells #[iv_ t351, iv_ t354] 35 (0, 0)) (bp_ BK357) NB357_0.out (by simp)) (KeepBut.trans (by repeat (first | (with_reducible first | exact HK.out | apply KeepBut.set_ | apply keep_drewN | apply keep_drew | apply keep_alloc | refine keep_far ?_ GW350.out _ | refine keep_far ?_ GW357.out _) | exact HK.out)) hk (.inl rfl)) hb hi ?_⟩; clear BK350 BK357 HK HB HI0 hb hk hi; intro BK350 BK357 HK HB HI0; have hcz30 := cf2_ BK357; have hnb31 := NB350_0.out; have hnc31 := NB0_350.out; have hcz32 := cf2_ BK350))
  refine bodyPost_ret (results_cell_row rfl _ _ gb350 35 #[iv_ t351, iv_ t354] (0, 0) _ rfl (bp_ BK350) Try.underlying35 rfl (by kernel_rfl)) rfl ?_
  exact ⟨by first | (rw [hRT_.out]; rfl) | exact er_, by repeat (first | (with_reducible first | exact HI0.out | apply IsS102.alloc | apply IsS102.drewN | apply IsS102.drew | apply IsS102.set_1 | apply IsS102.set_2 | refine IsS102.far ?_ NB0_350.out _ | refine IsS102.far ?_ NB0_357.out _) | exact HI0.out), by repeat (first | (with_reducible first | exact HB.out | apply below_alloc | apply pw_below_drewN | apply below_drew1 | refine below_set ?_ (IsS102.ge HI0.out) | refine below_set ?_ GE350.out | refine below_set ?_ GE357.out) | exact HB.out), by repeat (first | (with_reducible first | exact HK.out | apply KeepBut.set_ | apply keep_drewN | apply keep_drew | apply keep_alloc | refine keep_far ?_ GW350.out _ | refine keep_far ?_ GW357.out _) | exact HK.out)⟩

/-! ### spec_l6Draw: function 127 -/
def spec_l6Draw.f (s0_0 : List Int) (s0_1 : Int) (s0_2 : Int) : Option (Int × Int × Int × Int × Int × Int) := (spec_l1Below.f s0_0 s0_1 s0_2 3).bind fun bt368 => ((spec_l1Below.f s0_0 bt368.2.1 bt368.2.2 12).bind fun bt371 => ((spec_l1Int.f s0_0 bt371.2.1 bt371.2.2 (([5, 10, 12, (-10), 0] : List Int))).bind fun bt377 => ((spec_l1Below.f s0_0 bt377.2.1 bt377.2.2 3).bind fun bt380 => (some (bt368.1, wrap64 (30 * bt371.1), bt377.1, bt380.1, bt380.2.1, bt380.2.2)))))
set_option maxHeartbeats 8000000 in
set_option maxRecDepth 100000 in
theorem spec_l6Draw.calls (g : Nat) (s0_0 : List Int) (s0_1 : Int) (s0_2 : Int) (r1 : Int) (r2 : Int) (r3 : Int) (r4 : Int) (r5 : Int) (r6 : Int) (w0 w : World) (hI : IsS102 w0 w g s0_0 s0_1 s0_2) (hB : Below w0.heap.size w0 w) (h : spec_l6Draw.f s0_0 s0_1 s0_2 = some (r1, r2, r3, r4, r5, r6)) :
  Calls Try.prog 127 #[.pointer (some ⟨g, 0, none⟩)] w fun e w' => e = .returned (.agg #[iv_ r1, iv_ r2, iv_ r3, iv_ r4]) ∧ IsS102 w0 w' g s0_0 r5 r6 ∧ Below w0.heap.size w0 w' ∧ KeepBut w w' g none := by
 have hu72 := Try.underlying72
 have HI0 := Aside0.mk hI
 have HK := Aside0.mk (KeepBut.refl w g none)
 have HL := Aside0.mk hB.size
 clear hI
 have HW0 := Aside0.mk hB.size
 have HB := Aside0.mk hB
 clear hB
 have H := h
 clear h
 unfold spec_l6Draw.f at H
 replace H := bs_ H
 obtain ⟨⟨t368, t369, t370⟩, A2, H⟩ := H
 dsimp only at H
 replace H := bs_ H
 obtain ⟨⟨t371, t372, t373⟩, A3, H⟩ := H
 dsimp only at H
 replace H : ∃ y_ : List Int, Aside0 (y_ = (([5, 10, 12, (-10), 0] : List Int))) ∧ ((spec_l1Int.f s0_0 t372 t373 y_).bind fun bt377 => ((spec_l1Below.f s0_0 bt377.2.1 bt377.2.2 3).bind fun bt380 => (some (t368, wrap64 (30 * t371), bt377.1, bt380.1, bt380.2.1, bt380.2.2)))) = some (r1, r2, r3, r4, r5, r6) := ⟨_, ⟨rfl⟩, yh_ H⟩
 obtain ⟨y374, Ny374, H⟩ := H
 replace H := bs_ H
 obtain ⟨⟨t377, t378, t379⟩, A4, H⟩ := H
 dsimp only at H
 replace H := bs_ H
 obtain ⟨⟨t380, t381, t382⟩, A5, H⟩ := H
 dsimp only at H
 simp only [Option.some.injEq, Prod.mk.injEq] at H
 obtain ⟨rfl, rfl, rfl, rfl, rfl, rfl⟩ := H
 go_enter Try.func127, Try.ntmps127
 go_wp2_with (first | ((with_reducible refine gd_ 2 ?_); refine bx_ 2 72 #[iv_ 0, iv_ 0, iv_ 0, iv_ 0] ?_; intro gb367 hg w6 hbox hb; refine sh8_ (IsS102.below (by repeat (first | (with_reducible first | exact HI0.out | apply IsS102.alloc | apply IsS102.drewN | apply IsS102.drew | apply IsS102.set_1 | apply IsS102.set_2) | exact HI0.out)) hb) (KeepBut.trans (by repeat (first | (with_reducible first | exact HK.out | apply KeepBut.set_ | apply keep_drewN | apply keep_drew | apply keep_alloc) | exact HK.out)) (KeepBut.of_below hb g none) (.inl rfl)) (below_step (by repeat (first | (with_reducible first | exact HB.out | apply below_alloc | apply pw_below_drewN | apply below_drew1 | refine below_set ?_ (IsS102.ge HI0.out)) | exact HB.out)) hb) hbox ((by rw [hg]; exact (keep_size (w := w) (g := g) (row := none) (by repeat (first | (with_reducible first | exact HK.out | apply KeepBut.set_ | apply keep_drewN | apply keep_drew | apply keep_alloc) | exact HK.out))) : w.heap.size ≤ gb367)) ((Nat.le_trans HW0.out (by rw [hg]; exact (keep_size (w := w) (g := g) (row := none) (by repeat (first | (with_reducible first | exact HK.out | apply KeepBut.set_ | apply keep_drewN | apply keep_drew | apply keep_alloc) | exact HK.out))) : w.heap.size ≤ gb367) : w0.heap.size ≤ gb367)) ((by rw [hg]; exact Nat.ne_of_lt (IsS102.lt (show IsS102 w0 _ g s0_0 s0_1 s0_2 from by repeat (first | (with_reducible first | exact HI0.out | apply IsS102.alloc | apply IsS102.drewN | apply IsS102.drew | apply IsS102.set_1 | apply IsS102.set_2) | exact HI0.out))) : g ≠ gb367)) ((by rw [hg]; exact Nat.ne_of_gt (IsS102.lt (show IsS102 w0 _ g s0_0 s0_1 s0_2 from by repeat (first | (with_reducible first | exact HI0.out | apply IsS102.alloc | apply IsS102.drewN | apply IsS102.drew | apply IsS102.set_1 | apply IsS102.set_2) | exact HI0.out))) : gb367 ≠ g)) ?_; clear HI0 HK HB hb hbox hg; intro HI0 HK HB BK367 GW367 GE367 NB0_367 NB367_0) | ((with_reducible refine gate_callee (f := 60) rfl ?_); refine goesL_ (some 4) rfl rfl Try.func60 (by kernel_rfl) rfl #[.pointer (some ⟨g, 0, none⟩), iv_ 3] rfl mp_ ?_; (with_reducible refine (spec_l1Below.calls g s0_0 s0_1 s0_2 3 t368 t369 t370 w0 _ ?side1 ?side2 A2.out).mono ?_); (case side1 => repeat (first | (with_reducible first | exact HI0.out | apply IsS102.alloc | apply IsS102.drewN | apply IsS102.drew | apply IsS102.set_1 | apply IsS102.set_2 | refine IsS102.far ?_ NB0_367.out _) | exact HI0.out)); (case side2 => repeat (first | (with_reducible first | exact HB.out | apply below_alloc | apply pw_below_drewN | apply below_drew1 | refine below_set ?_ (IsS102.ge HI0.out) | refine below_set ?_ GE367.out) | exact HB.out)); rintro e w7 ⟨rfl, hi, hb, hk⟩; refine ⟨_, rfl, sh4_ (KeepBut.blk hk (g' := gb367) (o := .cells #[iv_ 0, iv_ 0, iv_ 0, iv_ 0] 72 (0, 0)) (bk_ BK367) NB367_0.out (by simp)) (KeepBut.trans (by repeat (first | (with_reducible first | exact HK.out | apply KeepBut.set_ | apply keep_drewN | apply keep_drew | apply keep_alloc | refine keep_far ?_ GW367.out _) | exact HK.out)) hk (.inl rfl)) hb hi ?_⟩; clear BK367 HK HB HI0 hb hk hi; intro BK367 HK HB HI0) | ((with_reducible refine gate_callee (f := 60) rfl ?_); refine goesL_ (some 6) rfl rfl Try.func60 (by kernel_rfl) rfl #[.pointer (some ⟨g, 0, none⟩), iv_ 12] rfl mp_ ?_; (with_reducible refine (spec_l1Below.calls g s0_0 t369 t370 12 t371 t372 t373 w0 _ ?side1 ?side2 A3.out).mono ?_); (case side1 => repeat (first | (with_reducible first | exact HI0.out | apply IsS102.alloc | apply IsS102.drewN | apply IsS102.drew | apply IsS102.set_1 | apply IsS102.set_2 | refine IsS102.far ?_ NB0_367.out _) | exact HI0.out)); (case side2 => repeat (first | (with_reducible first | exact HB.out | apply below_alloc | apply pw_below_drewN | apply below_drew1 | refine below_set ?_ (IsS102.ge HI0.out) | refine below_set ?_ GE367.out) | exact HB.out)); rintro e w8 ⟨rfl, hi, hb, hk⟩; refine ⟨_, rfl, sh4_ (KeepBut.blk hk (g' := gb367) (o := .cells #[iv_ 0, iv_ 0, iv_ 0, iv_ 0] 72 (0, 0)) (bk_ BK367) NB367_0.out (by simp)) (KeepBut.trans (by repeat (first | (with_reducible first | exact HK.out | apply KeepBut.set_ | apply keep_drewN | apply keep_drew | apply keep_alloc | refine keep_far ?_ GW367.out _) | exact HK.out)) hk (.inl rfl)) hb hi ?_⟩; clear BK367 HK HB HI0 hb hk hi; intro BK367 HK HB HI0) | ((with_reducible refine gate_dst (N := 9) rfl ?_); refine Kd.R_lit (Kd.int .i64) _ 3 ?hg (N := 9) ?hd (xs := ([5, 10, 12, (-10), 0] : List Int)) (inner := [iv_ 5, iv_ 10, iv_ 12, iv_ (-10), iv_ 0]) (ok := fun _ => True) (okp := fun _ => True) ?hr ?hp (fun _ hk => hk) trivial (Below.refl _ _) (Nat.le_refl _) (by simp) ?_; (case hd => rfl); (case hg => rfl); (case hr => first | (go_simp; done) | (go_simp; rfl)); (case hp => exact (Reps.one (show Kd.M (Kd.int .i64) _ _ _ 5 [iv_ 5] from rfl) (Reps.one (show Kd.M (Kd.int .i64) _ _ _ 10 [iv_ 10] from rfl) (Reps.one (show Kd.M (Kd.int .i64) _ _ _ 12 [iv_ 12] from rfl) (Reps.one (show Kd.M (Kd.int .i64) _ _ _ (-10) [iv_ (-10)] from rfl) (Reps.one (show Kd.M (Kd.int .i64) _ _ _ 0 [iv_ 0] from rfl) (Reps.none _ _))))))); intro v375 w9 ho10 hb hg_ hnew_; clear hg_ hnew_; (first | rw [← Ny374.out] at ho10 | (simp only [Int.reduceToNat] at ho10; rw [← Ny374.out] at ho10)); refine sh5_ (Kd.R_lower ho10 (keep_size (w := w) (g := g) (row := none) (by repeat (first | (with_reducible first | exact HK.out | apply KeepBut.set_ | apply keep_drewN | apply keep_drew | apply keep_alloc | refine keep_far ?_ GW367.out _) | exact HK.out)))) (IsS102.below (by repeat (first | (with_reducible first | exact HI0.out | apply IsS102.alloc | apply IsS102.drewN | apply IsS102.drew | apply IsS102.set_1 | apply IsS102.set_2 | refine IsS102.far ?_ NB0_367.out _) | exact HI0.out)) hb) (blk_below (bk_ BK367) hb) (KeepBut.trans (by repeat (first | (with_reducible first | exact HK.out | apply KeepBut.set_ | apply keep_drewN | apply keep_drew | apply keep_alloc | refine keep_far ?_ GW367.out _) | exact HK.out)) (KeepBut.of_below hb g none) (.inl rfl)) (below_step (by repeat (first | (with_reducible first | exact HB.out | apply below_alloc | apply pw_below_drewN | apply below_drew1 | refine below_set ?_ (IsS102.ge HI0.out) | refine below_set ?_ GE367.out) | exact HB.out)) hb) ?_; clear HI0 BK367 HK HB hb ho10; intro HO376 HI0 BK367 HK HB; obtain ⟨Ao11, co11, eo11⟩ := Kd.R_slice HO376.out; subst eo11) | ((with_reducible refine gate_callee (f := 91) rfl ?_); refine goesL_ (some 10) rfl rfl Try.func91 (by kernel_rfl) rfl #[.pointer (some ⟨g, 0, none⟩), .slice Ao11 y374.length co11] rfl mp_ ?_; (with_reducible refine (spec_l1Int.calls g s0_0 t372 t373 _ _ y374 t377 t378 t379 w0 _ ?side1 ?side2 ?side3 ?side4 ?side5 A4.out).mono ?_); (case side1 => repeat (first | (with_reducible first | exact HI0.out | apply IsS102.alloc | apply IsS102.drewN | apply IsS102.drew | apply IsS102.set_1 | apply IsS102.set_2 | refine IsS102.far ?_ NB0_367.out _) | exact HI0.out)); (case side2 => repeat (first | (with_reducible first | exact HB.out | apply below_alloc | apply pw_below_drewN | apply below_drew1 | refine below_set ?_ (IsS102.ge HI0.out) | refine below_set ?_ GE367.out) | exact HB.out)); (case side3 => repeat (first | exact (Kd.R_reads' HO376.out).2.2 | (with_reducible refine Kd.C_alloc ?_ _) | (with_reducible refine Kd.C_drewN ?_ _) | (with_reducible refine Kd.C_drew ?_))); (case side4 => exact (Kd.R_reads' HO376.out).2.1); (case side5 => exact far_slice (IsS102.own_ne HI0.out HO376.out (by decide))); rintro e w12 ⟨rfl, hi, hb, hk⟩; refine ⟨_, rfl, sh5_ (KeepBut.blk hk (g' := gb367) (o := .cells #[iv_ 0, iv_ 0, iv_ 0, iv_ 0] 72 (0, 0)) (bk_ BK367) NB367_0.out (by simp)) (Kd.R_mono (Kd.R_keep (IsS102.apart (show IsS102 w0 _ g s0_0 t372 t373 from by repeat (first | (with_reducible first | exact HI0.out | apply IsS102.alloc | apply IsS102.drewN | apply IsS102.drew | apply IsS102.set_1 | apply IsS102.set_2 | refine IsS102.far ?_ NB0_367.out _) | exact HI0.out)) (ra_ HO376) (by decide)) hk (fun _ h => h.2)) (fun _ h => h.1)) (KeepBut.trans (by repeat (first | (with_reducible first | exact HK.out | apply KeepBut.set_ | apply keep_drewN | apply keep_drew | apply keep_alloc | refine keep_far ?_ GW367.out _) | exact HK.out)) hk (.inl rfl)) hb hi ?_⟩; clear BK367 HO376 HK HB HI0 hb hk hi; intro BK367 HO376 HK HB HI0) | ((with_reducible refine gate_callee (f := 60) rfl ?_); refine goesL_ (some 12) rfl rfl Try.func60 (by kernel_rfl) rfl #[.pointer (some ⟨g, 0, none⟩), iv_ 3] rfl mp_ ?_; (with_reducible refine (spec_l1Below.calls g s0_0 t378 t379 3 t380 t381 t382 w0 _ ?side1 ?side2 A5.out).mono ?_); (case side1 => repeat (first | (with_reducible first | exact HI0.out | apply IsS102.alloc | apply IsS102.drewN | apply IsS102.drew | apply IsS102.set_1 | apply IsS102.set_2 | refine IsS102.far ?_ NB0_367.out _) | exact HI0.out)); (case side2 => repeat (first | (with_reducible first | exact HB.out | apply below_alloc | apply pw_below_drewN | apply below_drew1 | refine below_set ?_ (IsS102.ge HI0.out) | refine below_set ?_ GE367.out) | exact HB.out)); rintro e w13 ⟨rfl, hi, hb, hk⟩; refine ⟨_, rfl, sh5_ (KeepBut.blk hk (g' := gb367) (o := .cells #[iv_ 0, iv_ 0, iv_ 0, iv_ 0] 72 (0, 0)) (bk_ BK367) NB367_0.out (by simp)) (Kd.R_mono (Kd.R_keep (IsS102.apart (show IsS102 w0 _ g s0_0 t378 t379 from by repeat (first | (with_reducible first | exact HI0.out | apply IsS102.alloc | apply IsS102.drewN | apply IsS102.drew | apply IsS102.set_1 | apply IsS102.set_2 | refine IsS102.far ?_ NB0_367.out _) | exact HI0.out)) (ra_ HO376) (by decide)) hk (fun _ h => h.2)) (fun _ h => h.1)) (KeepBut.trans (by repeat (first | (with_reducible first | exact HK.out | apply KeepBut.set_ | apply keep_drewN | apply keep_drew | apply keep_alloc | refine keep_far ?_ GW367.out _) | exact HK.out)) hk (.inl rfl)) hb hi ?_⟩; clear BK367 HO376 HK HB HI0 hb hk hi; intro BK367 HO376 HK HB HI0; have hnb14 := NB367_0.out; have hnc14 := NB0_367.out; have hcz15 := cf4_ BK367))
 refine bodyPost_ret (results_cell_row rfl _ _ gb367 72 #[iv_ t368, iv_ (wrap64 (30 * t371)), iv_ t377, iv_ t380] (0, 0) _ rfl (bp_ BK367) Try.underlying72 rfl (by kernel_rfl)) rfl ?_
 exact ⟨by first | (rw [hRT_.out]; rfl) | exact er_, by repeat (first | (with_reducible first | exact HI0.out | apply IsS102.alloc | apply IsS102.drewN | apply IsS102.drew | apply IsS102.set_1 | apply IsS102.set_2 | refine IsS102.far ?_ NB0_367.out _) | exact HI0.out), by repeat (first | (with_reducible first | exact HB.out | apply below_alloc | apply pw_below_drewN | apply below_drew1 | refine below_set ?_ (IsS102.ge HI0.out) | refine below_set ?_ GE367.out) | exact HB.out), by repeat (first | (with_reducible first | exact HK.out | apply KeepBut.set_ | apply keep_drewN | apply keep_drew | apply keep_alloc | refine keep_far ?_ GW367.out _) | exact HK.out)⟩

end Go.Proofs.Ytopbkdcicidajaa.PFnShadows
