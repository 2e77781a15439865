-- Written by a program of this session for this claim (the kit's printer with changes).
import Derived.Test.YtcjfalmhohcifaaQFnExactCutCloudsx0
namespace Go.Proofs.Ytcjfalmhohcifaa.PFnExactCutClouds
open Go.RowKit Go.Proofs.YtcjfalmhohcifaaW.PrintWords Go.Proofs.YtcjfalmhohcifaaW.PrintLast Go.Proofs.YtcjfalmhohcifaaW.PrintMore
attribute [local go_sem] max2_int min2_int max_two min_two max_three min_three max_four min_four   -- for this text's walks alone
set_option linter.unusedVariables false
set_option linter.unusedSimpArgs false

/-! ### laws_szContactS: function 18 -/
def laws_szContactS.f (l0 : List (S85)) (a1 : Int) : Option (Int) := if (wrap64 (a1 - (l0.length : Int))) < 0 then (some (-1)) else (some (wrap64 (a1 - (l0.length : Int))))
set_option maxHeartbeats 8000000 in
set_option maxRecDepth 100000 in
theorem laws_szContactS.calls (A0 : Option Addr) (c0 : Nat) (l0 : List (S85)) (a1 : Int) (r : Int) (w : World) (hr0 : Kd.C k85 w A0 l0.length l0) (hc0 : l0.length ≤ c0) (h : laws_szContactS.f l0 a1 = some r) :
  Calls Try.prog 18 #[.slice A0 l0.length c0, .int .i64 a1] w fun e w' => e = .returned (.int .i64 r) ∧ Drawn0 w w' := by
 have HR0 := Aside0.mk hr0
 have HC0 := Aside0.mk hc0
 clear hr0 hc0
 have H := h
 clear h
 unfold laws_szContactS.f at H
 by_cases c3 : (wrap64 (a1 - (l0.length : Int))) < 0
 ·rw [if_pos c3] at H
  have c3b0 := decide_eq_true c3
  clear c3
  obtain rfl := Option.some.inj H
  go_enter Try.func18, Try.ntmps18
  go_wp2
  go_ret
  exact ⟨by first | rfl | (simp; done) | (simp [*]; done), by repeat (first | exact Drawn0.refl _ | apply Drawn0.step)⟩
 ·rw [if_neg c3] at H
  have c3b0 := decide_eq_false c3
  clear c3
  obtain rfl := Option.some.inj H
  go_enter Try.func18, Try.ntmps18
  go_wp2
  go_ret
  exact ⟨by first | rfl | (simp; done) | (simp [*]; done), by repeat (first | exact Drawn0.refl _ | apply Drawn0.step)⟩

/-! ### laws_szCloudS: function 19 -/
def laws_szCloudS.f (l0 : List (S89)) (a1 : Int) : Option (Int) := if (wrap64 (a1 - (l0.length : Int))) < 0 then (some (-1)) else (some (wrap64 (a1 - (l0.length : Int))))
set_option maxHeartbeats 8000000 in
set_option maxRecDepth 100000 in
theorem laws_szCloudS.calls (A0 : Option Addr) (c0 : Nat) (l0 : List (S89)) (a1 : Int) (r : Int) (w : World) (hr0 : Kd.C k89 w A0 l0.length l0) (hc0 : l0.length ≤ c0) (h : laws_szCloudS.f l0 a1 = some r) :
  Calls Try.prog 19 #[.slice A0 l0.length c0, .int .i64 a1] w fun e w' => e = .returned (.int .i64 r) ∧ Drawn0 w w' := by
 have HR0 := Aside0.mk hr0
 have HC0 := Aside0.mk hc0
 clear hr0 hc0
 have H := h
 clear h
 unfold laws_szCloudS.f at H
 by_cases c3 : (wrap64 (a1 - (l0.length : Int))) < 0
 ·rw [if_pos c3] at H
  have c3b0 := decide_eq_true c3
  clear c3
  obtain rfl := Option.some.inj H
  go_enter Try.func19, Try.ntmps19
  go_wp2
  go_ret
  exact ⟨by first | rfl | (simp; done) | (simp [*]; done), by repeat (first | exact Drawn0.refl _ | apply Drawn0.step)⟩
 ·rw [if_neg c3] at H
  have c3b0 := decide_eq_false c3
  clear c3
  obtain rfl := Option.some.inj H
  go_enter Try.func19, Try.ntmps19
  go_wp2
  go_ret
  exact ⟨by first | rfl | (simp; done) | (simp [*]; done), by repeat (first | exact Drawn0.refl _ | apply Drawn0.step)⟩

/-! ### spec_l4Put: function 77 -/
def spec_l4Put.f (l0 : List (S73)) (a1 : Int) : Option ((List (S73))) := if (l0.length : Int) > 0 then (if 0 ≤ (wrap64 ((l0.length : Int) - 1)) then (if (wrap64 ((l0.length : Int) - 1)) < (l0.length : Int) then (if ((rd_T73 l0 (wrap64 ((l0.length : Int) - 1))).f1) = a1 then (some (l0.set ((wrap64 ((l0.length : Int) - 1)) : Int).toNat (⟨(rd_T73 l0 (wrap64 ((l0.length : Int) - 1))).f0, wrap64 (a1 + 1)⟩ : S73))) else (if l0.length < 8796093022208 then (some (l0 ++ [(⟨a1, wrap64 (a1 + 1)⟩ : S73)])) else (none))) else (none)) else (none)) else (if l0.length < 8796093022208 then (some (l0 ++ [(⟨a1, wrap64 (a1 + 1)⟩ : S73)])) else (none))
set_option maxHeartbeats 8000000 in
set_option maxRecDepth 100000 in
theorem spec_l4Put.calls (P0_ : Nat → Prop) (u9000_ : Value) (l0 : List (S73)) (a1 : Int) (r : List (S73)) (w0 w : World) (hB : Below w0.heap.size w0 w) (ho0 : Kd.R k73 73 w w0.heap.size P0_ u9000_ l0) (h : spec_l4Put.f l0 a1 = some r) :
  Calls Try.prog 77 #[u9000_, .int .i64 a1] w fun e w' => ∃ v0_ : Value, e = .returned (v0_) ∧ Kd.R k73 73 w' w0.heap.size (fun k_ => (P0_ k_ ∨ w.heap.size ≤ k_)) v0_ r ∧ Below w0.heap.size w0 w' ∧ Kept w w' (fun k_ => P0_ k_) := by
 have hu73 := Try.underlying73
 have HO0 := Aside0.mk (show Kd.R k73 73 w w0.heap.size (fun k_ => (P0_ k_ ∨ w.heap.size ≤ k_)) u9000_ l0 from Kd.R_mono ho0 (fun k_ hk => (.inl hk)))
 have HK := Aside0.mk (Kept.refl w (fun k_ => P0_ k_))
 have HW0 := Aside0.mk hB.size
 have HB := Aside0.mk hB
 clear hB
 have H := h
 clear h
 unfold spec_l4Put.f at H
 by_cases c3 : (l0.length : Int) > 0
 ·rw [if_pos c3] at H
  have c3b0 : decide (0 < (l0.length : Int)) = true := decide_eq_true c3
  have c3b1 : decide (0 < l0.length) = true := decide_eq_true (by omega)
  clear c3
  obtain ⟨ji4, hji4⟩ : ∃ j_ : Int, (wrap64 ((l0.length : Int) - 1)) = j_ := ⟨_, rfl⟩
  replace H : (if 0 ≤ (ji4) then (if (ji4) < (l0.length : Int) then (if ((rd_T73 l0 (ji4)).f1) = a1 then (some (l0.set ((ji4) : Int).toNat (⟨(rd_T73 l0 (ji4)).f0, wrap64 (a1 + 1)⟩ : S73))) else (if l0.length < 8796093022208 then (some (l0 ++ [(⟨a1, wrap64 (a1 + 1)⟩ : S73)])) else (none))) else (none)) else (none)) = some r := by first | (rw [hji4] at H; exact H) | (simp only [hji4] at H ⊢; exact H)
  have hji4w : (IntKind.i64.wrap ((l0.length : Int) - 1)) = ji4 := (i64_w _).trans hji4
  replace H := ifn_ H
  obtain ⟨c5, H⟩ := H
  have c5b0 := decide_eq_true c5
  clear c5
  replace H := ifn_ H
  obtain ⟨c6, H⟩ := H
  have c6b0 := decide_eq_true c6
  clear c6
  by_cases c7 : ((rd_T73 l0 (ji4)).f1) = a1
  ·rw [if_pos c7] at H
   obtain ⟨c7b0, c7b1⟩ := bt_ c7
   clear c7
   replace H : ∃ y_ : List (S73), Aside0 (y_ = (l0.set ((ji4) : Int).toNat (⟨(rd_T73 l0 (ji4)).f0, wrap64 (a1 + 1)⟩ : S73))) ∧ (some y_) = some r := ⟨_, ⟨rfl⟩, yh_ H⟩
   obtain ⟨y102, Ny102, H⟩ := H
   obtain rfl := Option.some.inj H
   obtain ⟨Ao9, co9, eo9⟩ := Kd.R_slice HO0.out
   subst eo9
   have p101 : 0 ≤ ((ji4) : Int) := od_
   have q101 : (ji4) < (l0.length : Int) := od_
   obtain ⟨ad101, e101, hx101_0, hx101_1⟩ := at_T73 (Kd.R_reads' HO0.out).2.2 (ji4) p101 q101
   cases e101
   replace p101 := eq_true p101
   replace q101 := eq_true q101
   have p8 : 0 ≤ ((ji4) : Int) := od_
   have q8 : ((ji4) : Int) < ((l0.length : Int) : Int) := od_
   obtain ⟨go8, co8, eo8, gb8, gl8, cl8, HG8⟩ := Kd.R_form HO0.out (by omega)
   (first | cases eo8 | (injection eo8 with ea_ en_ ec_; (first | subst ea_ | (injection ea_ with ea_; subst ea_)); subst ec_; clear en_))
   have GB8 := Aside0.mk gb8
   have GG8 := Aside0.mk HG8
   clear gb8 gl8 HG8
   have HMgo8 := Aside0.mk (show (P0_ go8 ∨ w.heap.size ≤ go8) from (HO0.out.1 _ rfl))
   (first | simp only [add_plain] at hx101_0 | skip)
   (first | simp only [add_plain] at hx101_1 | skip)
   obtain ⟨ce8, hcl8, hM8, hcc8, hfr8⟩ := Kd.R_elem HO0.out z73 ((ji4) : Int) p8 q8
   obtain rfl := k73_openM hM8
   have hx8_0 : w.cell? ⟨go8, ((ji4) : Int).toNat * 2, none⟩ = some (.int .i64 ((rd_T73 l0 (ji4)).f0)) := hcc8 0 _ rfl
   have hx8_1 : w.cell? ⟨go8, ((ji4) : Int).toNat * 2 + 1, none⟩ = some (.int .i64 ((rd_T73 l0 (ji4)).f1)) := hcc8 1 _ rfl
   have hf8_0 : w.frozen? ⟨go8, ((ji4) : Int).toNat * 2, none⟩ = false := hfr8 0
   have hf8_1 : w.frozen? ⟨go8, ((ji4) : Int).toNat * 2 + 1, none⟩ = false := hfr8 1
   clear hcl8 hcc8 hfr8 hM8
   replace p8 := eq_true p8
   replace q8 := eq_true q8
   have HX10 := Aside0.mk (show Kd.R k73 73 w w0.heap.size (fun k_ => (P0_ k_ ∨ w.heap.size ≤ k_)) (.slice (some ⟨go8, 0, none⟩) l0.length co9) l0 from (ra_ HO0))
   obtain ⟨ce10, hcl10, hM10, hcc10, hfr10⟩ := Kd.R_elem HX10.out z73 ((ji4) : Int) od_ (by have h_ : ((ji4) : Int) < ((l0.length : Int) : Int) := od_; first | exact h_ | (have e_ := (Kd.R_reads' HO0.out).1; omega) | simpa using h_)
   obtain rfl := k73_openM hM10
   have HP10 := Kd.R_seg HX10.out ((ji4) : Int) od_ (by have h_ : ((ji4) : Int) < ((l0.length : Int) : Int) := od_; first | exact h_ | (have e_ := (Kd.R_reads' HO0.out).1; omega) | simpa using h_) (seg := [.int .i64 (wrap64 (a1 + 1))]) (j := 1) hcl10 hcc10 (show 2 ≤ 2 from by decide) (x' := (⟨(rd_T73 l0 (ji4)).f0, wrap64 (a1 + 1)⟩ : S73)) (k73_mkM _ _ _ (⟨(rd_T73 l0 (ji4)).f0, wrap64 (a1 + 1)⟩ : S73) ) (fun _ hk => hk)
   have hx10_1 := hcc10 1 _ rfl
   (try simp only [show (k73).sz = 2 from rfl, Nat.mul_one, Nat.add_zero] at hx10_1)
   have hf10_1 := hfr10 1
   (try simp only [show (k73).sz = 2 from rfl, Nat.mul_one, Nat.add_zero] at hf10_1)
   clear hcl10 hcc10 hfr10 hM10
   go_enter Try.func77, Try.ntmps77
   go_wp2_with (first | ((with_reducible refine gate_store (t := 3) (p := 26) rfl ?_); refine store_event (t := 3) (p := 26) (v := ?vo_w11) (w1 := (w.setCell ⟨go8, ((ji4) : Int).toNat * 2 + 1, none⟩ (.int .i64 (wrap64 (a1 + 1))))) ?hg ?ho ?hn ?hr ?_; (case ho => rfl); (case hg => rfl); (case hn => rfl); (case hr => first | (go_simp; done) | (go_simp; rfl)); intro w11 hw; have hg : w.grownBy w11 (some go8) := (by rw [hw]; exact HP10.2); have hp_ : Kd.R k73 73 w11 w0.heap.size (fun k_ => (P0_ k_ ∨ w.heap.size ≤ k_)) (.slice (some ⟨go8, 0, none⟩) l0.length co9) y102 := (by rw [hw, Ny102.out]; exact HP10.1); clear HP10; refine sh3_ hp_ ((by rw [hw]; exact below_set (HB.out) GB8.out : Below w0.heap.size w0 w11)) (Kept.of_grown (S := (fun k_ => P0_ k_)) hg (by repeat (first | (with_reducible first | exact HK.out | apply Kept.alloc | apply Kept.drewN | apply Kept.drew) | exact HK.out)) (fun k_ e_ => (HO0.out.1 k_ e_))) ?_; clear HO0 HB HK; intro HO0 HB HK; clear hg hw hp_))
   go_ret
   exact ⟨_, by first | rfl | (simp [errW_none, errW_some] <;> rfl) | (simp only [← hji4]; first | rfl | (simp [errW_none, errW_some] <;> rfl)) | (simp [*, errW_none, errW_some] <;> rfl), ra_ HO0, bl_ HB, by repeat (first | (with_reducible first | exact HK.out | apply Kept.alloc | apply Kept.drewN | apply Kept.drew) | exact HK.out)⟩
  ·rw [if_neg c7] at H
   obtain ⟨c7b0, c7b1⟩ := bn_ c7
   replace H := ifn_ H
   obtain ⟨c12, H⟩ := H
   have LMc12 := Aside0.mk c12
   clear c12
   replace H : ∃ y_ : List (S73), Aside0 (y_ = (l0 ++ [(⟨a1, wrap64 (a1 + 1)⟩ : S73)])) ∧ (some y_) = some r := ⟨_, ⟨rfl⟩, yh_ H⟩
   obtain ⟨y103, Ny103, H⟩ := H
   obtain rfl := Option.some.inj H
   obtain ⟨Ao13, co13, eo13⟩ := Kd.R_slice HO0.out
   subst eo13
   have p101 : 0 ≤ ((ji4) : Int) := od_
   have q101 : (ji4) < (l0.length : Int) := od_
   obtain ⟨ad101, e101, hx101_0, hx101_1⟩ := at_T73 (Kd.R_reads' HO0.out).2.2 (ji4) p101 q101
   cases e101
   replace p101 := eq_true p101
   replace q101 := eq_true q101
   go_enter Try.func77, Try.ntmps77
   go_wp2_with (first | ((with_reducible refine gate_builtin (b := .append) (xs := #[.tmp 28, .tmp 33]) rfl ?_); (try (refine gate_guard (by rfl) ?_; dsimp only)); at_builtin; refine Kd.R_append k73 (w0 := w0) w0.heap.size rfl (.tmp 28) (.tmp 33) 28 73 (.agg #[(.int .i64 0), (.int .i64 0)]) 16 rfl Try.underlying28 info73 rfl (by decide) (by omega) (.slice (some ad101) l0.length co13) l0 (⟨a1, wrap64 (a1 + 1)⟩ : S73) [.int .i64 a1, .int .i64 (wrap64 (a1 + 1))] (fun k_ => (P0_ k_ ∨ w.heap.size ≤ k_)) (fun _ => False) rfl rfl ?aP (fun _ hk => hk.elim) ?aF ?aO ?aB ?aS ?aL ?_; (case aP => exact k73_mkM _ _ _ (⟨a1, wrap64 (a1 + 1)⟩ : S73)); (case aB => exact (bl_ HB)); (case aF => exact (fun k_ hk => (.inr (Nat.le_trans (by first | exact HK.out.1 | exact (show Kept w _ (fun k_ => P0_ k_) from by repeat (first | (with_reducible first | exact HK.out | apply Kept.alloc | apply Kept.drewN | apply Kept.drew) | exact HK.out)).1) hk)))); (case aO => exact (ra_ HO0)); (case aS => exact (below_size (bl_ HB))); (case aL => have := LMc12.out; omega); intro v104 w14 ho hb hg hat; rw [← Ny103.out] at ho; refine sh3_ hb (Kept.of_grown (S := (fun k_ => P0_ k_)) hg (by repeat (first | (with_reducible first | exact HK.out | apply Kept.alloc | apply Kept.drewN | apply Kept.drew) | exact HK.out)) (fun k_ e_ => (HO0.out.1 k_ e_))) ho ?_; clear HB HK HO0 ho hb hg hat; intro HB HK HO105))
   go_ret
   exact ⟨_, by first | rfl | (simp [errW_none, errW_some] <;> rfl) | (simp only [← hji4]; first | rfl | (simp [errW_none, errW_some] <;> rfl)) | (simp [*, errW_none, errW_some] <;> rfl), ra_ HO105, bl_ HB, by repeat (first | (with_reducible first | exact HK.out | apply Kept.alloc | apply Kept.drewN | apply Kept.drew) | exact HK.out)⟩
 ·rw [if_neg c3] at H
  have c3b0 : decide (0 < (l0.length : Int)) = false := decide_eq_false c3
  have c3b1 : decide (0 < l0.length) = false := decide_eq_false (by omega)
  clear c3
  replace H := ifn_ H
  obtain ⟨c15, H⟩ := H
  have LMc15 := Aside0.mk c15
  clear c15
  replace H : ∃ y_ : List (S73), Aside0 (y_ = (l0 ++ [(⟨a1, wrap64 (a1 + 1)⟩ : S73)])) ∧ (some y_) = some r := ⟨_, ⟨rfl⟩, yh_ H⟩
  obtain ⟨y106, Ny106, H⟩ := H
  obtain rfl := Option.some.inj H
  obtain ⟨Ao16, co16, eo16⟩ := Kd.R_slice HO0.out
  subst eo16
  go_enter Try.func77, Try.ntmps77
  go_wp2_with (first | ((with_reducible refine gate_builtin (b := .append) (xs := #[.tmp 28, .tmp 33]) rfl ?_); (try (refine gate_guard (by rfl) ?_; dsimp only)); at_builtin; refine Kd.R_append k73 (w0 := w0) w0.heap.size rfl (.tmp 28) (.tmp 33) 28 73 (.agg #[(.int .i64 0), (.int .i64 0)]) 16 rfl Try.underlying28 info73 rfl (by decide) (by omega) (.slice Ao16 l0.length co16) l0 (⟨a1, wrap64 (a1 + 1)⟩ : S73) [.int .i64 a1, .int .i64 (wrap64 (a1 + 1))] (fun k_ => (P0_ k_ ∨ w.heap.size ≤ k_)) (fun _ => False) rfl rfl ?aP (fun _ hk => hk.elim) ?aF ?aO ?aB ?aS ?aL ?_; (case aP => exact k73_mkM _ _ _ (⟨a1, wrap64 (a1 + 1)⟩ : S73)); (case aB => exact (bl_ HB)); (case aF => exact (fun k_ hk => (.inr (Nat.le_trans (by first | exact HK.out.1 | exact (show Kept w _ (fun k_ => P0_ k_) from by repeat (first | (with_reducible first | exact HK.out | apply Kept.alloc | apply Kept.drewN | apply Kept.drew) | exact HK.out)).1) hk)))); (case aO => exact (ra_ HO0)); (case aS => exact (below_size (bl_ HB))); (case aL => have := LMc15.out; omega); intro v107 w17 ho hb hg hat; rw [← Ny106.out] at ho; refine sh3_ hb (Kept.of_grown (S := (fun k_ => P0_ k_)) hg (by repeat (first | (with_reducible first | exact HK.out | apply Kept.alloc | apply Kept.drewN | apply Kept.drew) | exact HK.out)) (fun k_ e_ => (HO0.out.1 k_ e_))) ho ?_; clear HB HK HO0 ho hb hg hat; intro HB HK HO108))
  go_ret
  exact ⟨_, er_, ra_ HO108, bl_ HB, by repeat (first | (with_reducible first | exact HK.out | apply Kept.alloc | apply Kept.drewN | apply Kept.drew) | exact HK.out)⟩

/-! ### spec_Max: function 73 -/
def spec_Max.f (a0 : Int) (a1 : Int) : Option (Int) := if a1 > a0 then (some a1) else (some a0)
set_option maxHeartbeats 8000000 in
set_option maxRecDepth 100000 in
theorem spec_Max.calls (a0 : Int) (a1 : Int) (r : Int) (w : World) (h : spec_Max.f a0 a1 = some r) :
  Calls Try.prog 73 #[.int .i64 a0, .int .i64 a1] w fun e w' => e = .returned (.int .i64 r) ∧ Drawn0 w w' := by
 have H := h
 clear h
 unfold spec_Max.f at H
 by_cases c3 : a1 > a0
 ·rw [if_pos c3] at H
  have c3b0 : decide (a0 < a1) = true := decide_eq_true c3
  clear c3
  obtain rfl := Option.some.inj H
  go_enter Try.func73, Try.ntmps73
  go_wp2
  go_ret
  exact ⟨by first | rfl | (simp; done) | (simp [*]; done), by repeat (first | exact Drawn0.refl _ | apply Drawn0.step)⟩
 ·rw [if_neg c3] at H
  have c3b0 : decide (a0 < a1) = false := decide_eq_false c3
  clear c3
  obtain rfl := Option.some.inj H
  go_enter Try.func73, Try.ntmps73
  go_wp2
  go_ret
  exact ⟨by first | rfl | (simp; done) | (simp [*]; done), by repeat (first | exact Drawn0.refl _ | apply Drawn0.step)⟩

/-! ### spec_IsSpan: function 95 -/
def spec_IsSpan.f (a0_0 : Int) (a0_1 : Int) : Option (Bool) := if a0_0 ≥ 0 then (if a0_1 ≤ 1000 then (some (decide (a0_0 < a0_1))) else (some false)) else (some false)
set_option maxHeartbeats 8000000 in
set_option maxRecDepth 100000 in
theorem spec_IsSpan.calls (a0_0 : Int) (a0_1 : Int) (r : Bool) (w : World) (h : spec_IsSpan.f a0_0 a0_1 = some r) :
  Calls Try.prog 95 #[.agg #[.int .i64 a0_0, .int .i64 a0_1]] w fun e w' => e = .returned (.bool r) ∧ Below w.heap.size w w' := by
 have hu73 := Try.underlying73
 have HB := Aside0.mk (Below.refl w.heap.size w)
 have H := h
 clear h
 unfold spec_IsSpan.f at H
 by_cases c2 : a0_0 ≥ 0
 ·rw [if_pos c2] at H
  have c2b0 : decide (0 ≤ a0_0) = true := decide_eq_true c2
  clear c2
  by_cases c3 : a0_1 ≤ 1000
  ·rw [if_pos c3] at H
   have c3b0 := decide_eq_true c3
   clear c3
   obtain rfl := Option.some.inj H
   go_enter Try.func95, Try.ntmps95
   go_wp2_with (first | ((with_reducible refine gd_ 1 ?_); refine bx_ 1 73 #[.int .i64 a0_0, .int .i64 a0_1] ?_; intro gb109 hg w4 hbox hb; refine sh4_ (below_step (bl_ HB) hb) hbox (ge_ hg (bl_ HB)) (ge_ hg (bl_ HB)) ?_; clear HB hb hbox hg; intro HB BK109 GW109 GE109; have hcz5 := cf2_ BK109))
   go_ret
   exact ⟨er_, bl1_ HB GE109⟩
  ·rw [if_neg c3] at H
   have c3b0 := decide_eq_false c3
   clear c3
   obtain rfl := Option.some.inj H
   go_enter Try.func95, Try.ntmps95
   go_wp2_with (first | ((with_reducible refine gd_ 1 ?_); refine bx_ 1 73 #[.int .i64 a0_0, .int .i64 a0_1] ?_; intro gb109 hg w6 hbox hb; refine sh4_ (below_step (bl_ HB) hb) hbox (ge_ hg (bl_ HB)) (ge_ hg (bl_ HB)) ?_; clear HB hb hbox hg; intro HB BK109 GW109 GE109; have hcz7 := cf2_ BK109))
   go_ret
   exact ⟨er_, bl1_ HB GE109⟩
 ·rw [if_neg c2] at H
  have c2b0 : decide (0 ≤ a0_0) = false := decide_eq_false c2
  clear c2
  obtain rfl := Option.some.inj H
  go_enter Try.func95, Try.ntmps95
  go_wp2_with (first | ((with_reducible refine gd_ 1 ?_); refine bx_ 1 73 #[.int .i64 a0_0, .int .i64 a0_1] ?_; intro gb109 hg w8 hbox hb; refine sh4_ (below_step (bl_ HB) hb) hbox (ge_ hg (bl_ HB)) (ge_ hg (bl_ HB)) ?_; clear HB hb hbox hg; intro HB BK109 GW109 GE109; have hcz9 := cf2_ BK109))
  go_ret
  exact ⟨er_, bl1_ HB GE109⟩

/-! ### spec_l4Last: function 79 -/
def spec_l4Last.l0 : Nat → List (S73) → Int → Int → Option (Int)
 | 0, _, _, _ => none
 | k + 1, x0, x3, x4 => if x4 < (x0.length : Int) then (if 0 ≤ x4 then ((spec_IsSpan.f ((rd_T73 x0 x4).f0) ((rd_T73 x0 x4).f1)).bind fun t111 => (if t111 = true then ((spec_Max.f x3 ((rd_T73 x0 x4).f1)).bind fun t113 => (spec_l4Last.l0 k x0 t113 (wrap64 (x4 + 1)))) else (spec_l4Last.l0 k x0 x3 (wrap64 (x4 + 1))))) else (none)) else (some x3)
def spec_l4Last.f (k : Nat) (l0 : List (S73)) : Option (Int) := spec_l4Last.l0 k l0 0 0
theorem spec_l4Last.mono_l : ∀ k, (∀ y0 y1 y2, LeO (spec_l4Last.l0 k y0 y1 y2) (spec_l4Last.l0 (k + 1) y0 y1 y2))
 | 0 => fun _ _ _ r h => by simp [spec_l4Last.l0] at h
 | k + 1 => by
  have ih0 := spec_l4Last.mono_l k
  ·intro y0 y1 y2
   unfold spec_l4Last.l0
   repeat' first | (with_reducible first | exact ih0 _ _ _ | exact LeO.refl _ | exact LeO.none _ | refine LeO.ite ?_ ?_ | refine LeO.bind ?_ (fun _ => ?_)) | exact LeO.none _ | refine LeO.ite ?_ ?_ | refine LeO.bind ?_ (fun _ => ?_)
theorem spec_l4Last.mono : ∀ a0 k, LeO (spec_l4Last.f k a0) (spec_l4Last.f (k + 1) a0) := by
 intro a0 k
 have ih0 := spec_l4Last.mono_l k
 unfold spec_l4Last.f
 repeat' first | (with_reducible first | exact ih0 _ _ _ | exact LeO.refl _ | exact LeO.none _ | refine LeO.ite ?_ ?_ | refine LeO.bind ?_ (fun _ => ?_)) | exact LeO.none _ | refine LeO.ite ?_ ?_ | refine LeO.bind ?_ (fun _ => ?_)
set_option maxHeartbeats 8000000 in
set_option maxRecDepth 100000 in
theorem spec_l4Last.calls (k : Nat) (A0 : Option Addr) (c0 : Nat) (l0 : List (S73)) (r : Int) (w : World) (hr0 : Kd.C k73 w A0 l0.length l0) (hc0 : l0.length ≤ c0) (h : spec_l4Last.f k l0 = some r) :
  Calls Try.prog 79 #[.slice A0 l0.length c0] w fun e w' => e = .returned (.int .i64 r) ∧ Below w.heap.size w w' := by
 have hu73 := Try.underlying73
 have HR0 := Aside0.mk hr0
 have HC0 := Aside0.mk hc0
 clear hr0 hc0
 have HB := Aside0.mk (Below.refl w.heap.size w)
 have H := h
 clear h
 unfold spec_l4Last.f at H
 have H' := Aside0.mk H
 clear H
 go_enter Try.func79, Try.ntmps79
 go_wp2
 go_loopg [3, 4] k (fun kq v3 v4 w' => ∃ (x3_1 : Int) (x4_1 : Int), v3 = .int .i64 x3_1 ∧ v4 = .int .i64 x4_1 ∧ Aside0 (spec_l4Last.l0 kq l0 x3_1 x4_1 = some r) ∧ Aside0 (kq ≤ k) ∧ Aside0 (Below w.heap.size w w'))
 case atStart => exact ⟨(0), (0), (by first | rfl | (simp; done) | (simp [*]; done)), (by first | rfl | (simp; done) | (simp [*]; done)), H', ⟨Nat.le_refl _⟩, ⟨bl_ HB⟩⟩
 case round =>
  clear H'
  obtain ⟨x3_1, x4_1, rfl, rfl, HA, HK1, HB⟩ := hrel
  cases gk with
  | zero => exact absurd HA.out (by simp [spec_l4Last.l0])
  | succ k1 =>
   have H := HA.out
   clear HA
   simp only [spec_l4Last.l0] at H
   by_cases c2 : x4_1 < (l0.length : Int)
   ·rw [if_pos c2] at H
    have c2b0 := decide_eq_true c2
    clear c2
    replace H := ifn_ H
    obtain ⟨c3, H⟩ := H
    have c3b0 := decide_eq_true c3
    clear c3
    replace H := bs_ H
    obtain ⟨t111, A4, H⟩ := H
    by_cases c5 : t111 = true
    ·subst c5
     rw [if_pos rfl] at H
     replace H := bs_ H
     obtain ⟨t113, A6, H⟩ := H
     have H' := Aside0.mk H
     clear H
     have p110 : 0 ≤ (x4_1 : Int) := od_
     have q110 : x4_1 < (l0.length : Int) := od_
     obtain ⟨ad110, e110, hx110_0, hx110_1⟩ := at_T73 HR0.out x4_1 p110 q110
     cases e110
     replace hx110_0 := hbc_ HB hx110_0
     replace hx110_1 := hbc_ HB hx110_1
     replace p110 := eq_true p110
     replace q110 := eq_true q110
     go_wp2_with (first | ((with_reducible refine gate_callee (f := 95) rfl ?_); refine gl_ 15 Try.func95 (spec_IsSpan.calls ((rd_T73 l0 x4_1).f0) ((rd_T73 l0 x4_1).f1) true _ A4.out) ?_; rintro e w7 ⟨rfl, hb⟩; refine ⟨_, rfl, sh1_ (below_step (bl_ HB) hb) ?_⟩; clear HB hb; intro HB; have p112 : 0 ≤ (x4_1 : Int) := od_; have q112 : x4_1 < (l0.length : Int) := od_; obtain ⟨ad112, e112, hx112_0, hx112_1⟩ := at_T73 HR0.out x4_1 p112 q112; obtain rfl : ad110 = ad112 := (by injection e112); replace hx112_0 := hbc_ HB hx112_0; replace hx112_1 := hbc_ HB hx112_1; replace p112 := eq_true p112; replace q112 := eq_true q112) | ((with_reducible refine gate_callee (f := 73) rfl ?_); refine gl_ 22 Try.func73 (spec_Max.calls x3_1 ((rd_T73 l0 x4_1).f1) t113 _ A6.out) ?_; rintro e w' ⟨rfl, ⟨nd, rfl⟩⟩; refine ⟨_, rfl, ?_⟩))
     go_roundg k1
     case measure => have := HK1.out; omega
     case rel => exact ⟨(t113), (wrap64 (x4_1 + 1)), (by first | rfl | (simp; done) | (simp [*]; done)), (by first | rfl | (simp; done) | (simp [*]; done)), H', ⟨by have := HK1.out; omega⟩, ⟨bl_ HB⟩⟩
    ·replace c5 := Bool.eq_false_iff.mpr c5
     subst c5
     have H1 : (spec_l4Last.l0 k1 l0 x3_1 (wrap64 (x4_1 + 1))) = some r := by rw [if_neg (show ¬ (false = true) by decide)] at H; exact H
     clear H
     have H := H1
     clear H1
     have H' := Aside0.mk H
     clear H
     have p110 : 0 ≤ (x4_1 : Int) := od_
     have q110 : x4_1 < (l0.length : Int) := od_
     obtain ⟨ad110, e110, hx110_0, hx110_1⟩ := at_T73 HR0.out x4_1 p110 q110
     cases e110
     replace hx110_0 := hbc_ HB hx110_0
     replace hx110_1 := hbc_ HB hx110_1
     replace p110 := eq_true p110
     replace q110 := eq_true q110
     go_wp2_with (first | ((with_reducible refine gate_callee (f := 95) rfl ?_); refine gl_ 15 Try.func95 (spec_IsSpan.calls ((rd_T73 l0 x4_1).f0) ((rd_T73 l0 x4_1).f1) false _ A4.out) ?_; rintro e w8 ⟨rfl, hb⟩; refine ⟨_, rfl, sh1_ (below_step (bl_ HB) hb) ?_⟩; clear HB hb; intro HB))
     go_roundg k1
     case measure => have := HK1.out; omega
     case rel => exact ⟨(x3_1), (wrap64 (x4_1 + 1)), (by first | rfl | (simp; done) | (simp [*]; done)), (by first | rfl | (simp; done) | (simp [*]; done)), H', ⟨by have := HK1.out; omega⟩, ⟨bl_ HB⟩⟩
   ·rw [if_neg c2] at H
    have c2b0 := decide_eq_false c2
    clear c2
    obtain rfl := Option.some.inj H
    go_wp2
    go_ret
    exact ⟨er_, bl_ HB⟩

/-! ### spec_InSpan: function 100 -/
def spec_InSpan.f (a0_0 : Int) (a0_1 : Int) (a1 : Int) : Option (Bool) := (spec_IsSpan.f a0_0 a0_1).bind fun t115 => (if t115 = true then (if a0_0 ≤ a1 then (some (decide (a1 < a0_1))) else (some false)) else (some false))
set_option maxHeartbeats 8000000 in
set_option maxRecDepth 100000 in
theorem spec_InSpan.calls (a0_0 : Int) (a0_1 : Int) (a1 : Int) (r : Bool) (w : World) (h : spec_InSpan.f a0_0 a0_1 a1 = some r) :
  Calls Try.prog 100 #[.agg #[.int .i64 a0_0, .int .i64 a0_1], .int .i64 a1] w fun e w' => e = .returned (.bool r) ∧ Below w.heap.size w w' := by
 have hu73 := Try.underlying73
 have HB := Aside0.mk (Below.refl w.heap.size w)
 have H := h
 clear h
 unfold spec_InSpan.f at H
 replace H := bs_ H
 obtain ⟨t115, A3, H⟩ := H
 by_cases c4 : t115 = true
 ·subst c4
  rw [if_pos rfl] at H
  by_cases c5 : a0_0 ≤ a1
  ·rw [if_pos c5] at H
   have c5b0 := decide_eq_true c5
   clear c5
   obtain rfl := Option.some.inj H
   go_enter Try.func100, Try.ntmps100
   go_wp2_with (first | ((with_reducible refine gd_ 2 ?_); refine bx_ 2 73 #[.int .i64 a0_0, .int .i64 a0_1] ?_; intro gb114 hg w6 hbox hb; refine sh4_ (below_step (bl_ HB) hb) hbox (ge_ hg (bl_ HB)) (ge_ hg (bl_ HB)) ?_; clear HB hb hbox hg; intro HB BK114 GW114 GE114; have hcz7 := cf2_ BK114) | ((with_reducible refine gate_callee (f := 95) rfl ?_); refine gl_ 6 Try.func95 (spec_IsSpan.calls a0_0 a0_1 true _ A3.out) ?_; rintro e w8 ⟨rfl, hb⟩; refine ⟨_, rfl, sh2_ (blk_below (bk_ BK114) hb) (below_step (bl1_ HB GE114) hb) ?_⟩; clear BK114 HB hb; intro BK114 HB; have hcz9 := cf2_ BK114))
   go_ret
   exact ⟨er_, bl1_ HB GE114⟩
  ·rw [if_neg c5] at H
   have c5b0 := decide_eq_false c5
   clear c5
   obtain rfl := Option.some.inj H
   go_enter Try.func100, Try.ntmps100
   go_wp2_with (first | ((with_reducible refine gd_ 2 ?_); refine bx_ 2 73 #[.int .i64 a0_0, .int .i64 a0_1] ?_; intro gb114 hg w10 hbox hb; refine sh4_ (below_step (bl_ HB) hb) hbox (ge_ hg (bl_ HB)) (ge_ hg (bl_ HB)) ?_; clear HB hb hbox hg; intro HB BK114 GW114 GE114; have hcz11 := cf2_ BK114) | ((with_reducible refine gate_callee (f := 95) rfl ?_); refine gl_ 6 Try.func95 (spec_IsSpan.calls a0_0 a0_1 true _ A3.out) ?_; rintro e w12 ⟨rfl, hb⟩; refine ⟨_, rfl, sh2_ (blk_below (bk_ BK114) hb) (below_step (bl1_ HB GE114) hb) ?_⟩; clear BK114 HB hb; intro BK114 HB; have hcz13 := cf2_ BK114))
   go_ret
   exact ⟨er_, bl1_ HB GE114⟩
 ·replace c4 := Bool.eq_false_iff.mpr c4
  subst c4
  have H1 : (some false) = some r := by rw [if_neg (show ¬ (false = true) by decide)] at H; exact H
  clear H
  have H := H1
  clear H1
  obtain rfl := Option.some.inj H
  go_enter Try.func100, Try.ntmps100
  go_wp2_with (first | ((with_reducible refine gd_ 2 ?_); refine bx_ 2 73 #[.int .i64 a0_0, .int .i64 a0_1] ?_; intro gb114 hg w14 hbox hb; refine sh4_ (below_step (bl_ HB) hb) hbox (ge_ hg (bl_ HB)) (ge_ hg (bl_ HB)) ?_; clear HB hb hbox hg; intro HB BK114 GW114 GE114; have hcz15 := cf2_ BK114) | ((with_reducible refine gate_callee (f := 95) rfl ?_); refine gl_ 6 Try.func95 (spec_IsSpan.calls a0_0 a0_1 false _ A3.out) ?_; rintro e w16 ⟨rfl, hb⟩; refine ⟨_, rfl, sh2_ (blk_below (bk_ BK114) hb) (below_step (bl1_ HB GE114) hb) ?_⟩; clear BK114 HB hb; intro BK114 HB))
  go_ret
  exact ⟨er_, bl1_ HB GE114⟩

/-! ### spec_InSpans: function 80 -/
def spec_InSpans.l0 : Nat → List (S73) → Int → Int → Option (Bool)
 | 0, _, _, _ => none
 | k + 1, x0, x1, x5 => if x5 < (x0.length : Int) then (if 0 ≤ x5 then ((spec_InSpan.f ((rd_T73 x0 x5).f0) ((rd_T73 x0 x5).f1) x1).bind fun t117 => (if t117 = true then (some true) else (spec_InSpans.l0 k x0 x1 (wrap64 (x5 + 1))))) else (none)) else (some false)
def spec_InSpans.f (k : Nat) (l0 : List (S73)) (a1 : Int) : Option (Bool) := spec_InSpans.l0 k l0 a1 0
theorem spec_InSpans.mono_l : ∀ k, (∀ y0 y1 y2, LeO (spec_InSpans.l0 k y0 y1 y2) (spec_InSpans.l0 (k + 1) y0 y1 y2))
 | 0 => fun _ _ _ r h => by simp [spec_InSpans.l0] at h
 | k + 1 => by
  have ih0 := spec_InSpans.mono_l k
  ·intro y0 y1 y2
   unfold spec_InSpans.l0
   repeat' first | (with_reducible first | exact ih0 _ _ _ | exact LeO.refl _ | exact LeO.none _ | refine LeO.ite ?_ ?_ | refine LeO.bind ?_ (fun _ => ?_)) | exact LeO.none _ | refine LeO.ite ?_ ?_ | refine LeO.bind ?_ (fun _ => ?_)
theorem spec_InSpans.mono : ∀ a0 a1 k, LeO (spec_InSpans.f k a0 a1) (spec_InSpans.f (k + 1) a0 a1) := by
 intro a0 a1 k
 have ih0 := spec_InSpans.mono_l k
 unfold spec_InSpans.f
 repeat' first | (with_reducible first | exact ih0 _ _ _ | exact LeO.refl _ | exact LeO.none _ | refine LeO.ite ?_ ?_ | refine LeO.bind ?_ (fun _ => ?_)) | exact LeO.none _ | refine LeO.ite ?_ ?_ | refine LeO.bind ?_ (fun _ => ?_)
set_option maxHeartbeats 8000000 in
set_option maxRecDepth 100000 in
theorem spec_InSpans.calls (k : Nat) (A0 : Option Addr) (c0 : Nat) (l0 : List (S73)) (a1 : Int) (r : Bool) (w : World) (hr0 : Kd.C k73 w A0 l0.length l0) (hc0 : l0.length ≤ c0) (h : spec_InSpans.f k l0 a1 = some r) :
  Calls Try.prog 80 #[.slice A0 l0.length c0, .int .i64 a1] w fun e w' => e = .returned (.bool r) ∧ Below w.heap.size w w' := by
 have hu73 := Try.underlying73
 have HR0 := Aside0.mk hr0
 have HC0 := Aside0.mk hc0
 clear hr0 hc0
 have HB := Aside0.mk (Below.refl w.heap.size w)
 have H := h
 clear h
 unfold spec_InSpans.f at H
 have H' := Aside0.mk H
 clear H
 go_enter Try.func80, Try.ntmps80
 go_wp2
 go_loopg [5] k (fun kq v5 w' => ∃ (x5_1 : Int), v5 = .int .i64 x5_1 ∧ Aside0 (spec_InSpans.l0 kq l0 a1 x5_1 = some r) ∧ Aside0 (kq ≤ k) ∧ Aside0 (Below w.heap.size w w'))
 case atStart => exact ⟨(0), (by first | rfl | (simp; done) | (simp [*]; done)), H', ⟨Nat.le_refl _⟩, ⟨bl_ HB⟩⟩
 case round =>
  clear H'
  try clear p2
  obtain ⟨x5_1, rfl, HA, HK1, HB⟩ := hrel
  cases gk with
  | zero => exact absurd HA.out (by simp [spec_InSpans.l0])
  | succ k1 =>
   have H := HA.out
   clear HA
   simp only [spec_InSpans.l0] at H
   by_cases c3 : x5_1 < (l0.length : Int)
   ·rw [if_pos c3] at H
    have c3b0 := decide_eq_true c3
    clear c3
    replace H := ifn_ H
    obtain ⟨c4, H⟩ := H
    have c4b0 := decide_eq_true c4
    clear c4
    replace H := bs_ H
    obtain ⟨t117, A5, H⟩ := H
    by_cases c6 : t117 = true
    ·subst c6
     rw [if_pos rfl] at H
     obtain rfl := Option.some.inj H
     have p116 : 0 ≤ (x5_1 : Int) := od_
     have q116 : x5_1 < (l0.length : Int) := od_
     obtain ⟨ad116, e116, hx116_0, hx116_1⟩ := at_T73 HR0.out x5_1 p116 q116
     cases e116
     replace hx116_0 := hbc_ HB hx116_0
     replace hx116_1 := hbc_ HB hx116_1
     replace p116 := eq_true p116
     replace q116 := eq_true q116
     go_wp2_with (first | ((with_reducible refine gate_callee (f := 100) rfl ?_); refine gl_ 17 Try.func100 (spec_InSpan.calls ((rd_T73 l0 x5_1).f0) ((rd_T73 l0 x5_1).f1) a1 true _ A5.out) ?_; rintro e w7 ⟨rfl, hb⟩; refine ⟨_, rfl, sh1_ (below_step (bl_ HB) hb) ?_⟩; clear HB hb; intro HB))
     go_ret
     exact ⟨er_, bl_ HB⟩
    ·replace c6 := Bool.eq_false_iff.mpr c6
     subst c6
     have H1 : (spec_InSpans.l0 k1 l0 a1 (wrap64 (x5_1 + 1))) = some r := by rw [if_neg (show ¬ (false = true) by decide)] at H; exact H
     clear H
     have H := H1
     clear H1
     have H' := Aside0.mk H
     clear H
     have p116 : 0 ≤ (x5_1 : Int) := od_
     have q116 : x5_1 < (l0.length : Int) := od_
     obtain ⟨ad116, e116, hx116_0, hx116_1⟩ := at_T73 HR0.out x5_1 p116 q116
     cases e116
     replace hx116_0 := hbc_ HB hx116_0
     replace hx116_1 := hbc_ HB hx116_1
     replace p116 := eq_true p116
     replace q116 := eq_true q116
     go_wp2_with (first | ((with_reducible refine gate_callee (f := 100) rfl ?_); refine gl_ 17 Try.func100 (spec_InSpan.calls ((rd_T73 l0 x5_1).f0) ((rd_T73 l0 x5_1).f1) a1 false _ A5.out) ?_; rintro e w8 ⟨rfl, hb⟩; refine ⟨_, rfl, sh1_ (below_step (bl_ HB) hb) ?_⟩; clear HB hb; intro HB))
     go_roundg k1
     case measure => have := HK1.out; omega
     case rel => exact ⟨(wrap64 (x5_1 + 1)), (by first | rfl | (simp; done) | (simp [*]; done)), H', ⟨by have := HK1.out; omega⟩, ⟨bl_ HB⟩⟩
   ·rw [if_neg c3] at H
    have c3b0 := decide_eq_false c3
    clear c3
    obtain rfl := Option.some.inj H
    go_wp2
    go_ret
    exact ⟨er_, bl_ HB⟩

/-! ### spec_CutSpans: function 43 -/
def spec_CutSpans.l0 : Nat → List (S73) → List (S73) → List (S73) → Int → Int → Option ((List (S73)))
 | 0, _, _, _, _, _ => none
 | k + 1, x0, x1, x5, x6, x7 => if x7 < x6 then ((spec_InSpans.f k x0 x7).bind fun t122 => (if t122 = true then ((spec_InSpans.f k x1 x7).bind fun t123 => (if t123 = true then (spec_CutSpans.l0 k x0 x1 x5 x6 (wrap64 (x7 + 1))) else ((spec_l4Put.f x5 x7).bind fun t124 => (spec_CutSpans.l0 k x0 x1 t124 x6 (wrap64 (x7 + 1)))))) else (spec_CutSpans.l0 k x0 x1 x5 x6 (wrap64 (x7 + 1))))) else (some x5)
def spec_CutSpans.f (k : Nat) (l0 : List (S73)) (l1 : List (S73)) : Option ((List (S73))) := (spec_l4Last.f k l0).bind fun t121 => (spec_CutSpans.l0 k l0 l1 (([] : List (S73))) t121 0)
theorem spec_CutSpans.mono_l : ∀ k, (∀ y0 y1 y2 y3 y4, LeO (spec_CutSpans.l0 k y0 y1 y2 y3 y4) (spec_CutSpans.l0 (k + 1) y0 y1 y2 y3 y4))
 | 0 => fun _ _ _ _ _ r h => by simp [spec_CutSpans.l0] at h
 | k + 1 => by
  have ih0 := spec_CutSpans.mono_l k
  ·intro y0 y1 y2 y3 y4
   unfold spec_CutSpans.l0
   repeat' first | (with_reducible first | exact ih0 _ _ _ _ _ | exact spec_InSpans.mono _ _ _ | exact spec_l4Last.mono _ _ | exact LeO.refl _ | exact LeO.none _ | refine LeO.ite ?_ ?_ | refine LeO.bind ?_ (fun _ => ?_)) | exact LeO.none _ | refine LeO.ite ?_ ?_ | refine LeO.bind ?_ (fun _ => ?_)
theorem spec_CutSpans.mono : ∀ a0 a1 k, LeO (spec_CutSpans.f k a0 a1) (spec_CutSpans.f (k + 1) a0 a1) := by
 intro a0 a1 k
 have ih0 := spec_CutSpans.mono_l k
 unfold spec_CutSpans.f
 repeat' first | (with_reducible first | exact ih0 _ _ _ _ _ | exact spec_InSpans.mono _ _ _ | exact spec_l4Last.mono _ _ | exact LeO.refl _ | exact LeO.none _ | refine LeO.ite ?_ ?_ | refine LeO.bind ?_ (fun _ => ?_)) | exact LeO.none _ | refine LeO.ite ?_ ?_ | refine LeO.bind ?_ (fun _ => ?_)
set_option maxHeartbeats 8000000 in
set_option maxRecDepth 100000 in
theorem spec_CutSpans.calls (k : Nat) (A0 : Option Addr) (c0 : Nat) (l0 : List (S73)) (A1 : Option Addr) (c1 : Nat) (l1 : List (S73)) (r : List (S73)) (w : World) (hr0 : Kd.C k73 w A0 l0.length l0) (hc0 : l0.length ≤ c0) (hr1 : Kd.C k73 w A1 l1.length l1) (hc1 : l1.length ≤ c1) (h : spec_CutSpans.f k l0 l1 = some r) :
  Calls Try.prog 43 #[.slice A0 l0.length c0, .slice A1 l1.length c1] w fun e w' => ∃ v0_ : Value, e = .returned (v0_) ∧ Kd.R k73 73 w' w.heap.size (fun _ => True) v0_ r ∧ Below w.heap.size w w' := by
 have HR0 := Aside0.mk hr0
 have HC0 := Aside0.mk hc0
 clear hr0 hc0
 have HR1 := Aside0.mk hr1
 have HC1 := Aside0.mk hc1
 clear hr1 hc1
 have HB := Aside0.mk (Below.refl w.heap.size w)
 have H := h
 clear h
 unfold spec_CutSpans.f at H
 replace H : ∃ y_ : List (S73), Aside0 (y_ = (([] : List (S73)))) ∧ ((spec_l4Last.f k l0).bind fun t121 => (spec_CutSpans.l0 k l0 l1 y_ t121 0)) = some r := ⟨_, ⟨rfl⟩, yh_ H⟩
 obtain ⟨y118, Ny118, H⟩ := H
 replace H := bs_ H
 obtain ⟨t121, A3, H⟩ := H
 have H' := Aside0.mk H
 clear H
 go_enter Try.func43, Try.ntmps43
 go_wp2_with (first | ((with_reducible refine gate_dst (N := 8) rfl ?_); refine Kd.R_lit k73 _ 73 ?hg (N := 8) ?hd (xs := ([] : List (S73))) (inner := []) (ok := fun _ => True) (okp := fun _ => True) ?hr ?hp (fun _ hk => hk) trivial (Below.refl _ _) (Nat.le_refl _) (by simp) ?_; (case hd => rfl); (case hg => rfl); (case hr => first | (go_simp; done) | (go_simp; rfl)); (case hp => exact (Reps.none _ _)); intro v119 w4 ho5 hb hg_ hnew_; clear hg_ hnew_; (first | rw [← Ny118.out] at ho5 | (simp only [Int.reduceToNat] at ho5; rw [← Ny118.out] at ho5)); refine sh2_ (Kd.R_lower ho5 (below_size (bl_ HB))) (below_step (bl_ HB) hb) ?_; clear HB hb ho5; intro HO120 HB) | ((with_reducible refine gate_callee (f := 79) rfl ?_); refine gl_ 10 Try.func79 (spec_l4Last.calls k _ _ l0 t121 _ (ck_ HR0 HB) HC0.out A3.out) ?_; rintro e w6 ⟨rfl, hb⟩; refine ⟨_, rfl, sh2_ (Kd.R_below (ra_ HO120) hb) (below_step (bl_ HB) hb) ?_⟩; clear HO120 HB hb; intro HO120 HB))
 go_loopg [5, 7] k (fun kq v5 v7 w' => ∃ (x5_1 : List (S73)) (x7_1 : Int), v7 = .int .i64 x7_1 ∧ Aside0 (spec_CutSpans.l0 kq l0 l1 x5_1 t121 x7_1 = some r) ∧ Aside0 (kq ≤ k) ∧ Aside0 (Kd.R k73 73 w' w.heap.size (fun _ => True) v5 x5_1) ∧ Aside0 (Below w.heap.size w w'))
 case atStart => exact ⟨(y118), (0), (by first | rfl | (simp; done) | (simp [*]; done)), H', ⟨Nat.le_refl _⟩, ⟨ra_ HO120⟩, ⟨bl_ HB⟩⟩
 case round =>
  clear H'
  try clear c1
  try clear p2
  try clear c4
  obtain ⟨x5_1, x7_1, rfl, HA, HK1, HO_5, HB⟩ := hrel
  cases gk with
  | zero => exact absurd HA.out (by simp [spec_CutSpans.l0])
  | succ k1 =>
   have H := HA.out
   clear HA
   simp only [spec_CutSpans.l0] at H
   by_cases c7 : x7_1 < t121
   ·rw [if_pos c7] at H
    have c7b0 := decide_eq_true c7
    clear c7
    replace H := bs_ H
    obtain ⟨t122, A8, H⟩ := H
    by_cases c9 : t122 = true
    ·subst c9
     rw [if_pos rfl] at H
     replace H := bs_ H
     obtain ⟨t123, A10, H⟩ := H
     by_cases c11 : t123 = true
     ·subst c11
      rw [if_pos rfl] at H
      have H' := Aside0.mk H
      clear H
      go_wp2_with (first | ((with_reducible refine gate_callee (f := 80) rfl ?_); refine gl_ 18 Try.func80 (spec_InSpans.calls k1 _ _ l0 x7_1 true _ (ck_ HR0 HB) HC0.out A8.out) ?_; rintro e w12 ⟨rfl, hb⟩; refine ⟨_, rfl, sh2_ (Kd.R_below (ra_ HO_5) hb) (below_step (bl_ HB) hb) ?_⟩; clear HO_5 HB hb; intro HO_5 HB) | (go_at_call 80; (with_reducible refine (spec_InSpans.calls k1 _ _ l1 x7_1 true _ ?side1 ?side2 A10.out).mono ?_); (case side1 => exact ck_ HR1 HB); (case side2 => exact HC1.out); rintro e w13 ⟨rfl, hb⟩; refine sh2_ (Kd.R_below (ra_ HO_5) hb) (below_step (bl_ HB) hb) ?_; clear HO_5 HB hb; intro HO_5 HB))
      go_roundg k1
      case measure => have := HK1.out; omega
      case rel => exact ⟨(x5_1), (wrap64 (x7_1 + 1)), (by first | rfl | (simp; done) | (simp [*]; done)), H', ⟨by have := HK1.out; omega⟩, ⟨ra_ HO_5⟩, ⟨bl_ HB⟩⟩
     ·replace c11 := Bool.eq_false_iff.mpr c11
      subst c11
      have H1 : ((spec_l4Put.f x5_1 x7_1).bind fun t124 => (spec_CutSpans.l0 k1 l0 l1 t124 t121 (wrap64 (x7_1 + 1)))) = some r := by rw [if_neg (show ¬ (false = true) by decide)] at H; exact H
      clear H
      have H := H1
      clear H1
      replace H := bs_ H
      obtain ⟨t124, A14, H⟩ := H
      have H' := Aside0.mk H
      clear H
      go_wp2_with (first | ((with_reducible refine gate_callee (f := 80) rfl ?_); refine gl_ 18 Try.func80 (spec_InSpans.calls k1 _ _ l0 x7_1 true _ (ck_ HR0 HB) HC0.out A8.out) ?_; rintro e w15 ⟨rfl, hb⟩; refine ⟨_, rfl, sh2_ (Kd.R_below (ra_ HO_5) hb) (below_step (bl_ HB) hb) ?_⟩; clear HO_5 HB hb; intro HO_5 HB) | (go_at_call 80; (with_reducible refine (spec_InSpans.calls k1 _ _ l1 x7_1 false _ ?side1 ?side2 A10.out).mono ?_); (case side1 => exact ck_ HR1 HB); (case side2 => exact HC1.out); rintro e w16 ⟨rfl, hb⟩; refine sh2_ (Kd.R_below (ra_ HO_5) hb) (below_step (bl_ HB) hb) ?_; clear HO_5 HB hb; intro HO_5 HB; obtain ⟨Ao17, co17, eo17⟩ := Kd.R_slice HO_5.out; subst eo17) | ((with_reducible refine gate_callee (f := 77) rfl ?_); refine goesL_ (some 27) rfl rfl Try.func77 (by kernel_rfl) rfl #[.slice Ao17 x5_1.length co17, .int .i64 x7_1] rfl mp_ ?_; (with_reducible refine (spec_l4Put.calls (fun k_ => some k_ = (.slice Ao17 x5_1.length co17 : Value).ownBlock) (.slice Ao17 x5_1.length co17) x5_1 x7_1 t124 w _ ?side1 ?side2 A14.out).mono ?_); (case side1 => repeat (first | (with_reducible first | exact HB.out | apply below_alloc | apply pw_below_drewN | apply below_drew1) | exact HB.out)); (case side2 => exact Kd.R_tight rfl HO_5.out); rintro e w18 ⟨v125, rfl, ho0, hb, hkp⟩; refine ⟨_, rfl, sh2_ (Kd.R_mono (ok' := fun k_ => True) ho0 (fun k_ hk_ => trivial)) hb ?_⟩; clear HB HO_5 hb hkp ho0; intro HO126 HB))
      go_roundg k1
      case measure => have := HK1.out; omega
      case rel => exact ⟨(t124), (wrap64 (x7_1 + 1)), (by first | rfl | (simp; done) | (simp [*]; done)), H', ⟨by have := HK1.out; omega⟩, ⟨ra_ HO126⟩, ⟨bl_ HB⟩⟩
    ·replace c9 := Bool.eq_false_iff.mpr c9
     subst c9
     have H1 : (spec_CutSpans.l0 k1 l0 l1 x5_1 t121 (wrap64 (x7_1 + 1))) = some r := by rw [if_neg (show ¬ (false = true) by decide)] at H; exact H
     clear H
     have H := H1
     clear H1
     have H' := Aside0.mk H
     clear H
     go_wp2_with (first | ((with_reducible refine gate_callee (f := 80) rfl ?_); refine gl_ 18 Try.func80 (spec_InSpans.calls k1 _ _ l0 x7_1 false _ (ck_ HR0 HB) HC0.out A8.out) ?_; rintro e w19 ⟨rfl, hb⟩; refine ⟨_, rfl, sh2_ (Kd.R_below (ra_ HO_5) hb) (below_step (bl_ HB) hb) ?_⟩; clear HO_5 HB hb; intro HO_5 HB))
     go_roundg k1
     case measure => have := HK1.out; omega
     case rel => exact ⟨(x5_1), (wrap64 (x7_1 + 1)), (by first | rfl | (simp; done) | (simp [*]; done)), H', ⟨by have := HK1.out; omega⟩, ⟨ra_ HO_5⟩, ⟨bl_ HB⟩⟩
   ·rw [if_neg c7] at H
    have c7b0 := decide_eq_false c7
    clear c7
    obtain rfl := Option.some.inj H
    go_wp2
    go_ret
    exact ⟨_, er_, ra_ HO_5, bl_ HB⟩

/-! ### spec_JoinSpans: function 93 -/
def spec_JoinSpans.l0 : Nat → List (S73) → List (S73) → Int → Int → Option ((List (S73)))
 | 0, _, _, _, _ => none
 | k + 1, x0, x3, x4, x5 => if x5 < x4 then ((spec_InSpans.f k x0 x5).bind fun t131 => (if t131 = true then ((spec_l4Put.f x3 x5).bind fun t132 => (spec_JoinSpans.l0 k x0 t132 x4 (wrap64 (x5 + 1)))) else (spec_JoinSpans.l0 k x0 x3 x4 (wrap64 (x5 + 1))))) else (some x3)
def spec_JoinSpans.f (k : Nat) (l0 : List (S73)) : Option ((List (S73))) := (spec_l4Last.f k l0).bind fun t130 => (spec_JoinSpans.l0 k l0 (([] : List (S73))) t130 0)
theorem spec_JoinSpans.mono_l : ∀ k, (∀ y0 y1 y2 y3, LeO (spec_JoinSpans.l0 k y0 y1 y2 y3) (spec_JoinSpans.l0 (k + 1) y0 y1 y2 y3))
 | 0 => fun _ _ _ _ r h => by simp [spec_JoinSpans.l0] at h
 | k + 1 => by
  have ih0 := spec_JoinSpans.mono_l k
  ·intro y0 y1 y2 y3
   unfold spec_JoinSpans.l0
   repeat' first | (with_reducible first | exact ih0 _ _ _ _ | exact spec_InSpans.mono _ _ _ | exact spec_l4Last.mono _ _ | exact LeO.refl _ | exact LeO.none _ | refine LeO.ite ?_ ?_ | refine LeO.bind ?_ (fun _ => ?_)) | exact LeO.none _ | refine LeO.ite ?_ ?_ | refine LeO.bind ?_ (fun _ => ?_)
theorem spec_JoinSpans.mono : ∀ a0 k, LeO (spec_JoinSpans.f k a0) (spec_JoinSpans.f (k + 1) a0) := by
 intro a0 k
 have ih0 := spec_JoinSpans.mono_l k
 unfold spec_JoinSpans.f
 repeat' first | (with_reducible first | exact ih0 _ _ _ _ | exact spec_InSpans.mono _ _ _ | exact spec_l4Last.mono _ _ | exact LeO.refl _ | exact LeO.none _ | refine LeO.ite ?_ ?_ | refine LeO.bind ?_ (fun _ => ?_)) | exact LeO.none _ | refine LeO.ite ?_ ?_ | refine LeO.bind ?_ (fun _ => ?_)
set_option maxHeartbeats 8000000 in
set_option maxRecDepth 100000 in
theorem spec_JoinSpans.calls (k : Nat) (A0 : Option Addr) (c0 : Nat) (l0 : List (S73)) (r : List (S73)) (w : World) (hr0 : Kd.C k73 w A0 l0.length l0) (hc0 : l0.length ≤ c0) (h : spec_JoinSpans.f k l0 = some r) :
  Calls Try.prog 93 #[.slice A0 l0.length c0] w fun e w' => ∃ v0_ : Value, e = .returned (v0_) ∧ Kd.R k73 73 w' w.heap.size (fun _ => True) v0_ r ∧ Below w.heap.size w w' := by
 have HR0 := Aside0.mk hr0
 have HC0 := Aside0.mk hc0
 clear hr0 hc0
 have HB := Aside0.mk (Below.refl w.heap.size w)
 have H := h
 clear h
 unfold spec_JoinSpans.f at H
 replace H : ∃ y_ : List (S73), Aside0 (y_ = (([] : List (S73)))) ∧ ((spec_l4Last.f k l0).bind fun t130 => (spec_JoinSpans.l0 k l0 y_ t130 0)) = some r := ⟨_, ⟨rfl⟩, yh_ H⟩
 obtain ⟨y127, Ny127, H⟩ := H
 replace H := bs_ H
 obtain ⟨t130, A2, H⟩ := H
 have H' := Aside0.mk H
 clear H
 go_enter Try.func93, Try.ntmps93
 go_wp2_with (first | ((with_reducible refine gate_dst (N := 6) rfl ?_); refine Kd.R_lit k73 _ 73 ?hg (N := 6) ?hd (xs := ([] : List (S73))) (inner := []) (ok := fun _ => True) (okp := fun _ => True) ?hr ?hp (fun _ hk => hk) trivial (Below.refl _ _) (Nat.le_refl _) (by simp) ?_; (case hd => rfl); (case hg => rfl); (case hr => first | (go_simp; done) | (go_simp; rfl)); (case hp => exact (Reps.none _ _)); intro v128 w3 ho4 hb hg_ hnew_; clear hg_ hnew_; (first | rw [← Ny127.out] at ho4 | (simp only [Int.reduceToNat] at ho4; rw [← Ny127.out] at ho4)); refine sh2_ (Kd.R_lower ho4 (below_size (bl_ HB))) (below_step (bl_ HB) hb) ?_; clear HB hb ho4; intro HO129 HB) | ((with_reducible refine gate_callee (f := 79) rfl ?_); refine gl_ 8 Try.func79 (spec_l4Last.calls k _ _ l0 t130 _ (ck_ HR0 HB) HC0.out A2.out) ?_; rintro e w5 ⟨rfl, hb⟩; refine ⟨_, rfl, sh2_ (Kd.R_below (ra_ HO129) hb) (below_step (bl_ HB) hb) ?_⟩; clear HO129 HB hb; intro HO129 HB))
 go_loopg [3, 5] k (fun kq v3 v5 w' => ∃ (x3_1 : List (S73)) (x5_1 : Int), v5 = .int .i64 x5_1 ∧ Aside0 (spec_JoinSpans.l0 kq l0 x3_1 t130 x5_1 = some r) ∧ Aside0 (kq ≤ k) ∧ Aside0 (Kd.R k73 73 w' w.heap.size (fun _ => True) v3 x3_1) ∧ Aside0 (Below w.heap.size w w'))
 case atStart => exact ⟨(y127), (0), (by first | rfl | (simp; done) | (simp [*]; done)), H', ⟨Nat.le_refl _⟩, ⟨ra_ HO129⟩, ⟨bl_ HB⟩⟩
 case round =>
  clear H'
  try clear p2
  obtain ⟨x3_1, x5_1, rfl, HA, HK1, HO_3, HB⟩ := hrel
  cases gk with
  | zero => exact absurd HA.out (by simp [spec_JoinSpans.l0])
  | succ k1 =>
   have H := HA.out
   clear HA
   simp only [spec_JoinSpans.l0] at H
   by_cases c6 : x5_1 < t130
   ·rw [if_pos c6] at H
    have c6b0 := decide_eq_true c6
    clear c6
    replace H := bs_ H
    obtain ⟨t131, A7, H⟩ := H
    by_cases c8 : t131 = true
    ·subst c8
     rw [if_pos rfl] at H
     replace H := bs_ H
     obtain ⟨t132, A9, H⟩ := H
     have H' := Aside0.mk H
     clear H
     go_wp2_with (first | ((with_reducible refine gate_callee (f := 80) rfl ?_); refine gl_ 16 Try.func80 (spec_InSpans.calls k1 _ _ l0 x5_1 true _ (ck_ HR0 HB) HC0.out A7.out) ?_; rintro e w10 ⟨rfl, hb⟩; refine ⟨_, rfl, sh2_ (Kd.R_below (ra_ HO_3) hb) (below_step (bl_ HB) hb) ?_⟩; clear HO_3 HB hb; intro HO_3 HB; obtain ⟨Ao11, co11, eo11⟩ := Kd.R_slice HO_3.out; subst eo11) | ((with_reducible refine gate_callee (f := 77) rfl ?_); refine goesL_ (some 19) rfl rfl Try.func77 (by kernel_rfl) rfl #[.slice Ao11 x3_1.length co11, .int .i64 x5_1] rfl mp_ ?_; (with_reducible refine (spec_l4Put.calls (fun k_ => some k_ = (.slice Ao11 x3_1.length co11 : Value).ownBlock) (.slice Ao11 x3_1.length co11) x3_1 x5_1 t132 w _ ?side1 ?side2 A9.out).mono ?_); (case side1 => repeat (first | (with_reducible first | exact HB.out | apply below_alloc | apply pw_below_drewN | apply below_drew1) | exact HB.out)); (case side2 => exact Kd.R_tight rfl HO_3.out); rintro e w12 ⟨v133, rfl, ho0, hb, hkp⟩; refine ⟨_, rfl, sh2_ (Kd.R_mono (ok' := fun k_ => True) ho0 (fun k_ hk_ => trivial)) hb ?_⟩; clear HB HO_3 hb hkp ho0; intro HO134 HB))
     go_roundg k1
     case measure => have := HK1.out; omega
     case rel => exact ⟨(t132), (wrap64 (x5_1 + 1)), (by first | rfl | (simp; done) | (simp [*]; done)), H', ⟨by have := HK1.out; omega⟩, ⟨ra_ HO134⟩, ⟨bl_ HB⟩⟩
    ·replace c8 := Bool.eq_false_iff.mpr c8
     subst c8
     have H1 : (spec_JoinSpans.l0 k1 l0 x3_1 t130 (wrap64 (x5_1 + 1))) = some r := by rw [if_neg (show ¬ (false = true) by decide)] at H; exact H
     clear H
     have H := H1
     clear H1
     have H' := Aside0.mk H
     clear H
     go_wp2_with (first | ((with_reducible refine gate_callee (f := 80) rfl ?_); refine gl_ 16 Try.func80 (spec_InSpans.calls k1 _ _ l0 x5_1 false _ (ck_ HR0 HB) HC0.out A7.out) ?_; rintro e w13 ⟨rfl, hb⟩; refine ⟨_, rfl, sh2_ (Kd.R_below (ra_ HO_3) hb) (below_step (bl_ HB) hb) ?_⟩; clear HO_3 HB hb; intro HO_3 HB))
     go_roundg k1
     case measure => have := HK1.out; omega
     case rel => exact ⟨(x3_1), (wrap64 (x5_1 + 1)), (by first | rfl | (simp; done) | (simp [*]; done)), H', ⟨by have := HK1.out; omega⟩, ⟨ra_ HO_3⟩, ⟨bl_ HB⟩⟩
   ·rw [if_neg c6] at H
    have c6b0 := decide_eq_false c6
    clear c6
    obtain rfl := Option.some.inj H
    go_wp2
    go_ret
    exact ⟨_, er_, ra_ HO_3, bl_ HB⟩

/-! ### spec_CloudSpans: function 58 -/
def spec_CloudSpans.l0 : Nat → List (S87) → Int → List (S73) → Int → Option ((List (S73)))
 | 0, _, _, _, _ => none
 | k + 1, x0, x1, x5, x6 => if x6 < (x0.length : Int) then (if 0 ≤ x6 then (if ((rd_T87 x0 x6).f0) = x1 then (if x5.length < 8796093022208 then (spec_CloudSpans.l0 k x0 x1 (x5 ++ [(⟨(rd_T87 x0 x6).f1, (rd_T87 x0 x6).f2⟩ : S73)]) (wrap64 (x6 + 1))) else (none)) else (spec_CloudSpans.l0 k x0 x1 x5 (wrap64 (x6 + 1)))) else (none)) else ((spec_JoinSpans.f k x5).bind fun t144 => (some t144))
def spec_CloudSpans.f (k : Nat) (l0 : List (S87)) (a1 : Int) : Option ((List (S73))) := spec_CloudSpans.l0 k l0 a1 (([] : List (S73))) 0
theorem spec_CloudSpans.mono_l : ∀ k, (∀ y0 y1 y2 y3, LeO (spec_CloudSpans.l0 k y0 y1 y2 y3) (spec_CloudSpans.l0 (k + 1) y0 y1 y2 y3))
 | 0 => fun _ _ _ _ r h => by simp [spec_CloudSpans.l0] at h
 | k + 1 => by
  have ih0 := spec_CloudSpans.mono_l k
  ·intro y0 y1 y2 y3
   unfold spec_CloudSpans.l0
   repeat' first | (with_reducible first | exact ih0 _ _ _ _ | exact spec_JoinSpans.mono _ _ | exact LeO.refl _ | exact LeO.none _ | refine LeO.ite ?_ ?_ | refine LeO.bind ?_ (fun _ => ?_)) | exact LeO.none _ | refine LeO.ite ?_ ?_ | refine LeO.bind ?_ (fun _ => ?_)
theorem spec_CloudSpans.mono : ∀ a0 a1 k, LeO (spec_CloudSpans.f k a0 a1) (spec_CloudSpans.f (k + 1) a0 a1) := by
 intro a0 a1 k
 have ih0 := spec_CloudSpans.mono_l k
 unfold spec_CloudSpans.f
 repeat' first | (with_reducible first | exact ih0 _ _ _ _ | exact spec_JoinSpans.mono _ _ | exact LeO.refl _ | exact LeO.none _ | refine LeO.ite ?_ ?_ | refine LeO.bind ?_ (fun _ => ?_)) | exact LeO.none _ | refine LeO.ite ?_ ?_ | refine LeO.bind ?_ (fun _ => ?_)
def spec_CloudSpans.T6 : Bool × List (List Nat × List Nat) := (true, [([], []), ([], []), ([], []), ([1, 2], [1, 2]), ([3], [3]), ([4], [4]), ([], []), ([], []), ([6, 7], [6, 7]), ([8], [8]), ([9], [9]), ([5, 10], [5, 10]), ([11], [11]), ([0, 12], [0, 12]), ([13, 13, 0, 1, 2, 3, 4, 5, 6, 7, 8, 9, 10, 11, 12, 13], [0, 13])])
def spec_CloudSpans.B6 : List Nat := [0, 0, 0, 6, 14, 30, 0, 0, 192, 448, 960, 2046, 4094, 8191, 16383]
theorem spec_CloudSpans.tab6 : rtab .any (opsOf Try.f58 6) = spec_CloudSpans.T6 := by kernel_rfl
theorem spec_CloudSpans.bits6 : waitsOk spec_CloudSpans.T6.2 spec_CloudSpans.B6 = true := by kernel_rfl
set_option maxHeartbeats 8000000 in
set_option maxRecDepth 100000 in
theorem spec_CloudSpans.calls (k : Nat) (A0 : Option Addr) (c0 : Nat) (l0 : List (S87)) (a1 : Int) (r : List (S73)) (w : World) (hr0 : Kd.C k87 w A0 l0.length l0) (hc0 : l0.length ≤ c0) (h : spec_CloudSpans.f k l0 a1 = some r) :
  Calls Try.prog 58 #[.slice A0 l0.length c0, .int .i64 a1] w fun e w' => ∃ v0_ : Value, e = .returned (v0_) ∧ Kd.R k73 73 w' w.heap.size (fun _ => True) v0_ r ∧ Below w.heap.size w w' := by
 have hu73 := Try.underlying73
 have HR0 := Aside0.mk hr0
 have HC0 := Aside0.mk hc0
 clear hr0 hc0
 have HB := Aside0.mk (Below.refl w.heap.size w)
 have H := h
 clear h
 unfold spec_CloudSpans.f at H
 replace H : ∃ y_ : List (S73), Aside0 (y_ = (([] : List (S73)))) ∧ (spec_CloudSpans.l0 k l0 a1 y_ 0) = some r := ⟨_, ⟨rfl⟩, yh_ H⟩
 obtain ⟨y135, Ny135, H⟩ := H
 have H' := Aside0.mk H
 clear H
 go_enter Try.func58, Try.ntmps58
 go_wp2_with (first | ((with_reducible refine gate_dst (N := 7) rfl ?_); refine Kd.R_lit k73 _ 73 ?hg (N := 7) ?hd (xs := ([] : List (S73))) (inner := []) (ok := fun _ => True) (okp := fun _ => True) ?hr ?hp (fun _ hk => hk) trivial (Below.refl _ _) (Nat.le_refl _) (by simp) ?_; (case hd => rfl); (case hg => rfl); (case hr => first | (go_simp; done) | (go_simp; rfl)); (case hp => exact (Reps.none _ _)); intro v136 w3 ho4 hb hg_ hnew_; clear hg_ hnew_; (first | rw [← Ny135.out] at ho4 | (simp only [Int.reduceToNat] at ho4; rw [← Ny135.out] at ho4)); refine sh2_ (Kd.R_lower ho4 (below_size (bl_ HB))) (below_step (bl_ HB) hb) ?_; clear HB hb ho4; intro HO137 HB))
 go_loopg [5, 6] k (fun kq v5 v6 w' => ∃ (x5_1 : List (S73)) (x6_1 : Int), v6 = .int .i64 x6_1 ∧ Aside0 (spec_CloudSpans.l0 kq l0 a1 x5_1 x6_1 = some r) ∧ Aside0 (kq ≤ k) ∧ Aside0 (Kd.R k73 73 w' w.heap.size (fun _ => True) v5 x5_1) ∧ Aside0 (Below w.heap.size w w'))
 case atStart => exact ⟨(y135), (0), (by first | rfl | (simp; done) | (simp [*]; done)), H', ⟨Nat.le_refl _⟩, ⟨ra_ HO137⟩, ⟨bl_ HB⟩⟩
 case round =>
  clear H'
  try clear p2
  obtain ⟨x5_1, x6_1, rfl, HA, HK1, HO_5, HB⟩ := hrel
  cases gk with
  | zero => exact absurd HA.out (by simp [spec_CloudSpans.l0])
  | succ k1 =>
   have H := HA.out
   clear HA
   simp only [spec_CloudSpans.l0] at H
   by_cases c5 : x6_1 < (l0.length : Int)
   ·rw [if_pos c5] at H
    have c5b0 := decide_eq_true c5
    clear c5
    replace H := ifn_ H
    obtain ⟨c6, H⟩ := H
    have c6b0 := decide_eq_true c6
    clear c6
    by_cases c7 : ((rd_T87 l0 x6_1).f0) = a1
    ·rw [if_pos c7] at H
     obtain ⟨c7b0, c7b1⟩ := bt_ c7
     clear c7
     replace H := ifn_ H
     obtain ⟨c8, H⟩ := H
     have LMc8 := Aside0.mk c8
     clear c8
     replace H : ∃ y_ : List (S73), Aside0 (y_ = (x5_1 ++ [(⟨(rd_T87 l0 x6_1).f1, (rd_T87 l0 x6_1).f2⟩ : S73)])) ∧ (spec_CloudSpans.l0 k1 l0 a1 y_ (wrap64 (x6_1 + 1))) = some r := ⟨_, ⟨rfl⟩, yh_ H⟩
     obtain ⟨y141, Ny141, H⟩ := H
     have H' := Aside0.mk H
     clear H
     have p138 : 0 ≤ (x6_1 : Int) := od_
     have q138 : x6_1 < (l0.length : Int) := od_
     obtain ⟨ad138, e138, hx138_0, hx138_1, hx138_2⟩ := at_T87 HR0.out x6_1 p138 q138
     cases e138
     replace hx138_0 := hbc_ HB hx138_0
     replace hx138_1 := hbc_ HB hx138_1
     replace hx138_2 := hbc_ HB hx138_2
     replace p138 := eq_true p138
     replace q138 := eq_true q138
     try go_wp2
     refine sh2_ (Kd.R_drew HO_5.out) (below_drew1 HB.out) ?_
     clear HO_5 HB
     intro HO_5 HB
     have p139 : 0 ≤ (x6_1 : Int) := od_
     have q139 : x6_1 < (l0.length : Int) := od_
     obtain ⟨ad139, e139, hx139_0, hx139_1, hx139_2⟩ := at_T87 HR0.out x6_1 p139 q139
     have hw139_2 := hx139_2
     have hw139_1 := hx139_1
     have hw139_0 := hx139_0
     obtain rfl : ad138 = ad139 := (by injection e139)
     replace hx139_0 := hbc_ HB hx139_0
     replace hx139_1 := hbc_ HB hx139_1
     replace hx139_2 := hbc_ HB hx139_2
     replace p139 := eq_true p139
     replace q139 := eq_true q139
     have p140 : 0 ≤ (x6_1 : Int) := od_
     have q140 : x6_1 < (l0.length : Int) := od_
     obtain ⟨ad140, e140, hx140_0, hx140_1, hx140_2⟩ := at_T87 HR0.out x6_1 p140 q140
     have hw140_2 := hx140_2
     have hw140_1 := hx140_1
     have hw140_0 := hx140_0
     obtain rfl : ad138 = ad140 := (by injection e140)
     replace hx140_0 := hbc_ HB hx140_0
     replace hx140_1 := hbc_ HB hx140_1
     replace hx140_2 := hbc_ HB hx140_2
     replace p140 := eq_true p140
     replace q140 := eq_true q140
     refine start_ (n := 15) (S := fun w' => w'.cell? (ad138.add ((x6_1).toNat * 3)) = some (.int .i64 ((rd_T87 l0 x6_1).f0)) ∧ w'.cell? ⟨(ad138.add ((x6_1).toNat * 3)).block, (ad138.add ((x6_1).toNat * 3)).off + 1, none⟩ = some (.int .i64 ((rd_T87 l0 x6_1).f1)) ∧ w'.cell? ⟨(ad138.add ((x6_1).toNat * 3)).block, (ad138.add ((x6_1).toNat * 3)).off + 2, none⟩ = some (.int .i64 ((rd_T87 l0 x6_1).f2)) ∧ w'.cell? (ad138.add ((x6_1).toNat * 3)) = some (.int .i64 ((rd_T87 l0 x6_1).f0)) ∧ w'.cell? ⟨(ad138.add ((x6_1).toNat * 3)).block, (ad138.add ((x6_1).toNat * 3)).off + 1, none⟩ = some (.int .i64 ((rd_T87 l0 x6_1).f1)) ∧ w'.cell? ⟨(ad138.add ((x6_1).toNat * 3)).block, (ad138.add ((x6_1).toNat * 3)).off + 2, none⟩ = some (.int .i64 ((rd_T87 l0 x6_1).f2))) (ds := []) #[false, false, false, false, false, false, false, false, false, false, false, false, false, false, false] (by kernel_rfl) rfl rfl ⟨((HB.out.cell (World.block_lt_of_cell? w _ hw139_0)).trans hw139_0), ((HB.out.cell (World.block_lt_of_cell? w _ hw139_1)).trans hw139_1), ((HB.out.cell (World.block_lt_of_cell? w _ hw139_2)).trans hw139_2), ((HB.out.cell (World.block_lt_of_cell? w _ hw140_0)).trans hw140_0), ((HB.out.cell (World.block_lt_of_cell? w _ hw140_1)).trans hw140_1), ((HB.out.cell (World.block_lt_of_cell? w _ hw140_2)).trans hw140_2)⟩ (fun hHeld => ?_); refine with_tabW spec_CloudSpans.tab6 spec_CloudSpans.bits6 (fun HT_ HW_ => ?_)
     generalize wr.drew = w9 at HO_5 HB hx139_0 hx139_1 hx139_2 hx140_0 hx140_1 hx140_2 hHeld ⊢
     refine pur_ 0 #[true, false, false, false, false, false, false, false, false, false, false, false, false, false, false] (some 21) HT_ ?_
     refine pur_ 1 #[true, true, false, false, false, false, false, false, false, false, false, false, false, false, false] (some 22) HT_ ?_
     refine pur_ 2 #[true, true, true, false, false, false, false, false, false, false, false, false, false, false, false] (some 23) HT_ ?_
     refine pur_ 3 #[true, true, true, true, false, false, false, false, false, false, false, false, false, false, false] (some 24) HT_ ?_
     refine pur_ 4 #[true, true, true, true, true, false, false, false, false, false, false, false, false, false, false] (some 25) HT_ ?_
     refine pur_ 6 #[true, true, true, true, true, false, true, false, false, false, false, false, false, false, false] (some 27) HT_ ?_
     refine pur_ 7 #[true, true, true, true, true, false, true, true, false, false, false, false, false, false, false] (some 28) HT_ ?_
     refine pur_ 8 #[true, true, true, true, true, false, true, true, true, false, false, false, false, false, false] (some 29) HT_ ?_
     refine pur_ 9 #[true, true, true, true, true, false, true, true, true, true, false, false, false, false, false] (some 30) HT_ ?_
     refine tak_ 5 #[true, true, true, true, true, true, true, true, true, true, false, false, false, false, false] (some 26) HT_ HW_ hHeld ?_
     refine tak_ 10 #[true, true, true, true, true, true, true, true, true, true, true, false, false, false, false] (some 31) HT_ HW_ hHeld ?_
     refine pur_ 11 #[true, true, true, true, true, true, true, true, true, true, true, true, false, false, false] (some 32) HT_ ?_
     refine one_ (i := 12) (N := some 33) #[true, true, true, true, true, true, true, true, true, true, true, true, true, false, false] rfl rfl (one_of HT_.out (by kernel_rfl)) (by decide) (fun K hK => ?_)
     refine value_ (w1 := ?_) (v := ?_) (by rfl) rfl ?_ ?_
     rotate_left 2
     ·go_simp
      constructor
      ·rfl
      ·rfl
     refine hK.out _ _ ⟨(World.cell?_alloc_lt _ _ _ (World.block_lt_of_cell? _ _ (((HB.out.cell (World.block_lt_of_cell? w _ hw139_0)).trans hw139_0)))).trans (((HB.out.cell (World.block_lt_of_cell? w _ hw139_0)).trans hw139_0)), (World.cell?_alloc_lt _ _ _ (World.block_lt_of_cell? _ _ (((HB.out.cell (World.block_lt_of_cell? w _ hw139_1)).trans hw139_1)))).trans (((HB.out.cell (World.block_lt_of_cell? w _ hw139_1)).trans hw139_1)), (World.cell?_alloc_lt _ _ _ (World.block_lt_of_cell? _ _ (((HB.out.cell (World.block_lt_of_cell? w _ hw139_2)).trans hw139_2)))).trans (((HB.out.cell (World.block_lt_of_cell? w _ hw139_2)).trans hw139_2)), (World.cell?_alloc_lt _ _ _ (World.block_lt_of_cell? _ _ (((HB.out.cell (World.block_lt_of_cell? w _ hw140_0)).trans hw140_0)))).trans (((HB.out.cell (World.block_lt_of_cell? w _ hw140_0)).trans hw140_0)), (World.cell?_alloc_lt _ _ _ (World.block_lt_of_cell? _ _ (((HB.out.cell (World.block_lt_of_cell? w _ hw140_1)).trans hw140_1)))).trans (((HB.out.cell (World.block_lt_of_cell? w _ hw140_1)).trans hw140_1)), (World.cell?_alloc_lt _ _ _ (World.block_lt_of_cell? _ _ (((HB.out.cell (World.block_lt_of_cell? w _ hw140_2)).trans hw140_2)))).trans (((HB.out.cell (World.block_lt_of_cell? w _ hw140_2)).trans hw140_2))⟩ (fun hHeld => ?_)
     clear hK K
     refine norm_ (a' := ?_) ?_ ?_
     rotate_left
     ·show Act.put _ (some 33) _ = _
      simp only [Act.put, List.setIfInBounds_toArray, List.set_cons_zero, List.set_cons_succ, i64_w, i32_w]
      rfl
     refine one_ (i := 13) (N := some 34) #[true, true, true, true, true, true, true, true, true, true, true, true, true, true, false] rfl rfl (one_of HT_.out (by kernel_rfl)) (by decide) (fun K hK => ?_)
     refine Kd.R_append_step k73 (w0 := w) w.heap.size (by rfl) (.tmp 21) (.tmp 33) 28 73 (.agg #[(.int .i64 0), (.int .i64 0)]) 16 rfl Try.underlying28 info73 rfl (by decide) (by omega) u5 x5_1 (⟨(rd_T87 l0 x6_1).f1, (rd_T87 l0 x6_1).f2⟩ : S73) [.int .i64 ((rd_T87 l0 x6_1).f1), .int .i64 ((rd_T87 l0 x6_1).f2)] (fun _ => True) (fun _ => False) rfl rfl ?aP (fun _ hk => hk.elim) ?aF ?aO ?aB ?aS ?aL ?_
     (case aP => exact k73_mkM _ _ _ (⟨(rd_T87 l0 x6_1).f1, (rd_T87 l0 x6_1).f2⟩ : S73))
     (case aB => exact (bl_ HB))
     (case aF => exact (fun _ _ => trivial))
     (case aO => exact (ra_ HO_5))
     (case aS => exact (below_size (bl_ HB)))
     (case aL => have := LMc8.out; omega)
     intro v142 w10 ho hb hg hat
     rw [← Ny141.out] at ho
     refine sh2_ hb ho ?_
     clear HB HO_5 ho hb hg hat
     intro HB HO143
     refine hK.out _ _ ⟨((HB.out.cell (World.block_lt_of_cell? w _ hw139_0)).trans hw139_0), ((HB.out.cell (World.block_lt_of_cell? w _ hw139_1)).trans hw139_1), ((HB.out.cell (World.block_lt_of_cell? w _ hw139_2)).trans hw139_2), ((HB.out.cell (World.block_lt_of_cell? w _ hw140_0)).trans hw140_0), ((HB.out.cell (World.block_lt_of_cell? w _ hw140_1)).trans hw140_1), ((HB.out.cell (World.block_lt_of_cell? w _ hw140_2)).trans hw140_2)⟩ (fun hHeld => ?_)
     clear hK K
     refine norm_ (a' := ?_) ?_ ?_
     rotate_left
     ·show Act.put _ (some 34) _ = _
      simp only [Act.put, List.setIfInBounds_toArray, List.set_cons_zero, List.set_cons_succ, i64_w, i32_w]
      rfl
     refine pur_ 14 #[true, true, true, true, true, true, true, true, true, true, true, true, true, true, true] (some 5) HT_ ?_
     refine done_ (done_of HT_.out (by kernel_rfl)) ?_
     try go_wp2
     go_roundg k1
     case measure => have := HK1.out; omega
     case rel => exact ⟨(y141), (wrap64 (x6_1 + 1)), (by first | rfl | (simp; done) | (simp [*]; done)), H', ⟨by have := HK1.out; omega⟩, ⟨ra_ HO143⟩, ⟨bl_ HB⟩⟩
    ·rw [if_neg c7] at H
     obtain ⟨c7b0, c7b1⟩ := bn_ c7
     have H' := Aside0.mk H
     clear H
     have p138 : 0 ≤ (x6_1 : Int) := od_
     have q138 : x6_1 < (l0.length : Int) := od_
     obtain ⟨ad138, e138, hx138_0, hx138_1, hx138_2⟩ := at_T87 HR0.out x6_1 p138 q138
     cases e138
     replace hx138_0 := hbc_ HB hx138_0
     replace hx138_1 := hbc_ HB hx138_1
     replace hx138_2 := hbc_ HB hx138_2
     replace p138 := eq_true p138
     replace q138 := eq_true q138
     go_wp2
     go_roundg k1
     case measure => have := HK1.out; omega
     case rel => exact ⟨(x5_1), (wrap64 (x6_1 + 1)), (by first | rfl | (simp; done) | (simp [*]; done)), H', ⟨by have := HK1.out; omega⟩, ⟨ra_ HO_5⟩, ⟨bl_ HB⟩⟩
   ·rw [if_neg c5] at H
    have c5b0 : decide (x6_1 < (l0.length : Int)) = false := decide_eq_false c5
    clear c5
    replace H := bs_ H
    obtain ⟨t144, A11, H⟩ := H
    obtain rfl := Option.some.inj H
    obtain ⟨Ao12, co12, eo12⟩ := Kd.R_slice HO_5.out
    subst eo12
    go_wp2_with (first | ((with_reducible refine gate_callee (f := 93) rfl ?_); refine gl_ 36 Try.func93 (spec_JoinSpans.calls k1 _ _ x5_1 t144 _ (cr_ HO_5) (rl_ HO_5) A11.out) ?_; rintro e w13 ⟨v145, rfl, ho0, hb⟩; refine ⟨_, rfl, sh3_ (Kd.R_elder' (ra_ HO_5) (Kd.R_base ho0) hb) (Kd.R_lower (Kd.R_new' ho0 (Kd.R_lt (ra_ HO_5))) (below_size (bl_ HB))) (below_step (bl_ HB) hb) ?_⟩; clear HO_5 HB hb ho0; intro HO_5 HO146 HB))
    go_ret
    exact ⟨_, er_, by (with_reducible repeat (first | apply Kd.R_alloc | apply Kd.R_drewN | apply Kd.R_drew)); exact Kd.R_mono HO146.out (fun _ hk => trivial), bl_ HB⟩

end Go.Proofs.Ytcjfalmhohcifaa.PFnExactCutClouds
