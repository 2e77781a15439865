-- Written by a program of this session for this claim (the kit's printer with changes).
import Derived.Test.YtpjhdehbikohmaaGreatQFnExactPlanOfx0
import Derived.Test.YtpjhdehbikohmaaGreatQFnExactPlanOfx11
namespace Go.Proofs.YtpjhdehbikohmaaGreat.PFnExactPlanOf
open Go.RowKit Go.Proofs.YtpjhdehbikohmaaGreatW.PrintWords Go.Proofs.YtpjhdehbikohmaaGreatW.PrintLast Go.Proofs.YtpjhdehbikohmaaGreatW.PrintMore
attribute [local go_sem] max2_int min2_int max_two min_two max_three min_three max_four min_four   -- for this text's walks alone
set_option linter.unusedVariables false
set_option maxHeartbeats 8000000
set_option maxRecDepth 100000
set_option linter.unusedSimpArgs false

/-! ### impl_IsSpan: function 83 -/
def impl_IsSpan.f (j l : Int) : Option (Bool) := if j ≥ 0 then (if l ≤ 1000 then (some (decide (j < l))) else (some false)) else (some false)
theorem impl_IsSpan.calls (j l : Int) (r : Bool) (w : World) (h : impl_IsSpan.f j l = some r) :
  Calls Tryz.prog 83 #[.agg #[iv_ j, iv_ l]] w fun e w' => e = .returned (.bool r) ∧ Below w.heap.size w w' := by
 have E := Tryz.underlying52
 have HB := Aside0.mk (Below.refl w.heap.size w)
 have H := h
 clear h
 unfold impl_IsSpan.f at H
 by_cases c2 : j ≥ 0
 ·rw [if_pos c2] at H
  have x : decide (0 ≤ j) = true := decide_eq_true c2
  clear c2
  by_cases c3 : l ≤ 1000
  ·rw [if_pos c3] at H
   have y := decide_eq_true c3
   clear c3
   obtain rfl := Option.some.inj H
   go_enter Tryz.func83, Tryz.ntmps83
   go_wp2_with (first | ((with_reducible refine gd_ 1 ?_); refine bx_ 1 52 #[iv_ j, iv_ l] ?_; intro u hg G hbox hb; refine sh3_ (below_step (bl_ HB) hb) hbox (ge_ hg (bl_ HB)) ?_; clear HB hb hbox hg; intro HB m s; have z := cf2_ m))
   go_ret
   exact ⟨er_, bl1_ HB s⟩
  ·rw [if_neg c3] at H
   have y := decide_eq_false c3
   clear c3
   obtain rfl := Option.some.inj H
   go_enter Tryz.func83, Tryz.ntmps83
   go_wp2_with (first | ((with_reducible refine gd_ 1 ?_); refine bx_ 1 52 #[iv_ j, iv_ l] ?_; intro u hg I hbox hb; refine sh3_ (below_step (bl_ HB) hb) hbox (ge_ hg (bl_ HB)) ?_; clear HB hb hbox hg; intro HB m s; have B := cf2_ m))
   go_ret
   exact ⟨er_, bl1_ HB s⟩
 ·rw [if_neg c2] at H
  have x : decide (0 ≤ j) = false := decide_eq_false c2
  clear c2
  obtain rfl := Option.some.inj H
  go_enter Tryz.func83, Tryz.ntmps83
  go_wp2_with (first | ((with_reducible refine gd_ 1 ?_); refine bx_ 1 52 #[iv_ j, iv_ l] ?_; intro u hg J hbox hb; refine sh3_ (below_step (bl_ HB) hb) hbox (ge_ hg (bl_ HB)) ?_; clear HB hb hbox hg; intro HB m s; have D := cf2_ m))
  go_ret
  exact ⟨er_, bl1_ HB s⟩

/-! ### impl_ticks: function 69 -/
mutual
def impl_ticks.l0 : Nat → List Bool → List S52 → Int → Int → Option (List Bool)
 | 0, _, _, _, _ => none
 | k + 1, m, l, s, j => if j < s then (if 0 ≤ j then (if j < (l.length : Int) then ((impl_IsSpan.f ((rd_T52 l j).f0) ((rd_T52 l j).f1)).bind fun y => (if y = true then (impl_ticks.l1 k m ((rd_T52 l j).f0) l s j ((rd_T52 l j).f0) ((rd_T52 l j).f1)) else (impl_ticks.l0 k m l s (wrap64 (j + 1))))) else (none)) else (none)) else (some m)
def impl_ticks.l1 : Nat → List Bool → Int → List S52 → Int → Int → Int → Int → Option (List Bool)
 | 0, _, _, _, _, _, _, _ => none
 | k + 1, m, u, l, s, j, z, x => if u < x then (if 0 ≤ u then (if u < (m.length : Int) then (impl_ticks.l1 k (m.set (u : Int).toNat true) (wrap64 (u + 1)) l s j z x) else (none)) else (none)) else (impl_ticks.l0 k m l s (wrap64 (j + 1)))
end
def impl_ticks.f (k : Nat) (j : List S52) : Option (List Bool) := if 1000 ≤ 281474976710656 then (impl_ticks.l0 k (List.replicate 1000 false) j (j.length : Int) 0) else (none)
theorem impl_ticks.calls (k : Nat) (A0 : Option Addr) (c0 : Nat) (j : List S52) (r : List Bool) (w : World) (b5 : Kd.C k52 w A0 j.length j) (b4 : j.length ≤ c0) (h : impl_ticks.f k j = some r) :
  Calls Tryz.prog 69 #[.slice A0 j.length c0] w fun e w' => ∃ b6 : Value, e = .returned (b6) ∧ Kd.R Kd.bool 4 w' w.heap.size (fun _ => True) b6 r ∧ Below w.heap.size w w' := by
 have f7 := Tryz.underlying52
 have a7 := Aside0.mk b5
 have e1 := Aside0.mk b4
 clear b5 b4
 have HB := Aside0.mk (Below.refl w.heap.size w)
 have H := h
 clear h
 unfold impl_ticks.f at H
 replace H := ifn_ H
 obtain ⟨c2, H⟩ := H
 have e4 := eq_true c2
 have e5 := decide_eq_true c2
 clear c2
 replace H : ∃ y_ : List Bool, Aside0 (y_ = (List.replicate 1000 false)) ∧ (impl_ticks.l0 k y_ j (j.length : Int) 0) = some r := ⟨_, ⟨rfl⟩, yh_ H⟩
 obtain ⟨d9, a8, H⟩ := H
 have H' := Aside0.mk H
 clear H
 go_enter Tryz.func69, Tryz.ntmps69
 go_wp2_with (first | ((with_reducible refine gate_dst (N := 7) rfl ?_); refine Kd.R_make Kd.bool _ 4 rfl (N := 7) rfl 102 _ _ rfl 1000 rfl rfl Tryz.underlying102 (.bool false) 1 info4 rfl (by decide) (by omega) false (ok := fun _ => True) (okp := fun _ => True) rfl (fun _ hk => hk) trivial (by omega) (by omega) (Below.refl _ _) (Nat.le_refl _) ?_; intro b7 w3 J hb hg_ hnew_; clear hg_ hnew_; (first | rw [← a8.out] at J | (simp only [Int.reduceToNat] at J; rw [← a8.out] at J)); refine sh2_ (Kd.R_lower J (below_size (bl_ HB))) (below_step (bl_ HB) hb) ?_; clear HB hb J; intro c1 HB))
 go_loopg [10] k (fun kq d7 w' => ∃ (I : List Bool) (l : Int), d7 = iv_ l ∧ Aside0 (impl_ticks.l0 kq I j (j.length : Int) l = some r) ∧ Aside0 (kq ≤ k) ∧ Aside0 (Kd.R Kd.bool 4 w' w.heap.size (fun _ => True) b7 I) ∧ Aside0 (Below w.heap.size w w'))
 case atStart => exact ⟨(d9), (0), (by first | rfl | (simp; done) | (simp [*]; done)), H', ⟨Nat.le_refl _⟩, ⟨ra_ c1⟩, ⟨bl_ HB⟩⟩
 case round =>
  clear H'
  obtain ⟨I, l, rfl, HA, E, m, HB⟩ := hrel
  cases gk with
  | zero => exact absurd HA.out (by simp [impl_ticks.l0])
  | succ T =>
   have H := HA.out
   clear HA
   simp only [impl_ticks.l0] at H
   by_cases c5 : l < (j.length : Int)
   ·rw [if_pos c5] at H
    have d3 := decide_eq_true c5
    clear c5
    replace H := ifn_ H
    obtain ⟨c6, H⟩ := H
    have e6 := decide_eq_true c6
    clear c6
    replace H := ifn_ H
    obtain ⟨c7, H⟩ := H
    have e7 := decide_eq_true c7
    clear c7
    replace H := bs_ H
    obtain ⟨d6, A8, H⟩ := H
    by_cases c9 : d6 = true
    ·subst c9
     rw [if_pos rfl] at H
     have H' := Aside0.mk H
     clear H
     have z : 0 ≤ (l : Int) := od_
     have B : l < (j.length : Int) := od_
     obtain ⟨d1, X, L, M⟩ := at_T52 a7.out l z B
     cases X
     replace L := hbc_ HB L
     replace M := hbc_ HB M
     replace z := eq_true z
     replace B := eq_true B
     go_wp2_with (first | ((with_reducible refine gd_ 5 ?_); refine bx_ 5 52 #[iv_ 0, iv_ 0] ?_; intro x hg f9 hbox hb; refine sh4_ (Kd.R_below (ra_ m) hb) (below_step (bl_ HB) hb) hbox (ge_ hg (bl_ HB)) ?_; clear m HB hb hbox hg; intro m HB s y; have e9 := cf2_ s) | ((with_reducible refine gate_callee (f := 83) rfl ?_); refine gl_ 15 Tryz.func83 (impl_IsSpan.calls ((rd_T52 j l).f0) ((rd_T52 j l).f1) true _ A8.out) ?_; rintro e g0 ⟨rfl, hb⟩; refine ⟨_, rfl, sh3_ (Kd.R_below (by (with_reducible repeat (first | apply Kd.R_alloc | apply Kd.R_drewN | apply Kd.R_drew)); exact (Kd.R_mono (Kd.R_far (p := ⟨x, 1, none⟩) (Kd.R_far (p := ⟨x, 0, none⟩) (Kd.R_types m.out s.out (by decide)) (fun _ hk => hk.2) (iv_ ((rd_T52 j l).f0))) (fun _ hk => hk.2) (iv_ ((rd_T52 j l).f1))) (fun _ h_ => h_.1))) hb) (blk_below (g := x) (o := .cells #[iv_ ((rd_T52 j l).f0), iv_ ((rd_T52 j l).f1)] 52 (0, 0)) (bp_ s) hb) (below_step (bl1_ HB y) hb) ?_⟩; clear m s HB hb; intro m s HB; have f2 := cf2_ s))
     go_loopg [6] T (fun kq v6 w' => ∃ (D : List Bool) (u : Int), v6 = iv_ u ∧ Aside0 (impl_ticks.l1 kq D u j (j.length : Int) l ((rd_T52 j l).f0) ((rd_T52 j l).f1) = some r) ∧ Aside0 (kq ≤ T) ∧ Aside0 (Kd.R Kd.bool 4 w' w.heap.size (fun _ => True) b7 D) ∧ Aside0 (w'.heap[x]? = some (.cells #[iv_ ((rd_T52 j l).f0), iv_ ((rd_T52 j l).f1)] 52 (0, 0))) ∧ Aside0 (Below w.heap.size w w'))
     case atStart => exact ⟨(I), ((rd_T52 j l).f0), (by first | rfl | (simp; done) | (simp [*]; done)), H', ⟨Nat.le_refl _⟩, ⟨ra_ m⟩, ⟨by (with_reducible repeat (first | refine blk_drewN ?_ _ | refine blk_drew ?_ | refine blk_alloc ?_ _)); exact s.out⟩, ⟨bl1_ HB y⟩⟩
     case round =>
      clear H'
      obtain ⟨D, u, rfl, HA, O, m, s, HB⟩ := hrel
      cases gk with
      | zero => exact absurd HA.out (by simp [impl_ticks.l1])
      | succ Z =>
       have H := HA.out
       clear HA
       simp only [impl_ticks.l1] at H
       by_cases G : u < ((rd_T52 j l).f1)
       ·rw [if_pos G] at H
        have d2 := decide_eq_true G
        clear G
        replace H := ifn_ H
        obtain ⟨b0, H⟩ := H
        have e2 := decide_eq_true b0
        clear b0
        replace H := ifn_ H
        obtain ⟨b1, H⟩ := H
        have e3 := decide_eq_true b1
        clear b1
        replace H : ∃ y_ : List Bool, Aside0 (y_ = (D.set (u : Int).toNat true)) ∧ (impl_ticks.l1 Z y_ (wrap64 (u + 1)) j (j.length : Int) l ((rd_T52 j l).f0) ((rd_T52 j l).f1)) = some r := ⟨_, ⟨rfl⟩, yh_ H⟩
        obtain ⟨b8, d0, H⟩ := H
        have H' := Aside0.mk H
        clear H
        have f3 := cf2_ s
        have a0 : 0 ≤ (u : Int) := od_
        have a1 : (u : Int) < ((D.length : Int) : Int) := od_
        obtain ⟨Y, d4, b2, b3, d5, e8, a6⟩ := Kd.R_form m.out (by omega)
        (first | cases b2 | (injection b2 with ea_ en_ ec_; (first | subst ea_ | (injection ea_ with ea_; subst ea_)); subst ec_; clear en_))
        have b9 := Aside0.mk b3
        have e0 := Aside0.mk a6
        clear b3 d5 a6
        obtain ⟨f8, f6⟩ := Kd.R_celln false m.out (u : Int) a0 a1
        replace a0 := eq_true a0
        replace a1 := eq_true a1
        have U := Kd.R_putg m.out (u : Int) true
        go_wp2_with (first | ((with_reducible refine gate_store (t := 4) (p := 26) rfl ?_); refine store_event (t := 4) (p := 26) (v := ?vo_w20) (w1 := (wr.setCell ⟨Y, (u : Int).toNat, none⟩ (.bool true))) ?hg ?ho ?hn ?hr ?_; (case ho => rfl); (case hg => rfl); (case hn => rfl); (case hr => first | (go_simp; done) | (go_simp; rfl)); intro a2 hw; have hg : wr.grownBy a2 (some Y) := (by rw [hw]; exact U.2); have hp_ : Kd.R Kd.bool 4 a2 w.heap.size (fun _ => True) (.slice (some ⟨Y, 0, none⟩) D.length d4) b8 := (by rw [hw, d0.out]; exact U.1); clear U; refine sh3_ hp_ (blk_grown (g := x) (o := .cells #[iv_ ((rd_T52 j l).f0), iv_ ((rd_T52 j l).f1)] 52 (0, 0)) (bk_ s) hg (Kd.R_ne m.out s.out (by decide))) ((by rw [hw]; exact below_set (HB.out) b9.out : Below w.heap.size w a2)) ?_; clear m s HB; intro m s HB; clear hg hw hp_))
        go_roundg Z
        case measure => have := E.out; have := O.out; omega
        case rel => exact ⟨(b8), (wrap64 (u + 1)), (by first | rfl | (simp; done) | (simp [*]; done)), H', ⟨by have := E.out; have := O.out; omega⟩, ⟨ra_ m⟩, ⟨by (with_reducible repeat (first | refine blk_drewN ?_ _ | refine blk_drew ?_ | refine blk_alloc ?_ _)); exact s.out⟩, ⟨bl1_ HB y⟩⟩
       ·rw [if_neg G] at H
        have d2 := decide_eq_false G
        clear G
        have H' := Aside0.mk H
        clear H
        have f4 := cf2_ s
        go_wp2
        go_roundg Z
        case measure => have := E.out; have := O.out; omega
        case rel => exact ⟨(D), (wrap64 (l + 1)), (by first | rfl | (simp; done) | (simp [*]; done)), H', ⟨by have := E.out; have := O.out; omega⟩, ⟨ra_ m⟩, ⟨bl1_ HB y⟩⟩
    ·replace c9 := Bool.eq_false_iff.mpr c9
     subst c9
     have H1 : (impl_ticks.l0 T I j (j.length : Int) (wrap64 (l + 1))) = some r := by rw [if_neg (show ¬ (false = true) by decide)] at H; exact H
     clear H
     have H := H1
     clear H1
     have H' := Aside0.mk H
     clear H
     have z : 0 ≤ (l : Int) := od_
     have B : l < (j.length : Int) := od_
     obtain ⟨d1, X, L, M⟩ := at_T52 a7.out l z B
     cases X
     replace L := hbc_ HB L
     replace M := hbc_ HB M
     replace z := eq_true z
     replace B := eq_true B
     go_wp2_with (first | ((with_reducible refine gd_ 5 ?_); refine bx_ 5 52 #[iv_ 0, iv_ 0] ?_; intro x hg g1 hbox hb; refine sh4_ (Kd.R_below (ra_ m) hb) (below_step (bl_ HB) hb) hbox (ge_ hg (bl_ HB)) ?_; clear m HB hb hbox hg; intro m HB s y; have f5 := cf2_ s) | ((with_reducible refine gate_callee (f := 83) rfl ?_); refine gl_ 15 Tryz.func83 (impl_IsSpan.calls ((rd_T52 j l).f0) ((rd_T52 j l).f1) false _ A8.out) ?_; rintro e g2 ⟨rfl, hb⟩; refine ⟨_, rfl, sh3_ (Kd.R_below (by (with_reducible repeat (first | apply Kd.R_alloc | apply Kd.R_drewN | apply Kd.R_drew)); exact (Kd.R_mono (Kd.R_far (p := ⟨x, 1, none⟩) (Kd.R_far (p := ⟨x, 0, none⟩) (Kd.R_types m.out s.out (by decide)) (fun _ hk => hk.2) (iv_ ((rd_T52 j l).f0))) (fun _ hk => hk.2) (iv_ ((rd_T52 j l).f1))) (fun _ h_ => h_.1))) hb) (blk_below (g := x) (o := .cells #[iv_ ((rd_T52 j l).f0), iv_ ((rd_T52 j l).f1)] 52 (0, 0)) (bp_ s) hb) (below_step (bl1_ HB y) hb) ?_⟩; clear m s HB hb; intro m s HB))
     go_roundg T
     case measure => have := E.out; omega
     case rel => exact ⟨(I), (wrap64 (l + 1)), (by first | rfl | (simp; done) | (simp [*]; done)), H', ⟨by have := E.out; omega⟩, ⟨ra_ m⟩, ⟨bl1_ HB y⟩⟩
   ·rw [if_neg c5] at H
    have d3 : decide (l < (j.length : Int)) = false := decide_eq_false c5
    clear c5
    obtain rfl := Option.some.inj H
    go_wp2
    go_ret
    exact ⟨_, er_, ra_ m, bl_ HB⟩

section
variable {P : Program} {ops : Array Oper} {Q : Exit → Act → World → Prop}
theorem gate_fnval {rest : List Oper} {o : Oper} {a : Act} {W : World} {s : Tmp} {az : Array Operand} {ts : Array TypeId} (_ho : o.op = .call { callee := .value (.tmp s), args := az, argTypes := ts }) (h : wpList P ops Q (o :: rest) a W) : wpList P ops Q (o :: rest) a W := h
theorem goesF_ {rest : List Oper} {oi : Oper} {a : Act} {w : World} (N : Option Tmp) (hd : oi.dst = N) (hg : oi.guard = none) {f : FuncId} {lb : Array Value} {s : Tmp} {az : Array Operand} {ts : Array TypeId} (eg : ∀ args w, (callFunc f args).run P w = .ok (.enter f args) w) (args : Array Value)
  (hop : oi.op = .call { callee := .value (.tmp s), args := az, argTypes := ts }) (hs : a.eval (.tmp s) = .func (.func f) #[] lb) (hargs : az.map a.eval = args)
  (h : Calls P f (args ++ lb) w fun e w' => ∃ v, e = .returned v ∧ wpList P ops Q rest (a.put N v) w') : wpList P ops Q (oi :: rest) a w := by
 refine wpList_plain hg fun K hK => ?_
 have he := eg (args ++ lb) w
 have hrun : (execOp a.eval oi).run P w = .ok (.enter f (args ++ lb)) w := by
  unfold execOp
  simp [hop, resolve, Deferred.ofValue, invoke, hs, hargs, he]
 unfold Oper.wp
 rw [hrun, Oper.upon_enter]
 refine h.mono fun e w'' hh => ?_
 obtain ⟨v, rfl, hk⟩ := hh
 subst hd
 exact hK _ _ hk
end
/-! ### spansWhere, at any function value: function 70 -/
def sw.l0 (q : Nat → Int → Option Bool) : Nat → Int → List S52 → Int → Option (List S52)
 | 0, _, _, _ => none
 | k + 1, m, j, l => if l < (mn m 1000) then ((q k l).bind fun s => (if s = true then (if (wrap64 ((j.length : Int) - 1)) ≥ 0 then (if 0 ≤ (wrap64 ((j.length : Int) - 1)) then (if (wrap64 ((j.length : Int) - 1)) < (j.length : Int) then (if ((rd_T52 j (wrap64 ((j.length : Int) - 1))).f1) = l then (sw.l0 q k m (j.set ((wrap64 ((j.length : Int) - 1)) : Int).toNat (⟨(rd_T52 j (wrap64 ((j.length : Int) - 1))).f0, wrap64 (((rd_T52 j (wrap64 ((j.length : Int) - 1))).f1) + 1)⟩ : S52)) (wrap64 (l + 1))) else (if j.length < 8796093022208 then (sw.l0 q k m (j ++ [(⟨l, wrap64 (l + 1)⟩ : S52)]) (wrap64 (l + 1))) else (none))) else (none)) else (none)) else (if j.length < 8796093022208 then (sw.l0 q k m (j ++ [(⟨l, wrap64 (l + 1)⟩ : S52)]) (wrap64 (l + 1))) else (none))) else (sw.l0 q k m j (wrap64 (l + 1))))) else (some j)
def sw.f (q : Nat → Int → Option Bool) (k : Nat) (j l : Int) : Option (List S52) := sw.l0 q k l (([] : List S52)) (mx j 0)
theorem sw.calls (q : Nat → Int → Option Bool) (k : Nat) (I y : Int) (r : List S52) (w : World) (gF : FuncId) (lb : Array Value) (eg : ∀ args w, (callFunc gF args).run Tryz.prog w = .ok (.enter gF args) w) (hq : ∀ (k' : Nat) (t : Int) (b : Bool) (W : World), q k' t = some b → Below w.heap.size w W → Calls Tryz.prog gF (#[iv_ t] ++ lb) W fun e w' => e = .returned (.bool b) ∧ Below W.heap.size W w') (h : sw.f q k I y = some r) :
  Calls Tryz.prog 70 #[iv_ I, iv_ y, .func (.func gF) #[] lb] w fun e w' => ∃ d5 : Value, e = .returned (d5) ∧ Kd.R k52 52 w' w.heap.size (fun _ => True) d5 r ∧ Below w.heap.size w w' := by
 have i6 := Tryz.underlying52
 have HB := Aside0.mk (Below.refl w.heap.size w)
 have H := h
 clear h
 unfold sw.f at H
 replace H : ∃ y_ : List S52, Aside0 (y_ = (([] : List S52))) ∧ (sw.l0 q k y y_ (mx I 0)) = some r := ⟨_, ⟨rfl⟩, yh_ H⟩
 obtain ⟨d6, b2, H⟩ := H
 obtain ⟨ji4, hji4⟩ : ∃ j_ : Int, (mx I 0) = j_ := ⟨_, rfl⟩
 replace H : (sw.l0 q k y d6 ji4) = some r := by first | (rw [hji4] at H; exact H) | (simp only [hji4] at H ⊢; exact H)
 (try (have i3 : 0 ≤ ji4 := by (rw [← hji4]; unfold mx; (repeat' split) <;> omega)))
 (try (have i4 : 0 ≤ ji4 := by omega))
 have i2 : (if I < 0 then 0 else I) = ji4 := hji4
 have H' := Aside0.mk H
 clear H
 go_enter Tryz.func70, Tryz.ntmps70
 go_wp2_with (first | ((with_reducible refine gate_dst (N := 10) rfl ?_); refine Kd.R_lit k52 _ 52 ?hg (N := 10) ?hd (xs := ([] : List S52)) (inner := []) (ok := fun _ => True) (okp := fun _ => True) ?hr ?hp (fun _ hk => hk) trivial (Below.refl _ _) (Nat.le_refl _) (by simp) ?_; (case hd => rfl); (case hg => rfl); (case hr => first | (go_simp; done) | (go_simp; rfl)); (case hp => exact (Reps.none _ _)); intro i9 w5 O hb hg_ hnew_; clear hg_ hnew_; (first | rw [← b2.out] at O | (simp only [Int.reduceToNat] at O; rw [← b2.out] at O)); refine sh2_ (Kd.R_lower O (below_size (bl_ HB))) (below_step (bl_ HB) hb) ?_; clear HB hb O; intro e0 HB))
 go_loopg [7, 8] k (fun kq v7 v8 w' => ∃ (l : List S52) (m : Int), v8 = iv_ m ∧ Aside0 (sw.l0 q kq y l m = some r) ∧ Aside0 (kq ≤ k) ∧ Aside0 (Kd.R k52 52 w' w.heap.size (fun _ => True) v7 l) ∧ Aside0 (Below w.heap.size w w'))
 case atStart => exact ⟨(d6), (ji4), (by first | rfl | (simp; done) | (simp only [← hji4] <;> (first | rfl | simp)) | (simp [*]; done)), H', ⟨Nat.le_refl _⟩, ⟨ra_ e0⟩, ⟨bl_ HB⟩⟩
 case round =>
  clear H'
  obtain ⟨l, m, rfl, HA, z, u, HB⟩ := hrel
  cases gk with
  | zero => exact absurd HA.out (by simp [sw.l0])
  | succ x =>
   have H := HA.out
   clear HA
   simp only [sw.l0] at H
   obtain ⟨ji7, hji7⟩ : ∃ j_ : Int, (mn y 1000) = j_ := ⟨_, rfl⟩
   replace H : (if m < (ji7) then ((q x m).bind fun a7 => (if a7 = true then (if (wrap64 ((l.length : Int) - 1)) ≥ 0 then (if 0 ≤ (wrap64 ((l.length : Int) - 1)) then (if (wrap64 ((l.length : Int) - 1)) < (l.length : Int) then (if ((rd_T52 l (wrap64 ((l.length : Int) - 1))).f1) = m then (sw.l0 q x y (l.set ((wrap64 ((l.length : Int) - 1)) : Int).toNat (⟨(rd_T52 l (wrap64 ((l.length : Int) - 1))).f0, wrap64 (((rd_T52 l (wrap64 ((l.length : Int) - 1))).f1) + 1)⟩ : S52)) (wrap64 (m + 1))) else (if l.length < 8796093022208 then (sw.l0 q x y (l ++ [(⟨m, wrap64 (m + 1)⟩ : S52)]) (wrap64 (m + 1))) else (none))) else (none)) else (none)) else (if l.length < 8796093022208 then (sw.l0 q x y (l ++ [(⟨m, wrap64 (m + 1)⟩ : S52)]) (wrap64 (m + 1))) else (none))) else (sw.l0 q x y l (wrap64 (m + 1))))) else (some l)) = some r := by first | (rw [hji7] at H; exact H) | (simp only [hji7] at H ⊢; exact H)
   have i5 : (if 1000 < y then 1000 else y) = ji7 := hji7
   by_cases c8 : m < (ji7)
   ·rw [if_pos c8] at H
    have f3 := decide_eq_true c8
    clear c8
    replace H := bs_ H
    obtain ⟨a7, L, H⟩ := H
    by_cases c10 : a7 = true
    ·subst c10
     rw [if_pos rfl] at H
     by_cases J : (wrap64 ((l.length : Int) - 1)) ≥ 0
     ·rw [if_pos J] at H
      have b3 : decide (0 ≤ (wrap64 ((l.length : Int) - 1))) = true := decide_eq_true J
      clear J
      obtain ⟨ji12, hji12⟩ : ∃ j_ : Int, (wrap64 ((l.length : Int) - 1)) = j_ := ⟨_, rfl⟩
      replace H : (if 0 ≤ (ji12) then (if (ji12) < (l.length : Int) then (if ((rd_T52 l (ji12)).f1) = m then (sw.l0 q x y (l.set ((ji12) : Int).toNat (⟨(rd_T52 l (ji12)).f0, wrap64 (((rd_T52 l (ji12)).f1) + 1)⟩ : S52)) (wrap64 (m + 1))) else (if l.length < 8796093022208 then (sw.l0 q x y (l ++ [(⟨m, wrap64 (m + 1)⟩ : S52)]) (wrap64 (m + 1))) else (none))) else (none)) else (none)) = some r := by first | (rw [hji12] at H; exact H) | (simp only [hji12] at H ⊢; exact H)
      (try rw [hji12] at b3)
      (try rw [hji12] at L)
      have i1 : (IntKind.i64.wrap ((l.length : Int) - 1)) = ji12 := (i64_w _).trans hji12
      replace H := ifn_ H
      obtain ⟨b4, H⟩ := H
      have h3 := decide_eq_true b4
      clear b4
      replace H := ifn_ H
      obtain ⟨b5, H⟩ := H
      have h4 := decide_eq_true b5
      clear b5
      by_cases M : ((rd_T52 l (ji12)).f1) = m
      ·rw [if_pos M] at H
       obtain ⟨e9, f2⟩ := bt_ M
       clear M
       replace H : ∃ y_ : List S52, Aside0 (y_ = (l.set ((ji12) : Int).toNat (⟨(rd_T52 l (ji12)).f0, wrap64 (((rd_T52 l (ji12)).f1) + 1)⟩ : S52))) ∧ (sw.l0 q x y y_ (wrap64 (m + 1))) = some r := ⟨_, ⟨rfl⟩, yh_ H⟩
       obtain ⟨d7, e5, H⟩ := H
       have H' := Aside0.mk H
       clear H
       go_wp2_with (first | ((with_reducible refine gate_fnval (s := 19) rfl ?_); refine goesF_ (some 21) rfl rfl eg #[iv_ m] rfl rfl mp_ ?_; (refine (hq x m true _ L.out (bl_ HB)).mono ?_); rintro e G ⟨rfl, hb⟩; refine ⟨_, rfl, sh2_ (Kd.R_below (ra_ u) hb) (below_step (bl_ HB) hb) ?_⟩; clear u HB hb; intro u HB; obtain ⟨h0, b8, f7⟩ := Kd.R_slice u.out; subst f7; have D : 0 ≤ ((ji12) : Int) := od_; have E : (ji12) < (l.length : Int) := od_; obtain ⟨U, X, d3, d4⟩ := at_T52 (Kd.R_reads' u.out).2.2 (ji12) D E; cases X; replace D := eq_true D; replace E := eq_true E; have a4 : 0 ≤ ((ji12) : Int) := od_; have a6 : (ji12) < (l.length : Int) := od_; obtain ⟨e8, f6, g4, g5⟩ := at_T52 (Kd.R_reads' u.out).2.2 (ji12) a4 a6; obtain rfl : U = e8 := (by injection f6); replace a4 := eq_true a4; replace a6 := eq_true a6; have a3 : 0 ≤ ((ji12) : Int) := od_; have a5 : ((ji12) : Int) < ((l.length : Int) : Int) := od_; obtain ⟨B, h8, b9, c0, g0, h7, b0⟩ := Kd.R_form u.out (by omega); (first | cases b9 | (injection b9 with ea_ en_ ec_; (first | subst ea_ | (injection ea_ with ea_; subst ea_)); subst ec_; clear en_)); have d9 := Aside0.mk c0; have h2 := Aside0.mk b0; clear c0 g0 b0; (first | simp only [add_plain] at d3 | skip); (first | simp only [add_plain] at d4 | skip); (first | simp only [add_plain] at g4 | skip); (first | simp only [add_plain] at g5 | skip); obtain ⟨h5, g1, c1, Y, a2⟩ := Kd.R_elem u.out z52 ((ji12) : Int) a3 a5; obtain rfl := k52_openM c1; have i7 : G.cell? ⟨B, ((ji12) : Int).toNat * 2, none⟩ = some (iv_ ((rd_T52 l (ji12)).f0)) := Y 0 _ rfl; have i8 : G.cell? ⟨B, ((ji12) : Int).toNat * 2 + 1, none⟩ = some (iv_ ((rd_T52 l (ji12)).f1)) := Y 1 _ rfl; have h9 : G.frozen? ⟨B, ((ji12) : Int).toNat * 2, none⟩ = false := a2 0; have i0 : G.frozen? ⟨B, ((ji12) : Int).toNat * 2 + 1, none⟩ = false := a2 1; clear g1 Y a2 c1; replace a3 := eq_true a3; replace a5 := eq_true a5; have b1 := Aside0.mk (show Kd.R k52 52 G w.heap.size (fun _ => True) (.slice (some ⟨B, 0, none⟩) l.length b8) l from (ra_ u)); obtain ⟨h6, d1, d0, Z, d2⟩ := Kd.R_elem b1.out z52 ((ji12) : Int) od_ (by have h_ : ((ji12) : Int) < ((l.length : Int) : Int) := od_; first | exact h_ | (have e_ := (Kd.R_reads' u.out).1; omega) | simpa using h_); obtain rfl := k52_openM d0; have T := Kd.R_seg b1.out ((ji12) : Int) od_ (by have h_ : ((ji12) : Int) < ((l.length : Int) : Int) := od_; first | exact h_ | (have e_ := (Kd.R_reads' u.out).1; omega) | simpa using h_) (seg := [iv_ (wrap64 (((rd_T52 l (ji12)).f1) + 1))]) (j := 1) d1 Z (show 2 ≤ 2 from by decide) (x' := (⟨(rd_T52 l (ji12)).f0, wrap64 (((rd_T52 l (ji12)).f1) + 1)⟩ : S52)) (k52_mkM _ _ _ (⟨(rd_T52 l (ji12)).f0, wrap64 (((rd_T52 l (ji12)).f1) + 1)⟩ : S52) ) (fun _ hk => hk); have g3 := Z 1 _ rfl; (try simp only [show (k52).sz = 2 from rfl, Nat.mul_one, Nat.add_zero] at g3); have g2 := d2 1; (try simp only [show (k52).sz = 2 from rfl, Nat.mul_one, Nat.add_zero] at g2); clear d1 Z d2 d0) | ((with_reducible refine gate_store (t := 3) (p := 44) rfl ?_); refine store_event (t := 3) (p := 44) (v := ?vo_w20) (w1 := (G.setCell ⟨B, ((ji12) : Int).toNat * 2 + 1, none⟩ (iv_ (wrap64 (((rd_T52 l (ji12)).f1) + 1))))) ?hg ?ho ?hn ?hr ?_; (case ho => rfl); (case hg => rfl); (case hn => rfl); (case hr => first | (go_simp; done) | (go_simp; rfl)); intro a8 hw; have hg : G.grownBy a8 (some B) := (by rw [hw]; exact T.2); have hp_ : Kd.R k52 52 a8 w.heap.size (fun _ => True) (.slice (some ⟨B, 0, none⟩) l.length b8) d7 := (by rw [hw, e5.out]; exact T.1); clear T; refine sh2_ hp_ ((by rw [hw]; exact below_set (HB.out) d9.out : Below w.heap.size w a8)) ?_; clear u HB; intro u HB; clear hg hw hp_))
       go_roundg x
       case measure => have := z.out; omega
       case rel => exact ⟨(d7), (wrap64 (m + 1)), (by first | rfl | (simp; done) | (simp [*]; done)), H', ⟨by have := z.out; omega⟩, ⟨ra_ u⟩, ⟨bl_ HB⟩⟩
      ·rw [if_neg M] at H
       obtain ⟨e9, f2⟩ := bn_ M
       replace H := ifn_ H
       obtain ⟨b6, H⟩ := H
       have e3 := Aside0.mk b6
       clear b6
       replace H : ∃ y_ : List S52, Aside0 (y_ = (l ++ [(⟨m, wrap64 (m + 1)⟩ : S52)])) ∧ (sw.l0 q x y y_ (wrap64 (m + 1))) = some r := ⟨_, ⟨rfl⟩, yh_ H⟩
       obtain ⟨g8, e6, H⟩ := H
       have H' := Aside0.mk H
       clear H
       go_wp2_with (first | ((with_reducible refine gate_fnval (s := 19) rfl ?_); refine goesF_ (some 21) rfl rfl eg #[iv_ m] rfl rfl mp_ ?_; (refine (hq x m true _ L.out (bl_ HB)).mono ?_); rintro e j2 ⟨rfl, hb⟩; refine ⟨_, rfl, sh2_ (Kd.R_below (ra_ u) hb) (below_step (bl_ HB) hb) ?_⟩; clear u HB hb; intro u HB; obtain ⟨h1, f4, f8⟩ := Kd.R_slice u.out; subst f8; have D : 0 ≤ ((ji12) : Int) := od_; have E : (ji12) < (l.length : Int) := od_; obtain ⟨U, X, d3, d4⟩ := at_T52 (Kd.R_reads' u.out).2.2 (ji12) D E; cases X; replace D := eq_true D; replace E := eq_true E) | ((with_reducible refine gate_builtin (b := .append) (xs := #[.tmp 45, .tmp 50]) rfl ?_); at_builtin; refine Kd.R_append k52 (w0 := w) w.heap.size rfl (.tmp 45) (.tmp 50) 47 52 (.agg #[(iv_ 0), (iv_ 0)]) 16 rfl Tryz.underlying47 info52 rfl (by decide) (by omega) (.slice (some U) l.length f4) l (⟨m, wrap64 (m + 1)⟩ : S52) [iv_ m, iv_ (wrap64 (m + 1))] (fun _ => True) (fun _ => False) rfl rfl ?aP (fun _ hk => hk.elim) ?aF ?aO ?aB ?aS ?aL ?_; (case aP => exact k52_mkM _ _ _ (⟨m, wrap64 (m + 1)⟩ : S52)); (case aB => exact (bl_ HB)); (case aF => exact (fun _ _ => trivial)); (case aO => exact (ra_ u)); (case aS => exact (below_size (bl_ HB))); (case aL => have := e3.out; omega); intro j0 j3 ho hb hg hat; rw [← e6.out] at ho; refine sh2_ hb ho ?_; clear HB u ho hb hg hat; intro HB e1))
       go_roundg x
       case measure => have := z.out; omega
       case rel => exact ⟨(g8), (wrap64 (m + 1)), (by first | rfl | (simp; done) | (simp [*]; done)), H', ⟨by have := z.out; omega⟩, ⟨ra_ e1⟩, ⟨bl_ HB⟩⟩
     ·rw [if_neg J] at H
      have b3 : decide (0 ≤ (wrap64 ((l.length : Int) - 1))) = false := decide_eq_false J
      clear J
      replace H := ifn_ H
      obtain ⟨b7, H⟩ := H
      have e4 := Aside0.mk b7
      clear b7
      replace H : ∃ y_ : List S52, Aside0 (y_ = (l ++ [(⟨m, wrap64 (m + 1)⟩ : S52)])) ∧ (sw.l0 q x y y_ (wrap64 (m + 1))) = some r := ⟨_, ⟨rfl⟩, yh_ H⟩
      obtain ⟨g9, e7, H⟩ := H
      have H' := Aside0.mk H
      clear H
      go_wp2_with (first | ((with_reducible refine gate_fnval (s := 19) rfl ?_); refine goesF_ (some 21) rfl rfl eg #[iv_ m] rfl rfl mp_ ?_; (refine (hq x m true _ L.out (bl_ HB)).mono ?_); rintro e j4 ⟨rfl, hb⟩; refine ⟨_, rfl, sh2_ (Kd.R_below (ra_ u) hb) (below_step (bl_ HB) hb) ?_⟩; clear u HB hb; intro u HB; obtain ⟨d8, f5, f9⟩ := Kd.R_slice u.out; subst f9) | ((with_reducible refine gate_builtin (b := .append) (xs := #[.tmp 45, .tmp 50]) rfl ?_); at_builtin; refine Kd.R_append k52 (w0 := w) w.heap.size rfl (.tmp 45) (.tmp 50) 47 52 (.agg #[(iv_ 0), (iv_ 0)]) 16 rfl Tryz.underlying47 info52 rfl (by decide) (by omega) (.slice d8 l.length f5) l (⟨m, wrap64 (m + 1)⟩ : S52) [iv_ m, iv_ (wrap64 (m + 1))] (fun _ => True) (fun _ => False) rfl rfl ?aP (fun _ hk => hk.elim) ?aF ?aO ?aB ?aS ?aL ?_; (case aP => exact k52_mkM _ _ _ (⟨m, wrap64 (m + 1)⟩ : S52)); (case aB => exact (bl_ HB)); (case aF => exact (fun _ _ => trivial)); (case aO => exact (ra_ u)); (case aS => exact (below_size (bl_ HB))); (case aL => have := e4.out; omega); intro j1 j5 ho hb hg hat; rw [← e7.out] at ho; refine sh2_ hb ho ?_; clear HB u ho hb hg hat; intro HB e2))
      go_roundg x
      case measure => have := z.out; omega
      case rel => exact ⟨(g9), (wrap64 (m + 1)), (by first | rfl | (simp; done) | (simp [*]; done)), H', ⟨by have := z.out; omega⟩, ⟨ra_ e2⟩, ⟨bl_ HB⟩⟩
    ·replace c10 := Bool.eq_false_iff.mpr c10
     subst c10
     have H1 : (sw.l0 q x y l (wrap64 (m + 1))) = some r := by rw [if_neg (show ¬ (false = true) by decide)] at H; exact H
     clear H
     have H := H1
     clear H1
     have H' := Aside0.mk H
     clear H
     go_wp2_with (first | ((with_reducible refine gate_fnval (s := 19) rfl ?_); refine goesF_ (some 21) rfl rfl eg #[iv_ m] rfl rfl mp_ ?_; (refine (hq x m false _ L.out (bl_ HB)).mono ?_); rintro e j6 ⟨rfl, hb⟩; refine ⟨_, rfl, sh2_ (Kd.R_below (ra_ u) hb) (below_step (bl_ HB) hb) ?_⟩; clear u HB hb; intro u HB))
     go_roundg x
     case measure => have := z.out; omega
     case rel => exact ⟨(l), (wrap64 (m + 1)), (by first | rfl | (simp; done) | (simp [*]; done)), H', ⟨by have := z.out; omega⟩, ⟨ra_ u⟩, ⟨bl_ HB⟩⟩
   ·rw [if_neg c8] at H
    have f3 : decide (m < (ji7)) = false := decide_eq_false c8
    clear c8
    obtain rfl := Option.some.inj H
    go_wp2
    go_ret
    exact ⟨_, by first | rfl | (simp [errW_none, errW_some] <;> rfl) | (simp only [← hji4, ← hji7]; first | rfl | (simp [errW_none, errW_some] <;> rfl)) | (simp [*, errW_none, errW_some] <;> rfl), ra_ u, bl_ HB⟩

/-! ### impl_JoinSpans_1: function 71 -/
def impl_JoinSpans_1.f (j : Int) (l : List Bool) : Option (Bool) := if 0 ≤ j then (if j < (l.length : Int) then (some (rdOf false l j)) else (none)) else (none)
theorem impl_JoinSpans_1.calls (l : Int) (m : Option Addr) (u : Nat) (j : List Bool) (r : Bool) (w : World) (s : Nat) (G : w.heap[s]? = some (.cells #[.slice m j.length u] 102 (0, 0))) (B : Kd.C Kd.bool w m j.length j) (z : j.length ≤ u) (h : impl_JoinSpans_1.f l j = some r) :
  Calls Tryz.prog 71 #[iv_ l, .pointer (some ⟨s, 0, none⟩)] w fun e w' => e = .returned (.bool r) ∧ Drawn0 w w' := by
 have O : w.cell? ⟨s, 0, none⟩ = some (.slice m j.length u) := (blk_cell G 0).trans rfl
 have D := Aside0.mk B
 have I := Aside0.mk z
 clear B z
 have H := h
 clear h
 unfold impl_JoinSpans_1.f at H
 replace H := ifn_ H
 obtain ⟨c3, H⟩ := H
 have L := decide_eq_true c3
 clear c3
 replace H := ifn_ H
 obtain ⟨c4, H⟩ := H
 have M := decide_eq_true c4
 clear c4
 obtain rfl := Option.some.inj H
 have x : 0 ≤ (l : Int) := od_
 have y : l < (j.length : Int) := od_
 obtain ⟨J, E, T⟩ := Kd.at_bool D.out l x y
 cases E
 replace x := eq_true x
 replace y := eq_true y
 go_enter Tryz.func71, Tryz.ntmps71
 go_wp2
 go_ret
 exact ⟨by first | rfl | (simp; done) | (simp [*]; done), by repeat (first | exact Drawn0.refl _ | apply Drawn0.step)⟩


def where_impl_JoinSpans_1.f (k : Nat) (l m : Int) (j : List Bool) : Option (List S52) := sw.f (fun k' t' => impl_JoinSpans_1.f t' j) k l m
theorem where_impl_JoinSpans_1.calls (k : Nat) (u x : Int) (l : Option Addr) (s : Nat) (j : List Bool) (r : List S52) (w : World) (m : Nat) (z : w.heap[m]? = some (.cells #[.slice l j.length s] 102 (0, 0))) (E : Kd.C Kd.bool w l j.length j) (D : j.length ≤ s) (h : where_impl_JoinSpans_1.f k u x j = some r) :
  Calls Tryz.prog 70 #[iv_ u, iv_ x, .func (.func 71) #[] #[.pointer (some ⟨m, 0, none⟩)]] w fun e w' => ∃ y : Value, e = .returned (y) ∧ Kd.R k52 52 w' w.heap.size (fun _ => True) y r ∧ Below w.heap.size w w' := by
 refine sw.calls (fun k' t' => impl_JoinSpans_1.f t' j) k u x r w 71 _ (fun args w => enters_ Tryz.func71 (by kernel_rfl) rfl args w) (fun k' t b W hq hb => ?_) h
 have B := blk_below z hb
 have hh := impl_JoinSpans_1.calls t l s j b W m B (Kd.C_below E hb) D hq
 exact hh.mono (fun e w' hx => ⟨hx.1, by obtain ⟨n, rfl⟩ := hx.2.out; exact pw_below_drewN (Below.refl _ _) n⟩)

/-! ### impl_JoinSpans: function 54 -/
def impl_JoinSpans.f (k : Nat) (j : List S52) : Option (List S52) := (impl_ticks.f k j).bind fun l => ((where_impl_JoinSpans_1.f k 0 1000 l).bind fun m => (some m))
theorem impl_JoinSpans.calls (k : Nat) (E : Option Addr) (G : Nat) (l r : List S52) (w : World) (J : Kd.C k52 w E l.length l) (I : l.length ≤ G) (h : impl_JoinSpans.f k l = some r) :
  Calls Tryz.prog 54 #[.slice E l.length G] w fun e w' => ∃ M : Value, e = .returned (M) ∧ Kd.R k52 52 w' w.heap.size (fun _ => True) M r ∧ Below w.heap.size w w' := by
 have Z := Aside0.mk J
 have X := Aside0.mk I
 clear J I
 have HB := Aside0.mk (Below.refl w.heap.size w)
 have H := h
 clear h
 unfold impl_JoinSpans.f at H
 replace H := bs_ H
 obtain ⟨s, O, H⟩ := H
 replace H := bs_ H
 obtain ⟨a1, T, H⟩ := H
 obtain rfl := Option.some.inj H
 go_enter Tryz.func54, Tryz.ntmps54
 go_wp2_with (first | ((with_reducible refine gate_callee (f := 69) rfl ?_); refine gl_ 5 Tryz.func69 (impl_ticks.calls k _ _ l s _ (cq_ Z) X.out O.out) ?_; rintro e w4 ⟨a5, rfl, m, hb⟩; refine ⟨_, rfl, sh2_ (Kd.R_lower m (below_size (bl_ HB))) (below_step (bl_ HB) hb) ?_⟩; clear HB hb m; intro y HB; obtain ⟨u, z, a0⟩ := Kd.R_slice y.out; subst a0) | ((with_reducible refine gd_ 3 ?_); refine bx_ 3 102 #[.slice none 0 0] ?_; intro B hg a6 hbox hb; have hHBy_ := Aside0.mk hb; have U := Aside0.mk ((by rw [hg]; exact Nat.le_refl _ : w4.heap.size ≤ B)); have HBx_ := hHBy_; clear hHBy_; have x := Aside0.mk hbox; clear hb hg hbox; have a3 := bc_ x 0 rfl; have a4 := bf_ x 0) | ((with_reducible refine gate_callee (f := 70) rfl ?_); refine goesL_ (some 7) rfl rfl Tryz.func70 (by kernel_rfl) rfl #[iv_ 0, iv_ 1000, .func (.func 71) #[] #[.pointer (some ⟨B, 0, none⟩)]] rfl (by (try simp only [List.map_toArray, List.map_cons, List.map_nil]); first | done | rfl) ?_; have HBz_ := below_set (j := 0) (v := .slice u s.length z) (HBx_.out) U.out; (refine (where_impl_JoinSpans_1.calls k 0 1000 u z s a1 _ B (blk_put (cs := #[.slice none 0 0]) (x.out) 0 (.slice u s.length z) rfl) (Kd.C_below (Kd.R_reads' y.out).2.2 HBz_) (Kd.R_reads' y.out).2.1 T.out).mono ?_); rintro e wz ⟨vz, rfl, m, hb⟩; refine ⟨_, rfl, ?_⟩; have D := Aside0.mk (below_then HB.out (below_size HB.out) HBz_); have Y := Aside0.mk (Kd.R_lower m (below_size D.out)); have L := Aside0.mk (below_step D.out hb); clear HB; have HB := L; clear D L hb m))
 go_ret
 exact ⟨_, er_, ra_ Y, bl_ HB⟩

/-! ### impl_ShortenSpans: function 28 -/
mutual
def impl_ShortenSpans.j0 : Nat → List S52 → Int → Int → List S52 → Bool → Option (List S52)
 | 0, _, _, _, _, _ => none
 | k + 1, z, s, u, m, B => if B = true then (some m) else ((impl_JoinSpans.f k z).bind fun y => (impl_ShortenSpans.l0 k s u m y (y.length : Int) 0))
def impl_ShortenSpans.l0 : Nat → Int → Int → List S52 → List S52 → Int → Int → Option (List S52)
 | 0, _, _, _, _, _, _ => none
 | k + 1, s, u, m, l, x, j => if j < x then (if 0 ≤ j then (if j < (l.length : Int) then (if (wrap64 (((rd_T52 l j).f0) + s)) < (wrap64 (((rd_T52 l j).f1) - u)) then (if m.length < 8796093022208 then (impl_ShortenSpans.l0 k s u (m ++ [(⟨wrap64 (((rd_T52 l j).f0) + s), wrap64 (((rd_T52 l j).f1) - u)⟩ : S52)]) l x (wrap64 (j + 1))) else (none)) else (impl_ShortenSpans.l0 k s u m l x (wrap64 (j + 1)))) else (none)) else (none)) else (some m)
end
def impl_ShortenSpans.f (k : Nat) (m : List S52) (j l : Int) : Option (List S52) := (some (([] : List S52) : List S52)).bind fun s => (if j < 0 then (impl_ShortenSpans.j0 k m j l s true) else (if l < 0 then (impl_ShortenSpans.j0 k m j l s true) else (if j > 1000 then (impl_ShortenSpans.j0 k m j l s true) else (impl_ShortenSpans.j0 k m j l s (decide (l > 1000))))))
theorem impl_ShortenSpans.calls (k : Nat) (A0 : Option Addr) (c0 : Nat) (z : List S52) (s u : Int) (r : List S52) (w : World) (b9 : Kd.C k52 w A0 z.length z) (b8 : z.length ≤ c0) (h : impl_ShortenSpans.f k z s u = some r) :
  Calls Tryz.prog 28 #[.slice A0 z.length c0, iv_ s, iv_ u] w fun e w' => ∃ c1 : Value, e = .returned (c1) ∧ Kd.R k52 52 w' w.heap.size (fun _ => True) c1 r ∧ Below w.heap.size w w' := by
 have f4 := Tryz.underlying52
 have d4 := Aside0.mk b9
 have d2 := Aside0.mk b8
 clear b9 b8
 have HB := Aside0.mk (Below.refl w.heap.size w)
 have H := h
 clear h
 unfold impl_ShortenSpans.f at H
 replace H : ∃ y_ : List S52, Aside0 (y_ = (([] : List S52))) ∧ (if s < 0 then (impl_ShortenSpans.j0 k z s u y_ true) else (if u < 0 then (impl_ShortenSpans.j0 k z s u y_ true) else (if s > 1000 then (impl_ShortenSpans.j0 k z s u y_ true) else (impl_ShortenSpans.j0 k z s u y_ (decide (u > 1000)))))) = some r := ⟨_, ⟨rfl⟩, yh_ H⟩
 obtain ⟨a0, b2, H⟩ := H
 have a3 := Aside0.mk H
 clear H
 go_enter Tryz.func28, Tryz.ntmps28
 go_upto_region 2 with (first | ((with_reducible refine gate_dst (N := 10) rfl ?_); refine Kd.R_lit k52 _ 52 ?hg (N := 10) ?hd (xs := ([] : List S52)) (inner := []) (ok := fun _ => True) (okp := fun _ => True) ?hr ?hp (fun _ hk => hk) trivial (Below.refl _ _) (Nat.le_refl _) (by simp) ?_; (case hd => rfl); (case hg => rfl); (case hr => first | (go_simp; done) | (go_simp; rfl)); (case hp => exact (Reps.none _ _)); intro e6 w5 O hb hg_ hnew_; clear hg_ hnew_; (first | rw [← b2.out] at O | (simp only [Int.reduceToNat] at O; rw [← b2.out] at O)); refine sh2_ (Kd.R_lower O (below_size (bl_ HB))) (below_step (bl_ HB) hb) ?_; clear HB hb O; intro Y HB))
 (try simp only [Act.put, List.setIfInBounds_toArray, List.set_cons_zero, List.set_cons_succ])
 go_cut [24] (fun e4 wc => ∃ (kq : Nat) (Z : Bool), e4 = .bool Z ∧ Aside0 (impl_ShortenSpans.j0 kq z s u a0 Z = some r) ∧ Aside0 (kq ≤ k) ∧ Aside0 (Kd.R k52 52 wc w.heap.size (fun _ => True) e6 a0) ∧ Aside0 (Below w.heap.size w wc))
 case first =>
  have H := a3.out
  clear a3
  by_cases c7 : s < 0
  ·rw [if_pos c7] at H
   have M := decide_eq_true c7
   clear c7
   (first | rw [M] | (simp only [i64_w, i32_w]; rw [M]) | skip)
   have H' := Aside0.mk H
   clear H
   go_wp2
   go_meet
   case rel => exact ⟨_, (true), (by first | rfl | (simp; done) | (simp [*]; done)), H', ⟨by first | omega | exact Nat.le_refl _⟩, ⟨ra_ Y⟩, ⟨bl_ HB⟩⟩
  ·rw [if_neg c7] at H
   have M := decide_eq_false c7
   clear c7
   (first | rw [M] | (simp only [i64_w, i32_w]; rw [M]) | skip)
   by_cases c8 : u < 0
   ·rw [if_pos c8] at H
    have d9 := decide_eq_true c8
    clear c8
    have H' := Aside0.mk H
    clear H
    go_wp2
    go_meet
    case rel => exact ⟨_, (true), (by first | rfl | (simp; done) | (simp [*]; done)), H', ⟨by first | omega | exact Nat.le_refl _⟩, ⟨ra_ Y⟩, ⟨bl_ HB⟩⟩
   ·rw [if_neg c8] at H
    have d9 := decide_eq_false c8
    clear c8
    by_cases c9 : s > 1000
    ·rw [if_pos c9] at H
     have e0 : decide (1000 < s) = true := decide_eq_true c9
     clear c9
     have H' := Aside0.mk H
     clear H
     go_wp2
     go_meet
     case rel => exact ⟨_, (true), (by first | rfl | (simp; done) | (simp [*]; done)), H', ⟨by first | omega | exact Nat.le_refl _⟩, ⟨ra_ Y⟩, ⟨bl_ HB⟩⟩
    ·rw [if_neg c9] at H
     have e0 : decide (1000 < s) = false := decide_eq_false c9
     clear c9
     have H' := Aside0.mk H
     clear H
     go_wp2
     go_meet
     case rel => exact ⟨_, (decide (u > 1000)), (by first | rfl | (simp; done) | (simp [*]; done)), H', ⟨by first | omega | exact Nat.le_refl _⟩, ⟨ra_ Y⟩, ⟨bl_ HB⟩⟩
 case rest =>
  clear a3
  obtain ⟨kq, Z, rfl, HA, U, x, HB⟩ := hcut
  cases kq with
  | zero => exact absurd HA.out (by simp [impl_ShortenSpans.j0])
  | succ T =>
   have H := HA.out
   clear HA
   simp only [impl_ShortenSpans.j0] at H
   by_cases c10 : Z = true
   ·subst c10
    rw [if_pos rfl] at H
    obtain rfl := Option.some.inj H
    go_wp2
    go_ret
    exact ⟨_, er_, ra_ x, bl_ HB⟩
   ·replace c10 := Bool.eq_false_iff.mpr c10
    subst c10
    have H1 : ((impl_JoinSpans.f T z).bind fun j => (impl_ShortenSpans.l0 T s u a0 j (j.length : Int) 0)) = some r := by rw [if_neg (show ¬ (false = true) by decide)] at H; exact H
    clear H
    have H := H1
    clear H1
    replace H := bs_ H
    obtain ⟨j, d1, H⟩ := H
    have H' := Aside0.mk H
    clear H
    go_wp2_with (first | ((with_reducible refine gate_callee (f := 54) rfl ?_); refine gl_ 27 Tryz.func54 (impl_JoinSpans.calls T _ _ z j _ (ck_ d4 HB) d2.out d1.out) ?_; rintro e f7 ⟨f5, rfl, a6, hb⟩; refine ⟨_, rfl, sh3_ (Kd.R_elder' (ra_ x) (Kd.R_base a6) hb) (Kd.R_lower (Kd.R_new' a6 (Kd.R_lt (ra_ x))) (below_size (bl_ HB))) (below_step (bl_ HB) hb) ?_⟩; clear x HB hb a6; intro x b1 HB; obtain ⟨a9, a4, e1⟩ := Kd.R_slice b1.out; subst e1))
    go_loopg [7, 29] T (fun kq v7 e5 w' => ∃ (J : List S52) (l : Int), e5 = iv_ l ∧ Aside0 (impl_ShortenSpans.l0 kq s u J j (j.length : Int) l = some r) ∧ Aside0 (kq ≤ T) ∧ Aside0 (Kd.R k52 52 w' w.heap.size (fun k_ => some k_ ≠ ((.slice a9 j.length a4) : Value).ownBlock) v7 J) ∧ Aside0 (Kd.R k52 52 w' w.heap.size (fun k_ => some k_ ≠ (v7 : Value).ownBlock) (.slice a9 j.length a4) j) ∧ Aside0 (Below w.heap.size w w'))
    case atStart => exact ⟨(a0), (0), (by first | rfl | (simp; done) | (simp [*]; done)), H', ⟨Nat.le_refl _⟩, ⟨by (with_reducible repeat (first | apply Kd.R_alloc | apply Kd.R_drewN | apply Kd.R_drew)); exact Kd.R_mono x.out (fun _ hk => hk.2)⟩, ⟨by (with_reducible repeat (first | apply Kd.R_alloc | apply Kd.R_drewN | apply Kd.R_drew)); exact Kd.R_mono b1.out (fun _ hk => hk.2)⟩, ⟨bl_ HB⟩⟩
    case round =>
     clear H'
     obtain ⟨J, l, rfl, HA, X, x, y, HB⟩ := hrel
     cases gk with
     | zero => exact absurd HA.out (by simp [impl_ShortenSpans.l0])
     | succ k2 =>
      have H := HA.out
      clear HA
      simp only [impl_ShortenSpans.l0] at H
      by_cases G : l < (j.length : Int)
      ·rw [if_pos G] at H
       have d7 := decide_eq_true G
       clear G
       replace H := ifn_ H
       obtain ⟨b5, H⟩ := H
       have e8 := decide_eq_true b5
       clear b5
       replace H := ifn_ H
       obtain ⟨b6, H⟩ := H
       have e9 := decide_eq_true b6
       clear b6
       by_cases I : (wrap64 (((rd_T52 j l).f0) + s)) < (wrap64 (((rd_T52 j l).f1) - u))
       ·rw [if_pos I] at H
        have d8 := decide_eq_true I
        clear I
        replace H := ifn_ H
        obtain ⟨b7, H⟩ := H
        have d5 := Aside0.mk b7
        clear b7
        replace H : ∃ y_ : List S52, Aside0 (y_ = (J ++ [(⟨wrap64 (((rd_T52 j l).f0) + s), wrap64 (((rd_T52 j l).f1) - u)⟩ : S52)])) ∧ (impl_ShortenSpans.l0 k2 s u y_ j (j.length : Int) (wrap64 (l + 1))) = some r := ⟨_, ⟨rfl⟩, yh_ H⟩
        obtain ⟨e7, d6, H⟩ := H
        have H' := Aside0.mk H
        clear H
        have D : 0 ≤ (l : Int) := od_
        have E : l < (j.length : Int) := od_
        obtain ⟨b3, a5, e2, e3⟩ := at_T52 (Kd.R_reads' y.out).2.2 l D E
        cases a5
        replace D := eq_true D
        replace E := eq_true E
        go_wp2_with (first | ((with_reducible refine gd_ 9 ?_); refine bx_ 9 52 #[iv_ 0, iv_ 0] ?_; intro m hg f8 hbox hb; refine sh5_ (Kd.R_below (Kd.R_elderB (ra_ x) m (Nat.le_of_eq hg.symm)) hb) (Kd.R_below (Kd.R_elderB (ra_ y) m (Nat.le_of_eq hg.symm)) hb) (below_step (bl_ HB) hb) hbox (ge_ hg (bl_ HB)) ?_; clear x y HB hb hbox hg; intro x y HB B L; have f2 := cf2_ B) | ((with_reducible refine gate_builtin (b := .append) (xs := #[.tmp 42, .tmp 52]) rfl ?_); at_builtin; refine Kd.R_append k52 (w0 := w) w.heap.size rfl (.tmp 42) (.tmp 52) 47 52 (.agg #[(iv_ 0), (iv_ 0)]) 16 rfl Tryz.underlying47 info52 rfl (by decide) (by omega) u7 J (⟨wrap64 (((rd_T52 j l).f0) + s), wrap64 (((rd_T52 j l).f1) - u)⟩ : S52) [iv_ (wrap64 (((rd_T52 j l).f0) + s)), iv_ (wrap64 (((rd_T52 j l).f1) - u))] (fun k_ => some k_ ≠ (.slice (some b3) j.length a4 : Value).ownBlock ∧ k_ ≠ m) (fun _ => False) rfl (by first | (go_simp; done) | (go_simp; rfl)) ?aP (fun _ hk => hk.elim) ?aF ?aO ?aB ?aS ?aL ?_; (case aP => exact k52_mkM _ _ _ (⟨wrap64 (((rd_T52 j l).f0) + s), wrap64 (((rd_T52 j l).f1) - u)⟩ : S52)); (case aB => exact (bl1_ HB L)); (case aF => exact (fun k_ hk => ⟨Kd.fresh' (Kd.R_lt (by (with_reducible repeat (first | apply Kd.R_alloc | apply Kd.R_drewN | apply Kd.R_drew)); exact (Kd.R_mono (Kd.R_far (p := ⟨m, 1, none⟩) (Kd.R_far (p := ⟨m, 0, none⟩) (Kd.R_mono y.out (fun k_ hk => (⟨hk, hk.2⟩ : _ ∧ k_ ≠ m))) (fun _ hk => hk.2) (iv_ ((rd_T52 j l).f0))) (fun _ hk => hk.2) (iv_ ((rd_T52 j l).f1))) (fun _ h_ => h_.1)))) k_ hk, Kd.freshB (g := m) (o := .cells #[iv_ ((rd_T52 j l).f0), iv_ ((rd_T52 j l).f1)] 52 (0, 0)) (bp_ B) k_ hk⟩)); (case aO => exact (by (with_reducible repeat (first | apply Kd.R_alloc | apply Kd.R_drewN | apply Kd.R_drew)); exact Kd.R_mono (Kd.R_far (p := ⟨m, 1, none⟩) (Kd.R_far (p := ⟨m, 0, none⟩) (Kd.R_mono x.out (fun k_ hk => (⟨hk, hk.2⟩ : _ ∧ k_ ≠ m))) (fun _ hk => hk.2) (iv_ ((rd_T52 j l).f0))) (fun _ hk => hk.2) (iv_ ((rd_T52 j l).f1))) (fun _ hk => ⟨hk.1.1, hk.1.2⟩))); (case aS => exact (below_size (bl1_ HB L))); (case aL => have := d5.out; omega); intro f6 f9 ho hb hg hat; rw [← d6.out] at ho; refine sh4_ (Kd.R_after (ok := (fun k_ => k_ ≠ m)) (by (with_reducible repeat (first | apply Kd.R_alloc | apply Kd.R_drewN | apply Kd.R_drew)); exact Kd.R_mono (Kd.R_far (p := ⟨m, 1, none⟩) (Kd.R_far (p := ⟨m, 0, none⟩) (Kd.R_mono y.out (fun k_ hk => (⟨hk, hk.2⟩ : _ ∧ k_ ≠ m))) (fun _ hk => hk.2) (iv_ ((rd_T52 j l).f0))) (fun _ hk => hk.2) (iv_ ((rd_T52 j l).f1))) (fun _ hk => ⟨hk.1.2, hk.1.1⟩)) hg hat) (blk_grown (g := m) (o := .cells #[iv_ ((rd_T52 j l).f0), iv_ ((rd_T52 j l).f1)] 52 (0, 0)) (bp_ B) hg (Kd.R_away x.out (fun _ hk => hk.2))) hb ho ?_; clear y B HB x ho hb hg hat; intro y B HB d3))
        go_roundg k2
        case measure => have := U.out; have := X.out; omega
        case rel => exact ⟨(e7), (wrap64 (l + 1)), (by first | rfl | (simp; done) | (simp [*]; done)), H', ⟨by have := U.out; have := X.out; omega⟩, ⟨by (with_reducible repeat (first | apply Kd.R_alloc | apply Kd.R_drewN | apply Kd.R_drew)); exact Kd.R_mono d3.out (fun _ hk => hk.1)⟩, ⟨by (with_reducible repeat (first | apply Kd.R_alloc | apply Kd.R_drewN | apply Kd.R_drew)); exact Kd.R_mono y.out (fun _ hk => hk.2)⟩, ⟨bl1_ HB L⟩⟩
       ·rw [if_neg I] at H
        have d8 := decide_eq_false I
        clear I
        have H' := Aside0.mk H
        clear H
        have D : 0 ≤ (l : Int) := od_
        have E : l < (j.length : Int) := od_
        obtain ⟨b3, a5, e2, e3⟩ := at_T52 (Kd.R_reads' y.out).2.2 l D E
        cases a5
        replace D := eq_true D
        replace E := eq_true E
        go_wp2_with (first | ((with_reducible refine gd_ 9 ?_); refine bx_ 9 52 #[iv_ 0, iv_ 0] ?_; intro m hg g0 hbox hb; refine sh5_ (Kd.R_below (Kd.R_elderB (ra_ x) m (Nat.le_of_eq hg.symm)) hb) (Kd.R_below (Kd.R_elderB (ra_ y) m (Nat.le_of_eq hg.symm)) hb) (below_step (bl_ HB) hb) hbox (ge_ hg (bl_ HB)) ?_; clear x y HB hb hbox hg; intro x y HB B L; have f3 := cf2_ B))
        go_roundg k2
        case measure => have := U.out; have := X.out; omega
        case rel => exact ⟨(J), (wrap64 (l + 1)), (by first | rfl | (simp; done) | (simp [*]; done)), H', ⟨by have := U.out; have := X.out; omega⟩, ⟨by (with_reducible repeat (first | apply Kd.R_alloc | apply Kd.R_drewN | apply Kd.R_drew)); exact Kd.R_mono (Kd.R_far (p := ⟨m, 1, none⟩) (Kd.R_far (p := ⟨m, 0, none⟩) (Kd.R_mono x.out (fun k_ hk => (⟨hk, hk.2⟩ : _ ∧ k_ ≠ m))) (fun _ hk => hk.2) (iv_ ((rd_T52 j l).f0))) (fun _ hk => hk.2) (iv_ ((rd_T52 j l).f1))) (fun _ hk => hk.1.1)⟩, ⟨by (with_reducible repeat (first | apply Kd.R_alloc | apply Kd.R_drewN | apply Kd.R_drew)); exact Kd.R_mono (Kd.R_far (p := ⟨m, 1, none⟩) (Kd.R_far (p := ⟨m, 0, none⟩) (Kd.R_mono y.out (fun k_ hk => (⟨hk, hk.2⟩ : _ ∧ k_ ≠ m))) (fun _ hk => hk.2) (iv_ ((rd_T52 j l).f0))) (fun _ hk => hk.2) (iv_ ((rd_T52 j l).f1))) (fun _ hk => hk.1.1)⟩, ⟨bl1_ HB L⟩⟩
      ·rw [if_neg G] at H
       have d7 := decide_eq_false G
       clear G
       obtain rfl := Option.some.inj H
       go_wp2
       go_ret
       exact ⟨_, er_, by (with_reducible repeat (first | apply Kd.R_alloc | apply Kd.R_drewN | apply Kd.R_drew)); exact Kd.R_mono x.out (fun _ hk => trivial), bl_ HB⟩

/-! ### impl_CutSpans_1: function 72 -/
def impl_CutSpans_1.f (j : Int) (l m : List Bool) : Option (Bool) := if 0 ≤ j then (if j < (l.length : Int) then (if rdOf false l j = true then (if j < (m.length : Int) then (some (!(rdOf false m j))) else (none)) else (some false)) else (none)) else (none)
theorem impl_CutSpans_1.calls (j : Int) (x : Option Addr) (E : Nat) (l : List Bool) (y : Option Addr) (c2 : Nat) (m : List Bool) (r : Bool) (w : World) (z : Nat) (a3 : w.heap[z]? = some (.cells #[.slice x l.length E] 102 (0, 0))) (B : Nat) (a4 : w.heap[B]? = some (.cells #[.slice y m.length c2] 102 (0, 0))) (X : Kd.C Kd.bool w x l.length l) (T : l.length ≤ E) (Y : Kd.C Kd.bool w y m.length m) (U : m.length ≤ c2) (h : impl_CutSpans_1.f j l m = some r) :
  Calls Tryz.prog 72 #[iv_ j, .pointer (some ⟨z, 0, none⟩), .pointer (some ⟨B, 0, none⟩)] w fun e w' => e = .returned (.bool r) ∧ Drawn0 w w' := by
 have b2 : w.cell? ⟨z, 0, none⟩ = some (.slice x l.length E) := (blk_cell a3 0).trans rfl
 have b3 : w.cell? ⟨B, 0, none⟩ = some (.slice y m.length c2) := (blk_cell a4 0).trans rfl
 have O := Aside0.mk X
 have a6 := Aside0.mk T
 clear X T
 have Z := Aside0.mk Y
 have a7 := Aside0.mk U
 clear Y U
 have H := h
 clear h
 unfold impl_CutSpans_1.f at H
 replace H := ifn_ H
 obtain ⟨c4, H⟩ := H
 have a9 := decide_eq_true c4
 clear c4
 replace H := ifn_ H
 obtain ⟨c5, H⟩ := H
 have b0 := decide_eq_true c5
 clear c5
 obtain ⟨bq6, hbq6⟩ : ∃ b_ : Bool, b_ = (rdOf false l j) := ⟨_, rfl⟩
 replace H : (if bq6 = true then (if j < (m.length : Int) then (some (!(rdOf false m j))) else (none)) else (some false)) = some r := by rw [← hbq6] at H; exact H
 have D := Aside0.mk hbq6
 clear hbq6
 by_cases c7 : bq6 = true
 ·subst c7
  rw [if_pos rfl] at H
  replace H := ifn_ H
  obtain ⟨c8, H⟩ := H
  have b1 := decide_eq_true c8
  clear c8
  obtain rfl := Option.some.inj H
  have s : 0 ≤ (j : Int) := od_
  have u : j < (l.length : Int) := od_
  obtain ⟨a1, G, I⟩ := Kd.at_bool O.out j s u
  (try rw [← D.out] at I)
  cases G
  replace s := eq_true s
  replace u := eq_true u
  have J : 0 ≤ (j : Int) := od_
  have L : j < (m.length : Int) := od_
  obtain ⟨a8, a2, a5⟩ := Kd.at_bool Z.out j J L
  (try rw [← D.out] at a5)
  cases a2
  replace J := eq_true J
  replace L := eq_true L
  go_enter Tryz.func72, Tryz.ntmps72
  go_wp2
  go_ret
  exact ⟨by first | rfl | (simp; done) | (simp [*]; done), by repeat (first | exact Drawn0.refl _ | apply Drawn0.step)⟩
 ·replace c7 := Bool.eq_false_iff.mpr c7
  subst c7
  have M : (some false) = some r := by rw [if_neg (show ¬ (false = true) by decide)] at H; exact H
  clear H
  have H := M
  clear M
  obtain rfl := Option.some.inj H
  have s : 0 ≤ (j : Int) := od_
  have u : j < (l.length : Int) := od_
  obtain ⟨a1, G, I⟩ := Kd.at_bool O.out j s u
  (try rw [← D.out] at I)
  cases G
  replace s := eq_true s
  replace u := eq_true u
  go_enter Tryz.func72, Tryz.ntmps72
  go_wp2
  go_ret
  exact ⟨by first | rfl | (simp; done) | (simp [*]; done), by repeat (first | exact Drawn0.refl _ | apply Drawn0.step)⟩


def where_impl_CutSpans_1.f (k : Nat) (m s : Int) (j l : List Bool) : Option (List S52) := sw.f (fun k' t' => impl_CutSpans_1.f t' j l) k m s
theorem where_impl_CutSpans_1.calls (k : Nat) (z B : Int) (m : Option Addr) (y : Nat) (j : List Bool) (s : Option Addr) (c2 : Nat) (l : List Bool) (r : List S52) (w : World) (u : Nat) (E : w.heap[u]? = some (.cells #[.slice m j.length y] 102 (0, 0))) (x : Nat) (I : w.heap[x]? = some (.cells #[.slice s l.length c2] 102 (0, 0))) (O : Kd.C Kd.bool w m j.length j) (L : j.length ≤ y) (T : Kd.C Kd.bool w s l.length l) (M : l.length ≤ c2) (h : where_impl_CutSpans_1.f k z B j l = some r) :
  Calls Tryz.prog 70 #[iv_ z, iv_ B, .func (.func 72) #[] #[.pointer (some ⟨u, 0, none⟩), .pointer (some ⟨x, 0, none⟩)]] w fun e w' => ∃ D : Value, e = .returned (D) ∧ Kd.R k52 52 w' w.heap.size (fun _ => True) D r ∧ Below w.heap.size w w' := by
 refine sw.calls (fun k' t' => impl_CutSpans_1.f t' j l) k z B r w 72 _ (fun args w => enters_ Tryz.func72 (by kernel_rfl) rfl args w) (fun k' t b W hq hb => ?_) h
 have G := blk_below E hb
 have J := blk_below I hb
 have hh := impl_CutSpans_1.calls t m y j s c2 l b W u G x J (Kd.C_below O hb) L (Kd.C_below T hb) M hq
 exact hh.mono (fun e w' hx => ⟨hx.1, by obtain ⟨n, rfl⟩ := hx.2.out; exact pw_below_drewN (Below.refl _ _) n⟩)

/-! ### impl_CutSpans: function 55 -/
def impl_CutSpans.f (k : Nat) (j l : List S52) : Option (List S52) := (impl_ticks.f k j).bind fun m => ((impl_ticks.f k l).bind fun s => ((where_impl_CutSpans_1.f k 0 1000 m s).bind fun u => (some u)))
theorem impl_CutSpans.calls (k : Nat) (U : Option Addr) (Z : Nat) (u : List S52) (X : Option Addr) (c1 : Nat) (x r : List S52) (w : World) (a3 : Kd.C k52 w U u.length u) (a1 : u.length ≤ Z) (a4 : Kd.C k52 w X x.length x) (a2 : x.length ≤ c1) (h : impl_CutSpans.f k u x = some r) :
  Calls Tryz.prog 55 #[.slice U u.length Z, .slice X x.length c1] w fun e w' => ∃ a6 : Value, e = .returned (a6) ∧ Kd.R k52 52 w' w.heap.size (fun _ => True) a6 r ∧ Below w.heap.size w w' := by
 have b7 := Aside0.mk a3
 have b4 := Aside0.mk a1
 clear a3 a1
 have b8 := Aside0.mk a4
 have b5 := Aside0.mk a2
 clear a4 a2
 have HB := Aside0.mk (Below.refl w.heap.size w)
 have H := h
 clear h
 unfold impl_CutSpans.f at H
 replace H := bs_ H
 obtain ⟨B, A3, H⟩ := H
 replace H := bs_ H
 obtain ⟨D, A4, H⟩ := H
 replace H := bs_ H
 obtain ⟨d1, A5, H⟩ := H
 obtain rfl := Option.some.inj H
 go_enter Tryz.func55, Tryz.ntmps55
 go_wp2_with (first | ((with_reducible refine gate_callee (f := 69) rfl ?_); refine gl_ 8 Tryz.func69 (impl_ticks.calls k _ _ u B _ (cq_ b7) b4.out A3.out) ?_; rintro e w6 ⟨e0, rfl, m, hb⟩; refine ⟨_, rfl, sh2_ (Kd.R_lower m (below_size (bl_ HB))) (below_step (bl_ HB) hb) ?_⟩; clear HB hb m; intro s HB) | ((with_reducible refine gate_callee (f := 69) rfl ?_); refine gl_ 10 Tryz.func69 (impl_ticks.calls k _ _ x D _ (ck_ b8 HB) b5.out A4.out) ?_; rintro e w7 ⟨e1, rfl, m, hb⟩; refine ⟨_, rfl, sh3_ (Kd.R_elder' (ra_ s) (Kd.R_base m) hb) (Kd.R_lower (Kd.R_new' m (Kd.R_lt (ra_ s))) (below_size (bl_ HB))) (below_step (bl_ HB) hb) ?_⟩; clear s HB hb m; intro s J HB; obtain ⟨E, M, b9⟩ := Kd.R_slice s.out; subst b9; obtain ⟨G, O, d0⟩ := Kd.R_slice J.out; subst d0) | ((with_reducible refine gd_ 5 ?_); refine bx_ 5 102 #[.slice none 0 0] ?_; intro y hg e3 hbox hb; have hHBy_ := Aside0.mk hb; have b2 := Aside0.mk ((by rw [hg]; exact Nat.le_refl _ : w7.heap.size ≤ y)); have HBx_ := hHBy_; clear hHBy_; have l := Aside0.mk hbox; clear hb hg hbox; have d2 := bc_ l 0 rfl; have d5 := bf_ l 0) | ((with_reducible refine gd_ 6 ?_); refine bx_ 6 102 #[.slice none 0 0] ?_; intro z hg e4 hbox hb; have hHBy_ := Aside0.mk (below_step (HBx_.out) hb); have b3 := Aside0.mk ((by rw [hg]; exact below_size (HBx_.out) : w7.heap.size ≤ z)); have L := Aside0.mk ((by rw [hg]; exact Nat.ne_of_lt (blk_lt (l.out)) : y ≠ z)); have b1 := Aside0.mk (blk_below (l.out) hb); clear l; have l := b1; clear HBx_; have HBx_ := hHBy_; clear hHBy_; have I := Aside0.mk hbox; clear hb hg hbox; have d3 := bc_ I 0 rfl; have d6 := bf_ I 0; have Y := Aside0.mk (L.out.symm); have d8 := L.out; have d9 := Y.out; have d4 := bc_ l 0 rfl; have d7 := bf_ l 0) | ((with_reducible refine gate_callee (f := 70) rfl ?_); refine goesL_ (some 12) rfl rfl Tryz.func70 (by kernel_rfl) rfl #[iv_ 0, iv_ 1000, .func (.func 72) #[] #[.pointer (some ⟨y, 0, none⟩), .pointer (some ⟨z, 0, none⟩)]] rfl (by (try simp only [List.map_toArray, List.map_cons, List.map_nil]); first | done | rfl) ?_; have HBz_ := below_set (j := 0) (v := .slice G D.length O) (below_set (j := 0) (v := .slice E B.length M) (HBx_.out) b2.out) b3.out; (refine (where_impl_CutSpans_1.calls k 0 1000 E M B G O D d1 _ y (blk_far (blk_put (cs := #[.slice none 0 0]) (l.out) 0 (.slice E B.length M) rfl) L.out _) z (blk_put (cs := #[.slice none 0 0]) (blk_far (I.out) Y.out _) 0 (.slice G D.length O) rfl) (Kd.C_below (Kd.R_reads' s.out).2.2 HBz_) (Kd.R_reads' s.out).2.1 (Kd.C_below (Kd.R_reads' J.out).2.2 HBz_) (Kd.R_reads' J.out).2.1 A5.out).mono ?_); rintro e wz ⟨vz, rfl, m, hb⟩; refine ⟨_, rfl, ?_⟩; have T := Aside0.mk (below_then HB.out (below_size HB.out) HBz_); have b6 := Aside0.mk (Kd.R_lower m (below_size T.out)); have a5 := Aside0.mk (below_step T.out hb); clear HB; have HB := a5; clear T a5 hb m))
 go_ret
 exact ⟨_, er_, ra_ b6, bl_ HB⟩

/-! ### impl_isSatellite: function 85 -/
def impl_isSatellite.f (s : Int) (l : List S68) (E : List S70) (u x y z B : Int) (G : List S76) (D j : Int) : Option (Bool) := (impl_InRange.f j 0 (wrap64 ((l.length : Int) - 1))).bind fun m => (some m)
theorem impl_isSatellite.calls (y : Int) (s : Option Addr) (L : Nat) (j : List S68) (u : Option Addr) (M : Nat) (l : List S70) (z B D E G : Int) (x : Option Addr) (O : Nat) (m : List S76) (I J : Int) (r : Bool) (w : World) (Y : Kd.C k68 w s j.length j) (T : j.length ≤ L) (Z : Kd.C k70 w u l.length l) (U : l.length ≤ M) (a0 : Kd.C k76 w x m.length m) (X : m.length ≤ O) (h : impl_isSatellite.f y j l z B D E G m I J = some r) :
  Calls Tryz.prog 85 #[.agg #[iv_ y, .slice s j.length L, .slice u l.length M, iv_ z, iv_ B, iv_ D, iv_ E, iv_ G, .slice x m.length O, iv_ I], iv_ J] w fun e w' => e = .returned (.bool r) ∧ Below w.heap.size w w' := by
 have b4 := Tryz.underlying34
 have a9 := Aside0.mk Y
 have a6 := Aside0.mk T
 clear Y T
 have b0 := Aside0.mk Z
 have a7 := Aside0.mk U
 clear Z U
 have b1 := Aside0.mk a0
 have a8 := Aside0.mk X
 clear a0 X
 have HB := Aside0.mk (Below.refl w.heap.size w)
 have H := h
 clear h
 unfold impl_isSatellite.f at H
 replace H := bs_ H
 obtain ⟨a5, A3, H⟩ := H
 obtain rfl := Option.some.inj H
 go_enter Tryz.func85, Tryz.ntmps85
 go_wp2_with (first | ((with_reducible refine gd_ 2 ?_); refine bx_ 2 34 #[iv_ y, .slice s j.length L, .slice u l.length M, iv_ z, iv_ B, iv_ D, iv_ E, iv_ G, .slice x m.length O, iv_ I] ?_; intro b2 hg w4 hbox hb; refine sh3_ (below_step (bl_ HB) hb) hbox (ge_ hg (bl_ HB)) ?_; clear HB hb hbox hg; intro HB a3 a4; have b3 := cf10_ a3) | ((with_reducible refine gate_callee (f := 51) rfl ?_); refine gl_ 10 Tryz.func51 (impl_InRange.calls J 0 (wrap64 ((j.length : Int) - 1)) a5 _ A3.out) ?_; rintro e w' ⟨rfl, ⟨nd, rfl⟩⟩; refine ⟨_, rfl, ?_⟩))
 go_ret
 exact ⟨er_, bl1_ HB a4⟩

/-! ### impl_Mod: function 113 -/
def impl_Mod.f (l j : Int) : Option (Int) := (impl_InRange.f j 1 1000000000000).bind fun m => (if m = true then (if j = 0 then (none) else (if (Int.tmod l j) < 0 then (some (wrap64 ((Int.tmod l j) + j))) else (some (Int.tmod l j)))) else (some 0))
theorem impl_Mod.calls (m j r : Int) (w : World) (h : impl_Mod.f m j = some r) :
  Calls Tryz.prog 113 #[iv_ m, iv_ j] w fun e w' => e = .returned (iv_ r) ∧ Drawn0 w w' := by
 have H := h
 clear h
 unfold impl_Mod.f at H
 replace H := bs_ H
 obtain ⟨x, l, H⟩ := H
 by_cases c4 : x = true
 ·subst c4
  rw [if_pos rfl] at H
  by_cases c5 : j = 0
  ·rw [if_pos c5] at H
   exact absurd H (by simp)
  ·rw [if_neg c5] at H
   obtain ⟨y, z⟩ := bn_ c5
   by_cases c6 : (Int.tmod m j) < 0
   ·rw [if_pos c6] at H
    have u := decide_eq_true c6
    clear c6
    obtain rfl := Option.some.inj H
    go_enter Tryz.func113, Tryz.ntmps113
    go_wp2_with (first | ((with_reducible refine gate_callee (f := 51) rfl ?_); refine gl_ 7 Tryz.func51 (impl_InRange.calls j 1 1000000000000 true _ l.out) ?_; rintro e w' ⟨rfl, ⟨nd, rfl⟩⟩; refine ⟨_, rfl, ?_⟩))
    go_ret
    exact ⟨by first | rfl | (simp; done) | (simp [*]; done), by repeat (first | exact Drawn0.refl _ | apply Drawn0.step)⟩
   ·rw [if_neg c6] at H
    have u := decide_eq_false c6
    clear c6
    obtain rfl := Option.some.inj H
    go_enter Tryz.func113, Tryz.ntmps113
    go_wp2_with (first | ((with_reducible refine gate_callee (f := 51) rfl ?_); refine gl_ 7 Tryz.func51 (impl_InRange.calls j 1 1000000000000 true _ l.out) ?_; rintro e w' ⟨rfl, ⟨nd, rfl⟩⟩; refine ⟨_, rfl, ?_⟩))
    go_ret
    exact ⟨by first | rfl | (simp; done) | (simp [*]; done), by repeat (first | exact Drawn0.refl _ | apply Drawn0.step)⟩
 ·replace c4 := Bool.eq_false_iff.mpr c4
  subst c4
  have s : (some 0) = some r := by rw [if_neg (show ¬ (false = true) by decide)] at H; exact H
  clear H
  have H := s
  clear s
  obtain rfl := Option.some.inj H
  go_enter Tryz.func113, Tryz.ntmps113
  go_wp2_with (first | ((with_reducible refine gate_callee (f := 51) rfl ?_); refine gl_ 7 Tryz.func51 (impl_InRange.calls j 1 1000000000000 false _ l.out) ?_; rintro e w' ⟨rfl, ⟨nd, rfl⟩⟩; refine ⟨_, rfl, ?_⟩))
  go_ret
  exact ⟨by first | rfl | (simp; done) | (simp [*]; done), by repeat (first | exact Drawn0.refl _ | apply Drawn0.step)⟩

/-! ### impl_AngleOf: function 109 -/
def impl_AngleOf.f (j : Int) : Option (Int) := (impl_Mod.f j 360).bind fun l => (some l)
theorem impl_AngleOf.calls (j r : Int) (w : World) (h : impl_AngleOf.f j = some r) :
  Calls Tryz.prog 109 #[iv_ j] w fun e w' => e = .returned (iv_ r) ∧ Drawn0 w w' := by
 have H := h
 clear h
 unfold impl_AngleOf.f at H
 replace H := bs_ H
 obtain ⟨m, l, H⟩ := H
 obtain rfl := Option.some.inj H
 go_enter Tryz.func109, Tryz.ntmps109
 go_wp2_with (first | ((with_reducible refine gate_callee (f := 113) rfl ?_); refine gl_ 4 Tryz.func113 (impl_Mod.calls j 360 m _ l.out) ?_; rintro e w' ⟨rfl, ⟨nd, rfl⟩⟩; refine ⟨_, rfl, ?_⟩))
 go_ret
 exact ⟨by first | rfl | (simp; done) | (simp [*]; done), by repeat (first | exact Drawn0.refl _ | apply Drawn0.step)⟩

/-! ### impl_speedOf: function 111 -/
def impl_speedOf.f (m s j u : Int) : Option (Int) := (impl_InRange.f j (-60) 60).bind fun l => (if l = true then (some j) else (some 0))
theorem impl_speedOf.calls (l m j s r : Int) (w : World) (h : impl_speedOf.f l m j s = some r) :
  Calls Tryz.prog 111 #[.agg #[iv_ l, iv_ m, iv_ j, iv_ s]] w fun e w' => e = .returned (iv_ r) ∧ Below w.heap.size w w' := by
 have I := Tryz.underlying68
 have HB := Aside0.mk (Below.refl w.heap.size w)
 have H := h
 clear h
 unfold impl_speedOf.f at H
 replace H := bs_ H
 obtain ⟨D, y, H⟩ := H
 by_cases c3 : D = true
 ·subst c3
  rw [if_pos rfl] at H
  obtain rfl := Option.some.inj H
  go_enter Tryz.func111, Tryz.ntmps111
  go_wp2_with (first | ((with_reducible refine gd_ 1 ?_); refine bx_ 1 68 #[iv_ l, iv_ m, iv_ j, iv_ s] ?_; intro B hg J hbox hb; refine sh3_ (below_step (bl_ HB) hb) hbox (ge_ hg (bl_ HB)) ?_; clear HB hb hbox hg; intro HB u x; have E := cf4_ u) | ((with_reducible refine gate_callee (f := 51) rfl ?_); refine gl_ 5 Tryz.func51 (impl_InRange.calls j (-60) 60 true _ y.out) ?_; rintro e w' ⟨rfl, ⟨nd, rfl⟩⟩; refine ⟨_, rfl, ?_⟩))
  go_ret
  exact ⟨er_, bl1_ HB x⟩
 ·replace c3 := Bool.eq_false_iff.mpr c3
  subst c3
  have z : (some 0) = some r := by rw [if_neg (show ¬ (false = true) by decide)] at H; exact H
  clear H
  have H := z
  clear z
  obtain rfl := Option.some.inj H
  go_enter Tryz.func111, Tryz.ntmps111
  go_wp2_with (first | ((with_reducible refine gd_ 1 ?_); refine bx_ 1 68 #[iv_ l, iv_ m, iv_ j, iv_ s] ?_; intro B hg L hbox hb; refine sh3_ (below_step (bl_ HB) hb) hbox (ge_ hg (bl_ HB)) ?_; clear HB hb hbox hg; intro HB u x; have G := cf4_ u) | ((with_reducible refine gate_callee (f := 51) rfl ?_); refine gl_ 5 Tryz.func51 (impl_InRange.calls j (-60) 60 false _ y.out) ?_; rintro e w' ⟨rfl, ⟨nd, rfl⟩⟩; refine ⟨_, rfl, ?_⟩))
  go_ret
  exact ⟨er_, bl1_ HB x⟩

/-! ### impl_PlaceAt: function 100 -/
def impl_PlaceAt.f (l j m s u : Int) : Option (Int) := (impl_InRange.f u 0 1000).bind fun x => (if x = true then ((impl_AngleOf.f j).bind fun y => ((impl_speedOf.f l j m s).bind fun z => ((impl_AngleOf.f (wrap64 (y + (wrap64 (z * u))))).bind fun B => (some B)))) else ((impl_AngleOf.f j).bind fun D => ((impl_speedOf.f l j m s).bind fun G => ((impl_AngleOf.f (wrap64 (D))).bind fun E => (some E)))))
def impl_PlaceAt.T3 : Bool × List (List Nat × List Nat) := (true, [([], []), ([0], [0]), ([1], [1]), ([], []), ([3, 2], [3]), ([], []), ([4, 5], [4, 5]), ([2, 6], [2, 6]), ([7, 4], [7]), ([8, 8, 0, 1, 2, 3, 4, 5, 6, 7, 8], [8])])
def impl_PlaceAt.B3 : List Nat := [0, 1, 3, 0, 15, 0, 63, 127, 255, 511]
theorem impl_PlaceAt.tab3 : rtab .any (opsOf Tryz.f100 3) = impl_PlaceAt.T3 := by kernel_rfl
theorem impl_PlaceAt.bits3 : waitsOk impl_PlaceAt.T3.2 impl_PlaceAt.B3 = true := by kernel_rfl
theorem impl_PlaceAt.calls (m l s u D r : Int) (w : World) (h : impl_PlaceAt.f m l s u D = some r) :
  Calls Tryz.prog 100 #[.agg #[iv_ m, iv_ l, iv_ s, iv_ u], iv_ D] w fun e w' => e = .returned (iv_ r) ∧ Below w.heap.size w w' := by
 have a6 := Tryz.underlying68
 have HB := Aside0.mk (Below.refl w.heap.size w)
 have H := h
 clear h
 unfold impl_PlaceAt.f at H
 replace H := bs_ H
 obtain ⟨a4, L, H⟩ := H
 by_cases c4 : a4 = true
 ·subst c4
  rw [if_pos rfl] at H
  replace H := bs_ H
  obtain ⟨O, A5, H⟩ := H
  replace H := bs_ H
  obtain ⟨T, A6, H⟩ := H
  replace H := bs_ H
  obtain ⟨a5, A7, H⟩ := H
  obtain rfl := Option.some.inj H
  go_enter Tryz.func100, Tryz.ntmps100
  try go_wp2_with (first | ((with_reducible refine gd_ 2 ?_); refine bx_ 2 68 #[iv_ m, iv_ l, iv_ s, iv_ u] ?_; intro E hg B hbox hb; refine sh3_ (below_step (bl_ HB) hb) hbox (ge_ hg (bl_ HB)) ?_; clear HB hb hbox hg; intro HB j x) | ((with_reducible refine gate_callee (f := 51) rfl ?_); refine gl_ 6 Tryz.func51 (impl_InRange.calls D 0 1000 true _ L.out) ?_; rintro e w' ⟨rfl, ⟨nd, rfl⟩⟩; refine ⟨_, rfl, ?_⟩))
  (try (rw [drewN_self B]; generalize hq_ : World.drewN B _ = B; have G : Aside0 (B.heap[E]? = some (.cells #[iv_ m, iv_ l, iv_ s, iv_ u] 68 (0, 0))) := ⟨by rw [← hq_]; exact (bk_ j)⟩; have I : Aside0 (Below w.heap.size w B) := ⟨by rw [← hq_]; exact (bl1_ HB x)⟩; clear j HB hq_; have j := G; have HB := I; clear G I))
  refine sh2_ (blk_drew j.out) (below_drew1 HB.out) ?_
  clear j HB
  intro j HB
  refine start_ (n := 10) (S := fun w' => Cz4 w' E (iv_ m) (iv_ l) (iv_ s) (iv_ u)) (ds := []) (bo_ 10 0) (by kernel_rfl) rfl rfl (cz4_ j) (fun hHeld => ?_); refine with_tabW impl_PlaceAt.tab3 impl_PlaceAt.bits3 (fun HT_ HW_ => ?_)
  generalize B.drew = w9 at j HB hHeld ⊢
  refine pur_ 0 (bo_ 10 1) (some 8) HT_ ?_
  refine pur_ 5 (bo_ 10 33) (some 13) HT_ ?_
  refine tak_ 1 (bo_ 10 35) (some 9) HT_ HW_ hHeld ?_
  refine tak_ 3 (bo_ 10 43) (some 11) HT_ HW_ hHeld ?_
  refine onc_ 2 (bo_ 10 47) (some 10) HT_ Tryz.func109 (impl_AngleOf.calls l O _ A5.out) ?_
  rintro e w' ⟨rfl, ⟨nd, rfl⟩⟩
  refine ⟨_, _, rfl, (cz4_ j), pt_, fun hHeld => ?_⟩
  refine onc_ 4 (bo_ 10 63) (some 12) HT_ Tryz.func111 (impl_speedOf.calls m l s u T _ A6.out) ?_
  rintro e a7 ⟨rfl, hb⟩
  refine sh2_ (blk_below (bk_ j) hb) (below_step (bl1_ HB x) hb) ?_
  clear j HB hb
  intro j HB
  refine ⟨_, _, rfl, (cz4_ j), pt_, fun hHeld => ?_⟩
  refine pur_ 6 (bo_ 10 127) (some 14) HT_ ?_
  refine pur_ 7 (bo_ 10 255) (some 15) HT_ ?_
  refine onc_ 8 (bo_ 10 511) (some 16) HT_ Tryz.func109 (impl_AngleOf.calls (wrap64 (O + (wrap64 (T * D)))) a5 _ A7.out) ?_
  rintro e w' ⟨rfl, ⟨nd, rfl⟩⟩
  refine ⟨_, _, rfl, (cz4_ j), pt_, fun hHeld => ?_⟩
  refine pur_ 9 (bo_ 10 1023) (some 4) HT_ ?_
  refine done_ (done_of HT_.out (by kernel_rfl)) ?_
  try go_wp2
  go_ret
  exact ⟨er_, bl1_ HB x⟩
 ·replace c4 := Bool.eq_false_iff.mpr c4
  subst c4
  have M : ((impl_AngleOf.f l).bind fun y => ((impl_speedOf.f m l s u).bind fun U => ((impl_AngleOf.f (wrap64 (y))).bind fun J => (some J)))) = some r := by rw [if_neg (show ¬ (false = true) by decide)] at H; exact H
  clear H
  have H := M
  clear M
  replace H := bs_ H
  obtain ⟨y, X, H⟩ := H
  replace H := bs_ H
  obtain ⟨U, Y, H⟩ := H
  replace H := bs_ H
  obtain ⟨J, Z, H⟩ := H
  obtain rfl := Option.some.inj H
  go_enter Tryz.func100, Tryz.ntmps100
  try go_wp2_with (first | ((with_reducible refine gd_ 2 ?_); refine bx_ 2 68 #[iv_ m, iv_ l, iv_ s, iv_ u] ?_; intro E hg z hbox hb; refine sh3_ (below_step (bl_ HB) hb) hbox (ge_ hg (bl_ HB)) ?_; clear HB hb hbox hg; intro HB j x) | ((with_reducible refine gate_callee (f := 51) rfl ?_); refine gl_ 6 Tryz.func51 (impl_InRange.calls D 0 1000 false _ L.out) ?_; rintro e w' ⟨rfl, ⟨nd, rfl⟩⟩; refine ⟨_, rfl, ?_⟩))
  (try (rw [drewN_self z]; generalize hq_ : World.drewN z _ = z; have G : Aside0 (z.heap[E]? = some (.cells #[iv_ m, iv_ l, iv_ s, iv_ u] 68 (0, 0))) := ⟨by rw [← hq_]; exact (bk_ j)⟩; have I : Aside0 (Below w.heap.size w z) := ⟨by rw [← hq_]; exact (bl1_ HB x)⟩; clear j HB hq_; have j := G; have HB := I; clear G I))
  refine sh2_ (blk_drew j.out) (below_drew1 HB.out) ?_
  clear j HB
  intro j HB
  refine start_ (n := 10) (S := fun w' => Cz4 w' E (iv_ m) (iv_ l) (iv_ s) (iv_ u)) (ds := []) (bo_ 10 0) (by kernel_rfl) rfl rfl (cz4_ j) (fun hHeld => ?_); refine with_tabW impl_PlaceAt.tab3 impl_PlaceAt.bits3 (fun HT_ HW_ => ?_)
  generalize z.drew = a8 at j HB hHeld ⊢
  refine pur_ 0 (bo_ 10 1) (some 8) HT_ ?_
  refine pur_ 5 (bo_ 10 33) (some 13) HT_ ?_
  refine tak_ 1 (bo_ 10 35) (some 9) HT_ HW_ hHeld ?_
  refine tak_ 3 (bo_ 10 43) (some 11) HT_ HW_ hHeld ?_
  refine onc_ 2 (bo_ 10 47) (some 10) HT_ Tryz.func109 (impl_AngleOf.calls l y _ X.out) ?_
  rintro e w' ⟨rfl, ⟨nd, rfl⟩⟩
  refine ⟨_, _, rfl, (cz4_ j), pt_, fun hHeld => ?_⟩
  refine onc_ 4 (bo_ 10 63) (some 12) HT_ Tryz.func111 (impl_speedOf.calls m l s u U _ Y.out) ?_
  rintro e a9 ⟨rfl, hb⟩
  refine sh2_ (blk_below (bk_ j) hb) (below_step (bl1_ HB x) hb) ?_
  clear j HB hb
  intro j HB
  refine ⟨_, _, rfl, (cz4_ j), pt_, fun hHeld => ?_⟩
  refine pur_ 6 (bo_ 10 127) (some 14) HT_ ?_
  refine pur_ 7 (bo_ 10 255) (some 15) HT_ ?_
  refine one_ (i := 8) (N := some 16) (bo_ 10 511) rfl rfl (one_of HT_.out (by kernel_rfl)) (by decide) (fun K hK => ?_)
  refine goes_ Tryz.func109 (by kernel_rfl) rfl #[iv_ (wrap64 (y))] (by rfl) rfl rfl (by (try simp only [List.map_toArray, List.map_cons, List.map_nil]); first | done | rfl | (exact congrArg (fun z_ => #[Value.int IntKind.i64 (wrap64 z_)]) (show y + wrap64 0 = y by (have h_ : wrap64 0 = 0 := (by (unfold wrap64; omega)); omega)))) ?_
  with_reducible refine (impl_AngleOf.calls (wrap64 (y)) J _ Z.out).mono ?_
  rintro e w' ⟨rfl, ⟨nd, rfl⟩⟩
  refine ⟨_, rfl, ?_⟩
  refine hK.out _ _ (cz4_ j) (fun hHeld => ?_)
  clear hK K
  refine norm_ (show Act.put _ (some 16) _ = _ from pt_) ?_
  refine pur_ 9 (bo_ 10 1023) (some 4) HT_ ?_
  refine done_ (done_of HT_.out (by kernel_rfl)) ?_
  try go_wp2
  go_ret
  exact ⟨er_, bl1_ HB x⟩

end Go.Proofs.YtpjhdehbikohmaaGreat.PFnExactPlanOf
