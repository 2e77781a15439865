-- Written by a program of this session for this claim (the kit's printer with changes).
import Derived.Shelf.Spec.SlicesGrow
import Derived.Test.YtopbkdcicidajaaQFnContactsx0
import Derived.Test.YtopbkdcicidajaaQFnContactsx1
import Derived.Test.YtopbkdcicidajaaQFnContactsx8
namespace Go.Proofs.Ytopbkdcicidajaa.PFnContacts
open Go.RowKit Go.Proofs.YtopbkdcicidajaaW.PrintWords Go.Proofs.YtopbkdcicidajaaW.PrintLast Go.Proofs.YtopbkdcicidajaaW.PrintMore
attribute [local go_sem] max2_int min2_int max_two min_two max_three min_three max_four min_four   -- for this text's walks alone
set_option linter.unusedVariables false
set_option maxHeartbeats 8000000
set_option maxRecDepth 100000
set_option linter.unusedSimpArgs false

/-! ### impl_IsSpan: function 99 -/
def impl_IsSpan.f (j l : Int) : Option (Bool) := if j ≥ 0 then (if l ≤ 1000 then (some (decide (j < l))) else (some false)) else (some false)
theorem impl_IsSpan.calls (j l : Int) (r : Bool) (w : World) (h : impl_IsSpan.f j l = some r) :
  Calls Try.prog 99 #[.agg #[iv_ j, iv_ l]] w fun e w' => e = .returned (.bool r) ∧ Below w.heap.size w w' := by
 have E := Try.underlying82
 have HB := Aside0.mk (Below.refl w.heap.size w)
 have H := h
 clear h
 unfold impl_IsSpan.f at H
 by_cases c2 : j ≥ 0
 ·rw [if_pos c2] at H
  have x : decide (0 ≤ j) = true := decide_eq_true c2
  clear c2
  by_cases c3 : l ≤ 1000
  ·rw [if_pos c3] at H
   have y := decide_eq_true c3
   clear c3
   obtain rfl := Option.some.inj H
   go_enter Try.func99, Try.ntmps99
   go_wp2_with (first | ((with_reducible refine gd_ 1 ?_); refine bx_ 1 82 #[iv_ j, iv_ l] ?_; intro u hg G hbox hb; refine sh3_ (below_step (bl_ HB) hb) hbox (ge_ hg (bl_ HB)) ?_; clear HB hb hbox hg; intro HB m s; have z := cf2_ m))
   go_ret
   exact ⟨by first | (rw [hRT_.out]; rfl) | exact er_, bl1_ HB s⟩
  ·rw [if_neg c3] at H
   have y := decide_eq_false c3
   clear c3
   obtain rfl := Option.some.inj H
   go_enter Try.func99, Try.ntmps99
   go_wp2_with (first | ((with_reducible refine gd_ 1 ?_); refine bx_ 1 82 #[iv_ j, iv_ l] ?_; intro u hg I hbox hb; refine sh3_ (below_step (bl_ HB) hb) hbox (ge_ hg (bl_ HB)) ?_; clear HB hb hbox hg; intro HB m s; have B := cf2_ m))
   go_ret
   exact ⟨by first | (rw [hRT_.out]; rfl) | exact er_, bl1_ HB s⟩
 ·rw [if_neg c2] at H
  have x : decide (0 ≤ j) = false := decide_eq_false c2
  clear c2
  obtain rfl := Option.some.inj H
  go_enter Try.func99, Try.ntmps99
  go_wp2_with (first | ((with_reducible refine gd_ 1 ?_); refine bx_ 1 82 #[iv_ j, iv_ l] ?_; intro u hg J hbox hb; refine sh3_ (below_step (bl_ HB) hb) hbox (ge_ hg (bl_ HB)) ?_; clear HB hb hbox hg; intro HB m s; have D := cf2_ m))
  go_ret
  exact ⟨by first | (rw [hRT_.out]; rfl) | exact er_, bl1_ HB s⟩

/-! ### impl_ticks: function 100 -/
mutual
def impl_ticks.l0 : Nat → List Bool → List S82 → Int → Int → Option (List Bool)
 | 0, _, _, _, _ => none
 | k + 1, m, l, s, j => if j < s then (if 0 ≤ j then (if j < (l.length : Int) then ((impl_IsSpan.f ((rd_T82 l j).f0) ((rd_T82 l j).f1)).bind fun y => (if y = true then (impl_ticks.l1 k m ((rd_T82 l j).f0) l s j ((rd_T82 l j).f0) ((rd_T82 l j).f1)) else (impl_ticks.l0 k m l s (wrap64 (j + 1))))) else (none)) else (none)) else (some m)
def impl_ticks.l1 : Nat → List Bool → Int → List S82 → Int → Int → Int → Int → Option (List Bool)
 | 0, _, _, _, _, _, _, _ => none
 | k + 1, m, u, l, s, j, z, x => if u < x then (if 0 ≤ u then (if u < (m.length : Int) then (impl_ticks.l1 k (m.set (u : Int).toNat true) (wrap64 (u + 1)) l s j z x) else (none)) else (none)) else (impl_ticks.l0 k m l s (wrap64 (j + 1)))
end
def impl_ticks.f (k : Nat) (j : List S82) : Option (List Bool) := if 1000 ≤ 281474976710656 then (impl_ticks.l0 k (List.replicate 1000 false) j (j.length : Int) 0) else (none)
theorem impl_ticks.calls (k : Nat) (A0 : Option Addr) (c0 : Nat) (j : List S82) (r : List Bool) (w : World) (b5 : Kd.C k82 w A0 j.length j) (b4 : j.length ≤ c0) (h : impl_ticks.f k j = some r) :
  Calls Try.prog 100 #[.slice A0 j.length c0] w fun e w' => ∃ b6 : Value, e = .returned (b6) ∧ Kd.R Kd.bool 4 w' w.heap.size (fun _ => True) b6 r ∧ Below w.heap.size w w' := by
 have f7 := Try.underlying82
 have a7 := Aside0.mk b5
 have e1 := Aside0.mk b4
 clear b5 b4
 have HB := Aside0.mk (Below.refl w.heap.size w)
 have H := h
 clear h
 unfold impl_ticks.f at H
 replace H := ifn_ H
 obtain ⟨c2, H⟩ := H
 have e4 := eq_true c2
 have e5 := decide_eq_true c2
 clear c2
 replace H : ∃ y_ : List Bool, Aside0 (y_ = (List.replicate 1000 false)) ∧ (impl_ticks.l0 k y_ j (j.length : Int) 0) = some r := ⟨_, ⟨rfl⟩, yh_ H⟩
 obtain ⟨d9, a8, H⟩ := H
 have H' := Aside0.mk H
 clear H
 go_enter Try.func100, Try.ntmps100
 go_wp2_with (first | ((with_reducible refine gate_dst (N := 7) rfl ?_); refine Kd.R_make Kd.bool _ 4 rfl (N := 7) rfl 109 _ _ rfl 1000 rfl rfl Try.underlying109 (.bool false) 1 info4 rfl (by decide) (by omega) false (ok := fun _ => True) (okp := fun _ => True) rfl (fun _ hk => hk) trivial (by omega) (by omega) (Below.refl _ _) (Nat.le_refl _) ?_; intro b7 w3 J hb hg_ hnew_; clear hg_ hnew_; (first | rw [← a8.out] at J | (simp only [Int.reduceToNat] at J; rw [← a8.out] at J)); refine sh2_ (Kd.R_lower J (below_size (bl_ HB))) (below_step (bl_ HB) hb) ?_; clear HB hb J; intro c1 HB))
 go_loopg [10] k (fun kq d7 w' => ∃ (I : List Bool) (l : Int), d7 = iv_ l ∧ Aside0 (impl_ticks.l0 kq I j (j.length : Int) l = some r) ∧ Aside0 (kq ≤ k) ∧ Aside0 (Kd.R Kd.bool 4 w' w.heap.size (fun _ => True) b7 I) ∧ Aside0 (Below w.heap.size w w'))
 case atStart => exact ⟨(d9), (0), (by first | rfl | (simp; done) | (simp [*]; done)), H', ⟨Nat.le_refl _⟩, ⟨ra_ c1⟩, ⟨bl_ HB⟩⟩
 case round =>
  clear H'
  obtain ⟨I, l, rfl, HA, E, m, HB⟩ := hrel
  cases gk with
  | zero => exact absurd HA.out (by simp [impl_ticks.l0])
  | succ T =>
   have H := HA.out
   clear HA
   simp only [impl_ticks.l0] at H
   by_cases c5 : l < (j.length : Int)
   ·rw [if_pos c5] at H
    have d3 := decide_eq_true c5
    clear c5
    replace H := ifn_ H
    obtain ⟨c6, H⟩ := H
    have e6 := decide_eq_true c6
    clear c6
    replace H := ifn_ H
    obtain ⟨c7, H⟩ := H
    have e7 := decide_eq_true c7
    clear c7
    replace H := bs_ H
    obtain ⟨d6, A8, H⟩ := H
    by_cases c9 : d6 = true
    ·subst c9
     rw [if_pos rfl] at H
     have H' := Aside0.mk H
     clear H
     have z : 0 ≤ (l : Int) := od_
     have B : l < (j.length : Int) := od_
     obtain ⟨d1, X, L, M⟩ := at_T82 a7.out l z B
     cases X
     replace L := hbc_ HB L
     replace M := hbc_ HB M
     replace z := eq_true z
     replace B := eq_true B
     go_wp2_with (first | ((with_reducible refine gd_ 5 ?_); refine bx_ 5 82 #[iv_ 0, iv_ 0] ?_; intro x hg f9 hbox hb; refine sh4_ (Kd.R_below (ra_ m) hb) (below_step (bl_ HB) hb) hbox (ge_ hg (bl_ HB)) ?_; clear m HB hb hbox hg; intro m HB s y; have e9 := cf2_ s) | ((with_reducible refine gate_callee (f := 99) rfl ?_); refine gl_ 15 Try.func99 (impl_IsSpan.calls ((rd_T82 j l).f0) ((rd_T82 j l).f1) true _ A8.out) ?_; rintro e g0 ⟨rfl, hb⟩; refine ⟨_, rfl, sh3_ (Kd.R_below (by (with_reducible repeat (first | apply Kd.R_alloc | apply Kd.R_drewN | apply Kd.R_drew)); exact (Kd.R_mono (Kd.R_far (p := ⟨x, 1, none⟩) (Kd.R_far (p := ⟨x, 0, none⟩) (Kd.R_types m.out s.out (by decide)) (fun _ hk => hk.2) (iv_ ((rd_T82 j l).f0))) (fun _ hk => hk.2) (iv_ ((rd_T82 j l).f1))) (fun _ h_ => h_.1))) hb) (blk_below (g := x) (o := .cells #[iv_ ((rd_T82 j l).f0), iv_ ((rd_T82 j l).f1)] 82 (0, 0)) (bp_ s) hb) (below_step (bl1_ HB y) hb) ?_⟩; clear m s HB hb; intro m s HB; have f2 := cf2_ s))
     go_loopg [6] T (fun kq v6 w' => ∃ (D : List Bool) (u : Int), v6 = iv_ u ∧ Aside0 (impl_ticks.l1 kq D u j (j.length : Int) l ((rd_T82 j l).f0) ((rd_T82 j l).f1) = some r) ∧ Aside0 (kq ≤ T) ∧ Aside0 (Kd.R Kd.bool 4 w' w.heap.size (fun _ => True) b7 D) ∧ Aside0 (w'.heap[x]? = some (.cells #[iv_ ((rd_T82 j l).f0), iv_ ((rd_T82 j l).f1)] 82 (0, 0))) ∧ Aside0 (Below w.heap.size w w'))
     case atStart => exact ⟨(I), ((rd_T82 j l).f0), (by first | rfl | (simp; done) | (simp [*]; done)), H', ⟨Nat.le_refl _⟩, ⟨ra_ m⟩, ⟨(bk_ s)⟩, ⟨bl1_ HB y⟩⟩
     case round =>
      clear H'
      obtain ⟨D, u, rfl, HA, O, m, s, HB⟩ := hrel
      cases gk with
      | zero => exact absurd HA.out (by simp [impl_ticks.l1])
      | succ Z =>
       have H := HA.out
       clear HA
       simp only [impl_ticks.l1] at H
       by_cases G : u < ((rd_T82 j l).f1)
       ·rw [if_pos G] at H
        have d2 := decide_eq_true G
        clear G
        replace H := ifn_ H
        obtain ⟨b0, H⟩ := H
        have e2 := decide_eq_true b0
        clear b0
        replace H := ifn_ H
        obtain ⟨b1, H⟩ := H
        have e3 := decide_eq_true b1
        clear b1
        replace H : ∃ y_ : List Bool, Aside0 (y_ = (D.set (u : Int).toNat true)) ∧ (impl_ticks.l1 Z y_ (wrap64 (u + 1)) j (j.length : Int) l ((rd_T82 j l).f0) ((rd_T82 j l).f1)) = some r := ⟨_, ⟨rfl⟩, yh_ H⟩
        obtain ⟨b8, d0, H⟩ := H
        have H' := Aside0.mk H
        clear H
        have f3 := cf2_ s
        have a0 : 0 ≤ (u : Int) := od_
        have a1 : (u : Int) < ((D.length : Int) : Int) := od_
        obtain ⟨Y, d4, b2, b3, d5, e8, a6⟩ := Kd.R_form m.out (by omega)
        (first | cases b2 | (injection b2 with ea_ en_ ec_; (first | subst ea_ | (injection ea_ with ea_; subst ea_)); subst ec_; clear en_))
        have b9 := Aside0.mk b3
        have e0 := Aside0.mk a6
        clear b3 d5 a6
        obtain ⟨f8, f6⟩ := Kd.R_celln false m.out (u : Int) a0 a1
        replace a0 := eq_true a0
        replace a1 := eq_true a1
        have U := Kd.R_putg m.out (u : Int) true
        go_wp2_with (first | ((with_reducible refine gate_store (t := 4) (p := 26) rfl ?_); refine store_event (t := 4) (p := 26) (v := ?vo_w20) (w1 := (wr.setCell ⟨Y, (u : Int).toNat, none⟩ (.bool true))) ?hg ?ho ?hn ?hr ?_; (case ho => rfl); (case hg => rfl); (case hn => rfl); (case hr => first | (go_simp; done) | (go_simp; rfl)); intro a2 hw; have hg : wr.grownBy a2 (some Y) := (by rw [hw]; exact U.2); have hp_ : Kd.R Kd.bool 4 a2 w.heap.size (fun _ => True) (.slice (some ⟨Y, 0, none⟩) D.length d4) b8 := (by rw [hw, d0.out]; exact U.1); clear U; refine sh3_ hp_ (blk_grown (g := x) (o := .cells #[iv_ ((rd_T82 j l).f0), iv_ ((rd_T82 j l).f1)] 82 (0, 0)) (bk_ s) hg (Kd.R_ne m.out s.out (by decide))) ((by rw [hw]; exact below_set (HB.out) b9.out : Below w.heap.size w a2)) ?_; clear m s HB; intro m s HB; clear hg hw hp_))
        go_roundg Z
        case measure => have := E.out; have := O.out; omega
        case rel => exact ⟨(b8), (wrap64 (u + 1)), (by first | rfl | (simp; done) | (simp [*]; done)), H', ⟨by have := E.out; have := O.out; omega⟩, ⟨ra_ m⟩, ⟨(bk_ s)⟩, ⟨bl1_ HB y⟩⟩
       ·rw [if_neg G] at H
        have d2 := decide_eq_false G
        clear G
        have H' := Aside0.mk H
        clear H
        have f4 := cf2_ s
        go_wp2
        go_roundg Z
        case measure => have := E.out; have := O.out; omega
        case rel => exact ⟨(D), (wrap64 (l + 1)), (by first | rfl | (simp; done) | (simp [*]; done)), H', ⟨by have := E.out; have := O.out; omega⟩, ⟨ra_ m⟩, ⟨bl1_ HB y⟩⟩
    ·replace c9 := Bool.eq_false_iff.mpr c9
     subst c9
     have H1 : (impl_ticks.l0 T I j (j.length : Int) (wrap64 (l + 1))) = some r := by rw [if_neg (show ¬ (false = true) by decide)] at H; exact H
     clear H
     have H := H1
     clear H1
     have H' := Aside0.mk H
     clear H
     have z : 0 ≤ (l : Int) := od_
     have B : l < (j.length : Int) := od_
     obtain ⟨d1, X, L, M⟩ := at_T82 a7.out l z B
     cases X
     replace L := hbc_ HB L
     replace M := hbc_ HB M
     replace z := eq_true z
     replace B := eq_true B
     go_wp2_with (first | ((with_reducible refine gd_ 5 ?_); refine bx_ 5 82 #[iv_ 0, iv_ 0] ?_; intro x hg g1 hbox hb; refine sh4_ (Kd.R_below (ra_ m) hb) (below_step (bl_ HB) hb) hbox (ge_ hg (bl_ HB)) ?_; clear m HB hb hbox hg; intro m HB s y; have f5 := cf2_ s) | ((with_reducible refine gate_callee (f := 99) rfl ?_); refine gl_ 15 Try.func99 (impl_IsSpan.calls ((rd_T82 j l).f0) ((rd_T82 j l).f1) false _ A8.out) ?_; rintro e g2 ⟨rfl, hb⟩; refine ⟨_, rfl, sh3_ (Kd.R_below (by (with_reducible repeat (first | apply Kd.R_alloc | apply Kd.R_drewN | apply Kd.R_drew)); exact (Kd.R_mono (Kd.R_far (p := ⟨x, 1, none⟩) (Kd.R_far (p := ⟨x, 0, none⟩) (Kd.R_types m.out s.out (by decide)) (fun _ hk => hk.2) (iv_ ((rd_T82 j l).f0))) (fun _ hk => hk.2) (iv_ ((rd_T82 j l).f1))) (fun _ h_ => h_.1))) hb) (blk_below (g := x) (o := .cells #[iv_ ((rd_T82 j l).f0), iv_ ((rd_T82 j l).f1)] 82 (0, 0)) (bp_ s) hb) (below_step (bl1_ HB y) hb) ?_⟩; clear m s HB hb; intro m s HB))
     go_roundg T
     case measure => have := E.out; omega
     case rel => exact ⟨(I), (wrap64 (l + 1)), (by first | rfl | (simp; done) | (simp [*]; done)), H', ⟨by have := E.out; omega⟩, ⟨ra_ m⟩, ⟨bl1_ HB y⟩⟩
   ·rw [if_neg c5] at H
    have d3 : decide (l < (j.length : Int)) = false := decide_eq_false c5
    clear c5
    obtain rfl := Option.some.inj H
    go_wp2
    go_ret
    exact ⟨_, by first | (rw [hRT_.out]; rfl) | exact er_, ra_ m, bl_ HB⟩

/-! ### impl_CutSpans_1: function 102 -/
def impl_CutSpans_1.f (j : Int) (l m : List Bool) : Option (Bool) := if 0 ≤ j then (if j < (l.length : Int) then (if rdOf false l j = true then (if j < (m.length : Int) then (some (!(rdOf false m j))) else (none)) else (some false)) else (none)) else (none)
theorem impl_CutSpans_1.calls (j : Int) (x : Option Addr) (E : Nat) (l : List Bool) (y : Option Addr) (c2 : Nat) (m : List Bool) (r : Bool) (w : World) (z : Nat) (a3 : w.heap[z]? = some (.cells #[.slice x l.length E] 109 (0, 0))) (B : Nat) (a4 : w.heap[B]? = some (.cells #[.slice y m.length c2] 109 (0, 0))) (X : Kd.C Kd.bool w x l.length l) (T : l.length ≤ E) (Y : Kd.C Kd.bool w y m.length m) (U : m.length ≤ c2) (h : impl_CutSpans_1.f j l m = some r) :
  Calls Try.prog 102 #[iv_ j, .pointer (some ⟨z, 0, none⟩), .pointer (some ⟨B, 0, none⟩)] w fun e w' => e = .returned (.bool r) ∧ Drawn0 w w' := by
 have b2 : w.cell? ⟨z, 0, none⟩ = some (.slice x l.length E) := (blk_cell a3 0).trans rfl
 have b3 : w.cell? ⟨B, 0, none⟩ = some (.slice y m.length c2) := (blk_cell a4 0).trans rfl
 have O := Aside0.mk X
 have a6 := Aside0.mk T
 clear X T
 have Z := Aside0.mk Y
 have a7 := Aside0.mk U
 clear Y U
 have H := h
 clear h
 unfold impl_CutSpans_1.f at H
 replace H := ifn_ H
 obtain ⟨c4, H⟩ := H
 have a9 := decide_eq_true c4
 clear c4
 replace H := ifn_ H
 obtain ⟨c5, H⟩ := H
 have b0 := decide_eq_true c5
 clear c5
 obtain ⟨bq6, hbq6⟩ : ∃ b_ : Bool, b_ = (rdOf false l j) := ⟨_, rfl⟩
 replace H : (if bq6 = true then (if j < (m.length : Int) then (some (!(rdOf false m j))) else (none)) else (some false)) = some r := by rw [← hbq6] at H; exact H
 have D := Aside0.mk hbq6
 clear hbq6
 by_cases c7 : bq6 = true
 ·subst c7
  rw [if_pos rfl] at H
  replace H := ifn_ H
  obtain ⟨c8, H⟩ := H
  have b1 := decide_eq_true c8
  clear c8
  obtain rfl := Option.some.inj H
  have s : 0 ≤ (j : Int) := od_
  have u : j < (l.length : Int) := od_
  obtain ⟨a1, G, I⟩ := Kd.at_bool O.out j s u
  (try rw [← D.out] at I)
  cases G
  replace s := eq_true s
  replace u := eq_true u
  have J : 0 ≤ (j : Int) := od_
  have L : j < (m.length : Int) := od_
  obtain ⟨a8, a2, a5⟩ := Kd.at_bool Z.out j J L
  (try rw [← D.out] at a5)
  cases a2
  replace J := eq_true J
  replace L := eq_true L
  go_enter Try.func102, Try.ntmps102
  go_wp2
  go_ret
  exact ⟨by first | rfl | (simp; done) | (simp [*]; done), by repeat (first | exact Drawn0.refl _ | apply Drawn0.step)⟩
 ·replace c7 := Bool.eq_false_iff.mpr c7
  subst c7
  have M : (some false) = some r := by rw [if_neg (show ¬ (false = true) by decide)] at H; exact H
  clear H
  have H := M
  clear M
  obtain rfl := Option.some.inj H
  have s : 0 ≤ (j : Int) := od_
  have u : j < (l.length : Int) := od_
  obtain ⟨a1, G, I⟩ := Kd.at_bool O.out j s u
  (try rw [← D.out] at I)
  cases G
  replace s := eq_true s
  replace u := eq_true u
  go_enter Try.func102, Try.ntmps102
  go_wp2
  go_ret
  exact ⟨by first | rfl | (simp; done) | (simp [*]; done), by repeat (first | exact Drawn0.refl _ | apply Drawn0.step)⟩


def where_impl_CutSpans_1.f (k : Nat) (m s : Int) (j l : List Bool) : Option (List S82) := sw.f (fun k' t' => impl_CutSpans_1.f t' j l) k m s
theorem where_impl_CutSpans_1.calls (k : Nat) (z B : Int) (m : Option Addr) (y : Nat) (j : List Bool) (s : Option Addr) (c2 : Nat) (l : List Bool) (r : List S82) (w : World) (u : Nat) (E : w.heap[u]? = some (.cells #[.slice m j.length y] 109 (0, 0))) (x : Nat) (I : w.heap[x]? = some (.cells #[.slice s l.length c2] 109 (0, 0))) (O : Kd.C Kd.bool w m j.length j) (L : j.length ≤ y) (T : Kd.C Kd.bool w s l.length l) (M : l.length ≤ c2) (h : where_impl_CutSpans_1.f k z B j l = some r) :
  Calls Try.prog 61 #[iv_ z, iv_ B, .func (.func 102) #[] #[.pointer (some ⟨u, 0, none⟩), .pointer (some ⟨x, 0, none⟩)]] w fun e w' => ∃ D : Value, e = .returned (D) ∧ Kd.R k82 82 w' w.heap.size (fun _ => True) D r ∧ Below w.heap.size w w' := by
 refine sw.calls (fun k' t' => impl_CutSpans_1.f t' j l) k z B r w 102 _ (fun args w => enters_ Try.func102 (by kernel_rfl) rfl args w) (fun k' t b W hq hb => ?_) h
 have G := blk_below E hb
 have J := blk_below I hb
 have hh := impl_CutSpans_1.calls t m y j s c2 l b W u G x J (Kd.C_below O hb) L (Kd.C_below T hb) M hq
 exact hh.mono (fun e w' hx => ⟨hx.1, by obtain ⟨n, rfl⟩ := hx.2.out; exact pw_below_drewN (Below.refl _ _) n⟩)

/-! ### impl_CutSpans: function 69 -/
def impl_CutSpans.f (k : Nat) (j l : List S82) : Option (List S82) := (impl_ticks.f k j).bind fun m => ((impl_ticks.f k l).bind fun s => ((where_impl_CutSpans_1.f k 0 1000 m s).bind fun u => (some u)))
theorem impl_CutSpans.calls (k : Nat) (U : Option Addr) (Z : Nat) (u : List S82) (X : Option Addr) (c1 : Nat) (x r : List S82) (w : World) (a3 : Kd.C k82 w U u.length u) (a1 : u.length ≤ Z) (a4 : Kd.C k82 w X x.length x) (a2 : x.length ≤ c1) (h : impl_CutSpans.f k u x = some r) :
  Calls Try.prog 69 #[.slice U u.length Z, .slice X x.length c1] w fun e w' => ∃ a6 : Value, e = .returned (a6) ∧ Kd.R k82 82 w' w.heap.size (fun _ => True) a6 r ∧ Below w.heap.size w w' := by
 have b7 := Aside0.mk a3
 have b4 := Aside0.mk a1
 clear a3 a1
 have b8 := Aside0.mk a4
 have b5 := Aside0.mk a2
 clear a4 a2
 have HB := Aside0.mk (Below.refl w.heap.size w)
 have H := h
 clear h
 unfold impl_CutSpans.f at H
 replace H := bs_ H
 obtain ⟨B, A3, H⟩ := H
 replace H := bs_ H
 obtain ⟨D, A4, H⟩ := H
 replace H := bs_ H
 obtain ⟨d1, A5, H⟩ := H
 obtain rfl := Option.some.inj H
 go_enter Try.func69, Try.ntmps69
 go_wp2_with (first | ((with_reducible refine gate_callee (f := 100) rfl ?_); refine gl_ 8 Try.func100 (impl_ticks.calls k _ _ u B _ (cq_ b7) b4.out A3.out) ?_; rintro e w6 ⟨e0, rfl, m, hb⟩; refine ⟨_, rfl, sh2_ (Kd.R_lower m (below_size (bl_ HB))) (below_step (bl_ HB) hb) ?_⟩; clear HB hb m; intro s HB) | ((with_reducible refine gate_callee (f := 100) rfl ?_); refine gl_ 10 Try.func100 (impl_ticks.calls k _ _ x D _ (ck_ b8 HB) b5.out A4.out) ?_; rintro e w7 ⟨e1, rfl, m, hb⟩; refine ⟨_, rfl, sh3_ (Kd.R_elder' (ra_ s) (Kd.R_base m) hb) (Kd.R_lower (Kd.R_new' m (Kd.R_lt (ra_ s))) (below_size (bl_ HB))) (below_step (bl_ HB) hb) ?_⟩; clear s HB hb m; intro s J HB; obtain ⟨E, M, b9⟩ := Kd.R_slice s.out; subst b9; obtain ⟨G, O, d0⟩ := Kd.R_slice J.out; subst d0) | ((with_reducible refine gd_ 5 ?_); refine bx_ 5 109 #[.slice none 0 0] ?_; intro y hg e3 hbox hb; have hHBy_ := Aside0.mk hb; have b2 := Aside0.mk ((by rw [hg]; exact Nat.le_refl _ : w7.heap.size ≤ y)); have HBx_ := hHBy_; clear hHBy_; have l := Aside0.mk hbox; clear hb hg hbox; have d2 := bc_ l 0 rfl; have d5 := bf_ l 0) | ((with_reducible refine gd_ 6 ?_); refine bx_ 6 109 #[.slice none 0 0] ?_; intro z hg e4 hbox hb; have hHBy_ := Aside0.mk (below_step (HBx_.out) hb); have b3 := Aside0.mk ((by rw [hg]; exact below_size (HBx_.out) : w7.heap.size ≤ z)); have L := Aside0.mk ((by rw [hg]; exact Nat.ne_of_lt (blk_lt (l.out)) : y ≠ z)); have b1 := Aside0.mk (blk_below (l.out) hb); clear l; have l := b1; clear HBx_; have HBx_ := hHBy_; clear hHBy_; have I := Aside0.mk hbox; clear hb hg hbox; have d3 := bc_ I 0 rfl; have d6 := bf_ I 0; have Y := Aside0.mk (L.out.symm); have d8 := L.out; have d9 := Y.out; have d4 := bc_ l 0 rfl; have d7 := bf_ l 0) | ((with_reducible refine gate_callee (f := 61) rfl ?_); refine goesL_ (some 12) rfl rfl Try.func61 (by kernel_rfl) rfl #[iv_ 0, iv_ 1000, .func (.func 102) #[] #[.pointer (some ⟨y, 0, none⟩), .pointer (some ⟨z, 0, none⟩)]] rfl mp_ ?_; have HBz_ := below_set (j := 0) (v := .slice G D.length O) (below_set (j := 0) (v := .slice E B.length M) (HBx_.out) b2.out) b3.out; (refine (where_impl_CutSpans_1.calls k 0 1000 E M B G O D d1 _ y (blk_far (blk_put (cs := #[.slice none 0 0]) (l.out) 0 (.slice E B.length M) rfl) L.out _) z (blk_put (cs := #[.slice none 0 0]) (blk_far (I.out) Y.out _) 0 (.slice G D.length O) rfl) (Kd.C_below (Kd.R_reads' s.out).2.2 HBz_) (Kd.R_reads' s.out).2.1 (Kd.C_below (Kd.R_reads' J.out).2.2 HBz_) (Kd.R_reads' J.out).2.1 A5.out).mono ?_); rintro e wz ⟨vz, rfl, m, hb⟩; refine ⟨_, rfl, ?_⟩; have T := Aside0.mk (below_then HB.out (below_size HB.out) HBz_); have b6 := Aside0.mk (Kd.R_lower m (below_size T.out)); have a5 := Aside0.mk (below_step T.out hb); clear HB; have HB := a5; clear T a5 hb m))
 go_ret
 exact ⟨_, by first | (rw [hRT_.out]; rfl) | exact er_, ra_ b6, bl_ HB⟩

-- NOT PRINTED: function 103 (impl_Span_103)

/-! ### grow103: slices.Grow(nil, n), by the kit's contract -/
def grow103.f (n : Int) : Option (List S82) := if 0 ≤ n ∧ n * 16 ≤ 140737488355328 then some [] else none
open Go.Shelf in
def growL103_ren : Go.Shelf.Ren := ⟨fun | 4 => 103 | n => n, fun | 22 => 40 | 25 => 82 | 3 => 3 | 4 => 4 | 9 => 9 | 20 => 20 | 0 => 0 | 2 => 3 | n => n, fun | n => n⟩
theorem growL103 : Go.Proofs.Lays8.n4 Try.prog growL103_ren := {
 mixed := by kernel_rfl
 f4 := ⟨Try.f103.name, by decide, Try.func103.trans (congrArg some (by kernel_rfl))⟩
 t0 := Try.underlying0
 a0 := Try.isAgg0
 z0 := Try.sizeOf0
 v0 := Try.zeroValue0
 t3 := Try.underlying3
 a3 := Try.isAgg3
 z3 := Try.sizeOf3
 v3 := Try.zeroValue3
 t4 := Try.underlying4
 a4 := Try.isAgg4
 z4 := Try.sizeOf4
 v4 := Try.zeroValue4
 t9 := Try.underlying9
 a9 := Try.isAgg9
 z9 := Try.sizeOf9
 v9 := Try.zeroValue9
 t20 := Try.underlying20
 a20 := Try.isAgg20
 z20 := Try.sizeOf20
 v20 := Try.zeroValue20
 t22 := Try.underlying40
 a22 := Try.isAgg40
 z22 := Try.sizeOf40
 v22 := Try.zeroValue40 }
theorem grow103.calls (n : Int) (r : List S82) (w : World) (h : grow103.f n = some r) :
  Calls Try.prog 103 #[.slice none 0 0, iv_ n] w fun e w' => ∃ u : Value, e = .returned (u) ∧ Kd.R k82 82 w' w.heap.size (fun _ => True) u r ∧ Below w.heap.size w w' := by
 unfold grow103.f at h
 by_cases c : 0 ≤ n ∧ n * 16 ≤ 140737488355328
 ·rw [if_pos c] at h
  obtain rfl := Option.some.inj h
  obtain ⟨m, rfl⟩ := Int.eq_ofNat_of_zero_le c.1
  by_cases hm : m = 0
  ·subst hm
   refine (Any8.slices_Grow_room growL103 none 0 0 0 w (by omega) (by omega) (by omega) (by omega)).mono ?_
   rintro e w' ⟨rfl, rfl⟩
   exact ⟨_, rfl, Kd.R_nil _ _ _ _ _, Below.refl _ _⟩
  ·have hinfo : (Try.prog.info? 82).map (fun i => (i.zero, i.size, i.bytes)) = some (some (.agg #[(iv_ 0), (iv_ 0)]), 2, 16) := by kernel_rfl
   obtain ⟨z, x, j⟩ := Option.map_eq_some_iff.1 hinfo
   have s := congrArg Prod.fst j
   have y := congrArg (fun p => p.2.1) j
   have l := congrArg (fun p => p.2.2) j
   dsimp only at s y l
   refine (Any8.slices_Grow_grow growL103 z _ x s (by omega) none 0 0 m [] w (by omega) (by omega) (by rw [l]; omega) (by omega) (by simp) (fun _ => rfl) (fun a ha => by cases ha)).mono ?_
   rintro e w' ⟨rfl, rfl⟩
   have hle : grownCap w (0 + m) 0 82 ≤ maxLen := grownCap_le_maxLen w (0 + m) 0 82 (by unfold maxLen; omega)
   have hge : 0 + m ≤ grownCap w (0 + m) 0 82 := grownCap_ge w _ _ _
   refine ⟨_, rfl, ⟨fun _ _ => trivial, [], ?_, Reps.none _ _⟩, ?_⟩
   ·refine World.ownsRow_made (base := w.heap.size) (e := 82) (size := 2) w.drew _ _ (Nat.le_refl _) hle ?_
    have hzs : (.agg #[(iv_ 0), (iv_ 0)] : Value).cells.size = 2 := rfl
    rw [Array.size_append, Array.size_append, size_zeroCells, size_zeroCells, hzs]
    simp only [List.size_toArray, List.length_nil]
    show 0 + (0 + m - 0) * 2 + (grownCap w (0 + m) 0 82 - (0 + m)) * 2 = grownCap w (0 + m) 0 82 * 2
    omega
   ·exact below_alloc (below_drew1 (Below.refl _ _)) _
 ·rw [if_neg c] at h
  exact absurd h (by simp)

/-! ### impl_Span_70: function 70 -/
mutual
def impl_Span_70.l0 : Nat → List (List S82) → Int → List (List S82) → Int → Int → Option (List S82)
 | 0, _, _, _, _, _ => none
 | k + 1, u, x, s, z, j => if j < z then (if 0 ≤ j then (if j < (s.length : Int) then (if (wrap64 (x + ((rd_L8 s j).length : Int))) < 0 then (none) else (impl_Span_70.l0 k u (wrap64 (x + ((rd_L8 s j).length : Int))) s z (wrap64 (j + 1)))) else (none)) else (none)) else ((grow103.f x).bind fun D => (impl_Span_70.l1 k D u (u.length : Int) 0))
def impl_Span_70.l1 : Nat → List S82 → List (List S82) → Int → Int → Option (List S82)
 | 0, _, _, _, _ => none
 | k + 1, y, m, B, l => if l < B then (if 0 ≤ l then (if l < (m.length : Int) then (if y.length + (rd_L8 m l).length < 8796093022208 then (impl_Span_70.l1 k (y ++ (rd_L8 m l)) m B (wrap64 (l + 1))) else (none)) else (none)) else (none)) else (some y)
end
def impl_Span_70.f (k : Nat) (j : List (List S82)) : Option (List S82) := impl_Span_70.l0 k j 0 j (j.length : Int) 0
theorem impl_Span_70.calls (k : Nat) (I : Option Addr) (M : Nat) (j : List (List S82)) (r : List S82) (w : World) (a1 : Kd.C (Kd.slice 82 k82) w I j.length j) (T : j.length ≤ M) (h : impl_Span_70.f k j = some r) :
  Calls Try.prog 70 #[.slice I j.length M] w fun e w' => ∃ a6 : Value, e = .returned (a6) ∧ Kd.R k82 82 w' w.heap.size (fun _ => True) a6 r ∧ Below w.heap.size w w' := by
 have L := Aside0.mk a1
 have d3 := Aside0.mk T
 clear a1 T
 have HB := Aside0.mk (Below.refl w.heap.size w)
 have H := h
 clear h
 unfold impl_Span_70.f at H
 have H' := Aside0.mk H
 clear H
 go_enter Try.func70, Try.ntmps70
 go_wp2
 go_loopg [3, 11] k (fun kq v3 b7 w' => ∃ (s : Int) (m : Int), v3 = iv_ s ∧ b7 = iv_ m ∧ Aside0 (impl_Span_70.l0 kq j s j (j.length : Int) m = some r) ∧ Aside0 (kq ≤ k) ∧ Aside0 (Below w.heap.size w w'))
 case atStart => exact ⟨(0), (0), (by first | rfl | (simp; done) | (simp [*]; done)), (by first | rfl | (simp; done) | (simp [*]; done)), H', ⟨Nat.le_refl _⟩, ⟨bl_ HB⟩⟩
 case round =>
  clear H'
  obtain ⟨s, m, rfl, rfl, HA, x, HB⟩ := hrel
  cases gk with
  | zero => exact absurd HA.out (by simp [impl_Span_70.l0])
  | succ z =>
   have H := HA.out
   clear HA
   simp only [impl_Span_70.l0] at H
   by_cases c2 : m < (j.length : Int)
   ·rw [if_pos c2] at H
    have b3 := decide_eq_true c2
    clear c2
    replace H := ifn_ H
    obtain ⟨c3, H⟩ := H
    have e0 := decide_eq_true c3
    clear c3
    replace H := ifn_ H
    obtain ⟨c4, H⟩ := H
    have e1 := decide_eq_true c4
    clear c4
    by_cases c5 : (wrap64 (s + ((rd_L8 j m).length : Int))) < 0
    ·rw [if_pos c5] at H
     exact absurd H (by simp)
    ·rw [if_neg c5] at H
     have e2 := decide_eq_false c5
     clear c5
     have H' := Aside0.mk H
     clear H
     have B : 0 ≤ (m : Int) := od_
     have E : m < (j.length : Int) := od_
     obtain ⟨d7, d1, e3, b5, a2, Y, U⟩ := at_L8 L.out m B E
     cases b5
     replace a2 := hbc_ HB a2
     have d6 := Aside0.mk U
     have d4 := Aside0.mk Y
     clear U Y
     replace B := eq_true B
     replace E := eq_true E
     go_wp2
     go_roundg z
     case measure => have := x.out; omega
     case rel => exact ⟨(wrap64 (s + ((rd_L8 j m).length : Int))), (wrap64 (m + 1)), (by first | rfl | (simp; done) | (simp [*]; done)), (by first | rfl | (simp; done) | (simp [*]; done)), H', ⟨by have := x.out; omega⟩, ⟨bl_ HB⟩⟩
   ·rw [if_neg c2] at H
    have b3 := decide_eq_false c2
    clear c2
    replace H := bs_ H
    obtain ⟨a5, A6, H⟩ := H
    have H' := Aside0.mk H
    clear H
    go_wp2_with (first | ((with_reducible refine gate_callee (f := 103) rfl ?_); refine gl_ 24 Try.func103 (grow103.calls s a5 _ A6.out) ?_; rintro e w7 ⟨e6, rfl, a0, hb⟩; refine ⟨_, rfl, sh2_ (Kd.R_lower a0 (below_size (bl_ HB))) (below_step (bl_ HB) hb) ?_⟩; clear HB hb a0; intro a8 HB))
    go_loopg [6, 27] z (fun kq v6 b8 w' => ∃ (u : List S82) (l : Int), b8 = iv_ l ∧ Aside0 (impl_Span_70.l1 kq u j (j.length : Int) l = some r) ∧ Aside0 (kq ≤ z) ∧ Aside0 (Kd.R k82 82 w' w.heap.size (fun _ => True) v6 u) ∧ Aside0 (Below w.heap.size w w'))
    case atStart => exact ⟨(a5), (0), (by first | rfl | (simp; done) | (simp [*]; done)), H', ⟨Nat.le_refl _⟩, ⟨ra_ a8⟩, ⟨bl_ HB⟩⟩
    case round =>
     clear H'
     obtain ⟨u, l, rfl, HA, J, y, HB⟩ := hrel
     cases gk with
     | zero => exact absurd HA.out (by simp [impl_Span_70.l1])
     | succ k2 =>
      have H := HA.out
      clear HA
      simp only [impl_Span_70.l1] at H
      by_cases c8 : l < (j.length : Int)
      ·rw [if_pos c8] at H
       have b4 := decide_eq_true c8
       clear c8
       replace H := ifn_ H
       obtain ⟨c9, H⟩ := H
       have e5 := decide_eq_true c9
       clear c9
       replace H := ifn_ H
       obtain ⟨c10, H⟩ := H
       have d9 := decide_eq_true c10
       clear c10
       replace H := ifn_ H
       obtain ⟨O, H⟩ := H
       have b1 := Aside0.mk O
       clear O
       replace H : ∃ y_ : List S82, Aside0 (y_ = (u ++ (rd_L8 j l))) ∧ (impl_Span_70.l1 k2 y_ j (j.length : Int) (wrap64 (l + 1))) = some r := ⟨_, ⟨rfl⟩, yh_ H⟩
       obtain ⟨d0, b2, H⟩ := H
       have H' := Aside0.mk H
       clear H
       have D : 0 ≤ (l : Int) := od_
       have G : l < (j.length : Int) := od_
       obtain ⟨d8, d2, e4, b6, a3, Z, X⟩ := at_L8 L.out l D G
       cases b6
       replace a3 := hbc_ HB a3
       have b0 := Aside0.mk X
       have d5 := Aside0.mk Z
       clear X Z
       replace D := eq_true D
       replace G := eq_true G
       go_wp2_with (first | ((with_reducible refine gate_builtin (b := .append) (xs := #[.tmp 31, .tmp 32]) rfl ?_); at_builtin; refine Kd.R_append_rows k82 (w0 := w) w.heap.size rfl (.tmp 31) (.tmp 32) 40 82 (.agg #[(iv_ 0), (iv_ 0)]) 16 rfl Try.underlying40 info82 rfl (by decide) (by omega) u6 u (rd_L8 j l) _ _ _ (fun _ => True) (fun _ => False) rfl rfl ?aO ?aR (fun _ _ h => h) (fun _ h => h.elim) ?aF ?aB ?aS ?aL ?_; (case aR => exact ck_ b0 HB); (case aB => exact (bl_ HB)); (case aF => exact (fun _ _ => trivial)); (case aO => exact (ra_ y)); (case aS => exact (below_size (bl_ HB))); (case aL => have := b1.out; omega); intro e7 e8 ho hb hg hat; rw [← b2.out] at ho; refine sh2_ hb ho ?_; clear HB y ho hb hg hat; intro HB a9))
       go_roundg k2
       case measure => have := x.out; have := J.out; omega
       case rel => exact ⟨(d0), (wrap64 (l + 1)), (by first | rfl | (simp; done) | (simp [*]; done)), H', ⟨by have := x.out; have := J.out; omega⟩, ⟨ra_ a9⟩, ⟨bl_ HB⟩⟩
      ·rw [if_neg c8] at H
       have b4 := decide_eq_false c8
       clear c8
       obtain rfl := Option.some.inj H
       go_wp2
       go_ret
       exact ⟨_, by first | (rw [hRT_.out]; rfl) | exact er_, ra_ y, bl_ HB⟩

/-! ### impl_SpeakingSpans: function 27 -/
def impl_SpeakingSpans.f (k : Nat) (j : Int) (D : List S72) (E : List S74) (l m s u x : Int) (G : List S88) (y I J z B : Int) : Option (List S82) := (impl_SureWindows.f k j D E l m s u x G y I J z B).bind fun L => ((impl_QuietSpans.f k j D E l m s u x G y I z B).bind fun M => ((impl_QuietSpans.f k j D E l m s u x G y J z B).bind fun O => ((impl_Span_70.f k (([M, O] : List (List S82)))).bind fun T => ((impl_CutSpans.f k L T).bind fun U => (some U)))))
def impl_SpeakingSpans.T1 : Bool × List (List Nat × List Nat) := (true, [([], []), ([], []), ([], []), ([], []), ([], []), ([0, 1, 2, 3, 4], [0, 1, 2, 3, 4]), ([], []), ([], []), ([], []), ([], []), ([6, 7, 8, 9, 5], [6, 7, 8, 9]), ([], []), ([], []), ([], []), ([], []), ([11, 12, 13, 14, 10], [11, 12, 13, 14]), ([10, 15], [10, 15]), ([16, 15], [16]), ([5, 17, 17], [5, 17]), ([18, 18, 0, 1, 2, 3, 4, 5, 6, 7, 8, 9, 10, 11, 12, 13, 14, 15, 16, 17, 18], [18])])
def impl_SpeakingSpans.B1 : List Nat := [0, 0, 0, 0, 0, 31, 0, 0, 0, 0, 1023, 0, 0, 0, 0, 32767, 65535, 131071, 262143, 524287]
theorem impl_SpeakingSpans.tab1 : rtab .any (opsOf Try.f27 1) = impl_SpeakingSpans.T1 := by kernel_rfl
theorem impl_SpeakingSpans.bits1 : waitsOk impl_SpeakingSpans.T1.2 impl_SpeakingSpans.B1 = true := by kernel_rfl
theorem impl_SpeakingSpans.calls (k : Nat) (I : Int) (a5 : Option Addr) (b0 : Nat) (u : List S72) (a6 : Option Addr) (b1 : Nat) (x : List S74) (J L M O T : Int) (a7 : Option Addr) (b2 : Nat) (y : List S88) (U a1 a2 a3 a4 : Int) (r : List S82) (w : World) (e7 : Kd.C k72 w a5 u.length u) (e4 : u.length ≤ b0) (e8 : Kd.C k74 w a6 x.length x) (e5 : x.length ≤ b1) (e9 : Kd.C k88 w a7 y.length y) (e6 : y.length ≤ b2) (h : impl_SpeakingSpans.f k I u x J L M O T y U a1 a2 a3 a4 = some r) :
  Calls Try.prog 27 #[.agg #[iv_ I, .slice a5 u.length b0, .slice a6 x.length b1, iv_ J, iv_ L, iv_ M, iv_ O, iv_ T, .slice a7 y.length b2, iv_ U], iv_ a1, iv_ a2, iv_ a3, iv_ a4] w fun e w' => ∃ f0 : Value, e = .returned (f0) ∧ Kd.R k82 82 w' w.heap.size (fun _ => True) f0 r ∧ Below w.heap.size w w' := by
 have g6 := Try.underlying28
 have c1 := Aside0.mk e7
 have b8 := Aside0.mk e4
 clear e7 e4
 have d0 := Aside0.mk e8
 have b9 := Aside0.mk e5
 clear e8 e5
 have d1 := Aside0.mk e9
 have c0 := Aside0.mk e6
 clear e9 e6
 have HB := Aside0.mk (Below.refl w.heap.size w)
 have H := h
 clear h
 unfold impl_SpeakingSpans.f at H
 replace H := bs_ H
 obtain ⟨d2, A6, H⟩ := H
 replace H := bs_ H
 obtain ⟨Z, A7, H⟩ := H
 replace H := bs_ H
 obtain ⟨a0, A8, H⟩ := H
 replace H : ∃ y_ : List (List S82), Aside0 (y_ = (([Z, a0] : List (List S82)))) ∧ ((impl_Span_70.f k y_).bind fun b7 => ((impl_CutSpans.f k d2 b7).bind fun d3 => (some d3))) = some r := ⟨_, ⟨rfl⟩, yh_ H⟩
 obtain ⟨f1, d6, H⟩ := H
 replace H := bs_ H
 obtain ⟨b7, A9, H⟩ := H
 replace H := bs_ H
 obtain ⟨d3, f2, H⟩ := H
 obtain rfl := Option.some.inj H
 go_enter Try.func27, Try.ntmps27
 try go_wp2_with (first | ((with_reducible refine gd_ 5 ?_); refine bx_ 5 28 #[iv_ I, .slice a5 u.length b0, .slice a6 x.length b1, iv_ J, iv_ L, iv_ M, iv_ O, iv_ T, .slice a7 y.length b2, iv_ U] ?_; intro E hg g0 hbox hb; refine sh3_ (below_step (bl_ HB) hb) hbox (ge_ hg (bl_ HB)) ?_; clear HB hb hbox hg; intro HB j s))
 refine sh2_ (blk_drew j.out) (below_drew1 HB.out) ?_
 clear j HB
 intro j HB
 refine start_ (n := 20) (S := fun w' => Cz10 w' E (iv_ I) (.slice a5 u.length b0) (.slice a6 x.length b1) (iv_ J) (iv_ L) (iv_ M) (iv_ O) (iv_ T) (.slice a7 y.length b2) (iv_ U)) (ds := []) (bo_ 20 0) (by kernel_rfl) rfl rfl (cz10_ j) (fun hHeld => ?_); refine with_tabW impl_SpeakingSpans.tab1 impl_SpeakingSpans.bits1 (fun HT_ HW_ => ?_)
 generalize g0.drew = h2 at j HB hHeld ⊢
 refine pur_ 1 (bo_ 20 2) (some 12) HT_ ?_
 refine pur_ 2 (bo_ 20 6) (some 13) HT_ ?_
 refine pur_ 3 (bo_ 20 14) (some 14) HT_ ?_
 refine pur_ 4 (bo_ 20 30) (some 15) HT_ ?_
 refine pur_ 7 (bo_ 20 158) (some 18) HT_ ?_
 refine pur_ 8 (bo_ 20 414) (some 19) HT_ ?_
 refine pur_ 9 (bo_ 20 926) (some 20) HT_ ?_
 refine pur_ 12 (bo_ 20 5022) (some 23) HT_ ?_
 refine pur_ 13 (bo_ 20 13214) (some 24) HT_ ?_
 refine pur_ 14 (bo_ 20 29598) (some 25) HT_ ?_
 refine tak_ 0 (bo_ 20 29599) (some 11) HT_ HW_ hHeld ?_
 refine tak_ 6 (bo_ 20 29663) (some 17) HT_ HW_ hHeld ?_
 refine tak_ 11 (bo_ 20 31711) (some 22) HT_ HW_ hHeld ?_
 refine onc_ 5 (bo_ 20 31743) (some 16) HT_ Try.func16 (impl_SureWindows.calls k I _ _ u _ _ x J L M O T _ _ y U a1 a2 a3 a4 d2 _ (ck_ c1 HB) b8.out (ck_ d0 HB) b9.out (ck_ d1 HB) c0.out A6.out) ?_
 rintro e h3 ⟨Y, rfl, m, hb⟩
 refine sh3_ (Kd.R_lower m (below_size (bl1_ HB s))) (blk_below (bk_ j) hb) (below_step (bl1_ HB s) hb) ?_
 clear j HB hb m
 intro l j HB
 refine ⟨_, _, rfl, (cz10_ j), pt_, fun hHeld => ?_⟩
 refine onc_ 10 (bo_ 20 32767) (some 21) HT_ Try.func29 (impl_QuietSpans.calls k I _ _ u _ _ x J L M O T _ _ y U a1 a3 a4 Z _ (ck_ c1 HB) b8.out (ck_ d0 HB) b9.out (ck_ d1 HB) c0.out A7.out) ?_
 rintro e h4 ⟨g7, rfl, m, hb⟩
 refine sh4_ (Kd.R_elder' (ra_ l) (Kd.R_base m) hb) (Kd.R_lower (Kd.R_new' m (Kd.R_lt (ra_ l))) (below_size (bl1_ HB s))) (blk_below (bk_ j) hb) (below_step (bl1_ HB s) hb) ?_
 clear l j HB hb m
 intro l G j HB
 refine ⟨_, _, rfl, (cz10_ j), pt_, fun hHeld => ?_⟩
 refine onc_ 15 (bo_ 20 65535) (some 26) HT_ Try.func29 (impl_QuietSpans.calls k I _ _ u _ _ x J L M O T _ _ y U a2 a3 a4 a0 _ (ck_ c1 HB) b8.out (ck_ d0 HB) b9.out (ck_ d1 HB) c0.out A8.out) ?_
 rintro e g1 ⟨g8, rfl, m, hb⟩
 refine sh5_ (Kd.R_elder' (ra_ l) (Kd.R_base m) hb) (Kd.R_elder' (ra_ G) (Kd.R_base m) hb) (Kd.R_lower (Kd.R_new' (Kd.R_new' m (Kd.R_lt (ra_ l))) (Kd.R_lt (ra_ G))) (below_size (bl1_ HB s))) (blk_below (bk_ j) hb) (below_step (bl1_ HB s) hb) ?_
 clear l G j HB hb m
 intro l G b4 j HB
 obtain ⟨d4, d7, d9⟩ := Kd.R_slice G.out
 (first | subst d9 | (injection d9 with f1_ f2_ f3_; have B := f1_.symm; have D := f3_.symm; clear f1_ f2_ f3_; subst B; subst D))
 obtain ⟨d5, d8, e0⟩ := Kd.R_slice b4.out
 (first | subst e0 | (injection e0 with f1_ f2_ f3_; have B := f1_.symm; have D := f3_.symm; clear f1_ f2_ f3_; subst B; subst D))
 refine ⟨_, _, rfl, (cz10_ j), pt_, fun hHeld => ?_⟩
 refine one_ (i := 16) (N := some 27) (bo_ 20 131071) rfl rfl (one_of HT_.out (by kernel_rfl)) (by decide) (fun K hK => ?_)
 refine Kd.N_lit_step (Kd.slice 82 k82) _ 40 ?hg (N' := 27) ?hd (xs := ([Z, a0] : List (List S82))) (inner := [.slice d4 Z.length d7, .slice d5 a0.length d8]) (ok := (fun k_ => some k_ ≠ (Y : Value).ownBlock ∧ k_ ≠ E)) (okp := (fun k_ => some k_ ≠ (Y : Value).ownBlock ∧ k_ ≠ E)) ?hr ?hp (fun _ hk => hk) ((show ∀ k_, g1.heap.size ≤ k_ → (fun k_ => some k_ ≠ (Y : Value).ownBlock ∧ k_ ≠ E) k_ from fun k_ hk => ⟨Kd.fresh' (Kd.R_lt (ra_ l)) k_ hk, Kd.freshB (g := E) (o := .cells #[iv_ I, .slice a5 u.length b0, .slice a6 x.length b1, iv_ J, iv_ L, iv_ M, iv_ O, iv_ T, .slice a7 y.length b2, iv_ U] 28 (0, 0)) (bk_ j) k_ hk⟩) _ (Nat.le_refl _)) (Below.refl _ _) (Nat.le_refl _) (by simp) ?_; (case hd => rfl); (case hg => rfl); (case hr => first | (go_simp; done) | (go_simp; rfl)); (case hp => exact (Reps.one (show Kd.FK (Kd.slice 82 k82) _ _ Z [.slice d4 Z.length d7] from (Kd.FK_slice_mk (Kd.R_reads' (Kd.R_mono (ok' := (fun k_ => some k_ ≠ (Y : Value).ownBlock ∧ k_ ≠ E)) (Kd.R_types (G.out) j.out (by decide)) (fun k_ hk => ⟨hk.1.1.2, hk.2⟩))).2.1 (Kd.R_F (Kd.R_mono (ok' := (fun k_ => some k_ ≠ (Y : Value).ownBlock ∧ k_ ≠ E)) (Kd.R_types (G.out) j.out (by decide)) (fun k_ hk => ⟨hk.1.1.2, hk.2⟩))))) (Reps.one (show Kd.FK (Kd.slice 82 k82) _ _ a0 [.slice d5 a0.length d8] from (Kd.FK_slice_mk (Kd.R_reads' (Kd.R_mono (ok' := (fun k_ => some k_ ≠ (Y : Value).ownBlock ∧ k_ ≠ E)) (Kd.R_types (b4.out) j.out (by decide)) (fun k_ hk => ⟨hk.1.1.2, hk.2⟩))).2.1 (Kd.R_F (Kd.R_mono (ok' := (fun k_ => some k_ ≠ (Y : Value).ownBlock ∧ k_ ≠ E)) (Kd.R_types (b4.out) j.out (by decide)) (fun k_ hk => ⟨hk.1.1.2, hk.2⟩))))) (Reps.none _ _))))
 intro g9 h5 b3 hb hg_ hnew_
 clear hg_ hnew_
 (first | rw [← d6.out] at b3 | (simp only [Int.reduceToNat] at b3; rw [← d6.out] at b3))
 refine sh4_ (Kd.R_below (ra_ l) hb) (Kd.N_lower b3 (below_size (bl1_ HB s))) (blk_below (bk_ j) hb) (below_step (bl1_ HB s) hb) ?_
 clear l j HB G b4 hb b3
 intro l z j HB
 obtain ⟨f7, f9, e1⟩ := Kd.N_slice z.out
 (first | subst e1 | (injection e1 with f1_ f2_ f3_; have B := f1_.symm; have D := f3_.symm; clear f1_ f2_ f3_; subst B; subst D))
 refine hK.out _ _ (cz10_ j) (fun hHeld => ?_)
 clear hK K
 refine norm_ (show Act.put _ (some 27) _ = _ from pt_) ?_
 refine one_ (i := 17) (N := some 28) (bo_ 20 262143) rfl rfl (one_of HT_.out (by kernel_rfl)) (by decide) (fun K hK => ?_)
 refine goes_ Try.func70 (by kernel_rfl) rfl #[.slice f7 f1.length f9] (by rfl) rfl rfl mp_ ?_
 with_reducible refine (impl_Span_70.calls k _ _ f1 b7 _ ?side1 ?side2 A9.out).mono ?_
 (case side1 => repeat (first | exact (Kd.N_reads' z.out).2.2 | (with_reducible refine Kd.C_alloc ?_ _) | (with_reducible refine Kd.C_drewN ?_ _) | (with_reducible refine Kd.C_drew ?_)))
 (case side2 => exact (Kd.N_reads' z.out).2.1)
 rintro e h6 ⟨h0, rfl, m, hb⟩
 refine ⟨_, rfl, sh5_ (Kd.R_elder' (ra_ l) (Kd.R_base m) hb) (Kd.N_elder' (by (with_reducible repeat (first | apply Kd.N_alloc | apply Kd.N_drewN | apply Kd.N_drew)); exact z.out) (Kd.R_base m) hb) (Kd.R_lower (Kd.R_new' m (Kd.R_lt (ra_ l))) (below_size (bl1_ HB s))) (blk_below (bk_ j) hb) (below_step (bl1_ HB s) hb) ?_⟩
 clear l z j HB hb m
 intro l z X j HB
 obtain ⟨g2, g4, e2⟩ := Kd.R_slice l.out
 (first | subst e2 | (injection e2 with f1_ f2_ f3_; have B := f1_.symm; have D := f3_.symm; clear f1_ f2_ f3_; subst B; subst D))
 obtain ⟨g3, g5, e3⟩ := Kd.R_slice X.out
 (first | subst e3 | (injection e3 with f1_ f2_ f3_; have B := f1_.symm; have D := f3_.symm; clear f1_ f2_ f3_; subst B; subst D))
 refine hK.out _ _ (cz10_ j) (fun hHeld => ?_)
 clear hK K
 refine norm_ (show Act.put _ (some 28) _ = _ from pt_) ?_
 refine onc_ 18 (bo_ 20 524287) (some 29) HT_ Try.func69 (impl_CutSpans.calls k _ _ d2 _ _ b7 d3 _ (cr_ l) (rl_ l) (cr_ X) (rl_ X) f2.out) ?_
 rintro e h7 ⟨h1, rfl, m, hb⟩
 refine sh6_ (Kd.R_elder' (ra_ l) (Kd.R_base m) hb) (Kd.N_elder' (by (with_reducible repeat (first | apply Kd.N_alloc | apply Kd.N_drewN | apply Kd.N_drew)); exact z.out) (Kd.R_base m) hb) (Kd.R_elder' (ra_ X) (Kd.R_base m) hb) (Kd.R_lower (Kd.R_new' (Kd.R_new' m (Kd.R_lt (ra_ l))) (Kd.R_lt (ra_ X))) (below_size (bl1_ HB s))) (blk_below (bk_ j) hb) (below_step (bl1_ HB s) hb) ?_
 clear l z X j HB hb m
 intro l z X f8 j HB
 refine ⟨_, _, rfl, (cz10_ j), pt_, fun hHeld => ?_⟩
 refine pur_ 19 (bo_ 20 1048575) (some 10) HT_ ?_
 refine done_ (done_of HT_.out (by kernel_rfl)) ?_
 try go_wp2
 go_ret
 exact ⟨_, by first | (rw [hRT_.out]; rfl) | exact er_, by (with_reducible repeat (first | apply Kd.R_alloc | apply Kd.R_drewN | apply Kd.R_drew)); exact Kd.R_mono f8.out (fun _ hk => trivial), bl1_ HB s⟩

/-! ### impl_IsSat: function 113 -/
def impl_IsSat.f (j l m s u : Int) : Option (Bool) := if j ≥ 0 then (if j < u then ((impl_InRange.f l 0 359).bind fun x => (if x = true then ((impl_InRange.f m (-60) 60).bind fun y => (if y = true then ((impl_InRange.f s 0 20).bind fun z => (some z)) else (some false))) else (some false))) else (some false)) else (some false)
theorem impl_IsSat.calls (j l u x D : Int) (r : Bool) (w : World) (h : impl_IsSat.f j l u x D = some r) :
  Calls Try.prog 113 #[.agg #[iv_ j, iv_ l, iv_ u, iv_ x], iv_ D] w fun e w' => e = .returned (.bool r) ∧ Below w.heap.size w w' := by
 have a0 := Try.underlying72
 have HB := Aside0.mk (Below.refl w.heap.size w)
 have H := h
 clear h
 unfold impl_IsSat.f at H
 by_cases c3 : j ≥ 0
 ·rw [if_pos c3] at H
  have I : decide (0 ≤ j) = true := decide_eq_true c3
  clear c3
  by_cases c4 : j < D
  ·rw [if_pos c4] at H
   have J := decide_eq_true c4
   clear c4
   replace H := bs_ H
   obtain ⟨L, B, H⟩ := H
   by_cases c6 : L = true
   ·subst c6
    rw [if_pos rfl] at H
    replace H := bs_ H
    obtain ⟨M, E, H⟩ := H
    by_cases c8 : M = true
    ·subst c8
     rw [if_pos rfl] at H
     replace H := bs_ H
     obtain ⟨O, G, H⟩ := H
     obtain rfl := Option.some.inj H
     go_enter Try.func113, Try.ntmps113
     go_wp2_with (first | ((with_reducible refine gd_ 2 ?_); refine bx_ 2 72 #[iv_ j, iv_ l, iv_ u, iv_ x] ?_; intro z hg a2 hbox hb; refine sh3_ (below_step (bl_ HB) hb) hbox (ge_ hg (bl_ HB)) ?_; clear HB hb hbox hg; intro HB m s; have T := cf4_ m) | (go_at_call 93; (with_reducible refine (impl_InRange.calls l 0 359 true _ B.out).mono ?_); rintro e w' ⟨rfl, ⟨nd, rfl⟩⟩) | (go_at_call 93; (with_reducible refine (impl_InRange.calls u (-60) 60 true _ E.out).mono ?_); rintro e w' ⟨rfl, ⟨nd, rfl⟩⟩) | (go_at_call 93; (with_reducible refine (impl_InRange.calls x 0 20 O _ G.out).mono ?_); rintro e w' ⟨rfl, ⟨nd, rfl⟩⟩))
     go_ret
     exact ⟨by first | (rw [hRT_.out]; rfl) | exact er_, bl1_ HB s⟩
    ·replace c8 := Bool.eq_false_iff.mpr c8
     subst c8
     have y : (some false) = some r := by rw [if_neg (show ¬ (false = true) by decide)] at H; exact H
     clear H
     have H := y
     clear y
     obtain rfl := Option.some.inj H
     go_enter Try.func113, Try.ntmps113
     go_wp2_with (first | ((with_reducible refine gd_ 2 ?_); refine bx_ 2 72 #[iv_ j, iv_ l, iv_ u, iv_ x] ?_; intro z hg a3 hbox hb; refine sh3_ (below_step (bl_ HB) hb) hbox (ge_ hg (bl_ HB)) ?_; clear HB hb hbox hg; intro HB m s; have U := cf4_ m) | (go_at_call 93; (with_reducible refine (impl_InRange.calls l 0 359 true _ B.out).mono ?_); rintro e w' ⟨rfl, ⟨nd, rfl⟩⟩) | (go_at_call 93; (with_reducible refine (impl_InRange.calls u (-60) 60 false _ E.out).mono ?_); rintro e w' ⟨rfl, ⟨nd, rfl⟩⟩))
     go_ret
     exact ⟨by first | (rw [hRT_.out]; rfl) | exact er_, bl1_ HB s⟩
   ·replace c6 := Bool.eq_false_iff.mpr c6
    subst c6
    have y : (some false) = some r := by rw [if_neg (show ¬ (false = true) by decide)] at H; exact H
    clear H
    have H := y
    clear y
    obtain rfl := Option.some.inj H
    go_enter Try.func113, Try.ntmps113
    go_wp2_with (first | ((with_reducible refine gd_ 2 ?_); refine bx_ 2 72 #[iv_ j, iv_ l, iv_ u, iv_ x] ?_; intro z hg a4 hbox hb; refine sh3_ (below_step (bl_ HB) hb) hbox (ge_ hg (bl_ HB)) ?_; clear HB hb hbox hg; intro HB m s; have X := cf4_ m) | (go_at_call 93; (with_reducible refine (impl_InRange.calls l 0 359 false _ B.out).mono ?_); rintro e w' ⟨rfl, ⟨nd, rfl⟩⟩))
    go_ret
    exact ⟨by first | (rw [hRT_.out]; rfl) | exact er_, bl1_ HB s⟩
  ·rw [if_neg c4] at H
   have J := decide_eq_false c4
   clear c4
   obtain rfl := Option.some.inj H
   go_enter Try.func113, Try.ntmps113
   go_wp2_with (first | ((with_reducible refine gd_ 2 ?_); refine bx_ 2 72 #[iv_ j, iv_ l, iv_ u, iv_ x] ?_; intro z hg a5 hbox hb; refine sh3_ (below_step (bl_ HB) hb) hbox (ge_ hg (bl_ HB)) ?_; clear HB hb hbox hg; intro HB m s; have Y := cf4_ m))
   go_ret
   exact ⟨by first | (rw [hRT_.out]; rfl) | exact er_, bl1_ HB s⟩
 ·rw [if_neg c3] at H
  have I : decide (0 ≤ j) = false := decide_eq_false c3
  clear c3
  obtain rfl := Option.some.inj H
  go_enter Try.func113, Try.ntmps113
  go_wp2_with (first | ((with_reducible refine gd_ 2 ?_); refine bx_ 2 72 #[iv_ j, iv_ l, iv_ u, iv_ x] ?_; intro z hg a6 hbox hb; refine sh3_ (below_step (bl_ HB) hb) hbox (ge_ hg (bl_ HB)) ?_; clear HB hb hbox hg; intro HB m s; have Z := cf4_ m))
  go_ret
  exact ⟨by first | (rw [hRT_.out]; rfl) | exact er_, bl1_ HB s⟩

end Go.Proofs.Ytopbkdcicidajaa.PFnContacts
