-- Written by a program of this session for this claim (the kit's printer with changes).
import Derived.Test.YtpjhdehbikohmaaGreatQFnExactPlanOfx0
import Derived.Test.YtpjhdehbikohmaaGreatQFnExactPlanOfx1
namespace Go.Proofs.YtpjhdehbikohmaaGreat.PFnExactPlanOf
open Go.RowKit Go.Proofs.YtpjhdehbikohmaaGreatW.PrintWords Go.Proofs.YtpjhdehbikohmaaGreatW.PrintLast Go.Proofs.YtpjhdehbikohmaaGreatW.PrintMore
attribute [local go_sem] max2_int min2_int max_two min_two max_three min_three max_four min_four   -- for this text's walks alone
set_option linter.unusedVariables false
set_option maxHeartbeats 8000000
set_option maxRecDepth 100000
set_option linter.unusedSimpArgs false

/-! ### laws_eqSatS: function 31 -/
def laws_eqSatS.l0 : Nat → List S68 → List S68 → Int → Option (Bool)
 | 0, _, _, _ => none
 | k + 1, l, m, j => if j < (l.length : Int) then (if 0 ≤ j then (if j < (m.length : Int) then ((laws_eqSat.f ((rd_T68 l j).f0) ((rd_T68 l j).f1) ((rd_T68 l j).f2) ((rd_T68 l j).f3) ((rd_T68 m j).f0) ((rd_T68 m j).f1) ((rd_T68 m j).f2) ((rd_T68 m j).f3)).bind fun s => (if s = true then (laws_eqSatS.l0 k l m (wrap64 (j + 1))) else (some false))) else (none)) else (none)) else (some true)
def laws_eqSatS.f (k : Nat) (j l : List S68) : Option (Bool) := if (j.length : Int) = (l.length : Int) then (laws_eqSatS.l0 k j l 0) else (some false)
def laws_eqSatS.T6 : Bool × List (List Nat × List Nat) := (true, [([], []), ([], []), ([0, 1], [0, 1]), ([2], [2]), ([], []), ([], []), ([4, 5], [4, 5]), ([6], [6]), ([3, 7], [3, 7]), ([8], [8])])
def laws_eqSatS.B6 : List Nat := [0, 0, 3, 7, 0, 0, 48, 112, 255, 511]
theorem laws_eqSatS.tab6 : rtab .any (opsOf Tryz.f31 6) = laws_eqSatS.T6 := by kernel_rfl
theorem laws_eqSatS.bits6 : waitsOk laws_eqSatS.T6.2 laws_eqSatS.B6 = true := by kernel_rfl
theorem laws_eqSatS.calls (k : Nat) (A0 : Option Addr) (c0 : Nat) (l : List S68) (A1 : Option Addr) (c1 : Nat) (m : List S68) (r : Bool) (w : World) (b1 : Kd.C k68 w A0 l.length l) (a9 : l.length ≤ c0) (b2 : Kd.C k68 w A1 m.length m) (b0 : m.length ≤ c1) (h : laws_eqSatS.f k l m = some r) (hT_ : r = true := by rfl) :
  Calls Tryz.prog 31 #[.slice A0 l.length c0, .slice A1 m.length c1] w fun e w' => e = .returned (.bool r) ∧ Below w.heap.size w w' := by
 have d9 := Tryz.underlying68
 have b4 := Aside0.mk b1
 have d5 := Aside0.mk a9
 clear b1 a9
 have b5 := Aside0.mk b2
 have d6 := Aside0.mk b0
 clear b2 b0
 have HB := Aside0.mk (Below.refl w.heap.size w)
 subst hT_
 have H := h
 clear h
 unfold laws_eqSatS.f at H
 by_cases c3 : (l.length : Int) = (m.length : Int)
 ·rw [if_pos c3] at H
  obtain ⟨b6, b7⟩ := bt_ c3
  have b8 : (l.length == m.length) = true := by first | simpa using c3 | (simp at c3 ⊢; omega)
  clear c3
  have H' := Aside0.mk H
  clear H
  go_enter Tryz.func31, Tryz.ntmps31
  go_wp2
  go_loopg [5] k (fun kq v5 w' => ∃ (j : Int), v5 = iv_ j ∧ Aside0 (laws_eqSatS.l0 kq l m j = some true) ∧ Aside0 (kq ≤ k) ∧ Aside0 (Below w.heap.size w w'))
  case atStart => exact ⟨(0), (by first | rfl | (simp; done) | (simp [*]; done)), H', ⟨Nat.le_refl _⟩, ⟨bl_ HB⟩⟩
  case round =>
   clear H'
   obtain ⟨j, rfl, HA, a6, HB⟩ := hrel
   cases gk with
   | zero => exact absurd HA.out (by simp [laws_eqSatS.l0])
   | succ k1 =>
    have H := HA.out
    clear HA
    simp only [laws_eqSatS.l0] at H
    by_cases c4 : j < (l.length : Int)
    ·rw [if_pos c4] at H
     have b9 := decide_eq_true c4
     clear c4
     replace H := ifn_ H
     obtain ⟨c5, H⟩ := H
     have d7 := decide_eq_true c5
     clear c5
     replace H := ifn_ H
     obtain ⟨c6, H⟩ := H
     have d8 := decide_eq_true c6
     clear c6
     replace H := bs_ H
     obtain ⟨d3, A7, H⟩ := H
     by_cases c8 : d3 = true
     ·subst c8
      try rw [if_pos rfl] at H
      have H' := Aside0.mk H
      clear H
      try go_wp2
      refine sh1_ (below_drew1 HB.out) ?_
      clear HB
      intro HB
      have Z : 0 ≤ (j : Int) := od_
      have a1 : j < (l.length : Int) := od_
      obtain ⟨s, d0, J, L, M, O⟩ := at_T68 b4.out j Z a1
      have B := O
      have z := M
      have y := L
      have x := J
      cases d0
      replace J := hbc_ HB J
      replace L := hbc_ HB L
      replace M := hbc_ HB M
      replace O := hbc_ HB O
      replace Z := eq_true Z
      replace a1 := eq_true a1
      have a0 : 0 ≤ (j : Int) := od_
      have a2 : j < (m.length : Int) := od_
      obtain ⟨u, d1, T, U, X, Y⟩ := at_T68 b5.out j a0 a2
      have I := Y
      have G := X
      have E := U
      have D := T
      cases d1
      replace T := hbc_ HB T
      replace U := hbc_ HB U
      replace X := hbc_ HB X
      replace Y := hbc_ HB Y
      replace a0 := eq_true a0
      replace a2 := eq_true a2
      refine start_ (n := 10) (S := fun w' => w'.cell? (s.add ((j).toNat * 4)) = some (iv_ ((rd_T68 l j).f0)) ∧ w'.cell? ⟨(s.add ((j).toNat * 4)).block, (s.add ((j).toNat * 4)).off + 1, none⟩ = some (iv_ ((rd_T68 l j).f1)) ∧ w'.cell? ⟨(s.add ((j).toNat * 4)).block, (s.add ((j).toNat * 4)).off + 2, none⟩ = some (iv_ ((rd_T68 l j).f2)) ∧ w'.cell? ⟨(s.add ((j).toNat * 4)).block, (s.add ((j).toNat * 4)).off + 3, none⟩ = some (iv_ ((rd_T68 l j).f3)) ∧ w'.cell? (u.add ((j).toNat * 4)) = some (iv_ ((rd_T68 m j).f0)) ∧ w'.cell? ⟨(u.add ((j).toNat * 4)).block, (u.add ((j).toNat * 4)).off + 1, none⟩ = some (iv_ ((rd_T68 m j).f1)) ∧ w'.cell? ⟨(u.add ((j).toNat * 4)).block, (u.add ((j).toNat * 4)).off + 2, none⟩ = some (iv_ ((rd_T68 m j).f2)) ∧ w'.cell? ⟨(u.add ((j).toNat * 4)).block, (u.add ((j).toNat * 4)).off + 3, none⟩ = some (iv_ ((rd_T68 m j).f3))) (ds := []) (bo_ 10 0) (by kernel_rfl) rfl rfl ⟨((HB.out.cell (World.block_lt_of_cell? w _ x)).trans x), ((HB.out.cell (World.block_lt_of_cell? w _ y)).trans y), ((HB.out.cell (World.block_lt_of_cell? w _ z)).trans z), ((HB.out.cell (World.block_lt_of_cell? w _ B)).trans B), ((HB.out.cell (World.block_lt_of_cell? w _ D)).trans D), ((HB.out.cell (World.block_lt_of_cell? w _ E)).trans E), ((HB.out.cell (World.block_lt_of_cell? w _ G)).trans G), ((HB.out.cell (World.block_lt_of_cell? w _ I)).trans I)⟩ (fun hHeld => ?_); refine with_tabW laws_eqSatS.tab6 laws_eqSatS.bits6 (fun HT_ HW_ => ?_)
      generalize wr.drew = w9 at HB J L M O T U X Y hHeld ⊢
      refine pur_ 0 (bo_ 10 1) (some 17) HT_ ?_
      refine pur_ 1 (bo_ 10 3) (some 18) HT_ ?_
      refine pur_ 2 (bo_ 10 7) (some 19) HT_ ?_
      refine pur_ 4 (bo_ 10 23) (some 21) HT_ ?_
      refine pur_ 5 (bo_ 10 55) (some 22) HT_ ?_
      refine pur_ 6 (bo_ 10 119) (some 23) HT_ ?_
      refine tak_ 3 (bo_ 10 127) (some 20) HT_ HW_ hHeld ?_
      refine tak_ 7 (bo_ 10 255) (some 24) HT_ HW_ hHeld ?_
      refine onc_ 8 (bo_ 10 511) (some 25) HT_ Tryz.func59 (laws_eqSat.calls ((rd_T68 l j).f0) ((rd_T68 l j).f1) ((rd_T68 l j).f2) ((rd_T68 l j).f3) ((rd_T68 m j).f0) ((rd_T68 m j).f1) ((rd_T68 m j).f2) ((rd_T68 m j).f3) true _ A7.out) ?_
      rintro e e0 ⟨rfl, hb⟩
      refine sh1_ (below_step (bl_ HB) hb) ?_
      clear HB hb
      intro HB
      refine ⟨_, _, rfl, ⟨((HB.out.cell (World.block_lt_of_cell? w _ x)).trans x), ((HB.out.cell (World.block_lt_of_cell? w _ y)).trans y), ((HB.out.cell (World.block_lt_of_cell? w _ z)).trans z), ((HB.out.cell (World.block_lt_of_cell? w _ B)).trans B), ((HB.out.cell (World.block_lt_of_cell? w _ D)).trans D), ((HB.out.cell (World.block_lt_of_cell? w _ E)).trans E), ((HB.out.cell (World.block_lt_of_cell? w _ G)).trans G), ((HB.out.cell (World.block_lt_of_cell? w _ I)).trans I)⟩, pt_, fun hHeld => ?_⟩
      refine pur_ 9 (bo_ 10 1023) (some 26) HT_ ?_
      refine done_ (done_of HT_.out (by kernel_rfl)) ?_
      try go_wp2
      go_roundg k1
      case measure => have := a6.out; omega
      case rel => exact ⟨(wrap64 (j + 1)), (by first | rfl | (simp; done) | (simp [*]; done)), H', ⟨by have := a6.out; omega⟩, ⟨bl_ HB⟩⟩
     ·replace c8 := Bool.eq_false_iff.mpr c8
      subst c8
      have H1 : (some false) = some true := by first | (rw [if_neg (show ¬ (false = true) by decide)] at H; exact H) | rfl
      clear H
      have H := H1
      clear H1
      exact absurd H (by simp)
    ·rw [if_neg c4] at H
     have b9 : decide (j < (l.length : Int)) = false := decide_eq_false c4
     clear c4
     clear H
     go_wp2
     go_ret
     exact ⟨er_, bl_ HB⟩
 ·rw [if_neg c3] at H
  obtain ⟨b6, b7⟩ := bn_ c3
  have b8 : (l.length == m.length) = false := by first | simpa using c3 | (simp at c3 ⊢; omega)
  exact absurd H (by simp)

/-! ### laws_eqSite: function 60 -/
def laws_eqSite.f (j l m s u x : Int) : Option (Bool) := if j = s then (if l = u then (if m = x then (some true) else (some false)) else (some false)) else (some false)
theorem laws_eqSite.calls (l m s u x y : Int) (r : Bool) (w : World) (h : laws_eqSite.f l m s u x y = some r) (hT_ : r = true := by rfl) :
  Calls Tryz.prog 60 #[.agg #[iv_ l, iv_ m, iv_ s], .agg #[iv_ u, iv_ x, iv_ y]] w fun e w' => e = .returned (.bool r) ∧ Below w.heap.size w w' := by
 have a2 := Tryz.underlying70
 have HB := Aside0.mk (Below.refl w.heap.size w)
 subst hT_
 have H := h
 clear h
 unfold laws_eqSite.f at H
 by_cases c3 : l = u
 ·rw [if_pos c3] at H
  obtain ⟨I, J⟩ := bt_ c3
  clear c3
  by_cases c4 : m = x
  ·rw [if_pos c4] at H
   obtain ⟨L, M⟩ := bt_ c4
   clear c4
   by_cases c5 : s = y
   ·rw [if_pos c5] at H
    obtain ⟨O, T⟩ := bt_ c5
    clear c5
    clear H
    go_enter Tryz.func60, Tryz.ntmps60
    go_wp2_with (first | ((with_reducible refine gd_ 2 ?_); refine bx_ 2 70 #[iv_ l, iv_ m, iv_ s] ?_; intro U hg w6 hbox hb; refine sh3_ (below_step (bl_ HB) hb) hbox (ge_ hg (bl_ HB)) ?_; clear HB hb hbox hg; intro HB j z) | ((with_reducible refine gd_ 3 ?_); refine bx_ 3 70 #[iv_ u, iv_ x, iv_ y] ?_; intro X hg w7 hbox hb; refine sh6_ (blk_below (bk_ j) hb) (below_step (bl1_ HB z) hb) hbox (ge_ hg (bl1_ HB z)) (nl_ hg (bk_ j)) (ng_ hg (bk_ j)) ?_; clear j HB hb hbox hg; intro j HB B D E G; have a0 := E.out; have a1 := G.out; have Z := cf3_ j; have Y := cf3_ B))
    go_ret
    exact ⟨er_, bl2_ HB z D⟩
   ·rw [if_neg c5] at H
    obtain ⟨O, T⟩ := bn_ c5
    exact absurd H (by simp)
  ·rw [if_neg c4] at H
   obtain ⟨L, M⟩ := bn_ c4
   exact absurd H (by simp)
 ·rw [if_neg c3] at H
  obtain ⟨I, J⟩ := bn_ c3
  exact absurd H (by simp)

/-! ### laws_eqSiteS: function 32 -/
def laws_eqSiteS.l0 : Nat → List S70 → List S70 → Int → Option (Bool)
 | 0, _, _, _ => none
 | k + 1, l, m, j => if j < (l.length : Int) then (if 0 ≤ j then (if j < (m.length : Int) then ((laws_eqSite.f ((rd_T70 l j).f0) ((rd_T70 l j).f1) ((rd_T70 l j).f2) ((rd_T70 m j).f0) ((rd_T70 m j).f1) ((rd_T70 m j).f2)).bind fun s => (if s = true then (laws_eqSiteS.l0 k l m (wrap64 (j + 1))) else (some false))) else (none)) else (none)) else (some true)
def laws_eqSiteS.f (k : Nat) (j l : List S70) : Option (Bool) := if (j.length : Int) = (l.length : Int) then (laws_eqSiteS.l0 k j l 0) else (some false)
def laws_eqSiteS.T6 : Bool × List (List Nat × List Nat) := (true, [([], []), ([], []), ([0, 1], [0, 1]), ([2], [2]), ([], []), ([], []), ([4, 5], [4, 5]), ([6], [6]), ([3, 7], [3, 7]), ([8], [8])])
def laws_eqSiteS.B6 : List Nat := [0, 0, 3, 7, 0, 0, 48, 112, 255, 511]
theorem laws_eqSiteS.tab6 : rtab .any (opsOf Tryz.f32 6) = laws_eqSiteS.T6 := by kernel_rfl
theorem laws_eqSiteS.bits6 : waitsOk laws_eqSiteS.T6.2 laws_eqSiteS.B6 = true := by kernel_rfl
theorem laws_eqSiteS.calls (k : Nat) (Z : Option Addr) (c0 : Nat) (l : List S70) (A1 : Option Addr) (c1 : Nat) (m : List S70) (r : Bool) (w : World) (a7 : Kd.C k70 w Z l.length l) (a5 : l.length ≤ c0) (a8 : Kd.C k70 w A1 m.length m) (a6 : m.length ≤ c1) (h : laws_eqSiteS.f k l m = some r) (hT_ : r = true := by rfl) :
  Calls Tryz.prog 32 #[.slice Z l.length c0, .slice A1 m.length c1] w fun e w' => e = .returned (.bool r) ∧ Below w.heap.size w w' := by
 have d5 := Tryz.underlying70
 have b0 := Aside0.mk a7
 have d1 := Aside0.mk a5
 clear a7 a5
 have b1 := Aside0.mk a8
 have d2 := Aside0.mk a6
 clear a8 a6
 have HB := Aside0.mk (Below.refl w.heap.size w)
 subst hT_
 have H := h
 clear h
 unfold laws_eqSiteS.f at H
 by_cases c3 : (l.length : Int) = (m.length : Int)
 ·rw [if_pos c3] at H
  obtain ⟨b2, b3⟩ := bt_ c3
  have b4 : (l.length == m.length) = true := by first | simpa using c3 | (simp at c3 ⊢; omega)
  clear c3
  have H' := Aside0.mk H
  clear H
  go_enter Tryz.func32, Tryz.ntmps32
  go_wp2
  go_loopg [5] k (fun kq v5 w' => ∃ (j : Int), v5 = iv_ j ∧ Aside0 (laws_eqSiteS.l0 kq l m j = some true) ∧ Aside0 (kq ≤ k) ∧ Aside0 (Below w.heap.size w w'))
  case atStart => exact ⟨(0), (by first | rfl | (simp; done) | (simp [*]; done)), H', ⟨Nat.le_refl _⟩, ⟨bl_ HB⟩⟩
  case round =>
   clear H'
   obtain ⟨j, rfl, HA, a2, HB⟩ := hrel
   cases gk with
   | zero => exact absurd HA.out (by simp [laws_eqSiteS.l0])
   | succ k1 =>
    have H := HA.out
    clear HA
    simp only [laws_eqSiteS.l0] at H
    by_cases c4 : j < (l.length : Int)
    ·rw [if_pos c4] at H
     have b5 := decide_eq_true c4
     clear c4
     replace H := ifn_ H
     obtain ⟨c5, H⟩ := H
     have d3 := decide_eq_true c5
     clear c5
     replace H := ifn_ H
     obtain ⟨c6, H⟩ := H
     have d4 := decide_eq_true c6
     clear c6
     replace H := bs_ H
     obtain ⟨b9, A7, H⟩ := H
     by_cases c8 : b9 = true
     ·subst c8
      try rw [if_pos rfl] at H
      have H' := Aside0.mk H
      clear H
      try go_wp2
      refine sh1_ (below_drew1 HB.out) ?_
      clear HB
      intro HB
      have T : 0 ≤ (j : Int) := od_
      have X : j < (l.length : Int) := od_
      obtain ⟨s, b6, G, I, J⟩ := at_T70 b0.out j T X
      have z := J
      have y := I
      have x := G
      cases b6
      replace G := hbc_ HB G
      replace I := hbc_ HB I
      replace J := hbc_ HB J
      replace T := eq_true T
      replace X := eq_true X
      have U : 0 ≤ (j : Int) := od_
      have Y : j < (m.length : Int) := od_
      obtain ⟨u, b7, L, M, O⟩ := at_T70 b1.out j U Y
      have E := O
      have D := M
      have B := L
      cases b7
      replace L := hbc_ HB L
      replace M := hbc_ HB M
      replace O := hbc_ HB O
      replace U := eq_true U
      replace Y := eq_true Y
      refine start_ (n := 10) (S := fun w' => w'.cell? (s.add ((j).toNat * 3)) = some (iv_ ((rd_T70 l j).f0)) ∧ w'.cell? ⟨(s.add ((j).toNat * 3)).block, (s.add ((j).toNat * 3)).off + 1, none⟩ = some (iv_ ((rd_T70 l j).f1)) ∧ w'.cell? ⟨(s.add ((j).toNat * 3)).block, (s.add ((j).toNat * 3)).off + 2, none⟩ = some (iv_ ((rd_T70 l j).f2)) ∧ w'.cell? (u.add ((j).toNat * 3)) = some (iv_ ((rd_T70 m j).f0)) ∧ w'.cell? ⟨(u.add ((j).toNat * 3)).block, (u.add ((j).toNat * 3)).off + 1, none⟩ = some (iv_ ((rd_T70 m j).f1)) ∧ w'.cell? ⟨(u.add ((j).toNat * 3)).block, (u.add ((j).toNat * 3)).off + 2, none⟩ = some (iv_ ((rd_T70 m j).f2))) (ds := []) (bo_ 10 0) (by kernel_rfl) rfl rfl ⟨((HB.out.cell (World.block_lt_of_cell? w _ x)).trans x), ((HB.out.cell (World.block_lt_of_cell? w _ y)).trans y), ((HB.out.cell (World.block_lt_of_cell? w _ z)).trans z), ((HB.out.cell (World.block_lt_of_cell? w _ B)).trans B), ((HB.out.cell (World.block_lt_of_cell? w _ D)).trans D), ((HB.out.cell (World.block_lt_of_cell? w _ E)).trans E)⟩ (fun hHeld => ?_); refine with_tabW laws_eqSiteS.tab6 laws_eqSiteS.bits6 (fun HT_ HW_ => ?_)
      generalize wr.drew = w9 at HB G I J L M O hHeld ⊢
      refine pur_ 0 (bo_ 10 1) (some 17) HT_ ?_
      refine pur_ 1 (bo_ 10 3) (some 18) HT_ ?_
      refine pur_ 2 (bo_ 10 7) (some 19) HT_ ?_
      refine pur_ 4 (bo_ 10 23) (some 21) HT_ ?_
      refine pur_ 5 (bo_ 10 55) (some 22) HT_ ?_
      refine pur_ 6 (bo_ 10 119) (some 23) HT_ ?_
      refine tak_ 3 (bo_ 10 127) (some 20) HT_ HW_ hHeld ?_
      refine tak_ 7 (bo_ 10 255) (some 24) HT_ HW_ hHeld ?_
      refine onc_ 8 (bo_ 10 511) (some 25) HT_ Tryz.func60 (laws_eqSite.calls ((rd_T70 l j).f0) ((rd_T70 l j).f1) ((rd_T70 l j).f2) ((rd_T70 m j).f0) ((rd_T70 m j).f1) ((rd_T70 m j).f2) true _ A7.out) ?_
      rintro e d6 ⟨rfl, hb⟩
      refine sh1_ (below_step (bl_ HB) hb) ?_
      clear HB hb
      intro HB
      refine ⟨_, _, rfl, ⟨((HB.out.cell (World.block_lt_of_cell? w _ x)).trans x), ((HB.out.cell (World.block_lt_of_cell? w _ y)).trans y), ((HB.out.cell (World.block_lt_of_cell? w _ z)).trans z), ((HB.out.cell (World.block_lt_of_cell? w _ B)).trans B), ((HB.out.cell (World.block_lt_of_cell? w _ D)).trans D), ((HB.out.cell (World.block_lt_of_cell? w _ E)).trans E)⟩, pt_, fun hHeld => ?_⟩
      refine pur_ 9 (bo_ 10 1023) (some 26) HT_ ?_
      refine done_ (done_of HT_.out (by kernel_rfl)) ?_
      try go_wp2
      go_roundg k1
      case measure => have := a2.out; omega
      case rel => exact ⟨(wrap64 (j + 1)), (by first | rfl | (simp; done) | (simp [*]; done)), H', ⟨by have := a2.out; omega⟩, ⟨bl_ HB⟩⟩
     ·replace c8 := Bool.eq_false_iff.mpr c8
      subst c8
      have H1 : (some false) = some true := by first | (rw [if_neg (show ¬ (false = true) by decide)] at H; exact H) | rfl
      clear H
      have H := H1
      clear H1
      exact absurd H (by simp)
    ·rw [if_neg c4] at H
     have b5 : decide (j < (l.length : Int)) = false := decide_eq_false c4
     clear c4
     clear H
     go_wp2
     go_ret
     exact ⟨er_, bl_ HB⟩
 ·rw [if_neg c3] at H
  obtain ⟨b2, b3⟩ := bn_ c3
  have b4 : (l.length == m.length) = false := by first | simpa using c3 | (simp at c3 ⊢; omega)
  exact absurd H (by simp)

/-! ### laws_eqArc: function 78 -/
def laws_eqArc.f (j l m s : Int) : Option (Bool) := if j = m then (if l = s then (some true) else (some false)) else (some false)
theorem laws_eqArc.calls (l m s u : Int) (r : Bool) (w : World) (h : laws_eqArc.f l m s u = some r) (hT_ : r = true := by rfl) :
  Calls Tryz.prog 78 #[.agg #[iv_ l, iv_ m], .agg #[iv_ s, iv_ u]] w fun e w' => e = .returned (.bool r) ∧ Below w.heap.size w w' := by
 have Y := Tryz.underlying74
 have HB := Aside0.mk (Below.refl w.heap.size w)
 subst hT_
 have H := h
 clear h
 unfold laws_eqArc.f at H
 by_cases c3 : l = s
 ·rw [if_pos c3] at H
  obtain ⟨E, G⟩ := bt_ c3
  clear c3
  by_cases c4 : m = u
  ·rw [if_pos c4] at H
   obtain ⟨I, J⟩ := bt_ c4
   clear c4
   clear H
   go_enter Tryz.func78, Tryz.ntmps78
   go_wp2_with (first | ((with_reducible refine gd_ 2 ?_); refine bx_ 2 74 #[iv_ l, iv_ m] ?_; intro L hg Z hbox hb; refine sh3_ (below_step (bl_ HB) hb) hbox (ge_ hg (bl_ HB)) ?_; clear HB hb hbox hg; intro HB j x) | ((with_reducible refine gd_ 3 ?_); refine bx_ 3 74 #[iv_ s, iv_ u] ?_; intro M hg w6 hbox hb; refine sh6_ (blk_below (bk_ j) hb) (below_step (bl1_ HB x) hb) hbox (ge_ hg (bl1_ HB x)) (nl_ hg (bk_ j)) (ng_ hg (bk_ j)) ?_; clear j HB hb hbox hg; intro j HB y z B D; have U := B.out; have X := D.out; have O := cf2_ j; have T := cf2_ y))
   go_ret
   exact ⟨er_, bl2_ HB x z⟩
  ·rw [if_neg c4] at H
   obtain ⟨I, J⟩ := bn_ c4
   exact absurd H (by simp)
 ·rw [if_neg c3] at H
  obtain ⟨E, G⟩ := bn_ c3
  exact absurd H (by simp)

/-! ### laws_eqZone: function 61 -/
def laws_eqZone.f (j l m s u x : Int) : Option (Bool) := if j = s then ((laws_eqArc.f l m u x).bind fun y => (if y = true then (some true) else (some false))) else (some false)
theorem laws_eqZone.calls (s u x y z B : Int) (r : Bool) (w : World) (h : laws_eqZone.f s u x y z B = some r) (hT_ : r = true := by rfl) :
  Calls Tryz.prog 61 #[.agg #[iv_ s, iv_ u, iv_ x], .agg #[iv_ y, iv_ z, iv_ B]] w fun e w' => e = .returned (.bool r) ∧ Below w.heap.size w w' := by
 have a2 := Tryz.underlying76
 have a1 := Tryz.underlying74
 have HB := Aside0.mk (Below.refl w.heap.size w)
 subst hT_
 have H := h
 clear h
 unfold laws_eqZone.f at H
 by_cases c3 : s = y
 ·rw [if_pos c3] at H
  obtain ⟨L, M⟩ := bt_ c3
  clear c3
  replace H := bs_ H
  obtain ⟨O, G, H⟩ := H
  by_cases c5 : O = true
  ·subst c5
   try rw [if_pos rfl] at H
   clear H
   go_enter Tryz.func61, Tryz.ntmps61
   go_wp2_with (first | ((with_reducible refine gd_ 2 ?_); refine bx_ 2 76 #[iv_ s, iv_ u, iv_ x] ?_; intro T hg w6 hbox hb; refine sh3_ (below_step (bl_ HB) hb) hbox (ge_ hg (bl_ HB)) ?_; clear HB hb hbox hg; intro HB j m) | ((with_reducible refine gd_ 3 ?_); refine bx_ 3 76 #[iv_ y, iv_ z, iv_ B] ?_; intro U hg w7 hbox hb; refine sh6_ (blk_below (bk_ j) hb) (below_step (bl1_ HB m) hb) hbox (ge_ hg (bl1_ HB m)) (nl_ hg (bk_ j)) (ng_ hg (bk_ j)) ?_; clear j HB hb hbox hg; intro j HB l D I J; have Z := I.out; have a0 := J.out; have Y := cf3_ j; have X := cf3_ l) | ((with_reducible refine gate_callee (f := 78) rfl ?_); refine gl_ 14 Tryz.func78 (laws_eqArc.calls u x z B true _ G.out) ?_; rintro e a3 ⟨rfl, hb⟩; refine ⟨_, rfl, sh3_ (blk_below (bk_ j) hb) (blk_below (bk_ l) hb) (below_step (bl2_ HB m D) hb) ?_⟩; clear j l HB hb; intro j l HB))
   go_ret
   exact ⟨er_, bl2_ HB m D⟩
  ·replace c5 := Bool.eq_false_iff.mpr c5
   subst c5
   have E : (some false) = some true := by first | (rw [if_neg (show ¬ (false = true) by decide)] at H; exact H) | rfl
   clear H
   have H := E
   clear E
   exact absurd H (by simp)
 ·rw [if_neg c3] at H
  obtain ⟨L, M⟩ := bn_ c3
  exact absurd H (by simp)

/-! ### laws_eqZoneS: function 33 -/
def laws_eqZoneS.l0 : Nat → List S76 → List S76 → Int → Option (Bool)
 | 0, _, _, _ => none
 | k + 1, l, m, j => if j < (l.length : Int) then (if 0 ≤ j then (if j < (m.length : Int) then ((laws_eqZone.f ((rd_T76 l j).f0) ((rd_T76 l j).f1.f0) ((rd_T76 l j).f1.f1) ((rd_T76 m j).f0) ((rd_T76 m j).f1.f0) ((rd_T76 m j).f1.f1)).bind fun s => (if s = true then (laws_eqZoneS.l0 k l m (wrap64 (j + 1))) else (some false))) else (none)) else (none)) else (some true)
def laws_eqZoneS.f (k : Nat) (j l : List S76) : Option (Bool) := if (j.length : Int) = (l.length : Int) then (laws_eqZoneS.l0 k j l 0) else (some false)
def laws_eqZoneS.T6 : Bool × List (List Nat × List Nat) := (true, [([], []), ([], []), ([0, 1], [0, 1]), ([2], [2]), ([], []), ([], []), ([4, 5], [4, 5]), ([6], [6]), ([3, 7], [3, 7]), ([8], [8])])
def laws_eqZoneS.B6 : List Nat := [0, 0, 3, 7, 0, 0, 48, 112, 255, 511]
theorem laws_eqZoneS.tab6 : rtab .any (opsOf Tryz.f33 6) = laws_eqZoneS.T6 := by kernel_rfl
theorem laws_eqZoneS.bits6 : waitsOk laws_eqZoneS.T6.2 laws_eqZoneS.B6 = true := by kernel_rfl
theorem laws_eqZoneS.calls (k : Nat) (Z : Option Addr) (c0 : Nat) (l : List S76) (A1 : Option Addr) (c1 : Nat) (m : List S76) (r : Bool) (w : World) (a7 : Kd.C k76 w Z l.length l) (a5 : l.length ≤ c0) (a8 : Kd.C k76 w A1 m.length m) (a6 : m.length ≤ c1) (h : laws_eqZoneS.f k l m = some r) (hT_ : r = true := by rfl) :
  Calls Tryz.prog 33 #[.slice Z l.length c0, .slice A1 m.length c1] w fun e w' => e = .returned (.bool r) ∧ Below w.heap.size w w' := by
 have d5 := Tryz.underlying76
 have b0 := Aside0.mk a7
 have d1 := Aside0.mk a5
 clear a7 a5
 have b1 := Aside0.mk a8
 have d2 := Aside0.mk a6
 clear a8 a6
 have HB := Aside0.mk (Below.refl w.heap.size w)
 subst hT_
 have H := h
 clear h
 unfold laws_eqZoneS.f at H
 by_cases c3 : (l.length : Int) = (m.length : Int)
 ·rw [if_pos c3] at H
  obtain ⟨b2, b3⟩ := bt_ c3
  have b4 : (l.length == m.length) = true := by first | simpa using c3 | (simp at c3 ⊢; omega)
  clear c3
  have H' := Aside0.mk H
  clear H
  go_enter Tryz.func33, Tryz.ntmps33
  go_wp2
  go_loopg [5] k (fun kq v5 w' => ∃ (j : Int), v5 = iv_ j ∧ Aside0 (laws_eqZoneS.l0 kq l m j = some true) ∧ Aside0 (kq ≤ k) ∧ Aside0 (Below w.heap.size w w'))
  case atStart => exact ⟨(0), (by first | rfl | (simp; done) | (simp [*]; done)), H', ⟨Nat.le_refl _⟩, ⟨bl_ HB⟩⟩
  case round =>
   clear H'
   obtain ⟨j, rfl, HA, a2, HB⟩ := hrel
   cases gk with
   | zero => exact absurd HA.out (by simp [laws_eqZoneS.l0])
   | succ k1 =>
    have H := HA.out
    clear HA
    simp only [laws_eqZoneS.l0] at H
    by_cases c4 : j < (l.length : Int)
    ·rw [if_pos c4] at H
     have b5 := decide_eq_true c4
     clear c4
     replace H := ifn_ H
     obtain ⟨c5, H⟩ := H
     have d3 := decide_eq_true c5
     clear c5
     replace H := ifn_ H
     obtain ⟨c6, H⟩ := H
     have d4 := decide_eq_true c6
     clear c6
     replace H := bs_ H
     obtain ⟨b9, A7, H⟩ := H
     by_cases c8 : b9 = true
     ·subst c8
      try rw [if_pos rfl] at H
      have H' := Aside0.mk H
      clear H
      try go_wp2
      refine sh1_ (below_drew1 HB.out) ?_
      clear HB
      intro HB
      have T : 0 ≤ (j : Int) := od_
      have X : j < (l.length : Int) := od_
      obtain ⟨s, b6, G, I, J⟩ := at_T76 b0.out j T X
      have z := J
      have y := I
      have x := G
      cases b6
      replace G := hbc_ HB G
      replace I := hbc_ HB I
      replace J := hbc_ HB J
      replace T := eq_true T
      replace X := eq_true X
      have U : 0 ≤ (j : Int) := od_
      have Y : j < (m.length : Int) := od_
      obtain ⟨u, b7, L, M, O⟩ := at_T76 b1.out j U Y
      have E := O
      have D := M
      have B := L
      cases b7
      replace L := hbc_ HB L
      replace M := hbc_ HB M
      replace O := hbc_ HB O
      replace U := eq_true U
      replace Y := eq_true Y
      refine start_ (n := 10) (S := fun w' => w'.cell? (s.add ((j).toNat * 3)) = some (iv_ ((rd_T76 l j).f0)) ∧ w'.cell? ⟨(s.add ((j).toNat * 3)).block, (s.add ((j).toNat * 3)).off + 1, none⟩ = some (iv_ ((rd_T76 l j).f1.f0)) ∧ w'.cell? ⟨(s.add ((j).toNat * 3)).block, (s.add ((j).toNat * 3)).off + 2, none⟩ = some (iv_ ((rd_T76 l j).f1.f1)) ∧ w'.cell? (u.add ((j).toNat * 3)) = some (iv_ ((rd_T76 m j).f0)) ∧ w'.cell? ⟨(u.add ((j).toNat * 3)).block, (u.add ((j).toNat * 3)).off + 1, none⟩ = some (iv_ ((rd_T76 m j).f1.f0)) ∧ w'.cell? ⟨(u.add ((j).toNat * 3)).block, (u.add ((j).toNat * 3)).off + 2, none⟩ = some (iv_ ((rd_T76 m j).f1.f1))) (ds := []) (bo_ 10 0) (by kernel_rfl) rfl rfl ⟨((HB.out.cell (World.block_lt_of_cell? w _ x)).trans x), ((HB.out.cell (World.block_lt_of_cell? w _ y)).trans y), ((HB.out.cell (World.block_lt_of_cell? w _ z)).trans z), ((HB.out.cell (World.block_lt_of_cell? w _ B)).trans B), ((HB.out.cell (World.block_lt_of_cell? w _ D)).trans D), ((HB.out.cell (World.block_lt_of_cell? w _ E)).trans E)⟩ (fun hHeld => ?_); refine with_tabW laws_eqZoneS.tab6 laws_eqZoneS.bits6 (fun HT_ HW_ => ?_)
      generalize wr.drew = w9 at HB G I J L M O hHeld ⊢
      refine pur_ 0 (bo_ 10 1) (some 17) HT_ ?_
      refine pur_ 1 (bo_ 10 3) (some 18) HT_ ?_
      refine pur_ 2 (bo_ 10 7) (some 19) HT_ ?_
      refine pur_ 4 (bo_ 10 23) (some 21) HT_ ?_
      refine pur_ 5 (bo_ 10 55) (some 22) HT_ ?_
      refine pur_ 6 (bo_ 10 119) (some 23) HT_ ?_
      refine tak_ 3 (bo_ 10 127) (some 20) HT_ HW_ hHeld ?_
      refine tak_ 7 (bo_ 10 255) (some 24) HT_ HW_ hHeld ?_
      refine onc_ 8 (bo_ 10 511) (some 25) HT_ Tryz.func61 (laws_eqZone.calls ((rd_T76 l j).f0) ((rd_T76 l j).f1.f0) ((rd_T76 l j).f1.f1) ((rd_T76 m j).f0) ((rd_T76 m j).f1.f0) ((rd_T76 m j).f1.f1) true _ A7.out) ?_
      rintro e d6 ⟨rfl, hb⟩
      refine sh1_ (below_step (bl_ HB) hb) ?_
      clear HB hb
      intro HB
      refine ⟨_, _, rfl, ⟨((HB.out.cell (World.block_lt_of_cell? w _ x)).trans x), ((HB.out.cell (World.block_lt_of_cell? w _ y)).trans y), ((HB.out.cell (World.block_lt_of_cell? w _ z)).trans z), ((HB.out.cell (World.block_lt_of_cell? w _ B)).trans B), ((HB.out.cell (World.block_lt_of_cell? w _ D)).trans D), ((HB.out.cell (World.block_lt_of_cell? w _ E)).trans E)⟩, pt_, fun hHeld => ?_⟩
      refine pur_ 9 (bo_ 10 1023) (some 26) HT_ ?_
      refine done_ (done_of HT_.out (by kernel_rfl)) ?_
      try go_wp2
      go_roundg k1
      case measure => have := a2.out; omega
      case rel => exact ⟨(wrap64 (j + 1)), (by first | rfl | (simp; done) | (simp [*]; done)), H', ⟨by have := a2.out; omega⟩, ⟨bl_ HB⟩⟩
     ·replace c8 := Bool.eq_false_iff.mpr c8
      subst c8
      have H1 : (some false) = some true := by first | (rw [if_neg (show ¬ (false = true) by decide)] at H; exact H) | rfl
      clear H
      have H := H1
      clear H1
      exact absurd H (by simp)
    ·rw [if_neg c4] at H
     have b5 : decide (j < (l.length : Int)) = false := decide_eq_false c4
     clear c4
     clear H
     go_wp2
     go_ret
     exact ⟨er_, bl_ HB⟩
 ·rw [if_neg c3] at H
  obtain ⟨b2, b3⟩ := bn_ c3
  have b4 : (l.length == m.length) = false := by first | simpa using c3 | (simp at c3 ⊢; omega)
  exact absurd H (by simp)

/-! ### laws_eqSky: function 10 -/
def laws_eqSky.f (k : Nat) (j : Int) (L : List S68) (M : List S70) (l m s u x : Int) (O : List S76) (y z : Int) (T : List S68) (U : List S70) (B D E G I : Int) (X : List S76) (J : Int) : Option (Bool) := if j = z then ((laws_eqSatS.f k L T).bind fun Y => (if Y = true then ((laws_eqSiteS.f k M U).bind fun Z => (if Z = true then (if l = B then (if m = D then (if s = E then (if u = G then (if x = I then ((laws_eqZoneS.f k O X).bind fun a0 => (if a0 = true then (if y = J then (some true) else (some false)) else (some false))) else (some false)) else (some false)) else (some false)) else (some false)) else (some false)) else (some false))) else (some false))) else (some false)
theorem laws_eqSky.calls (k : Nat) (L : Int) (a7 : Option Addr) (b3 : Nat) (s : List S68) (a8 : Option Addr) (b4 : Nat) (u : List S70) (M O T U X : Int) (a9 : Option Addr) (b5 : Nat) (x : List S76) (Y Z : Int) (b0 : Option Addr) (b6 : Nat) (y : List S68) (b1 : Option Addr) (b7 : Nat) (z : List S70) (a0 a1 a2 a3 a4 : Int) (b2 : Option Addr) (b8 : Nat) (B : List S76) (a5 : Int) (r : Bool) (w : World) (d3 : Kd.C k68 w a7 s.length s) (b9 : s.length ≤ b3) (d4 : Kd.C k70 w a8 u.length u) (c0 : u.length ≤ b4) (d5 : Kd.C k76 w a9 x.length x) (c1 : x.length ≤ b5) (d6 : Kd.C k68 w b0 y.length y) (d0 : y.length ≤ b6) (d7 : Kd.C k70 w b1 z.length z) (d1 : z.length ≤ b7) (d8 : Kd.C k76 w b2 B.length B) (d2 : B.length ≤ b8) (h : laws_eqSky.f k L s u M O T U X x Y Z y z a0 a1 a2 a3 a4 B a5 = some r) (hT_ : r = true := by rfl) :
  Calls Tryz.prog 10 #[.agg #[iv_ L, .slice a7 s.length b3, .slice a8 u.length b4, iv_ M, iv_ O, iv_ T, iv_ U, iv_ X, .slice a9 x.length b5, iv_ Y], .agg #[iv_ Z, .slice b0 y.length b6, .slice b1 z.length b7, iv_ a0, iv_ a1, iv_ a2, iv_ a3, iv_ a4, .slice b2 B.length b8, iv_ a5]] w fun e w' => e = .returned (.bool r) ∧ Below w.heap.size w w' := by
 have i5 := Tryz.underlying34
 have e8 := Aside0.mk d3
 have e2 := Aside0.mk b9
 clear d3 b9
 have e9 := Aside0.mk d4
 have e3 := Aside0.mk c0
 clear d4 c0
 have f0 := Aside0.mk d5
 have e4 := Aside0.mk c1
 clear d5 c1
 have f1 := Aside0.mk d6
 have e5 := Aside0.mk d0
 clear d6 d0
 have f2 := Aside0.mk d7
 have e6 := Aside0.mk d1
 clear d7 d1
 have f3 := Aside0.mk d8
 have e7 := Aside0.mk d2
 clear d8 d2
 have HB := Aside0.mk (Below.refl w.heap.size w)
 subst hT_
 have H := h
 clear h
 unfold laws_eqSky.f at H
 by_cases c3 : L = Z
 ·rw [if_pos c3] at H
  obtain ⟨g4, g5⟩ := bt_ c3
  clear c3
  replace H := bs_ H
  obtain ⟨h0, A4, H⟩ := H
  by_cases c5 : h0 = true
  ·subst c5
   try rw [if_pos rfl] at H
   replace H := bs_ H
   obtain ⟨h1, A6, H⟩ := H
   by_cases c7 : h1 = true
   ·subst c7
    try rw [if_pos rfl] at H
    by_cases c8 : M = a0
    ·rw [if_pos c8] at H
     obtain ⟨g6, g7⟩ := bt_ c8
     clear c8
     by_cases c9 : O = a1
     ·rw [if_pos c9] at H
      obtain ⟨g8, g9⟩ := bt_ c9
      clear c9
      by_cases c10 : T = a2
      ·rw [if_pos c10] at H
       obtain ⟨f6, f7⟩ := bt_ c10
       clear c10
       by_cases E : U = a3
       ·rw [if_pos E] at H
        obtain ⟨f8, f9⟩ := bt_ E
        clear E
        by_cases G : X = a4
        ·rw [if_pos G] at H
         obtain ⟨g0, g1⟩ := bt_ G
         clear G
         replace H := bs_ H
         obtain ⟨h2, d9, H⟩ := H
         by_cases a6 : h2 = true
         ·subst a6
          try rw [if_pos rfl] at H
          by_cases I : Y = a5
          ·rw [if_pos I] at H
           obtain ⟨g2, g3⟩ := bt_ I
           clear I
           clear H
           go_enter Tryz.func10, Tryz.ntmps10
           go_wp2_with (first | ((with_reducible refine gd_ 2 ?_); refine bx_ 2 34 #[iv_ L, .slice a7 s.length b3, .slice a8 u.length b4, iv_ M, iv_ O, iv_ T, iv_ U, iv_ X, .slice a9 x.length b5, iv_ Y] ?_; intro h3 hg i6 hbox hb; refine sh3_ (below_step (bl_ HB) hb) hbox (ge_ hg (bl_ HB)) ?_; clear HB hb hbox hg; intro HB j D) | ((with_reducible refine gd_ 3 ?_); refine bx_ 3 34 #[iv_ Z, .slice b0 y.length b6, .slice b1 z.length b7, iv_ a0, iv_ a1, iv_ a2, iv_ a3, iv_ a4, .slice b2 B.length b8, iv_ a5] ?_; intro h4 hg i7 hbox hb; refine sh6_ (blk_below (bk_ j) hb) (below_step (bl1_ HB D) hb) hbox (ge_ hg (bl1_ HB D)) (nl_ hg (bk_ j)) (ng_ hg (bk_ j)) ?_; clear j HB hb hbox hg; intro j HB l J f4 f5; have i3 := f4.out; have i4 := f5.out; have h5 := cf10_ j; have h6 := cf10_ l) | ((with_reducible refine gate_callee (f := 31) rfl ?_); refine gl_ 14 Tryz.func31 (laws_eqSatS.calls k _ _ s _ _ y true _ (ck_ e8 HB) e2.out (ck_ f1 HB) e5.out A4.out) ?_; rintro e i8 ⟨rfl, hb⟩; refine ⟨_, rfl, sh3_ (blk_below (bk_ j) hb) (blk_below (bk_ l) hb) (below_step (bl2_ HB D J) hb) ?_⟩; clear j l HB hb; intro j l HB; have h7 := cf10_ j; have h8 := cf10_ l) | ((with_reducible refine gate_callee (f := 32) rfl ?_); refine gl_ 20 Tryz.func32 (laws_eqSiteS.calls k _ _ u _ _ z true _ (ck_ e9 HB) e3.out (ck_ f2 HB) e6.out A6.out) ?_; rintro e i9 ⟨rfl, hb⟩; refine ⟨_, rfl, sh3_ (blk_below (bk_ j) hb) (blk_below (bk_ l) hb) (below_step (bl2_ HB D J) hb) ?_⟩; clear j l HB hb; intro j l HB; have h9 := cf10_ j; have i0 := cf10_ l) | ((with_reducible refine gate_callee (f := 33) rfl ?_); refine gl_ 51 Tryz.func33 (laws_eqZoneS.calls k _ _ x _ _ B true _ (ck_ f0 HB) e4.out (ck_ f3 HB) e7.out d9.out) ?_; rintro e j0 ⟨rfl, hb⟩; refine ⟨_, rfl, sh3_ (blk_below (bk_ j) hb) (blk_below (bk_ l) hb) (below_step (bl2_ HB D J) hb) ?_⟩; clear j l HB hb; intro j l HB; have i1 := cf10_ j; have i2 := cf10_ l))
           go_ret
           exact ⟨er_, bl2_ HB D J⟩
          ·rw [if_neg I] at H
           obtain ⟨g2, g3⟩ := bn_ I
           exact absurd H (by simp)
         ·replace a6 := Bool.eq_false_iff.mpr a6
          subst a6
          have m : (some false) = some true := by first | (rw [if_neg (show ¬ (false = true) by decide)] at H; exact H) | rfl
          clear H
          have H := m
          clear m
          exact absurd H (by simp)
        ·rw [if_neg G] at H
         obtain ⟨g0, g1⟩ := bn_ G
         exact absurd H (by simp)
       ·rw [if_neg E] at H
        obtain ⟨f8, f9⟩ := bn_ E
        exact absurd H (by simp)
      ·rw [if_neg c10] at H
       obtain ⟨f6, f7⟩ := bn_ c10
       exact absurd H (by simp)
     ·rw [if_neg c9] at H
      obtain ⟨g8, g9⟩ := bn_ c9
      exact absurd H (by simp)
    ·rw [if_neg c8] at H
     obtain ⟨g6, g7⟩ := bn_ c8
     exact absurd H (by simp)
   ·replace c7 := Bool.eq_false_iff.mpr c7
    subst c7
    have m : (some false) = some true := by first | (rw [if_neg (show ¬ (false = true) by decide)] at H; exact H) | rfl
    clear H
    have H := m
    clear m
    exact absurd H (by simp)
  ·replace c5 := Bool.eq_false_iff.mpr c5
   subst c5
   have m : (some false) = some true := by first | (rw [if_neg (show ¬ (false = true) by decide)] at H; exact H) | rfl
   clear H
   have H := m
   clear m
   exact absurd H (by simp)
 ·rw [if_neg c3] at H
  obtain ⟨g4, g5⟩ := bn_ c3
  exact absurd H (by simp)

/-! ### laws_markSatS: function 34 -/
def laws_markSatS.l0 : Nat → List S68 → Int → Int → Option (Int × List S68)
 | 0, _, _, _ => none
 | k + 1, l, m, j => if j < (l.length : Int) then (if 0 ≤ j then ((some (l.set (j : Int).toNat (⟨m, (rd_T68 l j).f1, (rd_T68 l j).f2, (rd_T68 l j).f3⟩ : S68) : List S68)).bind fun s => ((some (s.set (j : Int).toNat (⟨(rd_T68 s j).f0, wrap64 (m + 1), (rd_T68 s j).f2, (rd_T68 s j).f3⟩ : S68) : List S68)).bind fun u => ((some (u.set (j : Int).toNat (⟨(rd_T68 u j).f0, (rd_T68 u j).f1, wrap64 ((wrap64 (m + 1)) + 1), (rd_T68 u j).f3⟩ : S68) : List S68)).bind fun x => (laws_markSatS.l0 k (x.set (j : Int).toNat (⟨(rd_T68 x j).f0, (rd_T68 x j).f1, (rd_T68 x j).f2, wrap64 ((wrap64 ((wrap64 (m + 1)) + 1)) + 1)⟩ : S68)) (wrap64 ((wrap64 ((wrap64 ((wrap64 (m + 1)) + 1)) + 1)) + 1)) (wrap64 (j + 1)))))) else (none)) else (some (m, l))
def laws_markSatS.f (k : Nat) (l : List S68) (j : Int) : Option (Int × List S68) := laws_markSatS.l0 k l j 0
theorem laws_markSatS.calls (k : Nat) (D : Nat → Prop) (a5 : Value) (l0 : List S68) (a1 M : Int) (O : List S68) (y w : World) (hB : Below y.heap.size y w) (i0 : Kd.R k68 68 w y.heap.size D a5 l0) (h : laws_markSatS.f k l0 a1 = some (M, O)) :
  Calls Tryz.prog 34 #[a5, iv_ a1] w fun e w' => e = .returned (iv_ M) ∧ Kd.R k68 68 w' y.heap.size (fun k_ => (D k_ ∨ w.heap.size ≤ k_)) a5 O ∧ Below y.heap.size y w' ∧ Kept w w' (fun k_ => D k_) := by
 have g3 := Aside0.mk (show Kd.R k68 68 w y.heap.size (fun k_ => (D k_ ∨ w.heap.size ≤ k_)) a5 l0 from Kd.R_mono i0 (fun k_ hk => (.inl hk)))
 have HK := Aside0.mk (Kept.refl w (fun k_ => D k_))
 have j1 := Aside0.mk hB.size
 have HB := Aside0.mk hB
 clear hB
 have H := h
 clear h
 unfold laws_markSatS.f at H
 have H' := Aside0.mk H
 clear H
 go_enter Tryz.func34, Tryz.ntmps34
 go_wp2
 go_loopg [1, 5] k (fun kq v1 v5 w' => ∃ (s : List S68) (x : Int) (l : Int), v1 = iv_ x ∧ v5 = iv_ l ∧ Aside0 (laws_markSatS.l0 kq s x l = some (M, O)) ∧ Aside0 (kq ≤ k) ∧ Aside0 (Kd.R k68 68 w' y.heap.size (fun k_ => (D k_ ∨ w.heap.size ≤ k_)) a5 s) ∧ Aside0 (Kept w w' (fun k_ => D k_)) ∧ Aside0 (Below y.heap.size y w'))
 case atStart => exact ⟨(l0), (a1), (0), (by first | rfl | (simp; done) | (simp [*]; done)), (by first | rfl | (simp; done) | (simp [*]; done)), H', ⟨Nat.le_refl _⟩, ⟨ra_ g3⟩, ⟨by repeat (first | (with_reducible first | exact HK.out | apply Kept.alloc | apply Kept.drewN | apply Kept.drew) | exact HK.out)⟩, ⟨bl_ HB⟩⟩
 case round =>
  clear H'
  obtain ⟨s, x, l, rfl, rfl, HA, d5, u, HK, HB⟩ := hrel
  cases gk with
  | zero => exact absurd HA.out (by simp [laws_markSatS.l0])
  | succ k1 =>
   have H := HA.out
   clear HA
   simp only [laws_markSatS.l0] at H
   by_cases c3 : l < (s.length : Int)
   ·rw [if_pos c3] at H
    have g8 := decide_eq_true c3
    clear c3
    replace H := ifn_ H
    obtain ⟨c4, H⟩ := H
    have j2 := decide_eq_true c4
    clear c4
    replace H : ∃ y_ : List S68, Aside0 (y_ = (s.set (l : Int).toNat (⟨x, (rd_T68 s l).f1, (rd_T68 s l).f2, (rd_T68 s l).f3⟩ : S68))) ∧ ((some (y_.set (l : Int).toNat (⟨(rd_T68 y_ l).f0, wrap64 (x + 1), (rd_T68 y_ l).f2, (rd_T68 y_ l).f3⟩ : S68) : List S68)).bind fun B => ((some (B.set (l : Int).toNat (⟨(rd_T68 B l).f0, (rd_T68 B l).f1, wrap64 ((wrap64 (x + 1)) + 1), (rd_T68 B l).f3⟩ : S68) : List S68)).bind fun z => (laws_markSatS.l0 k1 (z.set (l : Int).toNat (⟨(rd_T68 z l).f0, (rd_T68 z l).f1, (rd_T68 z l).f2, wrap64 ((wrap64 ((wrap64 (x + 1)) + 1)) + 1)⟩ : S68)) (wrap64 ((wrap64 ((wrap64 ((wrap64 (x + 1)) + 1)) + 1)) + 1)) (wrap64 (l + 1))))) = some (M, O) := ⟨_, ⟨rfl⟩, yh_ H⟩
    obtain ⟨E, g4, H⟩ := H
    replace H : ∃ y_ : List S68, Aside0 (y_ = (E.set (l : Int).toNat (⟨(rd_T68 E l).f0, wrap64 (x + 1), (rd_T68 E l).f2, (rd_T68 E l).f3⟩ : S68))) ∧ ((some (y_.set (l : Int).toNat (⟨(rd_T68 y_ l).f0, (rd_T68 y_ l).f1, wrap64 ((wrap64 (x + 1)) + 1), (rd_T68 y_ l).f3⟩ : S68) : List S68)).bind fun z => (laws_markSatS.l0 k1 (z.set (l : Int).toNat (⟨(rd_T68 z l).f0, (rd_T68 z l).f1, (rd_T68 z l).f2, wrap64 ((wrap64 ((wrap64 (x + 1)) + 1)) + 1)⟩ : S68)) (wrap64 ((wrap64 ((wrap64 ((wrap64 (x + 1)) + 1)) + 1)) + 1)) (wrap64 (l + 1)))) = some (M, O) := ⟨_, ⟨rfl⟩, yh_ H⟩
    obtain ⟨B, g5, H⟩ := H
    replace H : ∃ y_ : List S68, Aside0 (y_ = (B.set (l : Int).toNat (⟨(rd_T68 B l).f0, (rd_T68 B l).f1, wrap64 ((wrap64 (x + 1)) + 1), (rd_T68 B l).f3⟩ : S68))) ∧ (laws_markSatS.l0 k1 (y_.set (l : Int).toNat (⟨(rd_T68 y_ l).f0, (rd_T68 y_ l).f1, (rd_T68 y_ l).f2, wrap64 ((wrap64 ((wrap64 (x + 1)) + 1)) + 1)⟩ : S68)) (wrap64 ((wrap64 ((wrap64 ((wrap64 (x + 1)) + 1)) + 1)) + 1)) (wrap64 (l + 1))) = some (M, O) := ⟨_, ⟨rfl⟩, yh_ H⟩
    obtain ⟨z, g6, H⟩ := H
    replace H : ∃ y_ : List S68, Aside0 (y_ = (z.set (l : Int).toNat (⟨(rd_T68 z l).f0, (rd_T68 z l).f1, (rd_T68 z l).f2, wrap64 ((wrap64 ((wrap64 (x + 1)) + 1)) + 1)⟩ : S68))) ∧ (laws_markSatS.l0 k1 y_ (wrap64 ((wrap64 ((wrap64 ((wrap64 (x + 1)) + 1)) + 1)) + 1)) (wrap64 (l + 1))) = some (M, O) := ⟨_, ⟨rfl⟩, yh_ H⟩
    obtain ⟨g2, g7, H⟩ := H
    have H' := Aside0.mk H
    clear H
    obtain ⟨i8, L, h0⟩ := Kd.R_slice u.out
    subst h0
    have p5 : 0 ≤ (l : Int) := od_
    have q5 : (l : Int) < ((s.length : Int) : Int) := od_
    obtain ⟨m, k4, e0, e1, h1, k2, d4⟩ := Kd.R_form u.out (by omega)
    (first | cases e0 | (injection e0 with ea_ en_ ec_; (first | subst ea_ | (injection ea_ with ea_; subst ea_)); subst ec_; clear en_))
    have a6 := Aside0.mk e1
    have i9 := Aside0.mk d4
    clear e1 h1 d4
    have j0 := Aside0.mk (show (D m ∨ w.heap.size ≤ m) from (u.out.1 _ rfl))
    obtain ⟨j7, h2, e6, T, Z⟩ := Kd.R_elem u.out z68 (l : Int) p5 q5
    obtain rfl := k68_openM e6
    have m2 : wr.cell? ⟨m, (l : Int).toNat * 4, none⟩ = some (iv_ ((rd_T68 s l).f0)) := T 0 _ rfl
    have m3 : wr.cell? ⟨m, (l : Int).toNat * 4 + 1, none⟩ = some (iv_ ((rd_T68 s l).f1)) := T 1 _ rfl
    have m4 : wr.cell? ⟨m, (l : Int).toNat * 4 + 2, none⟩ = some (iv_ ((rd_T68 s l).f2)) := T 2 _ rfl
    have m5 : wr.cell? ⟨m, (l : Int).toNat * 4 + 3, none⟩ = some (iv_ ((rd_T68 s l).f3)) := T 3 _ rfl
    have k5 : wr.frozen? ⟨m, (l : Int).toNat * 4, none⟩ = false := Z 0
    have k6 : wr.frozen? ⟨m, (l : Int).toNat * 4 + 1, none⟩ = false := Z 1
    have k7 : wr.frozen? ⟨m, (l : Int).toNat * 4 + 2, none⟩ = false := Z 2
    have k8 : wr.frozen? ⟨m, (l : Int).toNat * 4 + 3, none⟩ = false := Z 3
    clear h2 T Z e6
    replace p5 := eq_true p5
    replace q5 := eq_true q5
    have d6 := Aside0.mk (show Kd.R k68 68 wr y.heap.size (fun k_ => (D k_ ∨ w.heap.size ≤ k_)) (.slice (some ⟨m, 0, none⟩) s.length L) s from (ra_ u))
    obtain ⟨j3, f4, e2, b3, f8⟩ := Kd.R_elem d6.out z68 (l : Int) od_ (by have h_ : (l : Int) < ((s.length : Int) : Int) := od_; first | exact h_ | (have e_ := (Kd.R_reads' u.out).1; omega) | simpa using h_)
    obtain rfl := k68_openM e2
    have a8 := Kd.R_seg d6.out (l : Int) od_ (by have h_ : (l : Int) < ((s.length : Int) : Int) := od_; first | exact h_ | (have e_ := (Kd.R_reads' u.out).1; omega) | simpa using h_) (seg := [iv_ x]) (j := 0) f4 b3 (show 1 ≤ 4 from by decide) (x' := (⟨x, (rd_T68 s l).f1, (rd_T68 s l).f2, (rd_T68 s l).f3⟩ : S68)) (k68_mkM _ _ _ (⟨x, (rd_T68 s l).f1, (rd_T68 s l).f2, (rd_T68 s l).f3⟩ : S68) ) (fun _ hk => hk)
    have i1 := b3 0 _ rfl
    (try simp only [show (k68).sz = 4 from rfl, Nat.mul_one, Nat.add_zero] at i1)
    have h6 := f8 0
    (try simp only [show (k68).sz = 4 from rfl, Nat.mul_one, Nat.add_zero] at h6)
    clear f4 b3 f8 e2
    go_wp2_with (first | ((with_reducible refine gate_store (t := 3) (p := 16) rfl ?_); refine store_event (t := 3) (p := 16) (v := ?vo_w11) (w1 := (wr.setCell ⟨m, (l : Int).toNat * 4, none⟩ (iv_ x))) ?hg ?ho ?hn ?hr ?_; (case ho => rfl); (case hg => rfl); (case hn => rfl); (case hr => first | (go_simp; done) | (go_simp; rfl)); intro G hw; have hg : wr.grownBy G (some m) := (by rw [hw]; exact a8.2); have hp_ : Kd.R k68 68 G y.heap.size (fun k_ => (D k_ ∨ w.heap.size ≤ k_)) (.slice (some ⟨m, 0, none⟩) s.length L) E := (by rw [hw, g4.out]; exact a8.1); clear a8; refine sh3_ hp_ ((by rw [hw]; exact below_set (HB.out) a6.out : Below y.heap.size y G)) (Kept.of_grown (S := (fun k_ => D k_)) hg (by repeat (first | (with_reducible first | exact HK.out | apply Kept.alloc | apply Kept.drewN | apply Kept.drew) | exact HK.out)) (fun k_ e_ => (u.out.1 k_ e_))) ?_; clear u HB HK; intro u HB HK; clear hg hw hp_; have p6 : 0 ≤ (l : Int) := od_; have q6 : (l : Int) < ((s.length : Int) : Int) := od_; obtain ⟨j8, h3, e7, U, a0⟩ := Kd.R_elem u.out z68 (l : Int) p6 q6; obtain rfl := k68_openM e7; have m6 : G.cell? ⟨m, (l : Int).toNat * 4, none⟩ = some (iv_ ((rd_T68 E l).f0)) := U 0 _ rfl; have m7 : G.cell? ⟨m, (l : Int).toNat * 4 + 1, none⟩ = some (iv_ ((rd_T68 E l).f1)) := U 1 _ rfl; have m8 : G.cell? ⟨m, (l : Int).toNat * 4 + 2, none⟩ = some (iv_ ((rd_T68 E l).f2)) := U 2 _ rfl; have m9 : G.cell? ⟨m, (l : Int).toNat * 4 + 3, none⟩ = some (iv_ ((rd_T68 E l).f3)) := U 3 _ rfl; have k9 : G.frozen? ⟨m, (l : Int).toNat * 4, none⟩ = false := a0 0; have l1 : G.frozen? ⟨m, (l : Int).toNat * 4 + 1, none⟩ = false := a0 1; have l2 : G.frozen? ⟨m, (l : Int).toNat * 4 + 2, none⟩ = false := a0 2; have l3 : G.frozen? ⟨m, (l : Int).toNat * 4 + 3, none⟩ = false := a0 3; clear h3 U a0 e7; replace p6 := eq_true p6; replace q6 := eq_true q6; have d7 := Aside0.mk (show Kd.R k68 68 G y.heap.size (fun k_ => (D k_ ∨ w.heap.size ≤ k_)) (.slice (some ⟨m, 0, none⟩) s.length L) E from (ra_ u)); obtain ⟨j4, f5, e3, b4, f9⟩ := Kd.R_elem d7.out z68 (l : Int) od_ (by have h_ : (l : Int) < ((s.length : Int) : Int) := od_; first | exact h_ | (have e_ := (Kd.R_reads' u.out).1; omega) | simpa using h_); obtain rfl := k68_openM e3; have a9 := Kd.R_seg d7.out (l : Int) od_ (by have h_ : (l : Int) < ((s.length : Int) : Int) := od_; first | exact h_ | (have e_ := (Kd.R_reads' u.out).1; omega) | simpa using h_) (seg := [iv_ (wrap64 (x + 1))]) (j := 1) f5 b4 (show 2 ≤ 4 from by decide) (x' := (⟨(rd_T68 E l).f0, wrap64 (x + 1), (rd_T68 E l).f2, (rd_T68 E l).f3⟩ : S68)) (k68_mkM _ _ _ (⟨(rd_T68 E l).f0, wrap64 (x + 1), (rd_T68 E l).f2, (rd_T68 E l).f3⟩ : S68) ) (fun _ hk => hk); have i2 := b4 1 _ rfl; (try simp only [show (k68).sz = 4 from rfl, Nat.mul_one, Nat.add_zero] at i2); have h7 := f9 1; (try simp only [show (k68).sz = 4 from rfl, Nat.mul_one, Nat.add_zero] at h7); clear f5 b4 f9 e3) | ((with_reducible refine gate_store (t := 3) (p := 23) rfl ?_); refine store_event (t := 3) (p := 23) (v := ?vo_w13) (w1 := (G.setCell ⟨m, (l : Int).toNat * 4 + 1, none⟩ (iv_ (wrap64 (x + 1))))) ?hg ?ho ?hn ?hr ?_; (case ho => rfl); (case hg => rfl); (case hn => rfl); (case hr => first | (go_simp; done) | (go_simp; rfl)); intro I hw; have hg : G.grownBy I (some m) := (by rw [hw]; exact a9.2); have hp_ : Kd.R k68 68 I y.heap.size (fun k_ => (D k_ ∨ w.heap.size ≤ k_)) (.slice (some ⟨m, 0, none⟩) s.length L) B := (by rw [hw, g5.out]; exact a9.1); clear a9; refine sh3_ hp_ ((by rw [hw]; exact below_set (HB.out) a6.out : Below y.heap.size y I)) (Kept.of_grown (S := (fun k_ => D k_)) hg (by repeat (first | (with_reducible first | exact HK.out | apply Kept.alloc | apply Kept.drewN | apply Kept.drew) | exact HK.out)) (fun k_ e_ => (u.out.1 k_ e_))) ?_; clear u HB HK; intro u HB HK; clear hg hw hp_; have p7 : 0 ≤ (l : Int) := od_; have q7 : (l : Int) < ((s.length : Int) : Int) := od_; obtain ⟨j9, h4, e8, X, a2⟩ := Kd.R_elem u.out z68 (l : Int) p7 q7; obtain rfl := k68_openM e8; have n0 : I.cell? ⟨m, (l : Int).toNat * 4, none⟩ = some (iv_ ((rd_T68 B l).f0)) := X 0 _ rfl; have n1 : I.cell? ⟨m, (l : Int).toNat * 4 + 1, none⟩ = some (iv_ ((rd_T68 B l).f1)) := X 1 _ rfl; have n2 : I.cell? ⟨m, (l : Int).toNat * 4 + 2, none⟩ = some (iv_ ((rd_T68 B l).f2)) := X 2 _ rfl; have n3 : I.cell? ⟨m, (l : Int).toNat * 4 + 3, none⟩ = some (iv_ ((rd_T68 B l).f3)) := X 3 _ rfl; have l4 : I.frozen? ⟨m, (l : Int).toNat * 4, none⟩ = false := a2 0; have l5 : I.frozen? ⟨m, (l : Int).toNat * 4 + 1, none⟩ = false := a2 1; have l6 : I.frozen? ⟨m, (l : Int).toNat * 4 + 2, none⟩ = false := a2 2; have l7 : I.frozen? ⟨m, (l : Int).toNat * 4 + 3, none⟩ = false := a2 3; clear h4 X a2 e8; replace p7 := eq_true p7; replace q7 := eq_true q7; have d8 := Aside0.mk (show Kd.R k68 68 I y.heap.size (fun k_ => (D k_ ∨ w.heap.size ≤ k_)) (.slice (some ⟨m, 0, none⟩) s.length L) B from (ra_ u)); obtain ⟨j5, f6, e4, b5, g0⟩ := Kd.R_elem d8.out z68 (l : Int) od_ (by have h_ : (l : Int) < ((s.length : Int) : Int) := od_; first | exact h_ | (have e_ := (Kd.R_reads' u.out).1; omega) | simpa using h_); obtain rfl := k68_openM e4; have b0 := Kd.R_seg d8.out (l : Int) od_ (by have h_ : (l : Int) < ((s.length : Int) : Int) := od_; first | exact h_ | (have e_ := (Kd.R_reads' u.out).1; omega) | simpa using h_) (seg := [iv_ (wrap64 ((wrap64 (x + 1)) + 1))]) (j := 2) f6 b5 (show 3 ≤ 4 from by decide) (x' := (⟨(rd_T68 B l).f0, (rd_T68 B l).f1, wrap64 ((wrap64 (x + 1)) + 1), (rd_T68 B l).f3⟩ : S68)) (k68_mkM _ _ _ (⟨(rd_T68 B l).f0, (rd_T68 B l).f1, wrap64 ((wrap64 (x + 1)) + 1), (rd_T68 B l).f3⟩ : S68) ) (fun _ hk => hk); have i3 := b5 2 _ rfl; (try simp only [show (k68).sz = 4 from rfl, Nat.mul_one, Nat.add_zero] at i3); have h8 := g0 2; (try simp only [show (k68).sz = 4 from rfl, Nat.mul_one, Nat.add_zero] at h8); clear f6 b5 g0 e4) | ((with_reducible refine gate_store (t := 3) (p := 30) rfl ?_); refine store_event (t := 3) (p := 30) (v := ?vo_w15) (w1 := (I.setCell ⟨m, (l : Int).toNat * 4 + 2, none⟩ (iv_ (wrap64 ((wrap64 (x + 1)) + 1))))) ?hg ?ho ?hn ?hr ?_; (case ho => rfl); (case hg => rfl); (case hn => rfl); (case hr => first | (go_simp; done) | (go_simp; rfl)); intro J hw; have hg : I.grownBy J (some m) := (by rw [hw]; exact b0.2); have hp_ : Kd.R k68 68 J y.heap.size (fun k_ => (D k_ ∨ w.heap.size ≤ k_)) (.slice (some ⟨m, 0, none⟩) s.length L) z := (by rw [hw, g6.out]; exact b0.1); clear b0; refine sh3_ hp_ ((by rw [hw]; exact below_set (HB.out) a6.out : Below y.heap.size y J)) (Kept.of_grown (S := (fun k_ => D k_)) hg (by repeat (first | (with_reducible first | exact HK.out | apply Kept.alloc | apply Kept.drewN | apply Kept.drew) | exact HK.out)) (fun k_ e_ => (u.out.1 k_ e_))) ?_; clear u HB HK; intro u HB HK; clear hg hw hp_; have p8 : 0 ≤ (l : Int) := od_; have q8 : (l : Int) < ((s.length : Int) : Int) := od_; obtain ⟨k0, h5, e9, Y, a3⟩ := Kd.R_elem u.out z68 (l : Int) p8 q8; obtain rfl := k68_openM e9; have n4 : J.cell? ⟨m, (l : Int).toNat * 4, none⟩ = some (iv_ ((rd_T68 z l).f0)) := Y 0 _ rfl; have n5 : J.cell? ⟨m, (l : Int).toNat * 4 + 1, none⟩ = some (iv_ ((rd_T68 z l).f1)) := Y 1 _ rfl; have n6 : J.cell? ⟨m, (l : Int).toNat * 4 + 2, none⟩ = some (iv_ ((rd_T68 z l).f2)) := Y 2 _ rfl; have n7 : J.cell? ⟨m, (l : Int).toNat * 4 + 3, none⟩ = some (iv_ ((rd_T68 z l).f3)) := Y 3 _ rfl; have l8 : J.frozen? ⟨m, (l : Int).toNat * 4, none⟩ = false := a3 0; have l9 : J.frozen? ⟨m, (l : Int).toNat * 4 + 1, none⟩ = false := a3 1; have m0 : J.frozen? ⟨m, (l : Int).toNat * 4 + 2, none⟩ = false := a3 2; have m1 : J.frozen? ⟨m, (l : Int).toNat * 4 + 3, none⟩ = false := a3 3; clear h5 Y a3 e9; replace p8 := eq_true p8; replace q8 := eq_true q8; have d9 := Aside0.mk (show Kd.R k68 68 J y.heap.size (fun k_ => (D k_ ∨ w.heap.size ≤ k_)) (.slice (some ⟨m, 0, none⟩) s.length L) z from (ra_ u)); obtain ⟨j6, f7, e5, b6, g1⟩ := Kd.R_elem d9.out z68 (l : Int) od_ (by have h_ : (l : Int) < ((s.length : Int) : Int) := od_; first | exact h_ | (have e_ := (Kd.R_reads' u.out).1; omega) | simpa using h_); obtain rfl := k68_openM e5; have b1 := Kd.R_seg d9.out (l : Int) od_ (by have h_ : (l : Int) < ((s.length : Int) : Int) := od_; first | exact h_ | (have e_ := (Kd.R_reads' u.out).1; omega) | simpa using h_) (seg := [iv_ (wrap64 ((wrap64 ((wrap64 (x + 1)) + 1)) + 1))]) (j := 3) f7 b6 (show 4 ≤ 4 from by decide) (x' := (⟨(rd_T68 z l).f0, (rd_T68 z l).f1, (rd_T68 z l).f2, wrap64 ((wrap64 ((wrap64 (x + 1)) + 1)) + 1)⟩ : S68)) (k68_mkM _ _ _ (⟨(rd_T68 z l).f0, (rd_T68 z l).f1, (rd_T68 z l).f2, wrap64 ((wrap64 ((wrap64 (x + 1)) + 1)) + 1)⟩ : S68) ) (fun _ hk => hk); have i4 := b6 3 _ rfl; (try simp only [show (k68).sz = 4 from rfl, Nat.mul_one, Nat.add_zero] at i4); have h9 := g1 3; (try simp only [show (k68).sz = 4 from rfl, Nat.mul_one, Nat.add_zero] at h9); clear f7 b6 g1 e5) | ((with_reducible refine gate_store (t := 3) (p := 37) rfl ?_); refine store_event (t := 3) (p := 37) (v := ?vo_w17) (w1 := (J.setCell ⟨m, (l : Int).toNat * 4 + 3, none⟩ (iv_ (wrap64 ((wrap64 ((wrap64 (x + 1)) + 1)) + 1))))) ?hg ?ho ?hn ?hr ?_; (case ho => rfl); (case hg => rfl); (case hn => rfl); (case hr => first | (go_simp; done) | (go_simp; rfl)); intro d3 hw; have hg : J.grownBy d3 (some m) := (by rw [hw]; exact b1.2); have hp_ : Kd.R k68 68 d3 y.heap.size (fun k_ => (D k_ ∨ w.heap.size ≤ k_)) (.slice (some ⟨m, 0, none⟩) s.length L) g2 := (by rw [hw, g7.out]; exact b1.1); clear b1; refine sh3_ hp_ ((by rw [hw]; exact below_set (HB.out) a6.out : Below y.heap.size y d3)) (Kept.of_grown (S := (fun k_ => D k_)) hg (by repeat (first | (with_reducible first | exact HK.out | apply Kept.alloc | apply Kept.drewN | apply Kept.drew) | exact HK.out)) (fun k_ e_ => (u.out.1 k_ e_))) ?_; clear u HB HK; intro u HB HK; clear hg hw hp_))
    go_roundg k1
    case measure => have := d5.out; omega
    case rel => exact ⟨(g2), (wrap64 ((wrap64 ((wrap64 ((wrap64 (x + 1)) + 1)) + 1)) + 1)), (wrap64 (l + 1)), (by first | rfl | (simp; done) | (simp [*]; done)), (by first | rfl | (simp; done) | (simp [*]; done)), H', ⟨by have := d5.out; omega⟩, ⟨ra_ u⟩, ⟨by repeat (first | (with_reducible first | exact HK.out | apply Kept.alloc | apply Kept.drewN | apply Kept.drew) | exact HK.out)⟩, ⟨bl_ HB⟩⟩
   ·rw [if_neg c3] at H
    have g8 : decide (l < (s.length : Int)) = false := decide_eq_false c3
    clear c3
    simp only [Option.some.injEq, Prod.mk.injEq] at H
    obtain ⟨rfl, rfl⟩ := H
    obtain ⟨i7, k3, g9⟩ := Kd.R_slice u.out
    subst g9
    go_wp2
    go_ret
    exact ⟨er_, ra_ u, bl_ HB, by repeat (first | (with_reducible first | exact HK.out | apply Kept.alloc | apply Kept.drewN | apply Kept.drew) | exact HK.out)⟩

/-! ### laws_markSiteS: function 35 -/
def laws_markSiteS.l0 : Nat → List S70 → Int → Int → Option (Int × List S70)
 | 0, _, _, _ => none
 | k + 1, l, m, j => if j < (l.length : Int) then (if 0 ≤ j then ((some (l.set (j : Int).toNat (⟨m, (rd_T70 l j).f1, (rd_T70 l j).f2⟩ : S70) : List S70)).bind fun s => ((some (s.set (j : Int).toNat (⟨(rd_T70 s j).f0, wrap64 (m + 1), (rd_T70 s j).f2⟩ : S70) : List S70)).bind fun u => (laws_markSiteS.l0 k (u.set (j : Int).toNat (⟨(rd_T70 u j).f0, (rd_T70 u j).f1, wrap64 ((wrap64 (m + 1)) + 1)⟩ : S70)) (wrap64 ((wrap64 ((wrap64 (m + 1)) + 1)) + 1)) (wrap64 (j + 1))))) else (none)) else (some (m, l))
def laws_markSiteS.f (k : Nat) (l : List S70) (j : Int) : Option (Int × List S70) := laws_markSiteS.l0 k l j 0
theorem laws_markSiteS.calls (k : Nat) (z : Nat → Prop) (M : Value) (l0 : List S70) (a1 J : Int) (L : List S70) (y w : World) (hB : Below y.heap.size y w) (g3 : Kd.R k70 70 w y.heap.size z M l0) (h : laws_markSiteS.f k l0 a1 = some (J, L)) :
  Calls Tryz.prog 35 #[M, iv_ a1] w fun e w' => e = .returned (iv_ J) ∧ Kd.R k70 70 w' y.heap.size (fun k_ => (z k_ ∨ w.heap.size ≤ k_)) M L ∧ Below y.heap.size y w' ∧ Kept w w' (fun k_ => z k_) := by
 have e6 := Aside0.mk (show Kd.R k70 70 w y.heap.size (fun k_ => (z k_ ∨ w.heap.size ≤ k_)) M l0 from Kd.R_mono g3 (fun k_ hk => (.inl hk)))
 have HK := Aside0.mk (Kept.refl w (fun k_ => z k_))
 have h3 := Aside0.mk hB.size
 have HB := Aside0.mk hB
 clear hB
 have H := h
 clear h
 unfold laws_markSiteS.f at H
 have H' := Aside0.mk H
 clear H
 go_enter Tryz.func35, Tryz.ntmps35
 go_wp2
 go_loopg [1, 5] k (fun kq v1 v5 w' => ∃ (s : List S70) (x : Int) (l : Int), v1 = iv_ x ∧ v5 = iv_ l ∧ Aside0 (laws_markSiteS.l0 kq s x l = some (J, L)) ∧ Aside0 (kq ≤ k) ∧ Aside0 (Kd.R k70 70 w' y.heap.size (fun k_ => (z k_ ∨ w.heap.size ≤ k_)) M s) ∧ Aside0 (Kept w w' (fun k_ => z k_)) ∧ Aside0 (Below y.heap.size y w'))
 case atStart => exact ⟨(l0), (a1), (0), (by first | rfl | (simp; done) | (simp [*]; done)), (by first | rfl | (simp; done) | (simp [*]; done)), H', ⟨Nat.le_refl _⟩, ⟨ra_ e6⟩, ⟨by repeat (first | (with_reducible first | exact HK.out | apply Kept.alloc | apply Kept.drewN | apply Kept.drew) | exact HK.out)⟩, ⟨bl_ HB⟩⟩
 case round =>
  clear H'
  obtain ⟨s, x, l, rfl, rfl, HA, b9, u, HK, HB⟩ := hrel
  cases gk with
  | zero => exact absurd HA.out (by simp [laws_markSiteS.l0])
  | succ k1 =>
   have H := HA.out
   clear HA
   simp only [laws_markSiteS.l0] at H
   by_cases c3 : l < (s.length : Int)
   ·rw [if_pos c3] at H
    have f3 := decide_eq_true c3
    clear c3
    replace H := ifn_ H
    obtain ⟨c4, H⟩ := H
    have h4 := decide_eq_true c4
    clear c4
    replace H : ∃ y_ : List S70, Aside0 (y_ = (s.set (l : Int).toNat (⟨x, (rd_T70 s l).f1, (rd_T70 s l).f2⟩ : S70))) ∧ ((some (y_.set (l : Int).toNat (⟨(rd_T70 y_ l).f0, wrap64 (x + 1), (rd_T70 y_ l).f2⟩ : S70) : List S70)).bind fun B => (laws_markSiteS.l0 k1 (B.set (l : Int).toNat (⟨(rd_T70 B l).f0, (rd_T70 B l).f1, wrap64 ((wrap64 (x + 1)) + 1)⟩ : S70)) (wrap64 ((wrap64 ((wrap64 (x + 1)) + 1)) + 1)) (wrap64 (l + 1)))) = some (J, L) := ⟨_, ⟨rfl⟩, yh_ H⟩
    obtain ⟨G, e7, H⟩ := H
    replace H : ∃ y_ : List S70, Aside0 (y_ = (G.set (l : Int).toNat (⟨(rd_T70 G l).f0, wrap64 (x + 1), (rd_T70 G l).f2⟩ : S70))) ∧ (laws_markSiteS.l0 k1 (y_.set (l : Int).toNat (⟨(rd_T70 y_ l).f0, (rd_T70 y_ l).f1, wrap64 ((wrap64 (x + 1)) + 1)⟩ : S70)) (wrap64 ((wrap64 ((wrap64 (x + 1)) + 1)) + 1)) (wrap64 (l + 1))) = some (J, L) := ⟨_, ⟨rfl⟩, yh_ H⟩
    obtain ⟨B, e8, H⟩ := H
    replace H : ∃ y_ : List S70, Aside0 (y_ = (B.set (l : Int).toNat (⟨(rd_T70 B l).f0, (rd_T70 B l).f1, wrap64 ((wrap64 (x + 1)) + 1)⟩ : S70))) ∧ (laws_markSiteS.l0 k1 y_ (wrap64 ((wrap64 ((wrap64 (x + 1)) + 1)) + 1)) (wrap64 (l + 1))) = some (J, L) := ⟨_, ⟨rfl⟩, yh_ H⟩
    obtain ⟨e5, e9, H⟩ := H
    have H' := Aside0.mk H
    clear H
    obtain ⟨h0, I, f5⟩ := Kd.R_slice u.out
    subst f5
    have p5 : 0 ≤ (l : Int) := od_
    have q5 : (l : Int) < ((s.length : Int) : Int) := od_
    obtain ⟨m, i3, d1, d2, f6, i1, b8⟩ := Kd.R_form u.out (by omega)
    (first | cases d1 | (injection d1 with ea_ en_ ec_; (first | subst ea_ | (injection ea_ with ea_; subst ea_)); subst ec_; clear en_))
    have a3 := Aside0.mk d2
    have h1 := Aside0.mk b8
    clear d2 f6 b8
    have h2 := Aside0.mk (show (z m ∨ w.heap.size ≤ m) from (u.out.1 _ rfl))
    obtain ⟨h7, f7, d5, O, X⟩ := Kd.R_elem u.out z70 (l : Int) p5 q5
    obtain rfl := k70_openM d5
    have j3 : wr.cell? ⟨m, (l : Int).toNat * 3, none⟩ = some (iv_ ((rd_T70 s l).f0)) := O 0 _ rfl
    have j4 : wr.cell? ⟨m, (l : Int).toNat * 3 + 1, none⟩ = some (iv_ ((rd_T70 s l).f1)) := O 1 _ rfl
    have j5 : wr.cell? ⟨m, (l : Int).toNat * 3 + 2, none⟩ = some (iv_ ((rd_T70 s l).f2)) := O 2 _ rfl
    have i4 : wr.frozen? ⟨m, (l : Int).toNat * 3, none⟩ = false := X 0
    have i5 : wr.frozen? ⟨m, (l : Int).toNat * 3 + 1, none⟩ = false := X 1
    have i6 : wr.frozen? ⟨m, (l : Int).toNat * 3 + 2, none⟩ = false := X 2
    clear f7 O X d5
    replace p5 := eq_true p5
    replace q5 := eq_true q5
    have d0 := Aside0.mk (show Kd.R k70 70 wr y.heap.size (fun k_ => (z k_ ∨ w.heap.size ≤ k_)) (.slice (some ⟨m, 0, none⟩) s.length I) s from (ra_ u))
    obtain ⟨i0, e1, d8, b0, e4⟩ := Kd.R_elem d0.out z70 (l : Int) od_ (by have h_ : (l : Int) < ((s.length : Int) : Int) := od_; first | exact h_ | (have e_ := (Kd.R_reads' u.out).1; omega) | simpa using h_)
    obtain rfl := k70_openM d8
    have a6 := Kd.R_seg d0.out (l : Int) od_ (by have h_ : (l : Int) < ((s.length : Int) : Int) := od_; first | exact h_ | (have e_ := (Kd.R_reads' u.out).1; omega) | simpa using h_) (seg := [iv_ x]) (j := 0) e1 b0 (show 1 ≤ 3 from by decide) (x' := (⟨x, (rd_T70 s l).f1, (rd_T70 s l).f2⟩ : S70)) (k70_mkM _ _ _ (⟨x, (rd_T70 s l).f1, (rd_T70 s l).f2⟩ : S70) ) (fun _ hk => hk)
    have g6 := b0 0 _ rfl
    (try simp only [show (k70).sz = 3 from rfl, Nat.mul_one, Nat.add_zero] at g6)
    have g2 := e4 0
    (try simp only [show (k70).sz = 3 from rfl, Nat.mul_one, Nat.add_zero] at g2)
    clear e1 b0 e4 d8
    go_wp2_with (first | ((with_reducible refine gate_store (t := 3) (p := 16) rfl ?_); refine store_event (t := 3) (p := 16) (v := ?vo_w10) (w1 := (wr.setCell ⟨m, (l : Int).toNat * 3, none⟩ (iv_ x))) ?hg ?ho ?hn ?hr ?_; (case ho => rfl); (case hg => rfl); (case hn => rfl); (case hr => first | (go_simp; done) | (go_simp; rfl)); intro D hw; have hg : wr.grownBy D (some m) := (by rw [hw]; exact a6.2); have hp_ : Kd.R k70 70 D y.heap.size (fun k_ => (z k_ ∨ w.heap.size ≤ k_)) (.slice (some ⟨m, 0, none⟩) s.length I) G := (by rw [hw, e7.out]; exact a6.1); clear a6; refine sh3_ hp_ ((by rw [hw]; exact below_set (HB.out) a3.out : Below y.heap.size y D)) (Kept.of_grown (S := (fun k_ => z k_)) hg (by repeat (first | (with_reducible first | exact HK.out | apply Kept.alloc | apply Kept.drewN | apply Kept.drew) | exact HK.out)) (fun k_ e_ => (u.out.1 k_ e_))) ?_; clear u HB HK; intro u HB HK; clear hg hw hp_; have p6 : 0 ≤ (l : Int) := od_; have q6 : (l : Int) < ((s.length : Int) : Int) := od_; obtain ⟨h8, f8, d6, T, Y⟩ := Kd.R_elem u.out z70 (l : Int) p6 q6; obtain rfl := k70_openM d6; have j6 : D.cell? ⟨m, (l : Int).toNat * 3, none⟩ = some (iv_ ((rd_T70 G l).f0)) := T 0 _ rfl; have j7 : D.cell? ⟨m, (l : Int).toNat * 3 + 1, none⟩ = some (iv_ ((rd_T70 G l).f1)) := T 1 _ rfl; have j8 : D.cell? ⟨m, (l : Int).toNat * 3 + 2, none⟩ = some (iv_ ((rd_T70 G l).f2)) := T 2 _ rfl; have i7 : D.frozen? ⟨m, (l : Int).toNat * 3, none⟩ = false := Y 0; have i8 : D.frozen? ⟨m, (l : Int).toNat * 3 + 1, none⟩ = false := Y 1; have i9 : D.frozen? ⟨m, (l : Int).toNat * 3 + 2, none⟩ = false := Y 2; clear f8 T Y d6; replace p6 := eq_true p6; replace q6 := eq_true q6; have c0 := Aside0.mk (show Kd.R k70 70 D y.heap.size (fun k_ => (z k_ ∨ w.heap.size ≤ k_)) (.slice (some ⟨m, 0, none⟩) s.length I) G from (ra_ u)); obtain ⟨h5, d9, d3, a8, e2⟩ := Kd.R_elem c0.out z70 (l : Int) od_ (by have h_ : (l : Int) < ((s.length : Int) : Int) := od_; first | exact h_ | (have e_ := (Kd.R_reads' u.out).1; omega) | simpa using h_); obtain rfl := k70_openM d3; have a4 := Kd.R_seg c0.out (l : Int) od_ (by have h_ : (l : Int) < ((s.length : Int) : Int) := od_; first | exact h_ | (have e_ := (Kd.R_reads' u.out).1; omega) | simpa using h_) (seg := [iv_ (wrap64 (x + 1))]) (j := 1) d9 a8 (show 2 ≤ 3 from by decide) (x' := (⟨(rd_T70 G l).f0, wrap64 (x + 1), (rd_T70 G l).f2⟩ : S70)) (k70_mkM _ _ _ (⟨(rd_T70 G l).f0, wrap64 (x + 1), (rd_T70 G l).f2⟩ : S70) ) (fun _ hk => hk); have g4 := a8 1 _ rfl; (try simp only [show (k70).sz = 3 from rfl, Nat.mul_one, Nat.add_zero] at g4); have g0 := e2 1; (try simp only [show (k70).sz = 3 from rfl, Nat.mul_one, Nat.add_zero] at g0); clear d9 a8 e2 d3) | ((with_reducible refine gate_store (t := 3) (p := 23) rfl ?_); refine store_event (t := 3) (p := 23) (v := ?vo_w12) (w1 := (D.setCell ⟨m, (l : Int).toNat * 3 + 1, none⟩ (iv_ (wrap64 (x + 1))))) ?hg ?ho ?hn ?hr ?_; (case ho => rfl); (case hg => rfl); (case hn => rfl); (case hr => first | (go_simp; done) | (go_simp; rfl)); intro E hw; have hg : D.grownBy E (some m) := (by rw [hw]; exact a4.2); have hp_ : Kd.R k70 70 E y.heap.size (fun k_ => (z k_ ∨ w.heap.size ≤ k_)) (.slice (some ⟨m, 0, none⟩) s.length I) B := (by rw [hw, e8.out]; exact a4.1); clear a4; refine sh3_ hp_ ((by rw [hw]; exact below_set (HB.out) a3.out : Below y.heap.size y E)) (Kept.of_grown (S := (fun k_ => z k_)) hg (by repeat (first | (with_reducible first | exact HK.out | apply Kept.alloc | apply Kept.drewN | apply Kept.drew) | exact HK.out)) (fun k_ e_ => (u.out.1 k_ e_))) ?_; clear u HB HK; intro u HB HK; clear hg hw hp_; have p7 : 0 ≤ (l : Int) := od_; have q7 : (l : Int) < ((s.length : Int) : Int) := od_; obtain ⟨h9, f9, d7, U, Z⟩ := Kd.R_elem u.out z70 (l : Int) p7 q7; obtain rfl := k70_openM d7; have j9 : E.cell? ⟨m, (l : Int).toNat * 3, none⟩ = some (iv_ ((rd_T70 B l).f0)) := U 0 _ rfl; have k0 : E.cell? ⟨m, (l : Int).toNat * 3 + 1, none⟩ = some (iv_ ((rd_T70 B l).f1)) := U 1 _ rfl; have k2 : E.cell? ⟨m, (l : Int).toNat * 3 + 2, none⟩ = some (iv_ ((rd_T70 B l).f2)) := U 2 _ rfl; have j0 : E.frozen? ⟨m, (l : Int).toNat * 3, none⟩ = false := Z 0; have j1 : E.frozen? ⟨m, (l : Int).toNat * 3 + 1, none⟩ = false := Z 1; have j2 : E.frozen? ⟨m, (l : Int).toNat * 3 + 2, none⟩ = false := Z 2; clear f9 U Z d7; replace p7 := eq_true p7; replace q7 := eq_true q7; have c1 := Aside0.mk (show Kd.R k70 70 E y.heap.size (fun k_ => (z k_ ∨ w.heap.size ≤ k_)) (.slice (some ⟨m, 0, none⟩) s.length I) B from (ra_ u)); obtain ⟨h6, e0, d4, a9, e3⟩ := Kd.R_elem c1.out z70 (l : Int) od_ (by have h_ : (l : Int) < ((s.length : Int) : Int) := od_; first | exact h_ | (have e_ := (Kd.R_reads' u.out).1; omega) | simpa using h_); obtain rfl := k70_openM d4; have a5 := Kd.R_seg c1.out (l : Int) od_ (by have h_ : (l : Int) < ((s.length : Int) : Int) := od_; first | exact h_ | (have e_ := (Kd.R_reads' u.out).1; omega) | simpa using h_) (seg := [iv_ (wrap64 ((wrap64 (x + 1)) + 1))]) (j := 2) e0 a9 (show 3 ≤ 3 from by decide) (x' := (⟨(rd_T70 B l).f0, (rd_T70 B l).f1, wrap64 ((wrap64 (x + 1)) + 1)⟩ : S70)) (k70_mkM _ _ _ (⟨(rd_T70 B l).f0, (rd_T70 B l).f1, wrap64 ((wrap64 (x + 1)) + 1)⟩ : S70) ) (fun _ hk => hk); have g5 := a9 2 _ rfl; (try simp only [show (k70).sz = 3 from rfl, Nat.mul_one, Nat.add_zero] at g5); have g1 := e3 2; (try simp only [show (k70).sz = 3 from rfl, Nat.mul_one, Nat.add_zero] at g1); clear e0 a9 e3 d4) | ((with_reducible refine gate_store (t := 3) (p := 30) rfl ?_); refine store_event (t := 3) (p := 30) (v := ?vo_w14) (w1 := (E.setCell ⟨m, (l : Int).toNat * 3 + 2, none⟩ (iv_ (wrap64 ((wrap64 (x + 1)) + 1))))) ?hg ?ho ?hn ?hr ?_; (case ho => rfl); (case hg => rfl); (case hn => rfl); (case hr => first | (go_simp; done) | (go_simp; rfl)); intro b7 hw; have hg : E.grownBy b7 (some m) := (by rw [hw]; exact a5.2); have hp_ : Kd.R k70 70 b7 y.heap.size (fun k_ => (z k_ ∨ w.heap.size ≤ k_)) (.slice (some ⟨m, 0, none⟩) s.length I) e5 := (by rw [hw, e9.out]; exact a5.1); clear a5; refine sh3_ hp_ ((by rw [hw]; exact below_set (HB.out) a3.out : Below y.heap.size y b7)) (Kept.of_grown (S := (fun k_ => z k_)) hg (by repeat (first | (with_reducible first | exact HK.out | apply Kept.alloc | apply Kept.drewN | apply Kept.drew) | exact HK.out)) (fun k_ e_ => (u.out.1 k_ e_))) ?_; clear u HB HK; intro u HB HK; clear hg hw hp_))
    go_roundg k1
    case measure => have := b9.out; omega
    case rel => exact ⟨(e5), (wrap64 ((wrap64 ((wrap64 (x + 1)) + 1)) + 1)), (wrap64 (l + 1)), (by first | rfl | (simp; done) | (simp [*]; done)), (by first | rfl | (simp; done) | (simp [*]; done)), H', ⟨by have := b9.out; omega⟩, ⟨ra_ u⟩, ⟨by repeat (first | (with_reducible first | exact HK.out | apply Kept.alloc | apply Kept.drewN | apply Kept.drew) | exact HK.out)⟩, ⟨bl_ HB⟩⟩
   ·rw [if_neg c3] at H
    have f3 := decide_eq_false c3
    clear c3
    simp only [Option.some.injEq, Prod.mk.injEq] at H
    obtain ⟨rfl, rfl⟩ := H
    obtain ⟨g9, i2, f4⟩ := Kd.R_slice u.out
    subst f4
    go_wp2
    go_ret
    exact ⟨er_, ra_ u, bl_ HB, by repeat (first | (with_reducible first | exact HK.out | apply Kept.alloc | apply Kept.drewN | apply Kept.drew) | exact HK.out)⟩

end Go.Proofs.YtpjhdehbikohmaaGreat.PFnExactPlanOf
