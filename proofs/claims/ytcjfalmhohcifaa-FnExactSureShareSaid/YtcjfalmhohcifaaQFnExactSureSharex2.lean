-- Written by a program of this session for this claim (the kit's printer with changes).
import Derived.Test.YtcjfalmhohcifaaQFnExactSureSharex0
import Derived.Test.YtcjfalmhohcifaaQFnExactSureSharex1
namespace Go.Proofs.Ytcjfalmhohcifaa.PFnExactSureShare
open Go.RowKit Go.Proofs.YtcjfalmhohcifaaW.PrintWords Go.Proofs.YtcjfalmhohcifaaW.PrintLast Go.Proofs.YtcjfalmhohcifaaW.PrintMore
attribute [local go_sem] max2_int min2_int max_two min_two max_three min_three max_four min_four   -- for this text's walks alone
set_option linter.unusedVariables false
set_option linter.unusedSimpArgs false

/-! ### laws_eqZoneS: function 54 -/
def laws_eqZoneS.l0 : Nat → List (S115) → List (S115) → Int → Option (Bool)
 | 0, _, _, _ => none
 | k + 1, x0, x1, x5 => if x5 < (x0.length : Int) then (if 0 ≤ x5 then (if x5 < (x1.length : Int) then ((laws_eqZone.f ((rd_T115 x0 x5).f0) ((rd_T115 x0 x5).f1.f0) ((rd_T115 x0 x5).f1.f1) ((rd_T115 x1 x5).f0) ((rd_T115 x1 x5).f1.f0) ((rd_T115 x1 x5).f1.f1)).bind fun t173 => (if t173 = true then (laws_eqZoneS.l0 k x0 x1 (wrap64 (x5 + 1))) else (some false))) else (none)) else (none)) else (some true)
def laws_eqZoneS.f (k : Nat) (l0 : List (S115)) (l1 : List (S115)) : Option (Bool) := if (l0.length : Int) = (l1.length : Int) then (laws_eqZoneS.l0 k l0 l1 0) else (some false)
theorem laws_eqZoneS.mono_l : ∀ k, (∀ y0 y1 y2, LeO (laws_eqZoneS.l0 k y0 y1 y2) (laws_eqZoneS.l0 (k + 1) y0 y1 y2))
 | 0 => fun _ _ _ r h => by simp [laws_eqZoneS.l0] at h
 | k + 1 => by
  have ih0 := laws_eqZoneS.mono_l k
  ·intro y0 y1 y2
   unfold laws_eqZoneS.l0
   repeat' first | (with_reducible first | exact ih0 _ _ _ | exact LeO.refl _ | exact LeO.none _ | refine LeO.ite ?_ ?_ | refine LeO.bind ?_ (fun _ => ?_)) | exact LeO.none _ | refine LeO.ite ?_ ?_ | refine LeO.bind ?_ (fun _ => ?_)
theorem laws_eqZoneS.mono : ∀ a0 a1 k, LeO (laws_eqZoneS.f k a0 a1) (laws_eqZoneS.f (k + 1) a0 a1) := by
 intro a0 a1 k
 have ih0 := laws_eqZoneS.mono_l k
 unfold laws_eqZoneS.f
 repeat' first | (with_reducible first | exact ih0 _ _ _ | exact LeO.refl _ | exact LeO.none _ | refine LeO.ite ?_ ?_ | refine LeO.bind ?_ (fun _ => ?_)) | exact LeO.none _ | refine LeO.ite ?_ ?_ | refine LeO.bind ?_ (fun _ => ?_)
def laws_eqZoneS.T6 : Bool × List (List Nat × List Nat) := (true, [([], []), ([], []), ([0, 1], [0, 1]), ([2], [2]), ([], []), ([], []), ([4, 5], [4, 5]), ([6], [6]), ([3, 7], [3, 7]), ([8], [8])])
def laws_eqZoneS.B6 : List Nat := [0, 0, 3, 7, 0, 0, 48, 112, 255, 511]
theorem laws_eqZoneS.tab6 : rtab .any (opsOf Try.f54 6) = laws_eqZoneS.T6 := by kernel_rfl
theorem laws_eqZoneS.bits6 : waitsOk laws_eqZoneS.T6.2 laws_eqZoneS.B6 = true := by kernel_rfl
set_option maxHeartbeats 8000000 in
set_option maxRecDepth 100000 in
theorem laws_eqZoneS.calls (k : Nat) (A0 : Option Addr) (c0 : Nat) (l0 : List (S115)) (A1 : Option Addr) (c1 : Nat) (l1 : List (S115)) (r : Bool) (w : World) (hr0 : Kd.C k115 w A0 l0.length l0) (hc0 : l0.length ≤ c0) (hr1 : Kd.C k115 w A1 l1.length l1) (hc1 : l1.length ≤ c1) (h : laws_eqZoneS.f k l0 l1 = some r) (hT_ : r = true := by rfl) :
  Calls Try.prog 54 #[.slice A0 l0.length c0, .slice A1 l1.length c1] w fun e w' => e = .returned (.bool r) ∧ Below w.heap.size w w' := by
 have hu115 := Try.underlying115
 have HR0 := Aside0.mk hr0
 have HC0 := Aside0.mk hc0
 clear hr0 hc0
 have HR1 := Aside0.mk hr1
 have HC1 := Aside0.mk hc1
 clear hr1 hc1
 have HB := Aside0.mk (Below.refl w.heap.size w)
 subst hT_
 have H := h
 clear h
 unfold laws_eqZoneS.f at H
 by_cases c3 : (l0.length : Int) = (l1.length : Int)
 ·rw [if_pos c3] at H
  obtain ⟨c3b0, c3b1⟩ := bt_ c3
  have c3b2 : (l0.length == l1.length) = true := by first | simpa using c3 | (simp at c3 ⊢; omega)
  clear c3
  have H' := Aside0.mk H
  clear H
  go_enter Try.func54, Try.ntmps54
  go_wp2
  go_loopg [5] k (fun kq v5 w' => ∃ (x5_1 : Int), v5 = .int .i64 x5_1 ∧ Aside0 (laws_eqZoneS.l0 kq l0 l1 x5_1 = some true) ∧ Aside0 (kq ≤ k) ∧ Aside0 (Below w.heap.size w w'))
  case atStart => exact ⟨(0), (by first | rfl | (simp; done) | (simp [*]; done)), H', ⟨Nat.le_refl _⟩, ⟨bl_ HB⟩⟩
  case round =>
   clear H'
   try clear c1
   try clear p2
   try clear c3
   try clear c3b0
   try clear c3b1
   try clear c3b2
   obtain ⟨x5_1, rfl, HA, HK1, HB⟩ := hrel
   cases gk with
   | zero => exact absurd HA.out (by simp [laws_eqZoneS.l0])
   | succ k1 =>
    have H := HA.out
    clear HA
    simp only [laws_eqZoneS.l0] at H
    by_cases c4 : x5_1 < (l0.length : Int)
    ·rw [if_pos c4] at H
     have c4b0 := decide_eq_true c4
     clear c4
     replace H := ifn_ H
     obtain ⟨c5, H⟩ := H
     have c5b0 := decide_eq_true c5
     clear c5
     replace H := ifn_ H
     obtain ⟨c6, H⟩ := H
     have c6b0 := decide_eq_true c6
     clear c6
     replace H := bs_ H
     obtain ⟨t173, A7, H⟩ := H
     by_cases c8 : t173 = true
     ·subst c8
      try rw [if_pos rfl] at H
      have H' := Aside0.mk H
      clear H
      try go_wp2
      refine sh1_ (below_drew1 HB.out) ?_
      clear HB
      intro HB
      have p171 : 0 ≤ (x5_1 : Int) := od_
      have q171 : x5_1 < (l0.length : Int) := od_
      obtain ⟨ad171, e171, hx171_0, hx171_1, hx171_2⟩ := at_T115 HR0.out x5_1 p171 q171
      have hw171_2 := hx171_2
      have hw171_1 := hx171_1
      have hw171_0 := hx171_0
      cases e171
      replace hx171_0 := hbc_ HB hx171_0
      replace hx171_1 := hbc_ HB hx171_1
      replace hx171_2 := hbc_ HB hx171_2
      replace p171 := eq_true p171
      replace q171 := eq_true q171
      have p172 : 0 ≤ (x5_1 : Int) := od_
      have q172 : x5_1 < (l1.length : Int) := od_
      obtain ⟨ad172, e172, hx172_0, hx172_1, hx172_2⟩ := at_T115 HR1.out x5_1 p172 q172
      have hw172_2 := hx172_2
      have hw172_1 := hx172_1
      have hw172_0 := hx172_0
      cases e172
      replace hx172_0 := hbc_ HB hx172_0
      replace hx172_1 := hbc_ HB hx172_1
      replace hx172_2 := hbc_ HB hx172_2
      replace p172 := eq_true p172
      replace q172 := eq_true q172
      refine start_ (n := 10) (S := fun w' => w'.cell? (ad171.add ((x5_1).toNat * 3)) = some (.int .i64 ((rd_T115 l0 x5_1).f0)) ∧ w'.cell? ⟨(ad171.add ((x5_1).toNat * 3)).block, (ad171.add ((x5_1).toNat * 3)).off + 1, none⟩ = some (.int .i64 ((rd_T115 l0 x5_1).f1.f0)) ∧ w'.cell? ⟨(ad171.add ((x5_1).toNat * 3)).block, (ad171.add ((x5_1).toNat * 3)).off + 2, none⟩ = some (.int .i64 ((rd_T115 l0 x5_1).f1.f1)) ∧ w'.cell? (ad172.add ((x5_1).toNat * 3)) = some (.int .i64 ((rd_T115 l1 x5_1).f0)) ∧ w'.cell? ⟨(ad172.add ((x5_1).toNat * 3)).block, (ad172.add ((x5_1).toNat * 3)).off + 1, none⟩ = some (.int .i64 ((rd_T115 l1 x5_1).f1.f0)) ∧ w'.cell? ⟨(ad172.add ((x5_1).toNat * 3)).block, (ad172.add ((x5_1).toNat * 3)).off + 2, none⟩ = some (.int .i64 ((rd_T115 l1 x5_1).f1.f1))) (ds := []) #[false, false, false, false, false, false, false, false, false, false] (by kernel_rfl) rfl rfl ⟨((HB.out.cell (World.block_lt_of_cell? w _ hw171_0)).trans hw171_0), ((HB.out.cell (World.block_lt_of_cell? w _ hw171_1)).trans hw171_1), ((HB.out.cell (World.block_lt_of_cell? w _ hw171_2)).trans hw171_2), ((HB.out.cell (World.block_lt_of_cell? w _ hw172_0)).trans hw172_0), ((HB.out.cell (World.block_lt_of_cell? w _ hw172_1)).trans hw172_1), ((HB.out.cell (World.block_lt_of_cell? w _ hw172_2)).trans hw172_2)⟩ (fun hHeld => ?_); refine with_tabW laws_eqZoneS.tab6 laws_eqZoneS.bits6 (fun HT_ HW_ => ?_)
      generalize wr.drew = w9 at HB hx171_0 hx171_1 hx171_2 hx172_0 hx172_1 hx172_2 hHeld ⊢
      refine pur_ 0 #[true, false, false, false, false, false, false, false, false, false] (some 17) HT_ ?_
      refine pur_ 1 #[true, true, false, false, false, false, false, false, false, false] (some 18) HT_ ?_
      refine pur_ 2 #[true, true, true, false, false, false, false, false, false, false] (some 19) HT_ ?_
      refine pur_ 4 #[true, true, true, false, true, false, false, false, false, false] (some 21) HT_ ?_
      refine pur_ 5 #[true, true, true, false, true, true, false, false, false, false] (some 22) HT_ ?_
      refine pur_ 6 #[true, true, true, false, true, true, true, false, false, false] (some 23) HT_ ?_
      refine tak_ 3 #[true, true, true, true, true, true, true, false, false, false] (some 20) HT_ HW_ hHeld ?_
      refine tak_ 7 #[true, true, true, true, true, true, true, true, false, false] (some 24) HT_ HW_ hHeld ?_
      refine onc_ 8 #[true, true, true, true, true, true, true, true, true, false] (some 25) HT_ Try.func92 (laws_eqZone.calls ((rd_T115 l0 x5_1).f0) ((rd_T115 l0 x5_1).f1.f0) ((rd_T115 l0 x5_1).f1.f1) ((rd_T115 l1 x5_1).f0) ((rd_T115 l1 x5_1).f1.f0) ((rd_T115 l1 x5_1).f1.f1) true _ A7.out) ?_
      rintro e w10 ⟨rfl, hb⟩
      refine sh1_ (below_step (bl_ HB) hb) ?_
      clear HB hb
      intro HB
      refine ⟨_, _, rfl, ⟨((HB.out.cell (World.block_lt_of_cell? w _ hw171_0)).trans hw171_0), ((HB.out.cell (World.block_lt_of_cell? w _ hw171_1)).trans hw171_1), ((HB.out.cell (World.block_lt_of_cell? w _ hw171_2)).trans hw171_2), ((HB.out.cell (World.block_lt_of_cell? w _ hw172_0)).trans hw172_0), ((HB.out.cell (World.block_lt_of_cell? w _ hw172_1)).trans hw172_1), ((HB.out.cell (World.block_lt_of_cell? w _ hw172_2)).trans hw172_2)⟩, pt_, fun hHeld => ?_⟩
      refine pur_ 9 #[true, true, true, true, true, true, true, true, true, true] (some 26) HT_ ?_
      refine done_ (done_of HT_.out (by kernel_rfl)) ?_
      try go_wp2
      go_roundg k1
      case measure => have := HK1.out; omega
      case rel => exact ⟨(wrap64 (x5_1 + 1)), (by first | rfl | (simp; done) | (simp [*]; done)), H', ⟨by have := HK1.out; omega⟩, ⟨bl_ HB⟩⟩
     ·replace c8 := Bool.eq_false_iff.mpr c8
      subst c8
      have H1 : (some false) = some true := by first | (rw [if_neg (show ¬ (false = true) by decide)] at H; exact H) | rfl
      clear H
      have H := H1
      clear H1
      exact absurd H (by simp)
    ·rw [if_neg c4] at H
     have c4b0 : decide (x5_1 < (l0.length : Int)) = false := decide_eq_false c4
     clear c4
     clear H
     go_wp2
     go_ret
     exact ⟨er_, bl_ HB⟩
 ·rw [if_neg c3] at H
  obtain ⟨c3b0, c3b1⟩ := bn_ c3
  have c3b2 : (l0.length == l1.length) = false := by first | simpa using c3 | (simp at c3 ⊢; omega)
  exact absurd H (by simp)

/-! ### laws_eqSky: function 14 -/
def laws_eqSky.f (k : Nat) (a0_0 : Int) (l0_1 : List (S105)) (l0_2 : List (S109)) (a0_3 : Int) (a0_4 : Int) (a0_5 : Int) (a0_6 : Int) (a0_7 : Int) (l0_8 : List (S115)) (a0_9 : Int) (a1_0 : Int) (l1_1 : List (S105)) (l1_2 : List (S109)) (a1_3 : Int) (a1_4 : Int) (a1_5 : Int) (a1_6 : Int) (a1_7 : Int) (l1_8 : List (S115)) (a1_9 : Int) : Option (Bool) := if a0_0 = a1_0 then ((laws_eqSatS.f k l0_1 l1_1).bind fun t176 => (if t176 = true then ((laws_eqSiteS.f k l0_2 l1_2).bind fun t177 => (if t177 = true then (if a0_3 = a1_3 then (if a0_4 = a1_4 then (if a0_5 = a1_5 then (if a0_6 = a1_6 then (if a0_7 = a1_7 then ((laws_eqZoneS.f k l0_8 l1_8).bind fun t178 => (if t178 = true then (if a0_9 = a1_9 then (some true) else (some false)) else (some false))) else (some false)) else (some false)) else (some false)) else (some false)) else (some false)) else (some false))) else (some false))) else (some false)
theorem laws_eqSky.mono : ∀ a0 a1 a2 a3 a4 a5 a6 a7 a8 a9 a10 a11 a12 a13 a14 a15 a16 a17 a18 a19 k, LeO (laws_eqSky.f k a0 a1 a2 a3 a4 a5 a6 a7 a8 a9 a10 a11 a12 a13 a14 a15 a16 a17 a18 a19) (laws_eqSky.f (k + 1) a0 a1 a2 a3 a4 a5 a6 a7 a8 a9 a10 a11 a12 a13 a14 a15 a16 a17 a18 a19) := by
 intro a0 a1 a2 a3 a4 a5 a6 a7 a8 a9 a10 a11 a12 a13 a14 a15 a16 a17 a18 a19 k
 unfold laws_eqSky.f
 repeat' first | (with_reducible first | exact laws_eqSatS.mono _ _ _ | exact laws_eqSiteS.mono _ _ _ | exact laws_eqZoneS.mono _ _ _ | exact LeO.refl _ | exact LeO.none _ | refine LeO.ite ?_ ?_ | refine LeO.bind ?_ (fun _ => ?_)) | exact LeO.none _ | refine LeO.ite ?_ ?_ | refine LeO.bind ?_ (fun _ => ?_)
set_option maxHeartbeats 8000000 in
set_option maxRecDepth 100000 in
theorem laws_eqSky.calls (k : Nat) (a0_0 : Int) (A0_1 : Option Addr) (c0_1 : Nat) (l0_1 : List (S105)) (A0_2 : Option Addr) (c0_2 : Nat) (l0_2 : List (S109)) (a0_3 : Int) (a0_4 : Int) (a0_5 : Int) (a0_6 : Int) (a0_7 : Int) (A0_8 : Option Addr) (c0_8 : Nat) (l0_8 : List (S115)) (a0_9 : Int) (a1_0 : Int) (A1_1 : Option Addr) (c1_1 : Nat) (l1_1 : List (S105)) (A1_2 : Option Addr) (c1_2 : Nat) (l1_2 : List (S109)) (a1_3 : Int) (a1_4 : Int) (a1_5 : Int) (a1_6 : Int) (a1_7 : Int) (A1_8 : Option Addr) (c1_8 : Nat) (l1_8 : List (S115)) (a1_9 : Int) (r : Bool) (w : World) (hr0_1 : Kd.C k105 w A0_1 l0_1.length l0_1) (hc0_1 : l0_1.length ≤ c0_1) (hr0_2 : Kd.C k109 w A0_2 l0_2.length l0_2) (hc0_2 : l0_2.length ≤ c0_2) (hr0_8 : Kd.C k115 w A0_8 l0_8.length l0_8) (hc0_8 : l0_8.length ≤ c0_8) (hr1_1 : Kd.C k105 w A1_1 l1_1.length l1_1) (hc1_1 : l1_1.length ≤ c1_1) (hr1_2 : Kd.C k109 w A1_2 l1_2.length l1_2) (hc1_2 : l1_2.length ≤ c1_2) (hr1_8 : Kd.C k115 w A1_8 l1_8.length l1_8) (hc1_8 : l1_8.length ≤ c1_8) (h : laws_eqSky.f k a0_0 l0_1 l0_2 a0_3 a0_4 a0_5 a0_6 a0_7 l0_8 a0_9 a1_0 l1_1 l1_2 a1_3 a1_4 a1_5 a1_6 a1_7 l1_8 a1_9 = some r) (hT_ : r = true := by rfl) :
  Calls Try.prog 14 #[.agg #[.int .i64 a0_0, .slice A0_1 l0_1.length c0_1, .slice A0_2 l0_2.length c0_2, .int .i64 a0_3, .int .i64 a0_4, .int .i64 a0_5, .int .i64 a0_6, .int .i64 a0_7, .slice A0_8 l0_8.length c0_8, .int .i64 a0_9], .agg #[.int .i64 a1_0, .slice A1_1 l1_1.length c1_1, .slice A1_2 l1_2.length c1_2, .int .i64 a1_3, .int .i64 a1_4, .int .i64 a1_5, .int .i64 a1_6, .int .i64 a1_7, .slice A1_8 l1_8.length c1_8, .int .i64 a1_9]] w fun e w' => e = .returned (.bool r) ∧ Below w.heap.size w w' := by
 have hu34 := Try.underlying34
 have HR0_1 := Aside0.mk hr0_1
 have HC0_1 := Aside0.mk hc0_1
 clear hr0_1 hc0_1
 have HR0_2 := Aside0.mk hr0_2
 have HC0_2 := Aside0.mk hc0_2
 clear hr0_2 hc0_2
 have HR0_8 := Aside0.mk hr0_8
 have HC0_8 := Aside0.mk hc0_8
 clear hr0_8 hc0_8
 have HR1_1 := Aside0.mk hr1_1
 have HC1_1 := Aside0.mk hc1_1
 clear hr1_1 hc1_1
 have HR1_2 := Aside0.mk hr1_2
 have HC1_2 := Aside0.mk hc1_2
 clear hr1_2 hc1_2
 have HR1_8 := Aside0.mk hr1_8
 have HC1_8 := Aside0.mk hc1_8
 clear hr1_8 hc1_8
 have HB := Aside0.mk (Below.refl w.heap.size w)
 subst hT_
 have H := h
 clear h
 unfold laws_eqSky.f at H
 by_cases c3 : a0_0 = a1_0
 ·rw [if_pos c3] at H
  obtain ⟨c3b0, c3b1⟩ := bt_ c3
  clear c3
  replace H := bs_ H
  obtain ⟨t176, A4, H⟩ := H
  by_cases c5 : t176 = true
  ·subst c5
   try rw [if_pos rfl] at H
   replace H := bs_ H
   obtain ⟨t177, A6, H⟩ := H
   by_cases c7 : t177 = true
   ·subst c7
    try rw [if_pos rfl] at H
    by_cases c8 : a0_3 = a1_3
    ·rw [if_pos c8] at H
     obtain ⟨c8b0, c8b1⟩ := bt_ c8
     clear c8
     by_cases c9 : a0_4 = a1_4
     ·rw [if_pos c9] at H
      obtain ⟨c9b0, c9b1⟩ := bt_ c9
      clear c9
      by_cases c10 : a0_5 = a1_5
      ·rw [if_pos c10] at H
       obtain ⟨c10b0, c10b1⟩ := bt_ c10
       clear c10
       by_cases c11 : a0_6 = a1_6
       ·rw [if_pos c11] at H
        obtain ⟨c11b0, c11b1⟩ := bt_ c11
        clear c11
        by_cases c12 : a0_7 = a1_7
        ·rw [if_pos c12] at H
         obtain ⟨c12b0, c12b1⟩ := bt_ c12
         clear c12
         replace H := bs_ H
         obtain ⟨t178, A13, H⟩ := H
         by_cases c14 : t178 = true
         ·subst c14
          try rw [if_pos rfl] at H
          by_cases c15 : a0_9 = a1_9
          ·rw [if_pos c15] at H
           obtain ⟨c15b0, c15b1⟩ := bt_ c15
           clear c15
           clear H
           go_enter Try.func14, Try.ntmps14
           go_wp2_with (first | ((with_reducible refine gd_ 2 ?_); refine bx_ 2 34 #[.int .i64 a0_0, .slice A0_1 l0_1.length c0_1, .slice A0_2 l0_2.length c0_2, .int .i64 a0_3, .int .i64 a0_4, .int .i64 a0_5, .int .i64 a0_6, .int .i64 a0_7, .slice A0_8 l0_8.length c0_8, .int .i64 a0_9] ?_; intro gb174 hg w16 hbox hb; refine sh4_ (below_step (bl_ HB) hb) hbox (ge_ hg (bl_ HB)) (ge_ hg (bl_ HB)) ?_; clear HB hb hbox hg; intro HB BK174 GW174 GE174) | ((with_reducible refine gd_ 3 ?_); refine bx_ 3 34 #[.int .i64 a1_0, .slice A1_1 l1_1.length c1_1, .slice A1_2 l1_2.length c1_2, .int .i64 a1_3, .int .i64 a1_4, .int .i64 a1_5, .int .i64 a1_6, .int .i64 a1_7, .slice A1_8 l1_8.length c1_8, .int .i64 a1_9] ?_; intro gb175 hg w17 hbox hb; refine sh7_ (blk_below (bk_ BK174) hb) (below_step (bl1_ HB GE174) hb) hbox (ge_ hg (bl1_ HB GE174)) (ge_ hg (bl1_ HB GE174)) (nl_ hg (bk_ BK174)) (ng_ hg (bk_ BK174)) ?_; clear BK174 HB hb hbox hg; intro BK174 HB BK175 GW175 GE175 NB174_175 NB175_174; have hnb18 := NB174_175.out; have hnc18 := NB175_174.out; have hcz19 := cf10_ BK174; have hcz20 := cf10_ BK175) | ((with_reducible refine gate_callee (f := 52) rfl ?_); refine gl_ 14 Try.func52 (laws_eqSatS.calls k _ _ l0_1 _ _ l1_1 true _ (ck_ HR0_1 HB) HC0_1.out (ck_ HR1_1 HB) HC1_1.out A4.out) ?_; rintro e w21 ⟨rfl, hb⟩; refine ⟨_, rfl, sh3_ (blk_below (bk_ BK174) hb) (blk_below (bk_ BK175) hb) (below_step (bl2_ HB GE174 GE175) hb) ?_⟩; clear BK174 BK175 HB hb; intro BK174 BK175 HB; have hcz22 := cf10_ BK174; have hcz23 := cf10_ BK175) | ((with_reducible refine gate_callee (f := 53) rfl ?_); refine gl_ 20 Try.func53 (laws_eqSiteS.calls k _ _ l0_2 _ _ l1_2 true _ (ck_ HR0_2 HB) HC0_2.out (ck_ HR1_2 HB) HC1_2.out A6.out) ?_; rintro e w24 ⟨rfl, hb⟩; refine ⟨_, rfl, sh3_ (blk_below (bk_ BK174) hb) (blk_below (bk_ BK175) hb) (below_step (bl2_ HB GE174 GE175) hb) ?_⟩; clear BK174 BK175 HB hb; intro BK174 BK175 HB; have hcz25 := cf10_ BK174; have hcz26 := cf10_ BK175) | ((with_reducible refine gate_callee (f := 54) rfl ?_); refine gl_ 51 Try.func54 (laws_eqZoneS.calls k _ _ l0_8 _ _ l1_8 true _ (ck_ HR0_8 HB) HC0_8.out (ck_ HR1_8 HB) HC1_8.out A13.out) ?_; rintro e w27 ⟨rfl, hb⟩; refine ⟨_, rfl, sh3_ (blk_below (bk_ BK174) hb) (blk_below (bk_ BK175) hb) (below_step (bl2_ HB GE174 GE175) hb) ?_⟩; clear BK174 BK175 HB hb; intro BK174 BK175 HB; have hcz28 := cf10_ BK174; have hcz29 := cf10_ BK175))
           go_ret
           exact ⟨er_, bl2_ HB GE174 GE175⟩
          ·rw [if_neg c15] at H
           obtain ⟨c15b0, c15b1⟩ := bn_ c15
           exact absurd H (by simp)
         ·replace c14 := Bool.eq_false_iff.mpr c14
          subst c14
          have H1 : (some false) = some true := by first | (rw [if_neg (show ¬ (false = true) by decide)] at H; exact H) | rfl
          clear H
          have H := H1
          clear H1
          exact absurd H (by simp)
        ·rw [if_neg c12] at H
         obtain ⟨c12b0, c12b1⟩ := bn_ c12
         exact absurd H (by simp)
       ·rw [if_neg c11] at H
        obtain ⟨c11b0, c11b1⟩ := bn_ c11
        exact absurd H (by simp)
      ·rw [if_neg c10] at H
       obtain ⟨c10b0, c10b1⟩ := bn_ c10
       exact absurd H (by simp)
     ·rw [if_neg c9] at H
      obtain ⟨c9b0, c9b1⟩ := bn_ c9
      exact absurd H (by simp)
    ·rw [if_neg c8] at H
     obtain ⟨c8b0, c8b1⟩ := bn_ c8
     exact absurd H (by simp)
   ·replace c7 := Bool.eq_false_iff.mpr c7
    subst c7
    have H1 : (some false) = some true := by first | (rw [if_neg (show ¬ (false = true) by decide)] at H; exact H) | rfl
    clear H
    have H := H1
    clear H1
    exact absurd H (by simp)
  ·replace c5 := Bool.eq_false_iff.mpr c5
   subst c5
   have H1 : (some false) = some true := by first | (rw [if_neg (show ¬ (false = true) by decide)] at H; exact H) | rfl
   clear H
   have H := H1
   clear H1
   exact absurd H (by simp)
 ·rw [if_neg c3] at H
  obtain ⟨c3b0, c3b1⟩ := bn_ c3
  exact absurd H (by simp)

/-! ### spec_l1In: function 101 -/
def spec_l1In.f (a0 : Int) (a1 : Int) (a2 : Int) : Option (Bool) := if a0 ≥ a1 then (some (decide (a0 ≤ a2))) else (some false)
set_option maxHeartbeats 8000000 in
set_option maxRecDepth 100000 in
theorem spec_l1In.calls (a0 : Int) (a1 : Int) (a2 : Int) (r : Bool) (w : World) (h : spec_l1In.f a0 a1 a2 = some r) :
  Calls Try.prog 101 #[.int .i64 a0, .int .i64 a1, .int .i64 a2] w fun e w' => e = .returned (.bool r) ∧ Drawn0 w w' := by
 have H := h
 clear h
 unfold spec_l1In.f at H
 by_cases c4 : a0 ≥ a1
 ·rw [if_pos c4] at H
  have c4b0 : decide (a1 ≤ a0) = true := decide_eq_true c4
  clear c4
  obtain rfl := Option.some.inj H
  go_enter Try.func101, Try.ntmps101
  go_wp2
  go_ret
  exact ⟨by first | rfl | (simp; done) | (simp [*]; done), by repeat (first | exact Drawn0.refl _ | apply Drawn0.step)⟩
 ·rw [if_neg c4] at H
  have c4b0 : decide (a1 ≤ a0) = false := decide_eq_false c4
  clear c4
  obtain rfl := Option.some.inj H
  go_enter Try.func101, Try.ntmps101
  go_wp2
  go_ret
  exact ⟨by first | rfl | (simp; done) | (simp [*]; done), by repeat (first | exact Drawn0.refl _ | apply Drawn0.step)⟩

/-! ### spec_Mod: function 136 -/
def spec_Mod.f (a0 : Int) (a1 : Int) : Option (Int) := (spec_l1In.f a1 1 1000000000000).bind fun t179 => (if t179 = true then (if a1 = 0 then (none) else (some (Int.tmod (wrap64 ((Int.tmod a0 a1) + a1)) a1))) else (some 0))
set_option maxHeartbeats 8000000 in
set_option maxRecDepth 100000 in
theorem spec_Mod.calls (a0 : Int) (a1 : Int) (r : Int) (w : World) (h : spec_Mod.f a0 a1 = some r) :
  Calls Try.prog 136 #[.int .i64 a0, .int .i64 a1] w fun e w' => e = .returned (.int .i64 r) ∧ Drawn0 w w' := by
 have H := h
 clear h
 unfold spec_Mod.f at H
 replace H := bs_ H
 obtain ⟨t179, A3, H⟩ := H
 by_cases c4 : t179 = true
 ·subst c4
  rw [if_pos rfl] at H
  by_cases c5 : a1 = 0
  ·rw [if_pos c5] at H
   exact absurd H (by simp)
  ·rw [if_neg c5] at H
   obtain ⟨c5b0, c5b1⟩ := bn_ c5
   obtain rfl := Option.some.inj H
   go_enter Try.func136, Try.ntmps136
   go_wp2_with (first | ((with_reducible refine gate_callee (f := 101) rfl ?_); refine gl_ 6 Try.func101 (spec_l1In.calls a1 1 1000000000000 true _ A3.out) ?_; rintro e w' ⟨rfl, ⟨nd, rfl⟩⟩; refine ⟨_, rfl, ?_⟩))
   go_ret
   exact ⟨by first | rfl | (simp; done) | (simp [*]; done), by repeat (first | exact Drawn0.refl _ | apply Drawn0.step)⟩
 ·replace c4 := Bool.eq_false_iff.mpr c4
  subst c4
  have H1 : (some 0) = some r := by rw [if_neg (show ¬ (false = true) by decide)] at H; exact H
  clear H
  have H := H1
  clear H1
  obtain rfl := Option.some.inj H
  go_enter Try.func136, Try.ntmps136
  go_wp2_with (first | ((with_reducible refine gate_callee (f := 101) rfl ?_); refine gl_ 6 Try.func101 (spec_l1In.calls a1 1 1000000000000 false _ A3.out) ?_; rintro e w' ⟨rfl, ⟨nd, rfl⟩⟩; refine ⟨_, rfl, ?_⟩))
  go_ret
  exact ⟨by first | rfl | (simp; done) | (simp [*]; done), by repeat (first | exact Drawn0.refl _ | apply Drawn0.step)⟩

/-! ### spec_AngleOf: function 127 -/
def spec_AngleOf.f (a0 : Int) : Option (Int) := (spec_Mod.f a0 360).bind fun t180 => (some t180)
set_option maxHeartbeats 8000000 in
set_option maxRecDepth 100000 in
theorem spec_AngleOf.calls (a0 : Int) (r : Int) (w : World) (h : spec_AngleOf.f a0 = some r) :
  Calls Try.prog 127 #[.int .i64 a0] w fun e w' => e = .returned (.int .i64 r) ∧ Drawn0 w w' := by
 have H := h
 clear h
 unfold spec_AngleOf.f at H
 replace H := bs_ H
 obtain ⟨t180, A2, H⟩ := H
 obtain rfl := Option.some.inj H
 go_enter Try.func127, Try.ntmps127
 go_wp2_with (first | ((with_reducible refine gate_callee (f := 136) rfl ?_); refine gl_ 4 Try.func136 (spec_Mod.calls a0 360 t180 _ A2.out) ?_; rintro e w' ⟨rfl, ⟨nd, rfl⟩⟩; refine ⟨_, rfl, ?_⟩))
 go_ret
 exact ⟨by first | rfl | (simp; done) | (simp [*]; done), by repeat (first | exact Drawn0.refl _ | apply Drawn0.step)⟩

/-! ### spec_l6Speed: function 133 -/
def spec_l6Speed.f (a0 : Int) : Option (Int) := (spec_l1In.f a0 (-60) 60).bind fun t181 => (if t181 = true then (some a0) else (some 0))
set_option maxHeartbeats 8000000 in
set_option maxRecDepth 100000 in
theorem spec_l6Speed.calls (a0 : Int) (r : Int) (w : World) (h : spec_l6Speed.f a0 = some r) :
  Calls Try.prog 133 #[.int .i64 a0] w fun e w' => e = .returned (.int .i64 r) ∧ Drawn0 w w' := by
 have H := h
 clear h
 unfold spec_l6Speed.f at H
 replace H := bs_ H
 obtain ⟨t181, A2, H⟩ := H
 by_cases c3 : t181 = true
 ·subst c3
  rw [if_pos rfl] at H
  obtain rfl := Option.some.inj H
  go_enter Try.func133, Try.ntmps133
  go_wp2_with (first | ((with_reducible refine gate_callee (f := 101) rfl ?_); refine gl_ 4 Try.func101 (spec_l1In.calls a0 (-60) 60 true _ A2.out) ?_; rintro e w' ⟨rfl, ⟨nd, rfl⟩⟩; refine ⟨_, rfl, ?_⟩))
  go_ret
  exact ⟨by first | rfl | (simp; done) | (simp [*]; done), by repeat (first | exact Drawn0.refl _ | apply Drawn0.step)⟩
 ·replace c3 := Bool.eq_false_iff.mpr c3
  subst c3
  have H1 : (some 0) = some r := by rw [if_neg (show ¬ (false = true) by decide)] at H; exact H
  clear H
  have H := H1
  clear H1
  obtain rfl := Option.some.inj H
  go_enter Try.func133, Try.ntmps133
  go_wp2_with (first | ((with_reducible refine gate_callee (f := 101) rfl ?_); refine gl_ 4 Try.func101 (spec_l1In.calls a0 (-60) 60 false _ A2.out) ?_; rintro e w' ⟨rfl, ⟨nd, rfl⟩⟩; refine ⟨_, rfl, ?_⟩))
  go_ret
  exact ⟨by first | rfl | (simp; done) | (simp [*]; done), by repeat (first | exact Drawn0.refl _ | apply Drawn0.step)⟩

/-! ### spec_PlaceAt: function 119 -/
def spec_PlaceAt.f (a0_0 : Int) (a0_1 : Int) (a0_2 : Int) (a0_3 : Int) (a1 : Int) : Option (Int) := (spec_l1In.f a1 0 1000).bind fun t183 => (if t183 = true then ((spec_AngleOf.f a0_1).bind fun t184 => ((spec_l6Speed.f a0_2).bind fun t185 => ((spec_AngleOf.f (wrap64 (t184 + (wrap64 (t185 * a1))))).bind fun t186 => (some t186)))) else ((spec_AngleOf.f a0_1).bind fun t187 => ((spec_l6Speed.f a0_2).bind fun t188 => ((spec_AngleOf.f (wrap64 (t187))).bind fun t189 => (some t189)))))
set_option maxHeartbeats 8000000 in
set_option maxRecDepth 100000 in
theorem spec_PlaceAt.calls (a0_0 : Int) (a0_1 : Int) (a0_2 : Int) (a0_3 : Int) (a1 : Int) (r : Int) (w : World) (h : spec_PlaceAt.f a0_0 a0_1 a0_2 a0_3 a1 = some r) :
  Calls Try.prog 119 #[.agg #[.int .i64 a0_0, .int .i64 a0_1, .int .i64 a0_2, .int .i64 a0_3], .int .i64 a1] w fun e w' => e = .returned (.int .i64 r) ∧ Below w.heap.size w w' := by
 have hu105 := Try.underlying105
 have HB := Aside0.mk (Below.refl w.heap.size w)
 have H := h
 clear h
 unfold spec_PlaceAt.f at H
 replace H := bs_ H
 obtain ⟨t183, A3, H⟩ := H
 by_cases c4 : t183 = true
 ·subst c4
  rw [if_pos rfl] at H
  replace H := bs_ H
  obtain ⟨t184, A5, H⟩ := H
  replace H := bs_ H
  obtain ⟨t185, A6, H⟩ := H
  replace H := bs_ H
  obtain ⟨t186, A7, H⟩ := H
  obtain rfl := Option.some.inj H
  go_enter Try.func119, Try.ntmps119
  go_wp2_with (first | ((with_reducible refine gd_ 2 ?_); refine bx_ 2 105 #[.int .i64 a0_0, .int .i64 a0_1, .int .i64 a0_2, .int .i64 a0_3] ?_; intro gb182 hg w8 hbox hb; refine sh4_ (below_step (bl_ HB) hb) hbox (ge_ hg (bl_ HB)) (ge_ hg (bl_ HB)) ?_; clear HB hb hbox hg; intro HB BK182 GW182 GE182) | (go_at_call 101; (with_reducible refine (spec_l1In.calls a1 0 1000 true _ A3.out).mono ?_); rintro e w' ⟨rfl, ⟨nd, rfl⟩⟩; (try first | exact ⟨rfl, _, World.drewN_drewN _ _ _⟩ | exact ⟨rfl, _, Eq.trans (World.drewN_drewN _ _ _) (congrArg (World.drewN _) (Nat.add_assoc _ _ _))⟩); have hcz9 := cf4_ BK182) | (go_at_call 127; (with_reducible refine (spec_AngleOf.calls a0_1 t184 _ A5.out).mono ?_); rintro e w' ⟨rfl, ⟨nd, rfl⟩⟩; (try first | exact ⟨rfl, _, World.drewN_drewN _ _ _⟩ | exact ⟨rfl, _, Eq.trans (World.drewN_drewN _ _ _) (congrArg (World.drewN _) (Nat.add_assoc _ _ _))⟩)) | (go_at_call 133; (with_reducible refine (spec_l6Speed.calls a0_2 t185 _ A6.out).mono ?_); rintro e w' ⟨rfl, ⟨nd, rfl⟩⟩; (try first | exact ⟨rfl, _, World.drewN_drewN _ _ _⟩ | exact ⟨rfl, _, Eq.trans (World.drewN_drewN _ _ _) (congrArg (World.drewN _) (Nat.add_assoc _ _ _))⟩)) | (go_at_call 127; (with_reducible refine (spec_AngleOf.calls (wrap64 (t184 + (wrap64 (t185 * a1)))) t186 _ A7.out).mono ?_); rintro e w' ⟨rfl, ⟨nd, rfl⟩⟩; (try first | exact ⟨rfl, _, World.drewN_drewN _ _ _⟩ | exact ⟨rfl, _, Eq.trans (World.drewN_drewN _ _ _) (congrArg (World.drewN _) (Nat.add_assoc _ _ _))⟩)))
  repeat (go_quiet (first | ((with_reducible refine gd_ 2 ?_); refine bx_ 2 105 #[.int .i64 a0_0, .int .i64 a0_1, .int .i64 a0_2, .int .i64 a0_3] ?_; intro gb182 hg w8 hbox hb; refine sh4_ (below_step (bl_ HB) hb) hbox (ge_ hg (bl_ HB)) (ge_ hg (bl_ HB)) ?_; clear HB hb hbox hg; intro HB BK182 GW182 GE182) | (go_at_call 101; (with_reducible refine (spec_l1In.calls a1 0 1000 true _ A3.out).mono ?_); rintro e w' ⟨rfl, ⟨nd, rfl⟩⟩; (try first | exact ⟨rfl, _, World.drewN_drewN _ _ _⟩ | exact ⟨rfl, _, Eq.trans (World.drewN_drewN _ _ _) (congrArg (World.drewN _) (Nat.add_assoc _ _ _))⟩); have hcz9 := cf4_ BK182) | (go_at_call 127; (with_reducible refine (spec_AngleOf.calls a0_1 t184 _ A5.out).mono ?_); rintro e w' ⟨rfl, ⟨nd, rfl⟩⟩; (try first | exact ⟨rfl, _, World.drewN_drewN _ _ _⟩ | exact ⟨rfl, _, Eq.trans (World.drewN_drewN _ _ _) (congrArg (World.drewN _) (Nat.add_assoc _ _ _))⟩)) | (go_at_call 133; (with_reducible refine (spec_l6Speed.calls a0_2 t185 _ A6.out).mono ?_); rintro e w' ⟨rfl, ⟨nd, rfl⟩⟩; (try first | exact ⟨rfl, _, World.drewN_drewN _ _ _⟩ | exact ⟨rfl, _, Eq.trans (World.drewN_drewN _ _ _) (congrArg (World.drewN _) (Nat.add_assoc _ _ _))⟩)) | (go_at_call 127; (with_reducible refine (spec_AngleOf.calls (wrap64 (t184 + (wrap64 (t185 * a1)))) t186 _ A7.out).mono ?_); rintro e w' ⟨rfl, ⟨nd, rfl⟩⟩; (try first | exact ⟨rfl, _, World.drewN_drewN _ _ _⟩ | exact ⟨rfl, _, Eq.trans (World.drewN_drewN _ _ _) (congrArg (World.drewN _) (Nat.add_assoc _ _ _))⟩))); try go_wp2_with (first | ((with_reducible refine gd_ 2 ?_); refine bx_ 2 105 #[.int .i64 a0_0, .int .i64 a0_1, .int .i64 a0_2, .int .i64 a0_3] ?_; intro gb182 hg w8 hbox hb; refine sh4_ (below_step (bl_ HB) hb) hbox (ge_ hg (bl_ HB)) (ge_ hg (bl_ HB)) ?_; clear HB hb hbox hg; intro HB BK182 GW182 GE182) | (go_at_call 101; (with_reducible refine (spec_l1In.calls a1 0 1000 true _ A3.out).mono ?_); rintro e w' ⟨rfl, ⟨nd, rfl⟩⟩; (try first | exact ⟨rfl, _, World.drewN_drewN _ _ _⟩ | exact ⟨rfl, _, Eq.trans (World.drewN_drewN _ _ _) (congrArg (World.drewN _) (Nat.add_assoc _ _ _))⟩); have hcz9 := cf4_ BK182) | (go_at_call 127; (with_reducible refine (spec_AngleOf.calls a0_1 t184 _ A5.out).mono ?_); rintro e w' ⟨rfl, ⟨nd, rfl⟩⟩; (try first | exact ⟨rfl, _, World.drewN_drewN _ _ _⟩ | exact ⟨rfl, _, Eq.trans (World.drewN_drewN _ _ _) (congrArg (World.drewN _) (Nat.add_assoc _ _ _))⟩)) | (go_at_call 133; (with_reducible refine (spec_l6Speed.calls a0_2 t185 _ A6.out).mono ?_); rintro e w' ⟨rfl, ⟨nd, rfl⟩⟩; (try first | exact ⟨rfl, _, World.drewN_drewN _ _ _⟩ | exact ⟨rfl, _, Eq.trans (World.drewN_drewN _ _ _) (congrArg (World.drewN _) (Nat.add_assoc _ _ _))⟩)) | (go_at_call 127; (with_reducible refine (spec_AngleOf.calls (wrap64 (t184 + (wrap64 (t185 * a1)))) t186 _ A7.out).mono ?_); rintro e w' ⟨rfl, ⟨nd, rfl⟩⟩; (try first | exact ⟨rfl, _, World.drewN_drewN _ _ _⟩ | exact ⟨rfl, _, Eq.trans (World.drewN_drewN _ _ _) (congrArg (World.drewN _) (Nat.add_assoc _ _ _))⟩))))
  go_ret
  exact ⟨er_, bl1_ HB GE182⟩
 ·replace c4 := Bool.eq_false_iff.mpr c4
  subst c4
  have H1 : ((spec_AngleOf.f a0_1).bind fun t187 => ((spec_l6Speed.f a0_2).bind fun t188 => ((spec_AngleOf.f (wrap64 (t187))).bind fun t189 => (some t189)))) = some r := by rw [if_neg (show ¬ (false = true) by decide)] at H; exact H
  clear H
  have H := H1
  clear H1
  replace H := bs_ H
  obtain ⟨t187, A10, H⟩ := H
  replace H := bs_ H
  obtain ⟨t188, A11, H⟩ := H
  replace H := bs_ H
  obtain ⟨t189, A12, H⟩ := H
  obtain rfl := Option.some.inj H
  go_enter Try.func119, Try.ntmps119
  go_wp2_with (first | ((with_reducible refine gd_ 2 ?_); refine bx_ 2 105 #[.int .i64 a0_0, .int .i64 a0_1, .int .i64 a0_2, .int .i64 a0_3] ?_; intro gb182 hg w13 hbox hb; refine sh4_ (below_step (bl_ HB) hb) hbox (ge_ hg (bl_ HB)) (ge_ hg (bl_ HB)) ?_; clear HB hb hbox hg; intro HB BK182 GW182 GE182) | (go_at_call 101; (with_reducible refine (spec_l1In.calls a1 0 1000 false _ A3.out).mono ?_); rintro e w' ⟨rfl, ⟨nd, rfl⟩⟩; (try first | exact ⟨rfl, _, World.drewN_drewN _ _ _⟩ | exact ⟨rfl, _, Eq.trans (World.drewN_drewN _ _ _) (congrArg (World.drewN _) (Nat.add_assoc _ _ _))⟩); have hcz14 := cf4_ BK182) | (go_at_call 127; (with_reducible refine (spec_AngleOf.calls a0_1 t187 _ A10.out).mono ?_); rintro e w' ⟨rfl, ⟨nd, rfl⟩⟩; (try first | exact ⟨rfl, _, World.drewN_drewN _ _ _⟩ | exact ⟨rfl, _, Eq.trans (World.drewN_drewN _ _ _) (congrArg (World.drewN _) (Nat.add_assoc _ _ _))⟩)) | (go_at_call 133; (with_reducible refine (spec_l6Speed.calls a0_2 t188 _ A11.out).mono ?_); rintro e w' ⟨rfl, ⟨nd, rfl⟩⟩; (try first | exact ⟨rfl, _, World.drewN_drewN _ _ _⟩ | exact ⟨rfl, _, Eq.trans (World.drewN_drewN _ _ _) (congrArg (World.drewN _) (Nat.add_assoc _ _ _))⟩)) | (go_at_call 127; (with_reducible refine (spec_AngleOf.calls (wrap64 (t187)) t189 _ A12.out).mono ?_); rintro e w' ⟨rfl, ⟨nd, rfl⟩⟩; (try first | exact ⟨rfl, _, World.drewN_drewN _ _ _⟩ | exact ⟨rfl, _, Eq.trans (World.drewN_drewN _ _ _) (congrArg (World.drewN _) (Nat.add_assoc _ _ _))⟩)))
  repeat (go_quiet (first | ((with_reducible refine gd_ 2 ?_); refine bx_ 2 105 #[.int .i64 a0_0, .int .i64 a0_1, .int .i64 a0_2, .int .i64 a0_3] ?_; intro gb182 hg w13 hbox hb; refine sh4_ (below_step (bl_ HB) hb) hbox (ge_ hg (bl_ HB)) (ge_ hg (bl_ HB)) ?_; clear HB hb hbox hg; intro HB BK182 GW182 GE182) | (go_at_call 101; (with_reducible refine (spec_l1In.calls a1 0 1000 false _ A3.out).mono ?_); rintro e w' ⟨rfl, ⟨nd, rfl⟩⟩; (try first | exact ⟨rfl, _, World.drewN_drewN _ _ _⟩ | exact ⟨rfl, _, Eq.trans (World.drewN_drewN _ _ _) (congrArg (World.drewN _) (Nat.add_assoc _ _ _))⟩); have hcz14 := cf4_ BK182) | (go_at_call 127; (with_reducible refine (spec_AngleOf.calls a0_1 t187 _ A10.out).mono ?_); rintro e w' ⟨rfl, ⟨nd, rfl⟩⟩; (try first | exact ⟨rfl, _, World.drewN_drewN _ _ _⟩ | exact ⟨rfl, _, Eq.trans (World.drewN_drewN _ _ _) (congrArg (World.drewN _) (Nat.add_assoc _ _ _))⟩)) | (go_at_call 133; (with_reducible refine (spec_l6Speed.calls a0_2 t188 _ A11.out).mono ?_); rintro e w' ⟨rfl, ⟨nd, rfl⟩⟩; (try first | exact ⟨rfl, _, World.drewN_drewN _ _ _⟩ | exact ⟨rfl, _, Eq.trans (World.drewN_drewN _ _ _) (congrArg (World.drewN _) (Nat.add_assoc _ _ _))⟩)) | (go_at_call 127; (with_reducible refine (spec_AngleOf.calls (wrap64 (t187)) t189 _ A12.out).mono ?_); rintro e w' ⟨rfl, ⟨nd, rfl⟩⟩; (try first | exact ⟨rfl, _, World.drewN_drewN _ _ _⟩ | exact ⟨rfl, _, Eq.trans (World.drewN_drewN _ _ _) (congrArg (World.drewN _) (Nat.add_assoc _ _ _))⟩))); try go_wp2_with (first | ((with_reducible refine gd_ 2 ?_); refine bx_ 2 105 #[.int .i64 a0_0, .int .i64 a0_1, .int .i64 a0_2, .int .i64 a0_3] ?_; intro gb182 hg w13 hbox hb; refine sh4_ (below_step (bl_ HB) hb) hbox (ge_ hg (bl_ HB)) (ge_ hg (bl_ HB)) ?_; clear HB hb hbox hg; intro HB BK182 GW182 GE182) | (go_at_call 101; (with_reducible refine (spec_l1In.calls a1 0 1000 false _ A3.out).mono ?_); rintro e w' ⟨rfl, ⟨nd, rfl⟩⟩; (try first | exact ⟨rfl, _, World.drewN_drewN _ _ _⟩ | exact ⟨rfl, _, Eq.trans (World.drewN_drewN _ _ _) (congrArg (World.drewN _) (Nat.add_assoc _ _ _))⟩); have hcz14 := cf4_ BK182) | (go_at_call 127; (with_reducible refine (spec_AngleOf.calls a0_1 t187 _ A10.out).mono ?_); rintro e w' ⟨rfl, ⟨nd, rfl⟩⟩; (try first | exact ⟨rfl, _, World.drewN_drewN _ _ _⟩ | exact ⟨rfl, _, Eq.trans (World.drewN_drewN _ _ _) (congrArg (World.drewN _) (Nat.add_assoc _ _ _))⟩)) | (go_at_call 133; (with_reducible refine (spec_l6Speed.calls a0_2 t188 _ A11.out).mono ?_); rintro e w' ⟨rfl, ⟨nd, rfl⟩⟩; (try first | exact ⟨rfl, _, World.drewN_drewN _ _ _⟩ | exact ⟨rfl, _, Eq.trans (World.drewN_drewN _ _ _) (congrArg (World.drewN _) (Nat.add_assoc _ _ _))⟩)) | (go_at_call 127; (with_reducible refine (spec_AngleOf.calls (wrap64 (t187)) t189 _ A12.out).mono ?_); rintro e w' ⟨rfl, ⟨nd, rfl⟩⟩; (try first | exact ⟨rfl, _, World.drewN_drewN _ _ _⟩ | exact ⟨rfl, _, Eq.trans (World.drewN_drewN _ _ _) (congrArg (World.drewN _) (Nat.add_assoc _ _ _))⟩))))
  go_ret
  exact ⟨er_, bl1_ HB GE182⟩

/-! ### spec_Min: function 99 -/
def spec_Min.f (a0 : Int) (a1 : Int) : Option (Int) := if a1 < a0 then (some a1) else (some a0)
set_option maxHeartbeats 8000000 in
set_option maxRecDepth 100000 in
theorem spec_Min.calls (a0 : Int) (a1 : Int) (r : Int) (w : World) (h : spec_Min.f a0 a1 = some r) :
  Calls Try.prog 99 #[.int .i64 a0, .int .i64 a1] w fun e w' => e = .returned (.int .i64 r) ∧ Drawn0 w w' := by
 have H := h
 clear h
 unfold spec_Min.f at H
 by_cases c3 : a1 < a0
 ·rw [if_pos c3] at H
  have c3b0 := decide_eq_true c3
  clear c3
  obtain rfl := Option.some.inj H
  go_enter Try.func99, Try.ntmps99
  go_wp2
  go_ret
  exact ⟨by first | rfl | (simp; done) | (simp [*]; done), by repeat (first | exact Drawn0.refl _ | apply Drawn0.step)⟩
 ·rw [if_neg c3] at H
  have c3b0 := decide_eq_false c3
  clear c3
  obtain rfl := Option.some.inj H
  go_enter Try.func99, Try.ntmps99
  go_wp2
  go_ret
  exact ⟨by first | rfl | (simp; done) | (simp [*]; done), by repeat (first | exact Drawn0.refl _ | apply Drawn0.step)⟩

/-! ### spec_WidenArc: function 132 -/
def spec_WidenArc.j0 : Nat → Int → Bool → Int → Int → Option (Int × Int)
 | 0, _, _, _, _ => none
 | k + 1, x1, x13, x191000, x191001 => if x13 = true then ((spec_AngleOf.f x191000).bind fun t194 => (some (t194, x191001))) else ((spec_AngleOf.f x191000).bind fun t195 => ((spec_AngleOf.f (wrap64 (t195 - x1))).bind fun t196 => ((spec_Min.f 359 (wrap64 (x191001 + (wrap64 (2 * x1))))).bind fun t197 => (some (t196, t197)))))
def spec_WidenArc.f (k : Nat) (a0_0 : Int) (a0_1 : Int) (a1 : Int) : Option (Int × Int) := (spec_l1In.f a1 0 360).bind fun t192 => (if t192 = true then ((spec_l1In.f a0_1 0 359).bind fun t193 => (spec_WidenArc.j0 k a1 (!t193) a0_0 a0_1)) else (spec_WidenArc.j0 k a1 true a0_0 a0_1))
theorem spec_WidenArc.mono_l : ∀ k, (∀ y0 y1 y2 y3, LeO (spec_WidenArc.j0 k y0 y1 y2 y3) (spec_WidenArc.j0 (k + 1) y0 y1 y2 y3))
 | 0 => fun _ _ _ _ r h => by simp [spec_WidenArc.j0] at h
 | k + 1 => by
  have ih0 := spec_WidenArc.mono_l k
  ·intro y0 y1 y2 y3
   unfold spec_WidenArc.j0
   repeat' first | (with_reducible first | exact ih0 _ _ _ _ | exact LeO.refl _ | exact LeO.none _ | refine LeO.ite ?_ ?_ | refine LeO.bind ?_ (fun _ => ?_)) | exact LeO.none _ | refine LeO.ite ?_ ?_ | refine LeO.bind ?_ (fun _ => ?_)
theorem spec_WidenArc.mono : ∀ a0 a1 a2 k, LeO (spec_WidenArc.f k a0 a1 a2) (spec_WidenArc.f (k + 1) a0 a1 a2) := by
 intro a0 a1 a2 k
 have ih0 := spec_WidenArc.mono_l k
 unfold spec_WidenArc.f
 repeat' first | (with_reducible first | exact ih0 _ _ _ _ | exact LeO.refl _ | exact LeO.none _ | refine LeO.ite ?_ ?_ | refine LeO.bind ?_ (fun _ => ?_)) | exact LeO.none _ | refine LeO.ite ?_ ?_ | refine LeO.bind ?_ (fun _ => ?_)
def spec_WidenArc.T3 : Bool × List (List Nat × List Nat) := (true, [([], []), ([0], [0]), ([1], [1]), ([], []), ([2, 3], [2, 3]), ([4, 2], [4]), ([], []), ([6], [6]), ([], []), ([8], [8]), ([7, 9], [7, 9]), ([10, 5], [10]), ([5, 11], [5, 11]), ([12, 11, 0, 1, 2, 3, 4, 5, 6, 7, 8, 9, 10, 11, 12], [12])])
def spec_WidenArc.B3 : List Nat := [0, 1, 3, 0, 15, 31, 0, 64, 0, 256, 960, 2047, 4095, 8191]
theorem spec_WidenArc.tab3 : rtab .any (opsOf Try.f132 3) = spec_WidenArc.T3 := by kernel_rfl
theorem spec_WidenArc.bits3 : waitsOk spec_WidenArc.T3.2 spec_WidenArc.B3 = true := by kernel_rfl
set_option maxHeartbeats 8000000 in
set_option maxRecDepth 100000 in
theorem spec_WidenArc.calls (k : Nat) (a0_0 : Int) (a0_1 : Int) (a1 : Int) (r1 : Int) (r2 : Int) (w : World) (h : spec_WidenArc.f k a0_0 a0_1 a1 = some (r1, r2)) :
  Calls Try.prog 132 #[.agg #[.int .i64 a0_0, .int .i64 a0_1], .int .i64 a1] w fun e w' => e = .returned (.agg #[.int .i64 r1, .int .i64 r2]) ∧ Below w.heap.size w w' := by
 have hu113 := Try.underlying113
 have HB := Aside0.mk (Below.refl w.heap.size w)
 have H := h
 clear h
 unfold spec_WidenArc.f at H
 have HC3 := Aside0.mk H
 clear H
 go_enter Try.func132, Try.ntmps132
 go_upto_region 1 with (first | ((with_reducible refine gd_ 2 ?_); refine bx_ 2 113 #[.int .i64 a0_0, .int .i64 a0_1] ?_; intro gb190 hg w4 hbox hb; refine sh4_ (below_step (bl_ HB) hb) hbox (ge_ hg (bl_ HB)) (ge_ hg (bl_ HB)) ?_; clear HB hb hbox hg; intro HB BK190 GW190 GE190) | ((with_reducible refine gd_ 4 ?_); refine bx_ 4 113 #[.int .i64 0, .int .i64 0] ?_; intro gb191 hg w5 hbox hb; refine sh7_ (blk_below (bk_ BK190) hb) (below_step (bl1_ HB GE190) hb) hbox (ge_ hg (bl1_ HB GE190)) (ge_ hg (bl1_ HB GE190)) (nl_ hg (bk_ BK190)) (ng_ hg (bk_ BK190)) ?_; clear BK190 HB hb hbox hg; intro BK190 HB BK191 GW191 GE191 NB190_191 NB191_190))
 (try simp only [Act.put, List.setIfInBounds_toArray, List.set_cons_zero, List.set_cons_succ])
 go_cut [13] (fun v13 wc => ∃ (kq : Nat) (x13_2 : Bool), v13 = .bool x13_2 ∧ Aside0 (spec_WidenArc.j0 kq a1 x13_2 a0_0 a0_1 = some (r1, r2)) ∧ Aside0 (kq ≤ k) ∧ Aside0 (wc.heap[gb190]? = some (.cells #[.int .i64 a0_0, .int .i64 a0_1] 113 (0, 0))) ∧ Aside0 (wc.heap[gb191]? = some (.cells #[.int .i64 0, .int .i64 0] 113 (0, 0))) ∧ Aside0 (Below w.heap.size w wc))
 case first =>
  have H := HC3.out
  clear HC3
  replace H := bs_ H
  obtain ⟨t192, A6, H⟩ := H
  by_cases c7 : t192 = true
  ·subst c7
   have H1 : ((spec_l1In.f a0_1 0 359).bind fun t193 => (spec_WidenArc.j0 k a1 (!t193) a0_0 a0_1)) = some (r1, r2) := by rw [if_pos rfl] at H; exact H
   clear H
   have H := H1
   clear H1
   replace H := bs_ H
   obtain ⟨t193, A8, H⟩ := H
   have H' := Aside0.mk H
   clear H
   go_wp2_with (first | ((with_reducible refine gate_callee (f := 101) rfl ?_); refine gl_ 6 Try.func101 (spec_l1In.calls a1 0 360 true _ A6.out) ?_; rintro e w' ⟨rfl, ⟨nd, rfl⟩⟩; refine ⟨_, rfl, ?_⟩; have hnb9 := NB190_191.out; have hnc9 := NB191_190.out; have hcz10 := cf2_ BK190) | (go_at_call 101; (with_reducible refine (spec_l1In.calls a0_1 0 359 t193 _ A8.out).mono ?_); rintro e w' ⟨rfl, ⟨nd, rfl⟩⟩))
   go_meet
   case rel => exact ⟨_, (!t193), (by first | rfl | (simp; done) | (simp [*]; done)), H', ⟨by first | omega | exact Nat.le_refl _⟩, ⟨by (with_reducible repeat (first | refine blk_drewN ?_ _ | refine blk_drew ?_ | refine blk_alloc ?_ _)); exact BK190.out⟩, ⟨by (with_reducible repeat (first | refine blk_drewN ?_ _ | refine blk_drew ?_ | refine blk_alloc ?_ _)); exact BK191.out⟩, ⟨bl2_ HB GE190 GE191⟩⟩
  ·replace c7 := Bool.eq_false_iff.mpr c7
   subst c7
   have H1 : (spec_WidenArc.j0 k a1 true a0_0 a0_1) = some (r1, r2) := by rw [if_neg (show ¬ (false = true) by decide)] at H; exact H
   clear H
   have H := H1
   clear H1
   have H' := Aside0.mk H
   clear H
   go_wp2_with (first | ((with_reducible refine gate_callee (f := 101) rfl ?_); refine gl_ 6 Try.func101 (spec_l1In.calls a1 0 360 false _ A6.out) ?_; rintro e w' ⟨rfl, ⟨nd, rfl⟩⟩; refine ⟨_, rfl, ?_⟩))
   go_meet
   case rel => exact ⟨_, (true), (by first | rfl | (simp; done) | (simp [*]; done)), H', ⟨by first | omega | exact Nat.le_refl _⟩, ⟨by (with_reducible repeat (first | refine blk_drewN ?_ _ | refine blk_drew ?_ | refine blk_alloc ?_ _)); exact BK190.out⟩, ⟨by (with_reducible repeat (first | refine blk_drewN ?_ _ | refine blk_drew ?_ | refine blk_alloc ?_ _)); exact BK191.out⟩, ⟨bl2_ HB GE190 GE191⟩⟩
 case rest =>
  clear HC3
  try clear c1
  try clear p2
  try clear c7
  try clear c9
  try clear c10
  try clear hcz10
  obtain ⟨kq, x13_2, rfl, HA, HJ2, BK190, BK191, HB⟩ := hcut
  cases kq with
  | zero => exact absurd HA.out (by simp [spec_WidenArc.j0])
  | succ kj2 =>
   have H := HA.out
   clear HA
   simp only [spec_WidenArc.j0] at H
   by_cases c11 : x13_2 = true
   ·subst c11
    have H1 : ((spec_AngleOf.f a0_0).bind fun t194 => (some (t194, a0_1))) = some (r1, r2) := by rw [if_pos rfl] at H; exact H
    clear H
    have H := H1
    clear H1
    replace H := bs_ H
    obtain ⟨t194, A12, H⟩ := H
    simp only [Option.some.injEq, Prod.mk.injEq] at H
    obtain ⟨rfl, rfl⟩ := H
    try go_wp2
    refine sh3_ (blk_drew BK190.out) (blk_drew BK191.out) (below_drew1 HB.out) ?_
    clear BK190 BK191 HB
    intro BK190 BK191 HB
    refine start_ (n := 7) (S := fun w' => w'.cell? ⟨gb190, 0, none⟩ = some (.int .i64 a0_0) ∧ w'.cell? ⟨gb190, 1, none⟩ = some (.int .i64 a0_1)) (ds := []) #[false, false, false, false, false, false, false] (by kernel_rfl) rfl rfl ⟨(bc_ BK190 0 rfl), (bc_ BK190 1 rfl)⟩ (fun hHeld => ?_)
    generalize wc.drew = w13 at BK190 BK191 HB hHeld ⊢
    refine pure_ (i := 0) (N := some 14) (v := ?_) (a' := ?_) #[true, false, false, false, false, false, false] rfl rfl (by kernel_rfl) (fun _ _ _ h => h) (Or.inl ⟨by rfl, ?_⟩) ?_ ?_
    rotate_left
    ·intro w'
     go_simp
     with_reducible rfl
    rotate_left
    ·simp only [Act.put, List.setIfInBounds_toArray, List.set_cons_zero, List.set_cons_succ, i64_w, i32_w]
     rfl
    refine pure_ (i := 3) (N := some 17) (v := ?_) (a' := ?_) #[true, false, false, true, false, false, false] rfl rfl (by kernel_rfl) (fun _ _ _ h => h) (Or.inl ⟨by rfl, ?_⟩) ?_ ?_
    rotate_left
    ·intro w'
     go_simp
     with_reducible rfl
    rotate_left
    ·simp only [Act.put, List.setIfInBounds_toArray, List.set_cons_zero, List.set_cons_succ, i64_w, i32_w]
     rfl
    refine take_ (i := 1) (N := some 15) (v := ?_) (a' := ?_) #[true, true, false, true, false, false, false] rfl rfl (by kernel_rfl) (fun _ _ _ h => h) (Or.inl ⟨by rfl, ?_⟩) hHeld ?_ ?_
    rotate_left
    ·rintro w' ⟨s0, s1⟩
     go_simp
     with_reducible rfl
    rotate_left
    ·simp only [Act.put, List.setIfInBounds_toArray, List.set_cons_zero, List.set_cons_succ, i64_w, i32_w]
     rfl
    refine take_ (i := 4) (N := some 18) (v := ?_) (a' := ?_) #[true, true, false, true, true, false, false] rfl rfl (by kernel_rfl) (fun _ _ _ h => h) (Or.inl ⟨by rfl, ?_⟩) hHeld ?_ ?_
    rotate_left
    ·rintro w' ⟨s0, s1⟩
     go_simp
     with_reducible rfl
    rotate_left
    ·simp only [Act.put, List.setIfInBounds_toArray, List.set_cons_zero, List.set_cons_succ, i64_w, i32_w]
     rfl
    refine one_ (i := 2) (N := some 16) #[true, true, true, true, true, false, false] rfl rfl (by kernel_rfl) (by decide) (fun K hK => ?_)
    refine goes_ Try.func127 (by kernel_rfl) rfl #[.int .i64 a0_0] (by rfl) rfl rfl mp_ ?_
    with_reducible refine (spec_AngleOf.calls a0_0 t194 _ A12.out).mono ?_
    rintro e w' ⟨rfl, ⟨nd, rfl⟩⟩
    refine ⟨_, rfl, ?_⟩
    refine hK.out _ _ ⟨(bc_ BK190 0 rfl), (bc_ BK190 1 rfl)⟩ (fun hHeld => ?_)
    clear hK K
    refine norm_ (a' := ?_) ?_ ?_
    rotate_left
    ·show Act.put _ (some 16) _ = _
     simp only [Act.put, List.setIfInBounds_toArray, List.set_cons_zero, List.set_cons_succ, i64_w, i32_w]
     rfl
    refine pure_ (i := 5) (N := some 19) (v := ?_) (a' := ?_) #[true, true, true, true, true, true, false] rfl rfl (by kernel_rfl) (fun _ _ _ h => h) (Or.inl ⟨by rfl, ?_⟩) ?_ ?_
    rotate_left
    ·intro w'
     go_simp
     with_reducible rfl
    rotate_left
    ·simp only [Act.put, List.setIfInBounds_toArray, List.set_cons_zero, List.set_cons_succ, i64_w, i32_w]
     rfl
    refine one_ (i := 6) (N := none) #[true, true, true, true, true, true, true] rfl rfl (by kernel_rfl) (by decide) (fun K hK => ?_)
    have hs14 : w13.cell? ⟨gb191, 0, none⟩ = some (.int .i64 0) := bc_ BK191 0 rfl
    have hfs14 := bf_ BK191 0
    have hns14_0 := NB190_191.out
    have hms14_0 := NB191_190.out
    have hs15 : w13.cell? ⟨gb191, 1, none⟩ = some (.int .i64 0) := bc_ BK191 1 rfl
    have hfs15 := bf_ BK191 1
    have hns15_0 := NB190_191.out
    have hms15_0 := NB191_190.out
    refine skip_ (w1 := ?_) (by rfl) rfl ?_ ?_
    rotate_left
    ·go_simp
     rfl
    refine hK.out _ _ ⟨((cell_far (p := ⟨gb191, _, none⟩) NB190_191.out _).trans (((cell_far (p := ⟨gb191, _, none⟩) NB190_191.out _).trans (hHeld.1)))), ((cell_far (p := ⟨gb191, _, none⟩) NB190_191.out _).trans (((cell_far (p := ⟨gb191, _, none⟩) NB190_191.out _).trans (hHeld.2))))⟩ (fun hHeld => ?_)
    clear hK K
    refine done_ (by kernel_rfl) ?_
    try go_wp2
    refine bodyPost_ret (results_cell_row rfl _ _ gb191 113 #[.int .i64 t194, .int .i64 a0_1] (0, 0) _ rfl (by (with_reducible repeat (first | refine blk_drewN ?_ _ | refine blk_drew ?_ | refine blk_alloc ?_ _)); refine blk_put (cs := #[.int .i64 t194, .int .i64 0]) ?_ 1 _ rfl; (with_reducible repeat (first | refine blk_drewN ?_ _ | refine blk_drew ?_ | refine blk_alloc ?_ _)); refine blk_put (cs := #[.int .i64 0, .int .i64 0]) ?_ 0 _ rfl; (with_reducible repeat (first | refine blk_drewN ?_ _ | refine blk_drew ?_ | refine blk_alloc ?_ _)); exact BK191.out) Try.underlying113 rfl (by kernel_rfl)) rfl ?_
    exact ⟨er_, bl2_ HB GE190 GE191⟩
   ·replace c11 := Bool.eq_false_iff.mpr c11
    subst c11
    have H1 : ((spec_AngleOf.f a0_0).bind fun t195 => ((spec_AngleOf.f (wrap64 (t195 - a1))).bind fun t196 => ((spec_Min.f 359 (wrap64 (a0_1 + (wrap64 (2 * a1))))).bind fun t197 => (some (t196, t197))))) = some (r1, r2) := by rw [if_neg (show ¬ (false = true) by decide)] at H; exact H
    clear H
    have H := H1
    clear H1
    replace H := bs_ H
    obtain ⟨t195, A16, H⟩ := H
    replace H := bs_ H
    obtain ⟨t196, A17, H⟩ := H
    replace H := bs_ H
    obtain ⟨t197, A18, H⟩ := H
    simp only [Option.some.injEq, Prod.mk.injEq] at H
    obtain ⟨rfl, rfl⟩ := H
    try go_wp2
    refine sh3_ (blk_drew BK190.out) (blk_drew BK191.out) (below_drew1 HB.out) ?_
    clear BK190 BK191 HB
    intro BK190 BK191 HB
    refine start_ (n := 14) (S := fun w' => w'.cell? ⟨gb190, 0, none⟩ = some (.int .i64 a0_0) ∧ w'.cell? ⟨gb190, 1, none⟩ = some (.int .i64 a0_1)) (ds := []) #[false, false, false, false, false, false, false, false, false, false, false, false, false, false] (by kernel_rfl) rfl rfl ⟨(bc_ BK190 0 rfl), (bc_ BK190 1 rfl)⟩ (fun hHeld => ?_); refine with_tabW spec_WidenArc.tab3 spec_WidenArc.bits3 (fun HT_ HW_ => ?_)
    generalize wc.drew = w19 at BK190 BK191 HB hHeld ⊢
    refine pur_ 0 #[true, false, false, false, false, false, false, false, false, false, false, false, false, false] (some 20) HT_ ?_
    refine pur_ 3 #[true, false, false, true, false, false, false, false, false, false, false, false, false, false] (some 23) HT_ ?_
    refine pur_ 6 #[true, false, false, true, false, false, true, false, false, false, false, false, false, false] (some 26) HT_ ?_
    refine pur_ 8 #[true, false, false, true, false, false, true, false, true, false, false, false, false, false] (some 28) HT_ ?_
    refine pur_ 9 #[true, false, false, true, false, false, true, false, true, true, false, false, false, false] (some 29) HT_ ?_
    refine tak_ 1 #[true, true, false, true, false, false, true, false, true, true, false, false, false, false] (some 21) HT_ HW_ hHeld ?_
    refine tak_ 7 #[true, true, false, true, false, false, true, true, true, true, false, false, false, false] (some 27) HT_ HW_ hHeld ?_
    refine pur_ 10 #[true, true, false, true, false, false, true, true, true, true, true, false, false, false] (some 30) HT_ ?_
    refine onc_ 2 #[true, true, true, true, false, false, true, true, true, true, true, false, false, false] (some 22) HT_ Try.func127 (spec_AngleOf.calls a0_0 t195 _ A16.out) ?_
    rintro e w' ⟨rfl, ⟨nd, rfl⟩⟩
    refine ⟨_, _, rfl, ⟨(bc_ BK190 0 rfl), (bc_ BK190 1 rfl)⟩, pt_, fun hHeld => ?_⟩
    refine pur_ 4 #[true, true, true, true, true, false, true, true, true, true, true, false, false, false] (some 24) HT_ ?_
    refine onc_ 5 #[true, true, true, true, true, true, true, true, true, true, true, false, false, false] (some 25) HT_ Try.func127 (spec_AngleOf.calls (wrap64 (t195 - a1)) t196 _ A17.out) ?_
    rintro e w' ⟨rfl, ⟨nd, rfl⟩⟩
    refine ⟨_, _, rfl, ⟨(bc_ BK190 0 rfl), (bc_ BK190 1 rfl)⟩, pt_, fun hHeld => ?_⟩
    refine onc_ 11 #[true, true, true, true, true, true, true, true, true, true, true, true, false, false] (some 31) HT_ Try.func99 (spec_Min.calls 359 (wrap64 (a0_1 + (wrap64 (2 * a1)))) t197 _ A18.out) ?_
    rintro e w' ⟨rfl, ⟨nd, rfl⟩⟩
    refine ⟨_, _, rfl, ⟨(bc_ BK190 0 rfl), (bc_ BK190 1 rfl)⟩, pt_, fun hHeld => ?_⟩
    refine pur_ 12 #[true, true, true, true, true, true, true, true, true, true, true, true, true, false] (some 32) HT_ ?_
    refine one_ (i := 13) (N := none) #[true, true, true, true, true, true, true, true, true, true, true, true, true, true] rfl rfl (one_of HT_.out (by kernel_rfl)) (by decide) (fun K hK => ?_)
    have hs20 : w19.cell? ⟨gb191, 0, none⟩ = some (.int .i64 0) := bc_ BK191 0 rfl
    have hfs20 := bf_ BK191 0
    have hns20_0 := NB190_191.out
    have hms20_0 := NB191_190.out
    have hs21 : w19.cell? ⟨gb191, 1, none⟩ = some (.int .i64 0) := bc_ BK191 1 rfl
    have hfs21 := bf_ BK191 1
    have hns21_0 := NB190_191.out
    have hms21_0 := NB191_190.out
    refine skip_ (w1 := ?_) (by rfl) rfl ?_ ?_
    rotate_left
    ·go_simp
     rfl
    refine hK.out _ _ ⟨((cell_far (p := ⟨gb191, _, none⟩) NB190_191.out _).trans (((cell_far (p := ⟨gb191, _, none⟩) NB190_191.out _).trans (hHeld.1)))), ((cell_far (p := ⟨gb191, _, none⟩) NB190_191.out _).trans (((cell_far (p := ⟨gb191, _, none⟩) NB190_191.out _).trans (hHeld.2))))⟩ (fun hHeld => ?_)
    clear hK K
    refine done_ (done_of HT_.out (by kernel_rfl)) ?_
    try go_wp2
    refine bodyPost_ret (results_cell_row rfl _ _ gb191 113 #[.int .i64 t196, .int .i64 t197] (0, 0) _ rfl (by (with_reducible repeat (first | refine blk_drewN ?_ _ | refine blk_drew ?_ | refine blk_alloc ?_ _)); refine blk_put (cs := #[.int .i64 t196, .int .i64 0]) ?_ 1 _ rfl; (with_reducible repeat (first | refine blk_drewN ?_ _ | refine blk_drew ?_ | refine blk_alloc ?_ _)); refine blk_put (cs := #[.int .i64 0, .int .i64 0]) ?_ 0 _ rfl; (with_reducible repeat (first | refine blk_drewN ?_ _ | refine blk_drew ?_ | refine blk_alloc ?_ _)); exact BK191.out) Try.underlying113 rfl (by kernel_rfl)) rfl ?_
    exact ⟨er_, bl2_ HB GE190 GE191⟩

/-! ### spec_PlacesAt: function 117 -/
def spec_PlacesAt.f (k : Nat) (a0_0 : Int) (a0_1 : Int) (a0_2 : Int) (a0_3 : Int) (a1 : Int) : Option (Int × Int) := (spec_PlaceAt.f a0_0 a0_1 a0_2 a0_3 a1).bind fun t200 => ((spec_WidenArc.f k t200 0 a0_3).bind fun bt201 => (some (bt201.1, bt201.2)))
theorem spec_PlacesAt.mono : ∀ a0 a1 a2 a3 a4 k, LeO (spec_PlacesAt.f k a0 a1 a2 a3 a4) (spec_PlacesAt.f (k + 1) a0 a1 a2 a3 a4) := by
 intro a0 a1 a2 a3 a4 k
 unfold spec_PlacesAt.f
 repeat' first | (with_reducible first | exact spec_WidenArc.mono _ _ _ _ | exact LeO.refl _ | exact LeO.none _ | refine LeO.ite ?_ ?_ | refine LeO.bind ?_ (fun _ => ?_)) | exact LeO.none _ | refine LeO.ite ?_ ?_ | refine LeO.bind ?_ (fun _ => ?_)
def spec_PlacesAt.T1 : Bool × List (List Nat × List Nat) := (true, [([], []), ([], []), ([0, 1], [0, 1]), ([2], [2]), ([], []), ([4], [4]), ([3, 5, 2], [3, 5]), ([6, 6, 0, 1, 2, 3, 4, 5, 6], [6])])
def spec_PlacesAt.B1 : List Nat := [0, 0, 3, 7, 0, 16, 63, 127]
theorem spec_PlacesAt.tab1 : rtab .any (opsOf Try.f117 1) = spec_PlacesAt.T1 := by kernel_rfl
theorem spec_PlacesAt.bits1 : waitsOk spec_PlacesAt.T1.2 spec_PlacesAt.B1 = true := by kernel_rfl
set_option maxHeartbeats 8000000 in
set_option maxRecDepth 100000 in
theorem spec_PlacesAt.calls (k : Nat) (a0_0 : Int) (a0_1 : Int) (a0_2 : Int) (a0_3 : Int) (a1 : Int) (r1 : Int) (r2 : Int) (w : World) (h : spec_PlacesAt.f k a0_0 a0_1 a0_2 a0_3 a1 = some (r1, r2)) :
  Calls Try.prog 117 #[.agg #[.int .i64 a0_0, .int .i64 a0_1, .int .i64 a0_2, .int .i64 a0_3], .int .i64 a1] w fun e w' => e = .returned (.agg #[.int .i64 r1, .int .i64 r2]) ∧ Below w.heap.size w w' := by
 have hu105 := Try.underlying105
 have hu113 := Try.underlying113
 have HB := Aside0.mk (Below.refl w.heap.size w)
 have H := h
 clear h
 unfold spec_PlacesAt.f at H
 replace H := bs_ H
 obtain ⟨t200, A3, H⟩ := H
 replace H := bs_ H
 obtain ⟨⟨t201, t202⟩, A4, H⟩ := H
 dsimp only at H
 simp only [Option.some.injEq, Prod.mk.injEq] at H
 obtain ⟨rfl, rfl⟩ := H
 go_enter Try.func117, Try.ntmps117
 try go_wp2_with (first | ((with_reducible refine gd_ 2 ?_); refine bx_ 2 105 #[.int .i64 a0_0, .int .i64 a0_1, .int .i64 a0_2, .int .i64 a0_3] ?_; intro gb198 hg w5 hbox hb; refine sh4_ (below_step (bl_ HB) hb) hbox (ge_ hg (bl_ HB)) (ge_ hg (bl_ HB)) ?_; clear HB hb hbox hg; intro HB BK198 GW198 GE198) | ((with_reducible refine gd_ 4 ?_); refine bx_ 4 113 #[.int .i64 0, .int .i64 0] ?_; intro gb199 hg w6 hbox hb; refine sh7_ (blk_below (bk_ BK198) hb) (below_step (bl1_ HB GE198) hb) hbox (ge_ hg (bl1_ HB GE198)) (ge_ hg (bl1_ HB GE198)) (nl_ hg (bk_ BK198)) (ng_ hg (bk_ BK198)) ?_; clear BK198 HB hb hbox hg; intro BK198 HB BK199 GW199 GE199 NB198_199 NB199_198))
 refine sh3_ (blk_drew BK198.out) (blk_drew BK199.out) (below_drew1 HB.out) ?_
 clear BK198 BK199 HB
 intro BK198 BK199 HB
 refine start_ (n := 8) (S := fun w' => w'.cell? ⟨gb198, 0, none⟩ = some (.int .i64 a0_0) ∧ w'.cell? ⟨gb198, 1, none⟩ = some (.int .i64 a0_1) ∧ w'.cell? ⟨gb198, 2, none⟩ = some (.int .i64 a0_2) ∧ w'.cell? ⟨gb198, 3, none⟩ = some (.int .i64 a0_3)) (ds := []) #[false, false, false, false, false, false, false, false] (by kernel_rfl) rfl rfl ⟨(bc_ BK198 0 rfl), (bc_ BK198 1 rfl), (bc_ BK198 2 rfl), (bc_ BK198 3 rfl)⟩ (fun hHeld => ?_); refine with_tabW spec_PlacesAt.tab1 spec_PlacesAt.bits1 (fun HT_ HW_ => ?_)
 generalize w6.drew = w7 at BK198 BK199 HB hHeld ⊢
 refine pur_ 1 #[false, true, false, false, false, false, false, false] (some 6) HT_ ?_
 refine pur_ 4 #[false, true, false, false, true, false, false, false] (some 9) HT_ ?_
 refine tak_ 0 #[true, true, false, false, true, false, false, false] (some 5) HT_ HW_ hHeld ?_
 refine tak_ 5 #[true, true, false, false, true, true, false, false] (some 10) HT_ HW_ hHeld ?_
 refine onc_ 2 #[true, true, true, false, true, true, false, false] (some 7) HT_ Try.func119 (spec_PlaceAt.calls a0_0 a0_1 a0_2 a0_3 a1 t200 _ A3.out) ?_
 rintro e w8 ⟨rfl, hb⟩
 refine sh3_ (blk_below (bk_ BK198) hb) (blk_below (bk_ BK199) hb) (below_step (bl2_ HB GE198 GE199) hb) ?_
 clear BK198 BK199 HB hb
 intro BK198 BK199 HB
 refine ⟨_, _, rfl, ⟨(bc_ BK198 0 rfl), (bc_ BK198 1 rfl), (bc_ BK198 2 rfl), (bc_ BK198 3 rfl)⟩, pt_, fun hHeld => ?_⟩
 refine pur_ 3 #[true, true, true, true, true, true, false, false] (some 8) HT_ ?_
 refine onc_ 6 #[true, true, true, true, true, true, true, false] (some 11) HT_ Try.func132 (spec_WidenArc.calls k t200 0 a0_3 t201 t202 _ A4.out) ?_
 rintro e w9 ⟨rfl, hb⟩
 refine sh3_ (blk_below (bk_ BK198) hb) (blk_below (bk_ BK199) hb) (below_step (bl2_ HB GE198 GE199) hb) ?_
 clear BK198 BK199 HB hb
 intro BK198 BK199 HB
 refine ⟨_, _, rfl, ⟨(bc_ BK198 0 rfl), (bc_ BK198 1 rfl), (bc_ BK198 2 rfl), (bc_ BK198 3 rfl)⟩, pt_, fun hHeld => ?_⟩
 refine one_ (i := 7) (N := none) #[true, true, true, true, true, true, true, true] rfl rfl (one_of HT_.out (by kernel_rfl)) (by decide) (fun K hK => ?_)
 have hs10 : w9.cell? ⟨gb199, 0, none⟩ = some (.int .i64 0) := bc_ BK199 0 rfl
 have hfs10 := bf_ BK199 0
 have hns10_0 := NB198_199.out
 have hms10_0 := NB199_198.out
 have hs11 : w9.cell? ⟨gb199, 1, none⟩ = some (.int .i64 0) := bc_ BK199 1 rfl
 have hfs11 := bf_ BK199 1
 have hns11_0 := NB198_199.out
 have hms11_0 := NB199_198.out
 refine skip_ (w1 := ?_) (by rfl) rfl ?_ ?_
 rotate_left
 ·go_simp
  rfl
 refine hK.out _ _ ⟨((cell_far (p := ⟨gb199, _, none⟩) NB198_199.out _).trans (((cell_far (p := ⟨gb199, _, none⟩) NB198_199.out _).trans (hHeld.1)))), ((cell_far (p := ⟨gb199, _, none⟩) NB198_199.out _).trans (((cell_far (p := ⟨gb199, _, none⟩) NB198_199.out _).trans (hHeld.2.1)))), ((cell_far (p := ⟨gb199, _, none⟩) NB198_199.out _).trans (((cell_far (p := ⟨gb199, _, none⟩) NB198_199.out _).trans (hHeld.2.2.1)))), ((cell_far (p := ⟨gb199, _, none⟩) NB198_199.out _).trans (((cell_far (p := ⟨gb199, _, none⟩) NB198_199.out _).trans (hHeld.2.2.2))))⟩ (fun hHeld => ?_)
 clear hK K
 refine done_ (done_of HT_.out (by kernel_rfl)) ?_
 try go_wp2
 refine bodyPost_ret (results_cell_row rfl _ _ gb199 113 #[.int .i64 t201, .int .i64 t202] (0, 0) _ rfl (by (with_reducible repeat (first | refine blk_drewN ?_ _ | refine blk_drew ?_ | refine blk_alloc ?_ _)); refine blk_put (cs := #[.int .i64 t201, .int .i64 0]) ?_ 1 _ rfl; (with_reducible repeat (first | refine blk_drewN ?_ _ | refine blk_drew ?_ | refine blk_alloc ?_ _)); refine blk_put (cs := #[.int .i64 0, .int .i64 0]) ?_ 0 _ rfl; (with_reducible repeat (first | refine blk_drewN ?_ _ | refine blk_drew ?_ | refine blk_alloc ?_ _)); exact BK199.out) Try.underlying113 rfl (by kernel_rfl)) rfl ?_
 exact ⟨er_, bl2_ HB GE198 GE199⟩

/-! ### spec_NodesOf: function 67 -/
def spec_NodesOf.f (a0_0 : Int) (l0_1 : List (S105)) (l0_2 : List (S109)) (a0_3 : Int) (a0_4 : Int) (a0_5 : Int) (a0_6 : Int) (a0_7 : Int) (l0_8 : List (S115)) (a0_9 : Int) : Option (Int) := some (wrap64 ((l0_1.length : Int) + (l0_2.length : Int)))
set_option maxHeartbeats 8000000 in
set_option maxRecDepth 100000 in
theorem spec_NodesOf.calls (a0_0 : Int) (A0_1 : Option Addr) (c0_1 : Nat) (l0_1 : List (S105)) (A0_2 : Option Addr) (c0_2 : Nat) (l0_2 : List (S109)) (a0_3 : Int) (a0_4 : Int) (a0_5 : Int) (a0_6 : Int) (a0_7 : Int) (A0_8 : Option Addr) (c0_8 : Nat) (l0_8 : List (S115)) (a0_9 : Int) (r : Int) (w : World) (hr0_1 : Kd.C k105 w A0_1 l0_1.length l0_1) (hc0_1 : l0_1.length ≤ c0_1) (hr0_2 : Kd.C k109 w A0_2 l0_2.length l0_2) (hc0_2 : l0_2.length ≤ c0_2) (hr0_8 : Kd.C k115 w A0_8 l0_8.length l0_8) (hc0_8 : l0_8.length ≤ c0_8) (h : spec_NodesOf.f a0_0 l0_1 l0_2 a0_3 a0_4 a0_5 a0_6 a0_7 l0_8 a0_9 = some r) :
  Calls Try.prog 67 #[.agg #[.int .i64 a0_0, .slice A0_1 l0_1.length c0_1, .slice A0_2 l0_2.length c0_2, .int .i64 a0_3, .int .i64 a0_4, .int .i64 a0_5, .int .i64 a0_6, .int .i64 a0_7, .slice A0_8 l0_8.length c0_8, .int .i64 a0_9]] w fun e w' => e = .returned (.int .i64 r) ∧ Below w.heap.size w w' := by
 have hu34 := Try.underlying34
 have HR0_1 := Aside0.mk hr0_1
 have HC0_1 := Aside0.mk hc0_1
 clear hr0_1 hc0_1
 have HR0_2 := Aside0.mk hr0_2
 have HC0_2 := Aside0.mk hc0_2
 clear hr0_2 hc0_2
 have HR0_8 := Aside0.mk hr0_8
 have HC0_8 := Aside0.mk hc0_8
 clear hr0_8 hc0_8
 have HB := Aside0.mk (Below.refl w.heap.size w)
 have H := h
 clear h
 unfold spec_NodesOf.f at H
 obtain rfl := Option.some.inj H
 go_enter Try.func67, Try.ntmps67
 go_wp2_with (first | ((with_reducible refine gd_ 1 ?_); refine bx_ 1 34 #[.int .i64 a0_0, .slice A0_1 l0_1.length c0_1, .slice A0_2 l0_2.length c0_2, .int .i64 a0_3, .int .i64 a0_4, .int .i64 a0_5, .int .i64 a0_6, .int .i64 a0_7, .slice A0_8 l0_8.length c0_8, .int .i64 a0_9] ?_; intro gb203 hg w2 hbox hb; refine sh4_ (below_step (bl_ HB) hb) hbox (ge_ hg (bl_ HB)) (ge_ hg (bl_ HB)) ?_; clear HB hb hbox hg; intro HB BK203 GW203 GE203; have hcz3 := cf10_ BK203))
 go_ret
 exact ⟨er_, bl1_ HB GE203⟩

/-! ### spec_IsSite: function 118 -/
def spec_IsSite.f (a0_0 : Int) (l0_1 : List (S105)) (l0_2 : List (S109)) (a0_3 : Int) (a0_4 : Int) (a0_5 : Int) (a0_6 : Int) (a0_7 : Int) (l0_8 : List (S115)) (a0_9 : Int) (a1 : Int) : Option (Bool) := (spec_NodesOf.f a0_0 l0_1 l0_2 a0_3 a0_4 a0_5 a0_6 a0_7 l0_8 a0_9).bind fun t205 => ((spec_l1In.f a1 (l0_1.length : Int) (wrap64 (t205 - 1))).bind fun t206 => (some t206))
def spec_IsSite.T1 : Bool × List (List Nat × List Nat) := (true, [([], []), ([], []), ([1], [1]), ([2], [2]), ([], []), ([4], [4]), ([5], [5]), ([0, 3, 6, 5], [0, 3, 6]), ([7, 7, 0, 1, 2, 3, 4, 5, 6, 7], [7])])
def spec_IsSite.B1 : List Nat := [0, 0, 2, 6, 0, 16, 48, 127, 255]
theorem spec_IsSite.tab1 : rtab .any (opsOf Try.f118 1) = spec_IsSite.T1 := by kernel_rfl
theorem spec_IsSite.bits1 : waitsOk spec_IsSite.T1.2 spec_IsSite.B1 = true := by kernel_rfl
set_option maxHeartbeats 8000000 in
set_option maxRecDepth 100000 in
theorem spec_IsSite.calls (a0_0 : Int) (A0_1 : Option Addr) (c0_1 : Nat) (l0_1 : List (S105)) (A0_2 : Option Addr) (c0_2 : Nat) (l0_2 : List (S109)) (a0_3 : Int) (a0_4 : Int) (a0_5 : Int) (a0_6 : Int) (a0_7 : Int) (A0_8 : Option Addr) (c0_8 : Nat) (l0_8 : List (S115)) (a0_9 : Int) (a1 : Int) (r : Bool) (w : World) (hr0_1 : Kd.C k105 w A0_1 l0_1.length l0_1) (hc0_1 : l0_1.length ≤ c0_1) (hr0_2 : Kd.C k109 w A0_2 l0_2.length l0_2) (hc0_2 : l0_2.length ≤ c0_2) (hr0_8 : Kd.C k115 w A0_8 l0_8.length l0_8) (hc0_8 : l0_8.length ≤ c0_8) (h : spec_IsSite.f a0_0 l0_1 l0_2 a0_3 a0_4 a0_5 a0_6 a0_7 l0_8 a0_9 a1 = some r) :
  Calls Try.prog 118 #[.agg #[.int .i64 a0_0, .slice A0_1 l0_1.length c0_1, .slice A0_2 l0_2.length c0_2, .int .i64 a0_3, .int .i64 a0_4, .int .i64 a0_5, .int .i64 a0_6, .int .i64 a0_7, .slice A0_8 l0_8.length c0_8, .int .i64 a0_9], .int .i64 a1] w fun e w' => e = .returned (.bool r) ∧ Below w.heap.size w w' := by
 have hu34 := Try.underlying34
 have HR0_1 := Aside0.mk hr0_1
 have HC0_1 := Aside0.mk hc0_1
 clear hr0_1 hc0_1
 have HR0_2 := Aside0.mk hr0_2
 have HC0_2 := Aside0.mk hc0_2
 clear hr0_2 hc0_2
 have HR0_8 := Aside0.mk hr0_8
 have HC0_8 := Aside0.mk hc0_8
 clear hr0_8 hc0_8
 have HB := Aside0.mk (Below.refl w.heap.size w)
 have H := h
 clear h
 unfold spec_IsSite.f at H
 replace H := bs_ H
 obtain ⟨t205, A3, H⟩ := H
 replace H := bs_ H
 obtain ⟨t206, A4, H⟩ := H
 obtain rfl := Option.some.inj H
 go_enter Try.func118, Try.ntmps118
 try go_wp2_with (first | ((with_reducible refine gd_ 2 ?_); refine bx_ 2 34 #[.int .i64 a0_0, .slice A0_1 l0_1.length c0_1, .slice A0_2 l0_2.length c0_2, .int .i64 a0_3, .int .i64 a0_4, .int .i64 a0_5, .int .i64 a0_6, .int .i64 a0_7, .slice A0_8 l0_8.length c0_8, .int .i64 a0_9] ?_; intro gb204 hg w5 hbox hb; refine sh4_ (below_step (bl_ HB) hb) hbox (ge_ hg (bl_ HB)) (ge_ hg (bl_ HB)) ?_; clear HB hb hbox hg; intro HB BK204 GW204 GE204))
 refine sh2_ (blk_drew BK204.out) (below_drew1 HB.out) ?_
 clear BK204 HB
 intro BK204 HB
 refine start_ (n := 9) (S := fun w' => w'.cell? ⟨gb204, 0, none⟩ = some (.int .i64 a0_0) ∧ w'.cell? ⟨gb204, 1, none⟩ = some (.slice A0_1 l0_1.length c0_1) ∧ w'.cell? ⟨gb204, 2, none⟩ = some (.slice A0_2 l0_2.length c0_2) ∧ w'.cell? ⟨gb204, 3, none⟩ = some (.int .i64 a0_3) ∧ w'.cell? ⟨gb204, 4, none⟩ = some (.int .i64 a0_4) ∧ w'.cell? ⟨gb204, 5, none⟩ = some (.int .i64 a0_5) ∧ w'.cell? ⟨gb204, 6, none⟩ = some (.int .i64 a0_6) ∧ w'.cell? ⟨gb204, 7, none⟩ = some (.int .i64 a0_7) ∧ w'.cell? ⟨gb204, 8, none⟩ = some (.slice A0_8 l0_8.length c0_8) ∧ w'.cell? ⟨gb204, 9, none⟩ = some (.int .i64 a0_9)) (ds := []) #[false, false, false, false, false, false, false, false, false] (by kernel_rfl) rfl rfl ⟨(bc_ BK204 0 rfl), (bc_ BK204 1 rfl), (bc_ BK204 2 rfl), (bc_ BK204 3 rfl), (bc_ BK204 4 rfl), (bc_ BK204 5 rfl), (bc_ BK204 6 rfl), (bc_ BK204 7 rfl), (bc_ BK204 8 rfl), (bc_ BK204 9 rfl)⟩ (fun hHeld => ?_); refine with_tabW spec_IsSite.tab1 spec_IsSite.bits1 (fun HT_ HW_ => ?_)
 generalize w5.drew = w6 at BK204 HB hHeld ⊢
 refine pur_ 0 #[true, false, false, false, false, false, false, false, false] (some 5) HT_ ?_
 refine pur_ 1 #[true, true, false, false, false, false, false, false, false] (some 6) HT_ ?_
 refine tak_ 2 #[true, true, true, false, false, false, false, false, false] (some 7) HT_ HW_ hHeld ?_
 refine pur_ 3 #[true, true, true, true, false, false, false, false, false] (some 8) HT_ ?_
 refine tak_ 4 #[true, true, true, true, true, false, false, false, false] (some 9) HT_ HW_ hHeld ?_
 refine onc_ 5 #[true, true, true, true, true, true, false, false, false] (some 10) HT_ Try.func67 (spec_NodesOf.calls a0_0 _ _ l0_1 _ _ l0_2 a0_3 a0_4 a0_5 a0_6 a0_7 _ _ l0_8 a0_9 t205 _ (ck_ HR0_1 HB) HC0_1.out (ck_ HR0_2 HB) HC0_2.out (ck_ HR0_8 HB) HC0_8.out A3.out) ?_
 rintro e w7 ⟨rfl, hb⟩
 refine sh2_ (blk_below (bk_ BK204) hb) (below_step (bl1_ HB GE204) hb) ?_
 clear BK204 HB hb
 intro BK204 HB
 refine ⟨_, _, rfl, ⟨(bc_ BK204 0 rfl), (bc_ BK204 1 rfl), (bc_ BK204 2 rfl), (bc_ BK204 3 rfl), (bc_ BK204 4 rfl), (bc_ BK204 5 rfl), (bc_ BK204 6 rfl), (bc_ BK204 7 rfl), (bc_ BK204 8 rfl), (bc_ BK204 9 rfl)⟩, pt_, fun hHeld => ?_⟩
 refine pur_ 6 #[true, true, true, true, true, true, true, false, false] (some 11) HT_ ?_
 refine onc_ 7 #[true, true, true, true, true, true, true, true, false] (some 12) HT_ Try.func101 (spec_l1In.calls a1 (l0_1.length : Int) (wrap64 (t205 - 1)) t206 _ A4.out) ?_
 rintro e w' ⟨rfl, ⟨nd, rfl⟩⟩
 refine ⟨_, _, rfl, ⟨(bc_ BK204 0 rfl), (bc_ BK204 1 rfl), (bc_ BK204 2 rfl), (bc_ BK204 3 rfl), (bc_ BK204 4 rfl), (bc_ BK204 5 rfl), (bc_ BK204 6 rfl), (bc_ BK204 7 rfl), (bc_ BK204 8 rfl), (bc_ BK204 9 rfl)⟩, pt_, fun hHeld => ?_⟩
 refine pur_ 8 #[true, true, true, true, true, true, true, true, true] (some 4) HT_ ?_
 refine done_ (done_of HT_.out (by kernel_rfl)) ?_
 try go_wp2
 go_ret
 exact ⟨er_, bl1_ HB GE204⟩

end Go.Proofs.Ytcjfalmhohcifaa.PFnExactSureShare
