-- Written by a program of this session for this claim (the kit's printer with changes).
import Derived.Test.YtpjhdehbikohmaaGreatQFnExactPlanOfx0
import Derived.Test.YtpjhdehbikohmaaGreatQFnExactPlanOfx3
namespace Go.Proofs.YtpjhdehbikohmaaGreat.PFnExactPlanOf
open Go.RowKit Go.Proofs.YtpjhdehbikohmaaGreatW.PrintWords Go.Proofs.YtpjhdehbikohmaaGreatW.PrintLast Go.Proofs.YtpjhdehbikohmaaGreatW.PrintMore
attribute [local go_sem] max2_int min2_int max_two min_two max_three min_three max_four min_four   -- for this text's walks alone
set_option linter.unusedVariables false
set_option maxHeartbeats 8000000
set_option maxRecDepth 100000
set_option linter.unusedSimpArgs false

/-! ### spec_IsSky: function 19 -/
mutual
def spec_IsSky.l0 : Nat → Int → Int → List S68 → List S70 → Int → Int → Int → Int → Int → List S76 → Int → Option (Bool)
 | 0, _, _, _, _, _, _, _, _, _, _, _ => none
 | k + 1, E, s, j, l, u, x, y, z, B, m, D => if E < (j.length : Int) then (if 0 ≤ E then ((spec_IsSat.f ((rd_T68 j E).f0) ((rd_T68 j E).f1) ((rd_T68 j E).f2) ((rd_T68 j E).f3) s).bind fun J => (if J = true then (spec_IsSky.l0 k (wrap64 (E + 1)) s j l u x y z B m D) else (some false))) else (none)) else (spec_IsSky.l1 k 0 s j l u x y z B m D)
def spec_IsSky.l1 : Nat → Int → Int → List S68 → List S70 → Int → Int → Int → Int → Int → List S76 → Int → Option (Bool)
 | 0, _, _, _, _, _, _, _, _, _, _, _ => none
 | k + 1, G, s, j, l, u, x, y, z, B, m, D => if G < (l.length : Int) then (if 0 ≤ G then (if ((rd_T70 l G).f0) < 0 then (some false) else (if ((rd_T70 l G).f0) ≥ s then (some false) else ((spec_l1In.f ((rd_T70 l G).f1) 0 359).bind fun L => (if L = true then ((spec_l7Turn.f ((rd_T70 l G).f2)).bind fun M => (if M = true then (spec_IsSky.l1 k (wrap64 (G + 1)) s j l u x y z B m D) else (some false))) else (some false))))) else (none)) else (spec_IsSky.l2 k 0 s j l u x y z B m D)
def spec_IsSky.l2 : Nat → Int → Int → List S68 → List S70 → Int → Int → Int → Int → Int → List S76 → Int → Option (Bool)
 | 0, _, _, _, _, _, _, _, _, _, _, _ => none
 | k + 1, I, s, j, l, u, x, y, z, B, m, D => if I < (m.length : Int) then (if 0 ≤ I then (if ((rd_T76 m I).f0) < 0 then (some false) else (if ((rd_T76 m I).f0) ≥ s then (some false) else ((spec_l1In.f ((rd_T76 m I).f1.f1) 0 359).bind fun O => (if O = true then (spec_IsSky.l2 k (wrap64 (I + 1)) s j l u x y z B m D) else (some false))))) else (none)) else ((spec_l1In.f s 1 4).bind fun T => (if T = true then ((spec_l1In.f (j.length : Int) 1 8).bind fun U => (if U = true then (if (l.length : Int) > 4 then (spec_IsSky.j3 k true s j l u x y z B m D) else (spec_IsSky.j3 k (decide ((m.length : Int) > 4)) s j l u x y z B m D)) else (spec_IsSky.j3 k true s j l u x y z B m D))) else (spec_IsSky.j3 k true s j l u x y z B m D)))
def spec_IsSky.j3 : Nat → Bool → Int → List S68 → List S70 → Int → Int → Int → Int → Int → List S76 → Int → Option (Bool)
 | 0, _, _, _, _, _, _, _, _, _, _, _ => none
 | k + 1, a3, s, j, l, u, x, y, z, B, m, D => if a3 = true then (some false) else ((spec_l7Half.f u).bind fun X => (if X = true then ((spec_l7Half.f x).bind fun Y => (if Y = true then ((spec_l7Half.f y).bind fun Z => (if Z = true then ((spec_l7Half.f B).bind fun a0 => (if a0 = true then ((spec_l7Turn.f z).bind fun a1 => (if a1 = true then ((spec_l1In.f D 0 20).bind fun a2 => (some a2)) else (some false))) else (some false))) else (some false))) else (some false))) else (some false)))
end
def spec_IsSky.f (k : Nat) (j : Int) (z : List S68) (B : List S70) (l m s u x : Int) (D : List S76) (y : Int) : Option (Bool) := spec_IsSky.l0 k 0 j z B l m s u x D y
def spec_IsSky.T4 : Bool × List (List Nat × List Nat) := (true, [([], []), ([0], [0]), ([], []), ([1, 2], [1, 2]), ([3], [3]), ([], []), ([5], [5]), ([4, 6], [4, 6]), ([7], [7])])
def spec_IsSky.B4 : List Nat := [0, 1, 0, 7, 15, 0, 32, 127, 255]
theorem spec_IsSky.tab4 : rtab .any (opsOf Tryz.f19 4) = spec_IsSky.T4 := by kernel_rfl
theorem spec_IsSky.bits4 : waitsOk spec_IsSky.T4.2 spec_IsSky.B4 = true := by kernel_rfl
theorem spec_IsSky.calls (k : Nat) (B : Int) (d4 : Option Addr) (b3 : Nat) (s : List S68) (a8 : Option Addr) (b4 : Nat) (u : List S70) (E G I O J : Int) (a9 : Option Addr) (b5 : Nat) (y : List S76) (T : Int) (r : Bool) (w : World) (k5 : Kd.C k68 w d4 s.length s) (j9 : s.length ≤ b3) (k6 : Kd.C k70 w a8 u.length u) (k0 : u.length ≤ b4) (k7 : Kd.C k76 w a9 y.length y) (k4 : y.length ≤ b5) (h : spec_IsSky.f k B s u E G I O J y T = some r) :
  Calls Tryz.prog 19 #[.agg #[iv_ B, .slice d4 s.length b3, .slice a8 u.length b4, iv_ E, iv_ G, iv_ I, iv_ O, iv_ J, .slice a9 y.length b5, iv_ T]] w fun e w' => e = .returned (.bool r) ∧ Below w.heap.size w w' := by
 have t5 := Tryz.underlying34
 have t6 := Tryz.underlying68
 have t7 := Tryz.underlying70
 have t8 := Tryz.underlying76
 have j6 := Aside0.mk k5
 have n0 := Aside0.mk j9
 clear k5 j9
 have f6 := Aside0.mk k6
 have n1 := Aside0.mk k0
 clear k6 k0
 have g0 := Aside0.mk k7
 have n2 := Aside0.mk k4
 clear k7 k4
 have HB := Aside0.mk (Below.refl w.heap.size w)
 have H := h
 clear h
 unfold spec_IsSky.f at H
 have H' := Aside0.mk H
 clear H
 go_enter Tryz.func19, Tryz.ntmps19
 go_wp2_with (first | ((with_reducible refine gate_dst (N := 1) rfl ?_); (try (refine gate_guard (by rfl) ?_; dsimp only)); refine box_event ?hg (N := 1) ?hd (cs := #[iv_ B, .slice d4 s.length b3, .slice a8 u.length b4, iv_ E, iv_ G, iv_ I, iv_ O, iv_ J, .slice a9 y.length b5, iv_ T]) (t := 34) ?hr ?_; (case hd => rfl); (case hg => rfl); (case hr => first | (go_simp; done) | (go_simp; rfl)); intro f4 hg w2 hbox hb; refine sh3_ (below_step (bl_ HB) hb) hbox (ge_ hg (bl_ HB)) ?_; clear HB hb hbox hg; intro HB j l))
 go_loopg [3] k (fun kq v3 w' => ∃ (m : Int), v3 = iv_ m ∧ Aside0 (spec_IsSky.l0 kq m B s u E G I O J y T = some r) ∧ Aside0 (kq ≤ k) ∧ Aside0 (w'.heap[f4]? = some (.cells #[iv_ B, (.slice d4 s.length b3), (.slice a8 u.length b4), iv_ E, iv_ G, iv_ I, iv_ O, iv_ J, (.slice a9 y.length b5), iv_ T] 34 (0, 0))) ∧ Aside0 (Below w.heap.size w w'))
 case atStart => exact ⟨(0), (by first | rfl | (simp; done) | (simp [*]; done)), H', ⟨Nat.le_refl _⟩, ⟨by (with_reducible repeat (first | refine blk_drewN ?_ _ | refine blk_drew ?_ | refine blk_alloc ?_ _)); exact j.out⟩, ⟨bl1_ HB l⟩⟩
 case round =>
  clear H'
  obtain ⟨m, rfl, HA, a6, j, HB⟩ := hrel
  cases gk with
  | zero => exact absurd HA.out (by simp [spec_IsSky.l0])
  | succ k1 =>
   have H := HA.out
   clear HA
   simp only [spec_IsSky.l0] at H
   by_cases c3 : m < (s.length : Int)
   ·rw [if_pos c3] at H
    have l5 := decide_eq_true c3
    clear c3
    replace H := ifn_ H
    obtain ⟨c4, H⟩ := H
    have n6 := decide_eq_true c4
    clear c4
    replace H := bs_ H
    obtain ⟨m0, A5, H⟩ := H
    by_cases c6 : m0 = true
    ·subst c6
     rw [if_pos rfl] at H
     have H' := Aside0.mk H
     clear H
     have q4 := cf10_ j
     try go_wp2
     refine sh2_ (blk_drew j.out) (below_drew1 HB.out) ?_
     clear j HB
     intro j HB
     have d9 : 0 ≤ (m : Int) := od_
     have e0 : m < (s.length : Int) := od_
     obtain ⟨U, i1, c1, d0, d1, d2⟩ := at_T68 j6.out m d9 e0
     have c0 := d2
     have b9 := d1
     have b8 := d0
     have b7 := c1
     cases i1
     replace c1 := hbc_ HB c1
     replace d0 := hbc_ HB d0
     replace d1 := hbc_ HB d1
     replace d2 := hbc_ HB d2
     replace d9 := eq_true d9
     replace e0 := eq_true e0
     refine start_ (n := 9) (S := fun w' => Ck10 w' f4 (iv_ B) (.slice (some U) s.length b3) (.slice a8 u.length b4) (iv_ E) (iv_ G) (iv_ I) (iv_ O) (iv_ J) (.slice a9 y.length b5) (iv_ T) (w'.cell? (U.add ((m).toNat * 4)) = some (iv_ ((rd_T68 s m).f0)) ∧ w'.cell? ⟨(U.add ((m).toNat * 4)).block, (U.add ((m).toNat * 4)).off + 1, none⟩ = some (iv_ ((rd_T68 s m).f1)) ∧ w'.cell? ⟨(U.add ((m).toNat * 4)).block, (U.add ((m).toNat * 4)).off + 2, none⟩ = some (iv_ ((rd_T68 s m).f2)) ∧ w'.cell? ⟨(U.add ((m).toNat * 4)).block, (U.add ((m).toNat * 4)).off + 3, none⟩ = some (iv_ ((rd_T68 s m).f3)))) (ds := []) (bo_ 9 0) (by kernel_rfl) rfl rfl ⟨(bc_ j 0 rfl), (bc_ j 1 rfl), (bc_ j 2 rfl), (bc_ j 3 rfl), (bc_ j 4 rfl), (bc_ j 5 rfl), (bc_ j 6 rfl), (bc_ j 7 rfl), (bc_ j 8 rfl), (bc_ j 9 rfl), ((HB.out.cell (World.block_lt_of_cell? w _ b7)).trans b7), ((HB.out.cell (World.block_lt_of_cell? w _ b8)).trans b8), ((HB.out.cell (World.block_lt_of_cell? w _ b9)).trans b9), ((HB.out.cell (World.block_lt_of_cell? w _ c0)).trans c0)⟩ (fun hHeld => ?_); refine with_tabW spec_IsSky.tab4 spec_IsSky.bits4 (fun HT_ HW_ => ?_)
     generalize wr.drew = w8 at j HB c1 d0 d1 d2 hHeld ⊢
     refine pur_ 0 (bo_ 9 1) (some 15) HT_ ?_
     refine pur_ 2 (bo_ 9 5) (some 17) HT_ ?_
     refine pur_ 5 (bo_ 9 37) (some 20) HT_ ?_
     refine tak_ 1 (bo_ 9 39) (some 16) HT_ HW_ hHeld ?_
     refine pur_ 3 (bo_ 9 47) (some 18) HT_ ?_
     refine tak_ 4 (bo_ 9 63) (some 19) HT_ HW_ hHeld ?_
     refine tak_ 6 (bo_ 9 127) (some 21) HT_ HW_ hHeld ?_
     refine onc_ 7 (bo_ 9 255) (some 22) HT_ Tryz.func39 (spec_IsSat.calls ((rd_T68 s m).f0) ((rd_T68 s m).f1) ((rd_T68 s m).f2) ((rd_T68 s m).f3) B true _ A5.out) ?_
     rintro e w9 ⟨rfl, hb⟩
     refine sh2_ (blk_below (bk_ j) hb) (below_step (bl1_ HB l) hb) ?_
     clear j HB hb
     intro j HB
     refine ⟨_, _, rfl, ⟨(bc_ j 0 rfl), (bc_ j 1 rfl), (bc_ j 2 rfl), (bc_ j 3 rfl), (bc_ j 4 rfl), (bc_ j 5 rfl), (bc_ j 6 rfl), (bc_ j 7 rfl), (bc_ j 8 rfl), (bc_ j 9 rfl), ((HB.out.cell (World.block_lt_of_cell? w _ b7)).trans b7), ((HB.out.cell (World.block_lt_of_cell? w _ b8)).trans b8), ((HB.out.cell (World.block_lt_of_cell? w _ b9)).trans b9), ((HB.out.cell (World.block_lt_of_cell? w _ c0)).trans c0)⟩, pt_, fun hHeld => ?_⟩
     refine pur_ 8 (bo_ 9 511) (some 23) HT_ ?_
     refine done_ (done_of HT_.out (by kernel_rfl)) ?_
     try go_wp2
     go_roundg k1
     case measure => have := a6.out; omega
     case rel => exact ⟨(wrap64 (m + 1)), (by first | rfl | (simp; done) | (simp [*]; done)), H', ⟨by have := a6.out; omega⟩, ⟨by (with_reducible repeat (first | refine blk_drewN ?_ _ | refine blk_drew ?_ | refine blk_alloc ?_ _)); exact j.out⟩, ⟨bl1_ HB l⟩⟩
    ·replace c6 := Bool.eq_false_iff.mpr c6
     subst c6
     have x : (some false) = some r := by rw [if_neg (show ¬ (false = true) by decide)] at H; exact H
     clear H
     have H := x
     clear x
     obtain rfl := Option.some.inj H
     have n7 := cf10_ j
     try go_wp2
     refine sh2_ (blk_drew j.out) (below_drew1 HB.out) ?_
     clear j HB
     intro j HB
     have d9 : 0 ≤ (m : Int) := od_
     have e0 : m < (s.length : Int) := od_
     obtain ⟨U, i1, c1, d0, d1, d2⟩ := at_T68 j6.out m d9 e0
     have c0 := d2
     have b9 := d1
     have b8 := d0
     have b7 := c1
     cases i1
     replace c1 := hbc_ HB c1
     replace d0 := hbc_ HB d0
     replace d1 := hbc_ HB d1
     replace d2 := hbc_ HB d2
     replace d9 := eq_true d9
     replace e0 := eq_true e0
     refine start_ (n := 9) (S := fun w' => Ck10 w' f4 (iv_ B) (.slice (some U) s.length b3) (.slice a8 u.length b4) (iv_ E) (iv_ G) (iv_ I) (iv_ O) (iv_ J) (.slice a9 y.length b5) (iv_ T) (w'.cell? (U.add ((m).toNat * 4)) = some (iv_ ((rd_T68 s m).f0)) ∧ w'.cell? ⟨(U.add ((m).toNat * 4)).block, (U.add ((m).toNat * 4)).off + 1, none⟩ = some (iv_ ((rd_T68 s m).f1)) ∧ w'.cell? ⟨(U.add ((m).toNat * 4)).block, (U.add ((m).toNat * 4)).off + 2, none⟩ = some (iv_ ((rd_T68 s m).f2)) ∧ w'.cell? ⟨(U.add ((m).toNat * 4)).block, (U.add ((m).toNat * 4)).off + 3, none⟩ = some (iv_ ((rd_T68 s m).f3)))) (ds := []) (bo_ 9 0) (by kernel_rfl) rfl rfl ⟨(bc_ j 0 rfl), (bc_ j 1 rfl), (bc_ j 2 rfl), (bc_ j 3 rfl), (bc_ j 4 rfl), (bc_ j 5 rfl), (bc_ j 6 rfl), (bc_ j 7 rfl), (bc_ j 8 rfl), (bc_ j 9 rfl), ((HB.out.cell (World.block_lt_of_cell? w _ b7)).trans b7), ((HB.out.cell (World.block_lt_of_cell? w _ b8)).trans b8), ((HB.out.cell (World.block_lt_of_cell? w _ b9)).trans b9), ((HB.out.cell (World.block_lt_of_cell? w _ c0)).trans c0)⟩ (fun hHeld => ?_); refine with_tabW spec_IsSky.tab4 spec_IsSky.bits4 (fun HT_ HW_ => ?_)
     generalize wr.drew = u0 at j HB c1 d0 d1 d2 hHeld ⊢
     refine pur_ 0 (bo_ 9 1) (some 15) HT_ ?_
     refine pur_ 2 (bo_ 9 5) (some 17) HT_ ?_
     refine pur_ 5 (bo_ 9 37) (some 20) HT_ ?_
     refine tak_ 1 (bo_ 9 39) (some 16) HT_ HW_ hHeld ?_
     refine pur_ 3 (bo_ 9 47) (some 18) HT_ ?_
     refine tak_ 4 (bo_ 9 63) (some 19) HT_ HW_ hHeld ?_
     refine tak_ 6 (bo_ 9 127) (some 21) HT_ HW_ hHeld ?_
     refine onc_ 7 (bo_ 9 255) (some 22) HT_ Tryz.func39 (spec_IsSat.calls ((rd_T68 s m).f0) ((rd_T68 s m).f1) ((rd_T68 s m).f2) ((rd_T68 s m).f3) B false _ A5.out) ?_
     rintro e u1 ⟨rfl, hb⟩
     refine sh2_ (blk_below (bk_ j) hb) (below_step (bl1_ HB l) hb) ?_
     clear j HB hb
     intro j HB
     refine ⟨_, _, rfl, ⟨(bc_ j 0 rfl), (bc_ j 1 rfl), (bc_ j 2 rfl), (bc_ j 3 rfl), (bc_ j 4 rfl), (bc_ j 5 rfl), (bc_ j 6 rfl), (bc_ j 7 rfl), (bc_ j 8 rfl), (bc_ j 9 rfl), ((HB.out.cell (World.block_lt_of_cell? w _ b7)).trans b7), ((HB.out.cell (World.block_lt_of_cell? w _ b8)).trans b8), ((HB.out.cell (World.block_lt_of_cell? w _ b9)).trans b9), ((HB.out.cell (World.block_lt_of_cell? w _ c0)).trans c0)⟩, pt_, fun hHeld => ?_⟩
     refine pur_ 8 (bo_ 9 511) (some 23) HT_ ?_
     refine done_ (done_of HT_.out (by kernel_rfl)) ?_
     try go_wp2
     go_ret
     exact ⟨er_, bl1_ HB l⟩
   ·rw [if_neg c3] at H
    have l5 : decide (m < (s.length : Int)) = false := decide_eq_false c3
    clear c3
    have H' := Aside0.mk H
    clear H
    have n9 := cf10_ j
    go_wp2
    go_loopg [4] k1 (fun kq v4 w' => ∃ (z : Int), v4 = iv_ z ∧ Aside0 (spec_IsSky.l1 kq z B s u E G I O J y T = some r) ∧ Aside0 (kq ≤ k1) ∧ Aside0 (w'.heap[f4]? = some (.cells #[iv_ B, (.slice d4 s.length b3), (.slice a8 u.length b4), iv_ E, iv_ G, iv_ I, iv_ O, iv_ J, (.slice a9 y.length b5), iv_ T] 34 (0, 0))) ∧ Aside0 (Below w.heap.size w w'))
    case atStart => exact ⟨(0), (by first | rfl | (simp; done) | (simp [*]; done)), H', ⟨Nat.le_refl _⟩, ⟨by (with_reducible repeat (first | refine blk_drewN ?_ _ | refine blk_drew ?_ | refine blk_alloc ?_ _)); exact j.out⟩, ⟨bl1_ HB l⟩⟩
    case round =>
     clear H'
     obtain ⟨z, rfl, HA, d3, j, HB⟩ := hrel
     cases gk with
     | zero => exact absurd HA.out (by simp [spec_IsSky.l1])
     | succ k2 =>
      have H := HA.out
      clear HA
      simp only [spec_IsSky.l1] at H
      by_cases e3 : z < (u.length : Int)
      ·rw [if_pos e3] at H
       have k9 := decide_eq_true e3
       clear e3
       replace H := ifn_ H
       obtain ⟨j7, H⟩ := H
       have n4 := decide_eq_true j7
       clear j7
       by_cases e4 : ((rd_T70 u z).f0) < 0
       ·rw [if_pos e4] at H
        have l3 := decide_eq_true e4
        clear e4
        obtain rfl := Option.some.inj H
        have o0 := cf10_ j
        have L : 0 ≤ (z : Int) := od_
        have M : z < (u.length : Int) := od_
        obtain ⟨g1, b6, Z, a0, a1⟩ := at_T70 f6.out z L M
        cases b6
        replace Z := hbc_ HB Z
        replace a0 := hbc_ HB a0
        replace a1 := hbc_ HB a1
        replace L := eq_true L
        replace M := eq_true M
        go_wp2_with (first | ((with_reducible refine gate_dst (N := 5) rfl ?_); (try (refine gate_guard (by rfl) ?_; dsimp only)); refine box_event ?hg (N := 5) ?hd (cs := #[iv_ 0, iv_ 0, iv_ 0]) (t := 70) ?hr ?_; (case hd => rfl); (case hg => rfl); (case hr => first | (go_simp; done) | (go_simp; rfl)); intro h3 hg u2 hbox hb; refine sh6_ (blk_below (bk_ j) hb) (below_step (bl1_ HB l) hb) hbox (ge_ hg (bl1_ HB l)) (nl_ hg (bk_ j)) (ng_ hg (bk_ j)) ?_; clear j HB hb hbox hg; intro j HB b0 b1 a2 b2; have r7 := b2.out; have s6 := a2.out; have o1 := cf3_ b0))
        go_ret
        exact ⟨er_, bl2_ HB l b1⟩
       ·rw [if_neg e4] at H
        have l3 := decide_eq_false e4
        clear e4
        by_cases e5 : ((rd_T70 u z).f0) ≥ B
        ·rw [if_pos e5] at H
         have l4 : decide (B ≤ ((rd_T70 u z).f0)) = true := decide_eq_true e5
         clear e5
         obtain rfl := Option.some.inj H
         have o2 := cf10_ j
         have L : 0 ≤ (z : Int) := od_
         have M : z < (u.length : Int) := od_
         obtain ⟨g1, b6, Z, a0, a1⟩ := at_T70 f6.out z L M
         cases b6
         replace Z := hbc_ HB Z
         replace a0 := hbc_ HB a0
         replace a1 := hbc_ HB a1
         replace L := eq_true L
         replace M := eq_true M
         go_wp2_with (first | ((with_reducible refine gate_dst (N := 5) rfl ?_); (try (refine gate_guard (by rfl) ?_; dsimp only)); refine box_event ?hg (N := 5) ?hd (cs := #[iv_ 0, iv_ 0, iv_ 0]) (t := 70) ?hr ?_; (case hd => rfl); (case hg => rfl); (case hr => first | (go_simp; done) | (go_simp; rfl)); intro h3 hg u4 hbox hb; refine sh6_ (blk_below (bk_ j) hb) (below_step (bl1_ HB l) hb) hbox (ge_ hg (bl1_ HB l)) (nl_ hg (bk_ j)) (ng_ hg (bk_ j)) ?_; clear j HB hb hbox hg; intro j HB b0 b1 a2 b2; have r8 := b2.out; have s7 := a2.out; have o3 := cf3_ b0; have o4 := cf10_ j))
         go_ret
         exact ⟨er_, bl2_ HB l b1⟩
        ·rw [if_neg e5] at H
         have l4 : decide (B ≤ ((rd_T70 u z).f0)) = false := decide_eq_false e5
         clear e5
         replace H := bs_ H
         obtain ⟨m1, h6, H⟩ := H
         by_cases g2 : m1 = true
         ·subst g2
          rw [if_pos rfl] at H
          replace H := bs_ H
          obtain ⟨m2, j1, H⟩ := H
          by_cases g3 : m2 = true
          ·subst g3
           rw [if_pos rfl] at H
           have H' := Aside0.mk H
           clear H
           have o5 := cf10_ j
           have L : 0 ≤ (z : Int) := od_
           have M : z < (u.length : Int) := od_
           obtain ⟨g1, b6, Z, a0, a1⟩ := at_T70 f6.out z L M
           cases b6
           replace Z := hbc_ HB Z
           replace a0 := hbc_ HB a0
           replace a1 := hbc_ HB a1
           replace L := eq_true L
           replace M := eq_true M
           go_wp2_with (first | ((with_reducible refine gate_dst (N := 5) rfl ?_); (try (refine gate_guard (by rfl) ?_; dsimp only)); refine box_event ?hg (N := 5) ?hd (cs := #[iv_ 0, iv_ 0, iv_ 0]) (t := 70) ?hr ?_; (case hd => rfl); (case hg => rfl); (case hr => first | (go_simp; done) | (go_simp; rfl)); intro h3 hg u5 hbox hb; refine sh6_ (blk_below (bk_ j) hb) (below_step (bl1_ HB l) hb) hbox (ge_ hg (bl1_ HB l)) (nl_ hg (bk_ j)) (ng_ hg (bk_ j)) ?_; clear j HB hb hbox hg; intro j HB b0 b1 a2 b2; have r9 := b2.out; have s8 := a2.out; have o6 := cf3_ b0; have o7 := cf10_ j) | (go_at_call 40; (with_reducible refine (spec_l1In.calls ((rd_T70 u z).f1) 0 359 true _ h6.out).mono ?_); rintro e w' ⟨rfl, ⟨nd, rfl⟩⟩) | (go_at_call 41; (with_reducible refine (spec_l7Turn.calls ((rd_T70 u z).f2) true _ j1.out).mono ?_); rintro e w' ⟨rfl, ⟨nd, rfl⟩⟩))
           go_roundg k2
           case measure => have := a6.out; have := d3.out; omega
           case rel => exact ⟨(wrap64 (z + 1)), (by first | rfl | (simp; done) | (simp [*]; done)), H', ⟨by have := a6.out; have := d3.out; omega⟩, ⟨by (with_reducible repeat (first | refine blk_drewN ?_ _ | refine blk_drew ?_ | refine blk_alloc ?_ _)); refine blk_far ?_ a2.out _; (with_reducible repeat (first | refine blk_drewN ?_ _ | refine blk_drew ?_ | refine blk_alloc ?_ _)); refine blk_far ?_ a2.out _; (with_reducible repeat (first | refine blk_drewN ?_ _ | refine blk_drew ?_ | refine blk_alloc ?_ _)); refine blk_far ?_ a2.out _; (with_reducible repeat (first | refine blk_drewN ?_ _ | refine blk_drew ?_ | refine blk_alloc ?_ _)); exact j.out⟩, ⟨bl2_ HB l b1⟩⟩
          ·replace g3 := Bool.eq_false_iff.mpr g3
           subst g3
           have x : (some false) = some r := by rw [if_neg (show ¬ (false = true) by decide)] at H; exact H
           clear H
           have H := x
           clear x
           obtain rfl := Option.some.inj H
           have o8 := cf10_ j
           have L : 0 ≤ (z : Int) := od_
           have M : z < (u.length : Int) := od_
           obtain ⟨g1, b6, Z, a0, a1⟩ := at_T70 f6.out z L M
           cases b6
           replace Z := hbc_ HB Z
           replace a0 := hbc_ HB a0
           replace a1 := hbc_ HB a1
           replace L := eq_true L
           replace M := eq_true M
           go_wp2_with (first | ((with_reducible refine gate_dst (N := 5) rfl ?_); (try (refine gate_guard (by rfl) ?_; dsimp only)); refine box_event ?hg (N := 5) ?hd (cs := #[iv_ 0, iv_ 0, iv_ 0]) (t := 70) ?hr ?_; (case hd => rfl); (case hg => rfl); (case hr => first | (go_simp; done) | (go_simp; rfl)); intro h3 hg u6 hbox hb; refine sh6_ (blk_below (bk_ j) hb) (below_step (bl1_ HB l) hb) hbox (ge_ hg (bl1_ HB l)) (nl_ hg (bk_ j)) (ng_ hg (bk_ j)) ?_; clear j HB hb hbox hg; intro j HB b0 b1 a2 b2; have s0 := b2.out; have s9 := a2.out; have o9 := cf3_ b0; have p0 := cf10_ j) | (go_at_call 40; (with_reducible refine (spec_l1In.calls ((rd_T70 u z).f1) 0 359 true _ h6.out).mono ?_); rintro e w' ⟨rfl, ⟨nd, rfl⟩⟩) | (go_at_call 41; (with_reducible refine (spec_l7Turn.calls ((rd_T70 u z).f2) false _ j1.out).mono ?_); rintro e w' ⟨rfl, ⟨nd, rfl⟩⟩))
           go_ret
           exact ⟨er_, bl2_ HB l b1⟩
         ·replace g2 := Bool.eq_false_iff.mpr g2
          subst g2
          have x : (some false) = some r := by rw [if_neg (show ¬ (false = true) by decide)] at H; exact H
          clear H
          have H := x
          clear x
          obtain rfl := Option.some.inj H
          have p1 := cf10_ j
          have L : 0 ≤ (z : Int) := od_
          have M : z < (u.length : Int) := od_
          obtain ⟨g1, b6, Z, a0, a1⟩ := at_T70 f6.out z L M
          cases b6
          replace Z := hbc_ HB Z
          replace a0 := hbc_ HB a0
          replace a1 := hbc_ HB a1
          replace L := eq_true L
          replace M := eq_true M
          go_wp2_with (first | ((with_reducible refine gate_dst (N := 5) rfl ?_); (try (refine gate_guard (by rfl) ?_; dsimp only)); refine box_event ?hg (N := 5) ?hd (cs := #[iv_ 0, iv_ 0, iv_ 0]) (t := 70) ?hr ?_; (case hd => rfl); (case hg => rfl); (case hr => first | (go_simp; done) | (go_simp; rfl)); intro h3 hg u7 hbox hb; refine sh6_ (blk_below (bk_ j) hb) (below_step (bl1_ HB l) hb) hbox (ge_ hg (bl1_ HB l)) (nl_ hg (bk_ j)) (ng_ hg (bk_ j)) ?_; clear j HB hb hbox hg; intro j HB b0 b1 a2 b2; have s1 := b2.out; have t0 := a2.out; have p2 := cf3_ b0; have p3 := cf10_ j) | (go_at_call 40; (with_reducible refine (spec_l1In.calls ((rd_T70 u z).f1) 0 359 false _ h6.out).mono ?_); rintro e w' ⟨rfl, ⟨nd, rfl⟩⟩))
          go_ret
          exact ⟨er_, bl2_ HB l b1⟩
      ·rw [if_neg e3] at H
       have k9 : decide (z < (u.length : Int)) = false := decide_eq_false e3
       clear e3
       have H' := Aside0.mk H
       clear H
       have p4 := cf10_ j
       go_wp2
       go_loopg [6] k2 (fun kq v6 w' => ∃ (D : Int), v6 = iv_ D ∧ Aside0 (spec_IsSky.l2 kq D B s u E G I O J y T = some r) ∧ Aside0 (kq ≤ k2) ∧ Aside0 (w'.heap[f4]? = some (.cells #[iv_ B, (.slice d4 s.length b3), (.slice a8 u.length b4), iv_ E, iv_ G, iv_ I, iv_ O, iv_ J, (.slice a9 y.length b5), iv_ T] 34 (0, 0))) ∧ Aside0 (Below w.heap.size w w'))
       case atStart => exact ⟨(0), (by first | rfl | (simp; done) | (simp [*]; done)), H', ⟨Nat.le_refl _⟩, ⟨by (with_reducible repeat (first | refine blk_drewN ?_ _ | refine blk_drew ?_ | refine blk_alloc ?_ _)); exact j.out⟩, ⟨bl1_ HB l⟩⟩
       case round =>
        clear H'
        obtain ⟨D, rfl, HA, e2, j, HB⟩ := hrel
        cases gk with
        | zero => exact absurd HA.out (by simp [spec_IsSky.l2])
        | succ k3 =>
         have H := HA.out
         clear HA
         simp only [spec_IsSky.l2] at H
         by_cases e6 : D < (y.length : Int)
         ·rw [if_pos e6] at H
          have l6 := decide_eq_true e6
          clear e6
          replace H := ifn_ H
          obtain ⟨j8, H⟩ := H
          have n5 := decide_eq_true j8
          clear j8
          by_cases e7 : ((rd_T76 y D).f0) < 0
          ·rw [if_pos e7] at H
           have l7 := decide_eq_true e7
           clear e7
           obtain rfl := Option.some.inj H
           have p5 := cf10_ j
           have X : 0 ≤ (D : Int) := od_
           have Y : D < (y.length : Int) := od_
           obtain ⟨i0, d8, a3, a4, a5⟩ := at_T76 g0.out D X Y
           cases d8
           replace a3 := hbc_ HB a3
           replace a4 := hbc_ HB a4
           replace a5 := hbc_ HB a5
           replace X := eq_true X
           replace Y := eq_true Y
           go_wp2_with (first | ((with_reducible refine gate_dst (N := 7) rfl ?_); (try (refine gate_guard (by rfl) ?_; dsimp only)); refine box_event ?hg (N := 7) ?hd (cs := #[iv_ 0, iv_ 0, iv_ 0]) (t := 76) ?hr ?_; (case hd => rfl); (case hg => rfl); (case hr => first | (go_simp; done) | (go_simp; rfl)); intro i2 hg u8 hbox hb; refine sh6_ (blk_below (bk_ j) hb) (below_step (bl1_ HB l) hb) hbox (ge_ hg (bl1_ HB l)) (nl_ hg (bk_ j)) (ng_ hg (bk_ j)) ?_; clear j HB hb hbox hg; intro j HB d5 d6 a7 d7; have s2 := d7.out; have t1 := a7.out; have p6 := cf3_ d5))
           go_ret
           exact ⟨er_, bl2_ HB l d6⟩
          ·rw [if_neg e7] at H
           have l7 := decide_eq_false e7
           clear e7
           by_cases e8 : ((rd_T76 y D).f0) ≥ B
           ·rw [if_pos e8] at H
            have l8 : decide (B ≤ ((rd_T76 y D).f0)) = true := decide_eq_true e8
            clear e8
            obtain rfl := Option.some.inj H
            have p7 := cf10_ j
            have X : 0 ≤ (D : Int) := od_
            have Y : D < (y.length : Int) := od_
            obtain ⟨i0, d8, a3, a4, a5⟩ := at_T76 g0.out D X Y
            cases d8
            replace a3 := hbc_ HB a3
            replace a4 := hbc_ HB a4
            replace a5 := hbc_ HB a5
            replace X := eq_true X
            replace Y := eq_true Y
            go_wp2_with (first | ((with_reducible refine gate_dst (N := 7) rfl ?_); (try (refine gate_guard (by rfl) ?_; dsimp only)); refine box_event ?hg (N := 7) ?hd (cs := #[iv_ 0, iv_ 0, iv_ 0]) (t := 76) ?hr ?_; (case hd => rfl); (case hg => rfl); (case hr => first | (go_simp; done) | (go_simp; rfl)); intro i2 hg u9 hbox hb; refine sh6_ (blk_below (bk_ j) hb) (below_step (bl1_ HB l) hb) hbox (ge_ hg (bl1_ HB l)) (nl_ hg (bk_ j)) (ng_ hg (bk_ j)) ?_; clear j HB hb hbox hg; intro j HB d5 d6 a7 d7; have s3 := d7.out; have t2 := a7.out; have p8 := cf3_ d5; have p9 := cf10_ j))
            go_ret
            exact ⟨er_, bl2_ HB l d6⟩
           ·rw [if_neg e8] at H
            have l8 : decide (B ≤ ((rd_T76 y D).f0)) = false := decide_eq_false e8
            clear e8
            replace H := bs_ H
            obtain ⟨m3, j4, H⟩ := H
            by_cases g4 : m3 = true
            ·subst g4
             rw [if_pos rfl] at H
             have H' := Aside0.mk H
             clear H
             have q0 := cf10_ j
             have X : 0 ≤ (D : Int) := od_
             have Y : D < (y.length : Int) := od_
             obtain ⟨i0, d8, a3, a4, a5⟩ := at_T76 g0.out D X Y
             cases d8
             replace a3 := hbc_ HB a3
             replace a4 := hbc_ HB a4
             replace a5 := hbc_ HB a5
             replace X := eq_true X
             replace Y := eq_true Y
             go_wp2_with (first | ((with_reducible refine gate_dst (N := 7) rfl ?_); (try (refine gate_guard (by rfl) ?_; dsimp only)); refine box_event ?hg (N := 7) ?hd (cs := #[iv_ 0, iv_ 0, iv_ 0]) (t := 76) ?hr ?_; (case hd => rfl); (case hg => rfl); (case hr => first | (go_simp; done) | (go_simp; rfl)); intro i2 hg v0 hbox hb; refine sh6_ (blk_below (bk_ j) hb) (below_step (bl1_ HB l) hb) hbox (ge_ hg (bl1_ HB l)) (nl_ hg (bk_ j)) (ng_ hg (bk_ j)) ?_; clear j HB hb hbox hg; intro j HB d5 d6 a7 d7; have s4 := d7.out; have t3 := a7.out; have q1 := cf3_ d5; have q2 := cf10_ j) | (go_at_call 40; (with_reducible refine (spec_l1In.calls ((rd_T76 y D).f1.f1) 0 359 true _ j4.out).mono ?_); rintro e w' ⟨rfl, ⟨nd, rfl⟩⟩))
             go_roundg k3
             case measure => have := a6.out; have := d3.out; have := e2.out; omega
             case rel => exact ⟨(wrap64 (D + 1)), (by first | rfl | (simp; done) | (simp [*]; done)), H', ⟨by have := a6.out; have := d3.out; have := e2.out; omega⟩, ⟨by (with_reducible repeat (first | refine blk_drewN ?_ _ | refine blk_drew ?_ | refine blk_alloc ?_ _)); refine blk_far ?_ a7.out _; (with_reducible repeat (first | refine blk_drewN ?_ _ | refine blk_drew ?_ | refine blk_alloc ?_ _)); refine blk_far ?_ a7.out _; (with_reducible repeat (first | refine blk_drewN ?_ _ | refine blk_drew ?_ | refine blk_alloc ?_ _)); refine blk_far ?_ a7.out _; (with_reducible repeat (first | refine blk_drewN ?_ _ | refine blk_drew ?_ | refine blk_alloc ?_ _)); exact j.out⟩, ⟨bl2_ HB l d6⟩⟩
            ·replace g4 := Bool.eq_false_iff.mpr g4
             subst g4
             have x : (some false) = some r := by rw [if_neg (show ¬ (false = true) by decide)] at H; exact H
             clear H
             have H := x
             clear x
             obtain rfl := Option.some.inj H
             have q3 := cf10_ j
             have X : 0 ≤ (D : Int) := od_
             have Y : D < (y.length : Int) := od_
             obtain ⟨i0, d8, a3, a4, a5⟩ := at_T76 g0.out D X Y
             cases d8
             replace a3 := hbc_ HB a3
             replace a4 := hbc_ HB a4
             replace a5 := hbc_ HB a5
             replace X := eq_true X
             replace Y := eq_true Y
             go_wp2_with (first | ((with_reducible refine gate_dst (N := 7) rfl ?_); (try (refine gate_guard (by rfl) ?_; dsimp only)); refine box_event ?hg (N := 7) ?hd (cs := #[iv_ 0, iv_ 0, iv_ 0]) (t := 76) ?hr ?_; (case hd => rfl); (case hg => rfl); (case hr => first | (go_simp; done) | (go_simp; rfl)); intro i2 hg v1 hbox hb; refine sh6_ (blk_below (bk_ j) hb) (below_step (bl1_ HB l) hb) hbox (ge_ hg (bl1_ HB l)) (nl_ hg (bk_ j)) (ng_ hg (bk_ j)) ?_; clear j HB hb hbox hg; intro j HB d5 d6 a7 d7; have s5 := d7.out; have t4 := a7.out; have q5 := cf3_ d5; have q6 := cf10_ j) | (go_at_call 40; (with_reducible refine (spec_l1In.calls ((rd_T76 y D).f1.f1) 0 359 false _ j4.out).mono ?_); rintro e w' ⟨rfl, ⟨nd, rfl⟩⟩))
             go_ret
             exact ⟨er_, bl2_ HB l d6⟩
         ·rw [if_neg e6] at H
          have l6 : decide (D < (y.length : Int)) = false := decide_eq_false e6
          clear e6
          have h9 := Aside0.mk H
          clear H
          have q7 := cf10_ j
          go_upto_region 18 with (fail)
          go_cut [109] (fun m6 wc => ∃ (kq : Nat) (h5 : Bool), m6 = .bool h5 ∧ Aside0 (spec_IsSky.j3 kq h5 B s u E G I O J y T = some r) ∧ Aside0 (kq ≤ k3) ∧ Aside0 (wc.heap[f4]? = some (.cells #[iv_ B, (.slice d4 s.length b3), (.slice a8 u.length b4), iv_ E, iv_ G, iv_ I, iv_ O, iv_ J, (.slice a9 y.length b5), iv_ T] 34 (0, 0))) ∧ Aside0 (Below w.heap.size w wc))
          case first =>
           have H := h9.out
           clear h9
           replace H := bs_ H
           obtain ⟨m4, f8, H⟩ := H
           by_cases g5 : m4 = true
           ·subst g5
            rw [if_pos rfl] at H
            replace H := bs_ H
            obtain ⟨m5, h7, H⟩ := H
            by_cases g6 : m5 = true
            ·subst g6
             rw [if_pos rfl] at H
             by_cases e9 : (u.length : Int) > 4
             ·rw [if_pos e9] at H
              have f7 : decide (4 < (u.length : Int)) = true := decide_eq_true e9
              have l9 : decide (4 < u.length) = true := decide_eq_true (by omega)
              clear e9
              (first | rw [f7] | (simp only [i64_w, i32_w]; rw [f7]) | skip)
              have H' := Aside0.mk H
              clear H
              have q8 := cf10_ j
              go_wp2_with (first | ((with_reducible refine gate_callee (f := 40) rfl ?_); refine gl_ 89 Tryz.func40 (spec_l1In.calls B 1 4 true _ f8.out) ?_; rintro e w' ⟨rfl, ⟨nd, rfl⟩⟩; refine ⟨_, rfl, ?_⟩) | (go_at_call 40; (with_reducible refine (spec_l1In.calls (s.length : Int) 1 8 true _ h7.out).mono ?_); rintro e w' ⟨rfl, ⟨nd, rfl⟩⟩))
              go_meet
              case rel => exact ⟨_, (true), (by first | rfl | (simp; done) | (simp [*]; done)), H', ⟨by have := a6.out; have := d3.out; have := e2.out; first | omega | exact Nat.le_refl _⟩, ⟨by (with_reducible repeat (first | refine blk_drewN ?_ _ | refine blk_drew ?_ | refine blk_alloc ?_ _)); exact j.out⟩, ⟨bl1_ HB l⟩⟩
             ·rw [if_neg e9] at H
              have f7 : decide (4 < (u.length : Int)) = false := decide_eq_false e9
              have l9 : decide (4 < u.length) = false := decide_eq_false (by omega)
              clear e9
              (first | rw [f7] | (simp only [i64_w, i32_w]; rw [f7]) | skip)
              have H' := Aside0.mk H
              clear H
              have q9 := cf10_ j
              go_wp2_with (first | ((with_reducible refine gate_callee (f := 40) rfl ?_); refine gl_ 89 Tryz.func40 (spec_l1In.calls B 1 4 true _ f8.out) ?_; rintro e w' ⟨rfl, ⟨nd, rfl⟩⟩; refine ⟨_, rfl, ?_⟩) | (go_at_call 40; (with_reducible refine (spec_l1In.calls (s.length : Int) 1 8 true _ h7.out).mono ?_); rintro e w' ⟨rfl, ⟨nd, rfl⟩⟩))
              go_meet
              case rel => exact ⟨_, (decide ((y.length : Int) > 4)), (by first | rfl | (simp; done) | (simp [*]; done)), H', ⟨by have := a6.out; have := d3.out; have := e2.out; first | omega | exact Nat.le_refl _⟩, ⟨by (with_reducible repeat (first | refine blk_drewN ?_ _ | refine blk_drew ?_ | refine blk_alloc ?_ _)); exact j.out⟩, ⟨bl1_ HB l⟩⟩
            ·replace g6 := Bool.eq_false_iff.mpr g6
             subst g6
             have x : (spec_IsSky.j3 k3 true B s u E G I O J y T) = some r := by rw [if_neg (show ¬ (false = true) by decide)] at H; exact H
             clear H
             have H := x
             clear x
             have H' := Aside0.mk H
             clear H
             have r0 := cf10_ j
             go_wp2_with (first | ((with_reducible refine gate_callee (f := 40) rfl ?_); refine gl_ 89 Tryz.func40 (spec_l1In.calls B 1 4 true _ f8.out) ?_; rintro e w' ⟨rfl, ⟨nd, rfl⟩⟩; refine ⟨_, rfl, ?_⟩) | (go_at_call 40; (with_reducible refine (spec_l1In.calls (s.length : Int) 1 8 false _ h7.out).mono ?_); rintro e w' ⟨rfl, ⟨nd, rfl⟩⟩))
             go_meet
             case rel => exact ⟨_, (true), (by first | rfl | (simp; done) | (simp [*]; done)), H', ⟨by have := a6.out; have := d3.out; have := e2.out; first | omega | exact Nat.le_refl _⟩, ⟨by (with_reducible repeat (first | refine blk_drewN ?_ _ | refine blk_drew ?_ | refine blk_alloc ?_ _)); exact j.out⟩, ⟨bl1_ HB l⟩⟩
           ·replace g5 := Bool.eq_false_iff.mpr g5
            subst g5
            have x : (spec_IsSky.j3 k3 true B s u E G I O J y T) = some r := by rw [if_neg (show ¬ (false = true) by decide)] at H; exact H
            clear H
            have H := x
            clear x
            have H' := Aside0.mk H
            clear H
            have r1 := cf10_ j
            go_wp2_with (first | ((with_reducible refine gate_callee (f := 40) rfl ?_); refine gl_ 89 Tryz.func40 (spec_l1In.calls B 1 4 false _ f8.out) ?_; rintro e w' ⟨rfl, ⟨nd, rfl⟩⟩; refine ⟨_, rfl, ?_⟩))
            go_meet
            case rel => exact ⟨_, (true), (by first | rfl | (simp; done) | (simp [*]; done)), H', ⟨by have := a6.out; have := d3.out; have := e2.out; first | omega | exact Nat.le_refl _⟩, ⟨by (with_reducible repeat (first | refine blk_drewN ?_ _ | refine blk_drew ?_ | refine blk_alloc ?_ _)); exact j.out⟩, ⟨bl1_ HB l⟩⟩
          case rest =>
           clear h9
           obtain ⟨kq, h5, rfl, HA, n3, j, HB⟩ := hcut
           cases kq with
           | zero => exact absurd HA.out (by simp [spec_IsSky.j3])
           | succ t9 =>
            have H := HA.out
            clear HA
            simp only [spec_IsSky.j3] at H
            by_cases g7 : h5 = true
            ·subst g7
             rw [if_pos rfl] at H
             obtain rfl := Option.some.inj H
             go_wp2
             go_ret
             exact ⟨er_, bl1_ HB l⟩
            ·replace g7 := Bool.eq_false_iff.mpr g7
             subst g7
             have x : ((spec_l7Half.f E).bind fun i5 => (if i5 = true then ((spec_l7Half.f G).bind fun i6 => (if i6 = true then ((spec_l7Half.f I).bind fun i7 => (if i7 = true then ((spec_l7Half.f J).bind fun i8 => (if i8 = true then ((spec_l7Turn.f O).bind fun i9 => (if i9 = true then ((spec_l1In.f T 0 20).bind fun j0 => (some j0)) else (some false))) else (some false))) else (some false))) else (some false))) else (some false))) = some r := by rw [if_neg (show ¬ (false = true) by decide)] at H; exact H
             clear H
             have H := x
             clear x
             replace H := bs_ H
             obtain ⟨i5, e1, H⟩ := H
             by_cases g8 : i5 = true
             ·subst g8
              rw [if_pos rfl] at H
              replace H := bs_ H
              obtain ⟨i6, f5, H⟩ := H
              by_cases g9 : i6 = true
              ·subst g9
               rw [if_pos rfl] at H
               replace H := bs_ H
               obtain ⟨i7, f9, H⟩ := H
               by_cases h0 : i7 = true
               ·subst h0
                rw [if_pos rfl] at H
                replace H := bs_ H
                obtain ⟨i8, h8, H⟩ := H
                by_cases h1 : i8 = true
                ·subst h1
                 rw [if_pos rfl] at H
                 replace H := bs_ H
                 obtain ⟨i9, j5, H⟩ := H
                 by_cases h2 : i9 = true
                 ·subst h2
                  rw [if_pos rfl] at H
                  replace H := bs_ H
                  obtain ⟨j0, k8, H⟩ := H
                  obtain rfl := Option.some.inj H
                  have r2 := cf10_ j
                  go_wp2_with (first | ((with_reducible refine gate_callee (f := 42) rfl ?_); refine gl_ 112 Tryz.func42 (spec_l7Half.calls E true _ e1.out) ?_; rintro e w' ⟨rfl, ⟨nd, rfl⟩⟩; refine ⟨_, rfl, ?_⟩) | (go_at_call 42; (with_reducible refine (spec_l7Half.calls G true _ f5.out).mono ?_); rintro e w' ⟨rfl, ⟨nd, rfl⟩⟩) | (go_at_call 42; (with_reducible refine (spec_l7Half.calls I true _ f9.out).mono ?_); rintro e w' ⟨rfl, ⟨nd, rfl⟩⟩) | (go_at_call 42; (with_reducible refine (spec_l7Half.calls J true _ h8.out).mono ?_); rintro e w' ⟨rfl, ⟨nd, rfl⟩⟩) | (go_at_call 41; (with_reducible refine (spec_l7Turn.calls O true _ j5.out).mono ?_); rintro e w' ⟨rfl, ⟨nd, rfl⟩⟩) | (go_at_call 40; (with_reducible refine (spec_l1In.calls T 0 20 j0 _ k8.out).mono ?_); rintro e w' ⟨rfl, ⟨nd, rfl⟩⟩))
                  go_ret
                  exact ⟨er_, bl1_ HB l⟩
                 ·replace h2 := Bool.eq_false_iff.mpr h2
                  subst h2
                  have x : (some false) = some r := by rw [if_neg (show ¬ (false = true) by decide)] at H; exact H
                  clear H
                  have H := x
                  clear x
                  obtain rfl := Option.some.inj H
                  have r3 := cf10_ j
                  go_wp2_with (first | ((with_reducible refine gate_callee (f := 42) rfl ?_); refine gl_ 112 Tryz.func42 (spec_l7Half.calls E true _ e1.out) ?_; rintro e w' ⟨rfl, ⟨nd, rfl⟩⟩; refine ⟨_, rfl, ?_⟩) | (go_at_call 42; (with_reducible refine (spec_l7Half.calls G true _ f5.out).mono ?_); rintro e w' ⟨rfl, ⟨nd, rfl⟩⟩) | (go_at_call 42; (with_reducible refine (spec_l7Half.calls I true _ f9.out).mono ?_); rintro e w' ⟨rfl, ⟨nd, rfl⟩⟩) | (go_at_call 42; (with_reducible refine (spec_l7Half.calls J true _ h8.out).mono ?_); rintro e w' ⟨rfl, ⟨nd, rfl⟩⟩) | (go_at_call 41; (with_reducible refine (spec_l7Turn.calls O false _ j5.out).mono ?_); rintro e w' ⟨rfl, ⟨nd, rfl⟩⟩))
                  go_ret
                  exact ⟨er_, bl1_ HB l⟩
                ·replace h1 := Bool.eq_false_iff.mpr h1
                 subst h1
                 have x : (some false) = some r := by rw [if_neg (show ¬ (false = true) by decide)] at H; exact H
                 clear H
                 have H := x
                 clear x
                 obtain rfl := Option.some.inj H
                 have r4 := cf10_ j
                 go_wp2_with (first | ((with_reducible refine gate_callee (f := 42) rfl ?_); refine gl_ 112 Tryz.func42 (spec_l7Half.calls E true _ e1.out) ?_; rintro e w' ⟨rfl, ⟨nd, rfl⟩⟩; refine ⟨_, rfl, ?_⟩) | (go_at_call 42; (with_reducible refine (spec_l7Half.calls G true _ f5.out).mono ?_); rintro e w' ⟨rfl, ⟨nd, rfl⟩⟩) | (go_at_call 42; (with_reducible refine (spec_l7Half.calls I true _ f9.out).mono ?_); rintro e w' ⟨rfl, ⟨nd, rfl⟩⟩) | (go_at_call 42; (with_reducible refine (spec_l7Half.calls J false _ h8.out).mono ?_); rintro e w' ⟨rfl, ⟨nd, rfl⟩⟩))
                 go_ret
                 exact ⟨er_, bl1_ HB l⟩
               ·replace h0 := Bool.eq_false_iff.mpr h0
                subst h0
                have x : (some false) = some r := by rw [if_neg (show ¬ (false = true) by decide)] at H; exact H
                clear H
                have H := x
                clear x
                obtain rfl := Option.some.inj H
                have r5 := cf10_ j
                go_wp2_with (first | ((with_reducible refine gate_callee (f := 42) rfl ?_); refine gl_ 112 Tryz.func42 (spec_l7Half.calls E true _ e1.out) ?_; rintro e w' ⟨rfl, ⟨nd, rfl⟩⟩; refine ⟨_, rfl, ?_⟩) | (go_at_call 42; (with_reducible refine (spec_l7Half.calls G true _ f5.out).mono ?_); rintro e w' ⟨rfl, ⟨nd, rfl⟩⟩) | (go_at_call 42; (with_reducible refine (spec_l7Half.calls I false _ f9.out).mono ?_); rintro e w' ⟨rfl, ⟨nd, rfl⟩⟩))
                go_ret
                exact ⟨er_, bl1_ HB l⟩
              ·replace g9 := Bool.eq_false_iff.mpr g9
               subst g9
               have x : (some false) = some r := by rw [if_neg (show ¬ (false = true) by decide)] at H; exact H
               clear H
               have H := x
               clear x
               obtain rfl := Option.some.inj H
               have r6 := cf10_ j
               go_wp2_with (first | ((with_reducible refine gate_callee (f := 42) rfl ?_); refine gl_ 112 Tryz.func42 (spec_l7Half.calls E true _ e1.out) ?_; rintro e w' ⟨rfl, ⟨nd, rfl⟩⟩; refine ⟨_, rfl, ?_⟩) | (go_at_call 42; (with_reducible refine (spec_l7Half.calls G false _ f5.out).mono ?_); rintro e w' ⟨rfl, ⟨nd, rfl⟩⟩))
               go_ret
               exact ⟨er_, bl1_ HB l⟩
             ·replace g8 := Bool.eq_false_iff.mpr g8
              subst g8
              have x : (some false) = some r := by rw [if_neg (show ¬ (false = true) by decide)] at H; exact H
              clear H
              have H := x
              clear x
              obtain rfl := Option.some.inj H
              have n8 := cf10_ j
              go_wp2_with (first | ((with_reducible refine gate_callee (f := 42) rfl ?_); refine gl_ 112 Tryz.func42 (spec_l7Half.calls E false _ e1.out) ?_; rintro e w' ⟨rfl, ⟨nd, rfl⟩⟩; refine ⟨_, rfl, ?_⟩))
              go_ret
              exact ⟨er_, bl1_ HB l⟩

end Go.Proofs.YtpjhdehbikohmaaGreat.PFnExactPlanOf
