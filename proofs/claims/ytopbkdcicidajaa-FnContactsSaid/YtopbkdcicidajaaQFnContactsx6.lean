-- Written by a program of this session for this claim (the kit's printer with changes).
import Derived.Test.YtopbkdcicidajaaQFnContactsx0
import Derived.Test.YtopbkdcicidajaaQFnContactsx5
namespace Go.Proofs.Ytopbkdcicidajaa.PFnContacts
open Go.RowKit Go.Proofs.YtopbkdcicidajaaW.PrintWords Go.Proofs.YtopbkdcicidajaaW.PrintLast Go.Proofs.YtopbkdcicidajaaW.PrintMore
attribute [local go_sem] max2_int min2_int max_two min_two max_three min_three max_four min_four   -- for this text's walks alone
set_option linter.unusedVariables false
set_option maxHeartbeats 8000000
set_option maxRecDepth 100000
set_option linter.unusedSimpArgs false

/-! ### spec_Mod: function 118 -/
def spec_Mod.f (l j : Int) : Option (Int) := (spec_l1In.f j 1 1000000000000).bind fun m => (if m = true then (if j = 0 then (none) else (some (Int.tmod (wrap64 ((Int.tmod l j) + j)) j))) else (some 0))
theorem spec_Mod.calls (s j r : Int) (w : World) (h : spec_Mod.f s j = some r) :
  Calls Try.prog 118 #[iv_ s, iv_ j] w fun e w' => e = .returned (iv_ r) ∧ Drawn0 w w' := by
 have H := h
 clear h
 unfold spec_Mod.f at H
 replace H := bs_ H
 obtain ⟨u, l, H⟩ := H
 by_cases c4 : u = true
 ·subst c4
  rw [if_pos rfl] at H
  by_cases c5 : j = 0
  ·rw [if_pos c5] at H
   exact absurd H (by simp)
  ·rw [if_neg c5] at H
   obtain ⟨x, y⟩ := bn_ c5
   obtain rfl := Option.some.inj H
   go_enter Try.func118, Try.ntmps118
   go_wp2_with (first | ((with_reducible refine gate_callee (f := 124) rfl ?_); refine gl_ 6 Try.func124 (spec_l1In.calls j 1 1000000000000 true _ l.out) ?_; rintro e w' ⟨rfl, ⟨nd, rfl⟩⟩; refine ⟨_, rfl, ?_⟩))
   go_ret
   exact ⟨by first | rfl | (simp; done) | (simp [*]; done), by repeat (first | exact Drawn0.refl _ | apply Drawn0.step)⟩
 ·replace c4 := Bool.eq_false_iff.mpr c4
  subst c4
  have m : (some 0) = some r := by rw [if_neg (show ¬ (false = true) by decide)] at H; exact H
  clear H
  have H := m
  clear m
  obtain rfl := Option.some.inj H
  go_enter Try.func118, Try.ntmps118
  go_wp2_with (first | ((with_reducible refine gate_callee (f := 124) rfl ?_); refine gl_ 6 Try.func124 (spec_l1In.calls j 1 1000000000000 false _ l.out) ?_; rintro e w' ⟨rfl, ⟨nd, rfl⟩⟩; refine ⟨_, rfl, ?_⟩))
  go_ret
  exact ⟨by first | rfl | (simp; done) | (simp [*]; done), by repeat (first | exact Drawn0.refl _ | apply Drawn0.step)⟩

/-! ### spec_AngleOf: function 97 -/
def spec_AngleOf.f (j : Int) : Option (Int) := (spec_Mod.f j 360).bind fun l => (some l)
theorem spec_AngleOf.calls (j r : Int) (w : World) (h : spec_AngleOf.f j = some r) :
  Calls Try.prog 97 #[iv_ j] w fun e w' => e = .returned (iv_ r) ∧ Drawn0 w w' := by
 have H := h
 clear h
 unfold spec_AngleOf.f at H
 replace H := bs_ H
 obtain ⟨m, l, H⟩ := H
 obtain rfl := Option.some.inj H
 go_enter Try.func97, Try.ntmps97
 go_wp2_with (first | ((with_reducible refine gate_callee (f := 118) rfl ?_); refine gl_ 4 Try.func118 (spec_Mod.calls j 360 m _ l.out) ?_; rintro e w' ⟨rfl, ⟨nd, rfl⟩⟩; refine ⟨_, rfl, ?_⟩))
 go_ret
 exact ⟨by first | rfl | (simp; done) | (simp [*]; done), by repeat (first | exact Drawn0.refl _ | apply Drawn0.step)⟩

/-! ### spec_l7Sky: function 59 -/
mutual
def spec_l7Sky.l0 : Nat → Int → List Int → Int → Int → Int → List S72 → Int → Int → Int → Int → Int → Int → Option (Int × List S72 × List S74 × Int × Int × Int × Int × Int × List S88 × Int × Int × Int)
 | 0, _, _, _, _, _, _, _, _, _, _, _, _ => none
 | k + 1, l, j, G, I, s, m, u, x, y, z, B, D => if l < 2 then ((spec_l1Below.f j G I 2).bind fun J => (spec_l7Sky.l1 k l (wrap64 (2 + J.1)) 0 j J.2.1 J.2.2 s m u x y z B D)) else ((spec_l1Below.f j G I 12).bind fun O => ((spec_l1Below.f j O.2.1 O.2.2 2).bind fun T => ((spec_l1Below.f j T.2.1 T.2.2 12).bind fun U => ((some (([(⟨0, wrap64 (10 * O.1), T.1⟩ : S74), (⟨1, wrap64 (180 + (wrap64 (10 * U.1))), 0⟩ : S74)] : List S74) : List S74)).bind fun a2 => ((spec_l1Once.f j U.2.1 U.2.2 3).bind fun E => (if E.1 = true then ((spec_l1Below.f j E.2.1 E.2.2 2).bind fun X => ((spec_l1Below.f j X.2.1 X.2.2 36).bind fun Y => ((spec_l1Below.f j Y.2.1 Y.2.2 5).bind fun Z => (some (s, m, a2, u, x, y, z, B, (([(⟨X.1, (⟨wrap64 (10 * Y.1), wrap64 (10 * Z.1)⟩ : S35)⟩ : S88)] : List S88)), D, Z.2.1, Z.2.2))))) else (some (s, m, a2, u, x, y, z, B, ([] : List S88), D, E.2.1, E.2.2))))))))
def spec_l7Sky.l1 : Nat → Int → Int → Int → List Int → Int → Int → Int → List S72 → Int → Int → Int → Int → Int → Int → Option (Int × List S72 × List S74 × Int × Int × Int × Int × Int × List S88 × Int × Int × Int)
 | 0, _, _, _, _, _, _, _, _, _, _, _, _, _, _ => none
 | k + 1, l, x5, x6, j, G, I, s, m, u, x, y, z, B, D => if x6 < x5 then ((spec_AngleOf.f (wrap64 ((wrap64 (120 * x6)) + (wrap64 (20 * l))))).bind fun a3 => ((spec_l1Below.f j G I 2).bind fun L => ((spec_l1Below.f j L.2.1 L.2.2 2).bind fun M => (if m.length < 4398046511104 then (spec_l7Sky.l1 k l x5 (wrap64 (x6 + 1)) j M.2.1 M.2.2 s (m ++ [(⟨l, a3, wrap64 (10 - (wrap64 ((wrap64 (4 * l)) * L.1))), M.1⟩ : S72)]) u x y z B D) else (none))))) else (spec_l7Sky.l0 k (wrap64 (l + 1)) j G I s m u x y z B D)
end
def spec_l7Sky.f (k : Nat) (j : List Int) (y z : Int) : Option (Int × List S72 × List S74 × Int × Int × Int × Int × Int × List S88 × Int × Int × Int) := (spec_l1Below.f j y z 3).bind fun l => ((spec_l1Below.f j l.2.1 l.2.2 4).bind fun m => ((spec_l1Below.f j m.2.1 m.2.2 4).bind fun s => ((spec_l1Below.f j s.2.1 s.2.2 2).bind fun u => ((spec_l1Below.f j u.2.1 u.2.2 2).bind fun x => (spec_l7Sky.l0 k 0 j x.2.1 x.2.2 2 ([] : List S72) (wrap64 (120 + (wrap64 (10 * l.1)))) (wrap64 (30 + (wrap64 (10 * m.1)))) (wrap64 (50 + (wrap64 (10 * s.1)))) u.1 60 x.1)))))
def spec_l7Sky.T9 : Bool × List (List Nat × List Nat) := (true, [([], []), ([0], [0]), ([], []), ([], []), ([3], [3]), ([], []), ([5], [5]), ([4, 6], [4, 6]), ([7], [7]), ([], []), ([9], [9]), ([], []), ([11, 8], [11]), ([10, 12], [10, 12]), ([13], [13]), ([], []), ([15, 12], [15]), ([2, 8, 14, 16], [2, 8, 14, 16]), ([17], [17]), ([1, 18, 16], [1, 18]), ([0, 1, 2, 3, 4, 5, 6, 7, 8, 9, 10, 11, 12, 13, 14, 15, 16, 17, 18, 19], []), ([20, 19, 19, 0, 1, 2, 3, 4, 5, 6, 7, 8, 9, 10, 11, 12, 13, 14, 15, 16, 17, 18, 19], [19, 20])])
def spec_l7Sky.B9 : List Nat := [0, 1, 0, 0, 8, 0, 32, 120, 248, 0, 512, 0, 2552, 8184, 16376, 0, 39416, 131068, 262140, 524287, 1048575, 2097151]
theorem spec_l7Sky.tab9 : rtab .any (opsOf Try.f59 9) = spec_l7Sky.T9 := by kernel_rfl
theorem spec_l7Sky.bits9 : waitsOk spec_l7Sky.T9.2 spec_l7Sky.B9 = true := by kernel_rfl
theorem spec_l7Sky.calls (k g : Nat) (x : List Int) (g3 g4 r1 : Int) (r2 : List S72) (r3 : List S74) (r4 r5 r6 r7 r8 : Int) (r9 : List S88) (b2 b3 b4 : Int) (y w : World) (hI : IsS102 y w g x g3 g4) (hB : Below y.heap.size y w) (h : spec_l7Sky.f k x g3 g4 = some (r1, r2, r3, r4, r5, r6, r7, r8, r9, b2, b3, b4)) :
  Calls Try.prog 59 #[.pointer (some ⟨g, 0, none⟩)] w fun e w' => ∃ l9 m0 m1 : Value, e = .returned (.agg #[iv_ r1, l9, m0, iv_ r4, iv_ r5, iv_ r6, iv_ r7, iv_ r8, m1, iv_ b2]) ∧ Kd.R k72 72 w' w.heap.size (fun _ => True) l9 r2 ∧ Kd.R k74 74 w' w.heap.size (fun _ => True) m0 r3 ∧ Kd.R k88 88 w' w.heap.size (fun _ => True) m1 r9 ∧ IsS102 y w' g x b3 b4 ∧ Below y.heap.size y w' ∧ KeepBut w w' g none := by
 have s6 := Try.underlying28
 have s8 := Try.underlying72
 have s9 := Try.underlying74
 have s7 := Try.underlying35
 have t0 := Try.underlying88
 have j := Aside0.mk hI
 have HK := Aside0.mk (KeepBut.refl w g none)
 have HL := Aside0.mk hB.size
 clear hI
 have j7 := Aside0.mk hB.size
 have HB := Aside0.mk hB
 clear hB
 have H := h
 clear h
 unfold spec_l7Sky.f at H
 replace H := bs_ H
 obtain ⟨⟨D, k5, k6⟩, A2, H⟩ := H
 dsimp only at H
 replace H := bs_ H
 obtain ⟨⟨E, k7, k8⟩, A3, H⟩ := H
 dsimp only at H
 replace H := bs_ H
 obtain ⟨⟨G, k9, l2⟩, A4, H⟩ := H
 dsimp only at H
 replace H := bs_ H
 obtain ⟨⟨I, l3, l4⟩, A5, H⟩ := H
 dsimp only at H
 replace H := bs_ H
 obtain ⟨⟨L, h6, h7⟩, A6, H⟩ := H
 dsimp only at H
 have H' := Aside0.mk H
 clear H
 go_enter Try.func59, Try.ntmps59
 go_wp2_with (first | ((with_reducible refine gd_ 2 ?_); refine bx_ 2 28 #[iv_ 0, .slice none 0 0, .slice none 0 0, iv_ 0, iv_ 0, iv_ 0, iv_ 0, iv_ 0, .slice none 0 0, iv_ 0] ?_; intro s hg w7 hbox hb; refine sh8_ (IsS102.below (is_ j) hb) (KeepBut.trans (kb_ HK) (KeepBut.of_below hb g none) (.inl rfl)) (below_step (by repeat (first | (with_reducible first | exact HB.out | apply below_alloc | apply pw_below_drewN | apply below_drew1 | refine below_set ?_ (IsS102.ge j.out)) | exact HB.out)) hb) hbox ((by rw [hg]; exact (keep_size (w := w) (g := g) (row := none) (kb_ HK)) : w.heap.size ≤ s)) ((Nat.le_trans j7.out (by rw [hg]; exact (keep_size (w := w) (g := g) (row := none) (kb_ HK)) : w.heap.size ≤ s) : y.heap.size ≤ s)) ((by rw [hg]; exact Nat.ne_of_lt (IsS102.lt (show IsS102 y _ g x g3 g4 from (is_ j))) : g ≠ s)) ((by rw [hg]; exact Nat.ne_of_gt (IsS102.lt (show IsS102 y _ g x g3 g4 from (is_ j))) : s ≠ g)) ?_; clear j HK HB hb hbox hg; intro j HK HB m J T z a0) | ((with_reducible refine gate_callee (f := 60) rfl ?_); refine goesL_ (some 8) rfl rfl Try.func60 (by kernel_rfl) rfl #[.pointer (some ⟨g, 0, none⟩), iv_ 3] rfl mp_ ?_; (with_reducible refine (spec_l1Below.calls g x g3 g4 3 D k5 k6 y _ ?side1 ?side2 A2.out).mono ?_); (case side1 => exact is1_ j z); (case side2 => repeat (first | (with_reducible first | exact HB.out | apply below_alloc | apply pw_below_drewN | apply below_drew1 | refine below_set ?_ (IsS102.ge j.out) | refine below_set ?_ T.out) | exact HB.out)); rintro e w8 ⟨rfl, hi, hb, hk⟩; refine ⟨_, rfl, sh4_ (KeepBut.blk hk (g' := s) (o := .cells #[iv_ 0, .slice none 0 0, .slice none 0 0, iv_ 0, iv_ 0, iv_ 0, iv_ 0, iv_ 0, .slice none 0 0, iv_ 0] 28 (0, 0)) (bk_ m) a0.out (by simp)) (KeepBut.trans (kb1_ HK J) hk (.inl rfl)) hb hi ?_⟩; clear m HK HB j hb hk hi; intro m HK HB j) | ((with_reducible refine gate_callee (f := 60) rfl ?_); refine goesL_ (some 12) rfl rfl Try.func60 (by kernel_rfl) rfl #[.pointer (some ⟨g, 0, none⟩), iv_ 4] rfl mp_ ?_; (with_reducible refine (spec_l1Below.calls g x k5 k6 4 E k7 k8 y _ ?side1 ?side2 A3.out).mono ?_); (case side1 => exact is1_ j z); (case side2 => repeat (first | (with_reducible first | exact HB.out | apply below_alloc | apply pw_below_drewN | apply below_drew1 | refine below_set ?_ (IsS102.ge j.out) | refine below_set ?_ T.out) | exact HB.out)); rintro e w9 ⟨rfl, hi, hb, hk⟩; refine ⟨_, rfl, sh4_ (KeepBut.blk hk (g' := s) (o := .cells #[iv_ 0, .slice none 0 0, .slice none 0 0, iv_ 0, iv_ 0, iv_ 0, iv_ 0, iv_ 0, .slice none 0 0, iv_ 0] 28 (0, 0)) (bk_ m) a0.out (by simp)) (KeepBut.trans (kb1_ HK J) hk (.inl rfl)) hb hi ?_⟩; clear m HK HB j hb hk hi; intro m HK HB j) | ((with_reducible refine gate_callee (f := 60) rfl ?_); refine goesL_ (some 16) rfl rfl Try.func60 (by kernel_rfl) rfl #[.pointer (some ⟨g, 0, none⟩), iv_ 4] rfl mp_ ?_; (with_reducible refine (spec_l1Below.calls g x k7 k8 4 G k9 l2 y _ ?side1 ?side2 A4.out).mono ?_); (case side1 => exact is1_ j z); (case side2 => repeat (first | (with_reducible first | exact HB.out | apply below_alloc | apply pw_below_drewN | apply below_drew1 | refine below_set ?_ (IsS102.ge j.out) | refine below_set ?_ T.out) | exact HB.out)); rintro e t3 ⟨rfl, hi, hb, hk⟩; refine ⟨_, rfl, sh4_ (KeepBut.blk hk (g' := s) (o := .cells #[iv_ 0, .slice none 0 0, .slice none 0 0, iv_ 0, iv_ 0, iv_ 0, iv_ 0, iv_ 0, .slice none 0 0, iv_ 0] 28 (0, 0)) (bk_ m) a0.out (by simp)) (KeepBut.trans (kb1_ HK J) hk (.inl rfl)) hb hi ?_⟩; clear m HK HB j hb hk hi; intro m HK HB j) | ((with_reducible refine gate_callee (f := 60) rfl ?_); refine goesL_ (some 20) rfl rfl Try.func60 (by kernel_rfl) rfl #[.pointer (some ⟨g, 0, none⟩), iv_ 2] rfl mp_ ?_; (with_reducible refine (spec_l1Below.calls g x k9 l2 2 I l3 l4 y _ ?side1 ?side2 A5.out).mono ?_); (case side1 => exact is1_ j z); (case side2 => repeat (first | (with_reducible first | exact HB.out | apply below_alloc | apply pw_below_drewN | apply below_drew1 | refine below_set ?_ (IsS102.ge j.out) | refine below_set ?_ T.out) | exact HB.out)); rintro e t4 ⟨rfl, hi, hb, hk⟩; refine ⟨_, rfl, sh4_ (KeepBut.blk hk (g' := s) (o := .cells #[iv_ 0, .slice none 0 0, .slice none 0 0, iv_ 0, iv_ 0, iv_ 0, iv_ 0, iv_ 0, .slice none 0 0, iv_ 0] 28 (0, 0)) (bk_ m) a0.out (by simp)) (KeepBut.trans (kb1_ HK J) hk (.inl rfl)) hb hi ?_⟩; clear m HK HB j hb hk hi; intro m HK HB j) | ((with_reducible refine gate_callee (f := 60) rfl ?_); refine goesL_ (some 22) rfl rfl Try.func60 (by kernel_rfl) rfl #[.pointer (some ⟨g, 0, none⟩), iv_ 2] rfl mp_ ?_; (with_reducible refine (spec_l1Below.calls g x l3 l4 2 L h6 h7 y _ ?side1 ?side2 A6.out).mono ?_); (case side1 => exact is1_ j z); (case side2 => repeat (first | (with_reducible first | exact HB.out | apply below_alloc | apply pw_below_drewN | apply below_drew1 | refine below_set ?_ (IsS102.ge j.out) | refine below_set ?_ T.out) | exact HB.out)); rintro e t5 ⟨rfl, hi, hb, hk⟩; refine ⟨_, rfl, sh4_ (KeepBut.blk hk (g' := s) (o := .cells #[iv_ 0, .slice none 0 0, .slice none 0 0, iv_ 0, iv_ 0, iv_ 0, iv_ 0, iv_ 0, .slice none 0 0, iv_ 0] 28 (0, 0)) (bk_ m) a0.out (by simp)) (KeepBut.trans (kb1_ HK J) hk (.inl rfl)) hb hi ?_⟩; clear m HK HB j hb hk hi; intro m HK HB j) | ((with_reducible refine gd_ 3 ?_); refine bx_ 3 28 #[iv_ 0, .slice none 0 0, .slice none 0 0, iv_ 0, iv_ 0, iv_ 0, iv_ 0, iv_ 0, .slice none 0 0, iv_ 0] ?_; intro O hg t6 hbox hb; refine sh11_ (IsS102.below (is1_ j z) hb) (blk_below (bk_ m) hb) (KeepBut.trans (kb1_ HK J) (KeepBut.of_below hb g none) (.inl rfl)) (below_step (by repeat (first | (with_reducible first | exact HB.out | apply below_alloc | apply pw_below_drewN | apply below_drew1 | refine below_set ?_ (IsS102.ge j.out) | refine below_set ?_ T.out) | exact HB.out)) hb) hbox ((by rw [hg]; exact (keep_size (w := w) (g := g) (row := none) (kb1_ HK J)) : w.heap.size ≤ O)) ((Nat.le_trans j7.out (by rw [hg]; exact (keep_size (w := w) (g := g) (row := none) (kb1_ HK J)) : w.heap.size ≤ O) : y.heap.size ≤ O)) (nl_ hg (bk_ m)) (ng_ hg (bk_ m)) ((by rw [hg]; exact Nat.ne_of_lt (IsS102.lt (show IsS102 y _ g x h6 h7 from (is1_ j z))) : g ≠ O)) ((by rw [hg]; exact Nat.ne_of_gt (IsS102.lt (show IsS102 y _ g x h6 h7 from (is1_ j z))) : O ≠ g)) ?_; clear j m HK HB hb hbox hg; intro j m HK HB l U Y a5 h2 B a2; have p9 := h2.out; have q7 := a5.out; have q0 := a2.out; have q8 := B.out; have p0 := cf10_ l))
 go_loopg [4] k (fun kq v4 w' => ∃ (a3 : Int) (d3 : Int) (d4 : Int) (a4 : List S72) (X : Value), v4 = iv_ a3 ∧ Aside0 (spec_l7Sky.l0 kq a3 x d3 d4 2 a4 (wrap64 (120 + (wrap64 (10 * D)))) (wrap64 (30 + (wrap64 (10 * E)))) (wrap64 (50 + (wrap64 (10 * G)))) I 60 L = some (r1, r2, r3, r4, r5, r6, r7, r8, r9, b2, b3, b4)) ∧ Aside0 (kq ≤ k) ∧ Aside0 (Kd.R k72 72 w' w.heap.size (fun _ => True) X a4) ∧ Aside0 (w'.heap[s]? = some (.cells #[iv_ 0, (.slice none 0 0), (.slice none 0 0), iv_ 0, iv_ 0, iv_ 0, iv_ 0, iv_ 0, (.slice none 0 0), iv_ 0] 28 (0, 0))) ∧ Aside0 (w'.heap[O]? = some (.cells #[iv_ 2, X, (.slice none 0 0), iv_ (wrap64 (120 + (wrap64 (10 * D)))), iv_ (wrap64 (30 + (wrap64 (10 * E)))), iv_ (wrap64 (50 + (wrap64 (10 * G)))), iv_ I, iv_ 60, (.slice none 0 0), iv_ L] 28 (0, 0))) ∧ Aside0 (IsS102 y w' g x d3 d4) ∧ Aside0 (KeepBut w w' g none) ∧ Aside0 (Below y.heap.size y w'))
 case atStart => exact ⟨(0), (h6), (h7), (([] : List S72)), (.slice none 0 0), (by first | rfl | (simp; done) | (simp [*]; done)), H', ⟨Nat.le_refl _⟩, ⟨by first | exact Kd.R_nil _ _ _ _ _ | exact Kd.N_nil _ _ _ _ _ | exact Kd.V_nil _ _ _ _ _ | exact Kd.Q_nil _ _ _ _ _ | exact Kd.S_nil _ _ _ _ _⟩, ⟨by (with_reducible repeat (first | refine blk_drewN ?_ _ | refine blk_drew ?_ | refine blk_alloc ?_ _)); refine blk_far ?_ a5.out _; (with_reducible repeat (first | refine blk_drewN ?_ _ | refine blk_drew ?_ | refine blk_alloc ?_ _)); refine blk_far ?_ a5.out _; (with_reducible repeat (first | refine blk_drewN ?_ _ | refine blk_drew ?_ | refine blk_alloc ?_ _)); refine blk_far ?_ a5.out _; (with_reducible repeat (first | refine blk_drewN ?_ _ | refine blk_drew ?_ | refine blk_alloc ?_ _)); refine blk_far ?_ a5.out _; (with_reducible repeat (first | refine blk_drewN ?_ _ | refine blk_drew ?_ | refine blk_alloc ?_ _)); refine blk_far ?_ a5.out _; (with_reducible repeat (first | refine blk_drewN ?_ _ | refine blk_drew ?_ | refine blk_alloc ?_ _)); refine blk_far ?_ a5.out _; (with_reducible repeat (first | refine blk_drewN ?_ _ | refine blk_drew ?_ | refine blk_alloc ?_ _)); refine blk_far ?_ a5.out _; (with_reducible repeat (first | refine blk_drewN ?_ _ | refine blk_drew ?_ | refine blk_alloc ?_ _)); refine blk_far ?_ a5.out _; (with_reducible repeat (first | refine blk_drewN ?_ _ | refine blk_drew ?_ | refine blk_alloc ?_ _)); refine blk_far ?_ a5.out _; (with_reducible repeat (first | refine blk_drewN ?_ _ | refine blk_drew ?_ | refine blk_alloc ?_ _)); refine blk_far ?_ a5.out _; exact bk_ m⟩, ⟨by (with_reducible repeat (first | refine blk_drewN ?_ _ | refine blk_drew ?_ | refine blk_alloc ?_ _)); refine blk_put (cs := #[iv_ 2, .slice none 0 0, .slice none 0 0, iv_ (wrap64 (120 + (wrap64 (10 * D)))), iv_ (wrap64 (30 + (wrap64 (10 * E)))), iv_ (wrap64 (50 + (wrap64 (10 * G)))), iv_ I, iv_ 60, .slice none 0 0, iv_ 0]) ?_ 9 _ rfl; (with_reducible repeat (first | refine blk_drewN ?_ _ | refine blk_drew ?_ | refine blk_alloc ?_ _)); refine blk_put (cs := #[iv_ 2, .slice none 0 0, .slice none 0 0, iv_ (wrap64 (120 + (wrap64 (10 * D)))), iv_ (wrap64 (30 + (wrap64 (10 * E)))), iv_ (wrap64 (50 + (wrap64 (10 * G)))), iv_ I, iv_ 60, .slice none 0 0, iv_ 0]) ?_ 8 _ rfl; (with_reducible repeat (first | refine blk_drewN ?_ _ | refine blk_drew ?_ | refine blk_alloc ?_ _)); refine blk_put (cs := #[iv_ 2, .slice none 0 0, .slice none 0 0, iv_ (wrap64 (120 + (wrap64 (10 * D)))), iv_ (wrap64 (30 + (wrap64 (10 * E)))), iv_ (wrap64 (50 + (wrap64 (10 * G)))), iv_ I, iv_ 0, .slice none 0 0, iv_ 0]) ?_ 7 _ rfl; (with_reducible repeat (first | refine blk_drewN ?_ _ | refine blk_drew ?_ | refine blk_alloc ?_ _)); refine blk_put (cs := #[iv_ 2, .slice none 0 0, .slice none 0 0, iv_ (wrap64 (120 + (wrap64 (10 * D)))), iv_ (wrap64 (30 + (wrap64 (10 * E)))), iv_ (wrap64 (50 + (wrap64 (10 * G)))), iv_ 0, iv_ 0, .slice none 0 0, iv_ 0]) ?_ 6 _ rfl; (with_reducible repeat (first | refine blk_drewN ?_ _ | refine blk_drew ?_ | refine blk_alloc ?_ _)); refine blk_put (cs := #[iv_ 2, .slice none 0 0, .slice none 0 0, iv_ (wrap64 (120 + (wrap64 (10 * D)))), iv_ (wrap64 (30 + (wrap64 (10 * E)))), iv_ 0, iv_ 0, iv_ 0, .slice none 0 0, iv_ 0]) ?_ 5 _ rfl; (with_reducible repeat (first | refine blk_drewN ?_ _ | refine blk_drew ?_ | refine blk_alloc ?_ _)); refine blk_put (cs := #[iv_ 2, .slice none 0 0, .slice none 0 0, iv_ (wrap64 (120 + (wrap64 (10 * D)))), iv_ 0, iv_ 0, iv_ 0, iv_ 0, .slice none 0 0, iv_ 0]) ?_ 4 _ rfl; (with_reducible repeat (first | refine blk_drewN ?_ _ | refine blk_drew ?_ | refine blk_alloc ?_ _)); refine blk_put (cs := #[iv_ 2, .slice none 0 0, .slice none 0 0, iv_ 0, iv_ 0, iv_ 0, iv_ 0, iv_ 0, .slice none 0 0, iv_ 0]) ?_ 3 _ rfl; (with_reducible repeat (first | refine blk_drewN ?_ _ | refine blk_drew ?_ | refine blk_alloc ?_ _)); refine blk_put (cs := #[iv_ 2, .slice none 0 0, .slice none 0 0, iv_ 0, iv_ 0, iv_ 0, iv_ 0, iv_ 0, .slice none 0 0, iv_ 0]) ?_ 2 _ rfl; (with_reducible repeat (first | refine blk_drewN ?_ _ | refine blk_drew ?_ | refine blk_alloc ?_ _)); refine blk_put (cs := #[iv_ 2, .slice none 0 0, .slice none 0 0, iv_ 0, iv_ 0, iv_ 0, iv_ 0, iv_ 0, .slice none 0 0, iv_ 0]) ?_ 1 _ rfl; (with_reducible repeat (first | refine blk_drewN ?_ _ | refine blk_drew ?_ | refine blk_alloc ?_ _)); refine blk_put (cs := #[iv_ 0, .slice none 0 0, .slice none 0 0, iv_ 0, iv_ 0, iv_ 0, iv_ 0, iv_ 0, .slice none 0 0, iv_ 0]) ?_ 0 _ rfl; exact bk_ l⟩, ⟨(is2_ j z B)⟩, ⟨(kb2_ HK J U)⟩, ⟨by repeat (first | (with_reducible first | exact HB.out | apply below_alloc | apply pw_below_drewN | apply below_drew1 | refine below_set ?_ (IsS102.ge j.out) | refine below_set ?_ T.out | refine below_set ?_ Y.out) | exact HB.out)⟩⟩
 case round =>
  clear H'
  obtain ⟨a3, d3, d4, a4, X, rfl, HA, h0, u, m, l, j, HK, HB⟩ := hrel
  cases gk with
  | zero => exact absurd HA.out (by simp [spec_l7Sky.l0])
  | succ k1 =>
   have H := HA.out
   clear HA
   simp only [spec_l7Sky.l0] at H
   by_cases e8 : a3 < 2
   ·rw [if_pos e8] at H
    have n6 := decide_eq_true e8
    clear e8
    replace H := bs_ H
    obtain ⟨⟨g5, l5, l6⟩, m2, H⟩ := H
    dsimp only at H
    have H' := Aside0.mk H
    clear H
    go_wp2_with (first | ((with_reducible refine gate_callee (f := 60) rfl ?_); refine goesL_ (some 29) rfl rfl Try.func60 (by kernel_rfl) rfl #[.pointer (some ⟨g, 0, none⟩), iv_ 2] rfl mp_ ?_; (with_reducible refine (spec_l1Below.calls g x d3 d4 2 g5 l5 l6 y _ ?side1 ?side2 m2.out).mono ?_); (case side1 => exact is2_ j z B); (case side2 => repeat (first | (with_reducible first | exact HB.out | apply below_alloc | apply pw_below_drewN | apply below_drew1 | refine below_set ?_ (IsS102.ge j.out) | refine below_set ?_ T.out | refine below_set ?_ Y.out) | exact HB.out)); rintro e t7 ⟨rfl, hi, hb, hk⟩; refine ⟨_, rfl, sh6_ (Kd.R_mono (Kd.R_keep (IsS102.apart (show IsS102 y _ g x d3 d4 from (is2_ j z B)) (ra_ u) (by decide)) hk (fun _ h => h.2)) (fun _ h => h.1)) (KeepBut.blk hk (g' := s) (o := .cells #[iv_ 0, .slice none 0 0, .slice none 0 0, iv_ 0, iv_ 0, iv_ 0, iv_ 0, iv_ 0, .slice none 0 0, iv_ 0] 28 (0, 0)) (bk_ m) a0.out (by simp)) (KeepBut.blk hk (g' := O) (o := .cells #[iv_ 2, X, .slice none 0 0, iv_ (wrap64 (120 + (wrap64 (10 * D)))), iv_ (wrap64 (30 + (wrap64 (10 * E)))), iv_ (wrap64 (50 + (wrap64 (10 * G)))), iv_ I, iv_ 60, .slice none 0 0, iv_ L] 28 (0, 0)) (bk_ l) a2.out (by simp)) (KeepBut.trans (kb2_ HK J U) hk (.inl rfl)) hb hi ?_⟩; clear u m l HK HB j hb hk hi; intro u m l HK HB j))
    go_loopg [6] k1 (fun kq v6 w' => ∃ (d5 : Int) (f5 : Int) (f6 : Int) (f7 : List S72) (X : Value), v6 = iv_ d5 ∧ Aside0 (spec_l7Sky.l1 kq a3 (wrap64 (2 + g5)) d5 x f5 f6 2 f7 (wrap64 (120 + (wrap64 (10 * D)))) (wrap64 (30 + (wrap64 (10 * E)))) (wrap64 (50 + (wrap64 (10 * G)))) I 60 L = some (r1, r2, r3, r4, r5, r6, r7, r8, r9, b2, b3, b4)) ∧ Aside0 (kq ≤ k1) ∧ Aside0 (Kd.R k72 72 w' w.heap.size (fun _ => True) X f7) ∧ Aside0 (w'.heap[s]? = some (.cells #[iv_ 0, (.slice none 0 0), (.slice none 0 0), iv_ 0, iv_ 0, iv_ 0, iv_ 0, iv_ 0, (.slice none 0 0), iv_ 0] 28 (0, 0))) ∧ Aside0 (w'.heap[O]? = some (.cells #[iv_ 2, X, (.slice none 0 0), iv_ (wrap64 (120 + (wrap64 (10 * D)))), iv_ (wrap64 (30 + (wrap64 (10 * E)))), iv_ (wrap64 (50 + (wrap64 (10 * G)))), iv_ I, iv_ 60, (.slice none 0 0), iv_ L] 28 (0, 0))) ∧ Aside0 (IsS102 y w' g x f5 f6) ∧ Aside0 (KeepBut w w' g none) ∧ Aside0 (Below y.heap.size y w'))
    case atStart => exact ⟨(0), (l5), (l6), (a4), (X), (by first | rfl | (simp; done) | (simp [*]; done)), H', ⟨Nat.le_refl _⟩, ⟨ra_ u⟩, ⟨(bk_ m)⟩, ⟨(bk_ l)⟩, ⟨(is2_ j z B)⟩, ⟨(kb2_ HK J U)⟩, ⟨by repeat (first | (with_reducible first | exact HB.out | apply below_alloc | apply pw_below_drewN | apply below_drew1 | refine below_set ?_ (IsS102.ge j.out) | refine below_set ?_ T.out | refine below_set ?_ Y.out) | exact HB.out)⟩⟩
    case round =>
     clear H'
     obtain ⟨d5, f5, f6, f7, X, rfl, HA, h1, u, m, l, j, HK, HB⟩ := hrel
     cases gk with
     | zero => exact absurd HA.out (by simp [spec_l7Sky.l1])
     | succ k2 =>
      have H := HA.out
      clear HA
      simp only [spec_l7Sky.l1] at H
      by_cases e9 : d5 < (wrap64 (2 + g5))
      ·rw [if_pos e9] at H
       have n7 := decide_eq_true e9
       clear e9
       replace H := bs_ H
       obtain ⟨g6, m4, H⟩ := H
       replace H := bs_ H
       obtain ⟨⟨g7, i5, i6⟩, m5, H⟩ := H
       dsimp only at H
       replace H := bs_ H
       obtain ⟨⟨g8, i7, i8⟩, m6, H⟩ := H
       dsimp only at H
       replace H := ifn_ H
       obtain ⟨j9, H⟩ := H
       have n4 := Aside0.mk j9
       clear j9
       replace H : ∃ y_ : List S72, Aside0 (y_ = (f7 ++ [(⟨a3, g6, wrap64 (10 - (wrap64 ((wrap64 (4 * a3)) * g7))), g8⟩ : S72)])) ∧ (spec_l7Sky.l1 k2 a3 (wrap64 (2 + g5)) (wrap64 (d5 + 1)) x i7 i8 2 y_ (wrap64 (120 + (wrap64 (10 * D)))) (wrap64 (30 + (wrap64 (10 * E)))) (wrap64 (50 + (wrap64 (10 * G)))) I 60 L) = some (r1, r2, r3, r4, r5, r6, r7, r8, r9, b2, b3, b4) := ⟨_, ⟨rfl⟩, yh_ H⟩
       obtain ⟨i9, n5, H⟩ := H
       have H' := Aside0.mk H
       clear H
       try go_wp2
       refine sh6_ (Kd.R_drew u.out) (blk_drew m.out) (blk_drew l.out) (IsS102.drew j.out) (keep_drew HK.out) (below_drew1 HB.out) ?_
       clear u m l j HK HB
       intro u m l j HK HB
       refine start_ (n := 22) (S := fun w' => Cz10 w' O (iv_ 2) (X) (.slice none 0 0) (iv_ (wrap64 (120 + (wrap64 (10 * D))))) (iv_ (wrap64 (30 + (wrap64 (10 * E))))) (iv_ (wrap64 (50 + (wrap64 (10 * G))))) (iv_ I) (iv_ 60) (.slice none 0 0) (iv_ L)) (ds := [21]) (bo_ 22 0) (by kernel_rfl) rfl rfl (cz10_ l) (fun hHeld => ?_); refine with_tabW spec_l7Sky.tab9 spec_l7Sky.bits9 (fun HT_ HW_ => ?_)
       generalize wr.drew = t8 at u m l j HK HB hHeld ⊢
       refine pur_ 0 (bo_ 22 1) (some 36) HT_ ?_
       refine pur_ 2 (bo_ 22 5) (some 38) HT_ ?_
       refine pur_ 3 (bo_ 22 13) (some 39) HT_ ?_
       refine pur_ 4 (bo_ 22 29) (some 40) HT_ ?_
       refine pur_ 5 (bo_ 22 61) (some 41) HT_ ?_
       refine pur_ 6 (bo_ 22 125) (some 42) HT_ ?_
       refine pur_ 7 (bo_ 22 253) (some 43) HT_ ?_
       refine pur_ 9 (bo_ 22 765) (some 45) HT_ ?_
       refine pur_ 10 (bo_ 22 1789) (some 46) HT_ ?_
       refine pur_ 11 (bo_ 22 3837) (some 47) HT_ ?_
       refine pur_ 15 (bo_ 22 36605) (some 51) HT_ ?_
       refine tak_ 1 (bo_ 22 36607) (some 37) HT_ HW_ hHeld ?_
       refine onc_ 8 (bo_ 22 36863) (some 44) HT_ Try.func97 (spec_AngleOf.calls (wrap64 ((wrap64 (120 * d5)) + (wrap64 (20 * a3)))) g6 _ m4.out) ?_
       rintro e w' ⟨rfl, ⟨nd, rfl⟩⟩
       refine ⟨_, _, rfl, (cz10_ l), pt_, fun hHeld => ?_⟩
       refine one_ (i := 12) (N := some 48) (bo_ 22 40959) rfl rfl (one_of HT_.out (by kernel_rfl)) (by decide) (fun K hK => ?_)
       refine goes_ Try.func60 (by kernel_rfl) rfl #[.pointer (some ⟨g, 0, none⟩), iv_ 2] (by rfl) rfl rfl mp_ ?_
       with_reducible refine (spec_l1Below.calls g x f5 f6 2 g7 i5 i6 y _ ?side1 ?side2 m5.out).mono ?_
       (case side1 => exact is2_ j z B)
       (case side2 => repeat (first | (with_reducible first | exact HB.out | apply below_alloc | apply pw_below_drewN | apply below_drew1 | refine below_set ?_ (IsS102.ge j.out) | refine below_set ?_ T.out | refine below_set ?_ Y.out) | exact HB.out))
       rintro e t9 ⟨rfl, hi, hb, hk⟩
       refine ⟨_, rfl, sh6_ (Kd.R_mono (Kd.R_keep (IsS102.apart (show IsS102 y _ g x f5 f6 from (is2_ j z B)) (ra_ u) (by decide)) hk (fun _ h => h.2)) (fun _ h => h.1)) (KeepBut.blk hk (g' := s) (o := .cells #[iv_ 0, .slice none 0 0, .slice none 0 0, iv_ 0, iv_ 0, iv_ 0, iv_ 0, iv_ 0, .slice none 0 0, iv_ 0] 28 (0, 0)) (bk_ m) a0.out (by simp)) (KeepBut.blk hk (g' := O) (o := .cells #[iv_ 2, X, .slice none 0 0, iv_ (wrap64 (120 + (wrap64 (10 * D)))), iv_ (wrap64 (30 + (wrap64 (10 * E)))), iv_ (wrap64 (50 + (wrap64 (10 * G)))), iv_ I, iv_ 60, .slice none 0 0, iv_ L] 28 (0, 0)) (bk_ l) a2.out (by simp)) (KeepBut.trans (kb2_ HK J U) hk (.inl rfl)) hb hi ?_⟩
       clear u m l HK HB j hb hk hi
       intro u m l HK HB j
       refine hK.out _ _ (cz10_ l) (fun hHeld => ?_)
       clear hK K
       refine norm_ (show Act.put _ (some 48) _ = _ from pt_) ?_
       refine pur_ 13 (bo_ 22 49151) (some 49) HT_ ?_
       refine pur_ 14 (bo_ 22 65535) (some 50) HT_ ?_
       refine one_ (i := 16) (N := some 52) (bo_ 22 131071) rfl rfl (one_of HT_.out (by kernel_rfl)) (by decide) (fun K hK => ?_)
       refine goes_ Try.func60 (by kernel_rfl) rfl #[.pointer (some ⟨g, 0, none⟩), iv_ 2] (by rfl) rfl rfl mp_ ?_
       with_reducible refine (spec_l1Below.calls g x i5 i6 2 g8 i7 i8 y _ ?side1 ?side2 m6.out).mono ?_
       (case side1 => exact is2_ j z B)
       (case side2 => repeat (first | (with_reducible first | exact HB.out | apply below_alloc | apply pw_below_drewN | apply below_drew1 | refine below_set ?_ (IsS102.ge j.out) | refine below_set ?_ T.out | refine below_set ?_ Y.out) | exact HB.out))
       rintro e u0 ⟨rfl, hi, hb, hk⟩
       refine ⟨_, rfl, sh6_ (Kd.R_mono (Kd.R_keep (IsS102.apart (show IsS102 y _ g x i5 i6 from (is2_ j z B)) (ra_ u) (by decide)) hk (fun _ h => h.2)) (fun _ h => h.1)) (KeepBut.blk hk (g' := s) (o := .cells #[iv_ 0, .slice none 0 0, .slice none 0 0, iv_ 0, iv_ 0, iv_ 0, iv_ 0, iv_ 0, .slice none 0 0, iv_ 0] 28 (0, 0)) (bk_ m) a0.out (by simp)) (KeepBut.blk hk (g' := O) (o := .cells #[iv_ 2, X, .slice none 0 0, iv_ (wrap64 (120 + (wrap64 (10 * D)))), iv_ (wrap64 (30 + (wrap64 (10 * E)))), iv_ (wrap64 (50 + (wrap64 (10 * G)))), iv_ I, iv_ 60, .slice none 0 0, iv_ L] 28 (0, 0)) (bk_ l) a2.out (by simp)) (KeepBut.trans (kb2_ HK J U) hk (.inl rfl)) hb hi ?_⟩
       clear u m l HK HB j hb hk hi
       intro u m l HK HB j
       refine hK.out _ _ (cz10_ l) (fun hHeld => ?_)
       clear hK K
       refine norm_ (show Act.put _ (some 52) _ = _ from pt_) ?_
       refine pur_ 17 (bo_ 22 262143) (some 53) HT_ ?_
       refine one_ (i := 18) (N := some 54) (bo_ 22 524287) rfl rfl (one_of HT_.out (by kernel_rfl)) (by decide) (fun K hK => ?_)
       refine value_ (w1 := ?_) (v := ?_) (by rfl) rfl ?_ ?_
       rotate_left 2
       ·go_simp
        constructor
        ·rfl
        ·rfl
       refine hK.out _ _ ⟨(blk_cell (blk_alloc l.out _) 0).trans rfl, (blk_cell (blk_alloc l.out _) 1).trans rfl, (blk_cell (blk_alloc l.out _) 2).trans rfl, (blk_cell (blk_alloc l.out _) 3).trans rfl, (blk_cell (blk_alloc l.out _) 4).trans rfl, (blk_cell (blk_alloc l.out _) 5).trans rfl, (blk_cell (blk_alloc l.out _) 6).trans rfl, (blk_cell (blk_alloc l.out _) 7).trans rfl, (blk_cell (blk_alloc l.out _) 8).trans rfl, (blk_cell (blk_alloc l.out _) 9).trans rfl⟩ (fun hHeld => ?_)
       clear hK K
       refine norm_ (show Act.put _ (some 54) _ = _ from pt_) ?_
       refine one_ (i := 19) (N := some 55) (bo_ 22 1048575) rfl rfl (one_of HT_.out (by kernel_rfl)) (by decide) (fun K hK => ?_)
       refine Kd.R_append_step k72 w.heap.size (by rfl) (.tmp 37) (.tmp 54) 24 72 (.agg #[(iv_ 0), (iv_ 0), (iv_ 0), (iv_ 0)]) 32 rfl Try.underlying24 info72 rfl (by decide) (by omega) X f7 (⟨a3, g6, wrap64 (10 - (wrap64 ((wrap64 (4 * a3)) * g7))), g8⟩ : S72) [iv_ a3, iv_ g6, iv_ (wrap64 (10 - (wrap64 ((wrap64 (4 * a3)) * g7)))), iv_ g8] (fun _ => True) (fun _ => False) rfl rfl ?aP (fun _ hk => hk.elim) ?aF ?aO (Below.refl _ _) ?aS ?aL ?_
       (case aP => exact k72_mkM _ _ _ (⟨a3, g6, wrap64 (10 - (wrap64 ((wrap64 (4 * a3)) * g7))), g8⟩ : S72))
       (case aF => exact (fun _ _ => trivial))
       (case aO => exact (ra_ u))
       (case aS => exact (keep_size (w := w) (g := g) (row := none) (kb2_ HK J U)))
       (case aL => have := n4.out; omega)
       intro t1 o9 ho hb hg hat
       rw [← n5.out] at ho
       refine sh6_ (blk_grown (g := s) (o := .cells #[iv_ 0, .slice none 0 0, .slice none 0 0, iv_ 0, iv_ 0, iv_ 0, iv_ 0, iv_ 0, .slice none 0 0, iv_ 0] 28 (0, 0)) (bk_ m) hg (Kd.R_ne u.out m.out (by decide))) (blk_grown (g := O) (o := .cells #[iv_ 2, X, .slice none 0 0, iv_ (wrap64 (120 + (wrap64 (10 * D)))), iv_ (wrap64 (30 + (wrap64 (10 * E)))), iv_ (wrap64 (50 + (wrap64 (10 * G)))), iv_ I, iv_ 60, .slice none 0 0, iv_ L] 28 (0, 0)) (bk_ l) hg (Kd.R_ne u.out l.out (by decide))) (IsS102.grown (is2_ j z B) hg (IsS102.own_ne j.out u.out (by decide))) (below_weaken (by repeat (first | (with_reducible first | exact HB.out | apply below_alloc | apply pw_below_drewN | apply below_drew1 | refine below_set ?_ (IsS102.ge j.out) | refine below_set ?_ T.out | refine below_set ?_ Y.out) | exact HB.out)) HL.out hb) (KeepBut.trans (kb2_ HK J U) (KeepBut.of_grown hg g) (Kd.R_base2 u.out)) ho ?_
       clear m l j HB HK u ho hb hg hat
       intro m l j HB HK j5
       obtain ⟨j4, k0, k3⟩ := Kd.R_slice j5.out
       (first | subst k3 | (injection k3 with f1_ f2_ f3_; have o3 := f1_.symm; have o4 := f3_.symm; clear f1_ f2_ f3_; subst o3; subst o4))
       refine hK.out _ _ (cz10_ l) (fun hHeld => ?_)
       clear hK K
       refine norm_ (show Act.put _ (some 55) _ = _ from pt_) ?_
       refine pur_ 20 (bo_ 22 2097151) (some 56) HT_ ?_
       refine last_ (i := 21) (N := none) (bo_ 22 4194303) rfl rfl (one_of HT_.out (by kernel_rfl)) (by decide) (fun K hK => ?_)
       have s5 : o9.cell? ⟨O, 1, none⟩ = some (X) := bc_ l 1 rfl
       have p7 := bf_ l 1
       have s4 := a5.out
       have p8 := h2.out
       refine skip_ (w1 := ?_) (by rfl) rfl ?_ ?_
       rotate_left
       ·go_simp
        rfl
       refine hK.out _ _ ?_
       clear hK K
       refine done_ (done_of HT_.out (by kernel_rfl)) ?_
       try go_wp2
       go_roundg k2
       case measure => have := h0.out; have := h1.out; omega
       case rel => exact ⟨(wrap64 (d5 + 1)), (i7), (i8), (i9), (.slice j4 i9.length k0), (by first | rfl | (simp; done) | (simp [*]; done)), H', ⟨by have := h0.out; have := h1.out; omega⟩, ⟨by (with_reducible repeat (first | apply Kd.R_alloc | apply Kd.R_drewN | apply Kd.R_drew)); exact Kd.R_mono (Kd.R_far (p := ⟨O, 1, none⟩) (Kd.R_types j5.out l.out (by decide)) (fun _ hk => hk.2) (.slice j4 i9.length k0)) (fun _ hk => trivial)⟩, ⟨by (with_reducible repeat (first | refine blk_drewN ?_ _ | refine blk_drew ?_ | refine blk_alloc ?_ _)); refine blk_far ?_ a5.out _; exact bk_ m⟩, ⟨by (with_reducible repeat (first | refine blk_drewN ?_ _ | refine blk_drew ?_ | refine blk_alloc ?_ _)); refine blk_put (cs := #[iv_ 2, X, .slice none 0 0, iv_ (wrap64 (120 + (wrap64 (10 * D)))), iv_ (wrap64 (30 + (wrap64 (10 * E)))), iv_ (wrap64 (50 + (wrap64 (10 * G)))), iv_ I, iv_ 60, .slice none 0 0, iv_ L]) ?_ 1 _ rfl; exact bk_ l⟩, ⟨(is2_ j z B)⟩, ⟨(kb2_ HK J U)⟩, ⟨by repeat (first | (with_reducible first | exact HB.out | apply below_alloc | apply pw_below_drewN | apply below_drew1 | refine below_set ?_ (IsS102.ge j.out) | refine below_set ?_ T.out | refine below_set ?_ Y.out) | exact HB.out)⟩⟩
      ·rw [if_neg e9] at H
       have n7 : decide (d5 < (wrap64 (2 + g5))) = false := decide_eq_false e9
       clear e9
       have H' := Aside0.mk H
       clear H
       go_wp2
       go_roundg k2
       case measure => have := h0.out; have := h1.out; omega
       case rel => exact ⟨(wrap64 (a3 + 1)), (f5), (f6), (f7), (X), (by first | rfl | (simp; done) | (simp [*]; done)), H', ⟨by have := h0.out; have := h1.out; omega⟩, ⟨ra_ u⟩, ⟨(bk_ m)⟩, ⟨(bk_ l)⟩, ⟨(is2_ j z B)⟩, ⟨(kb2_ HK J U)⟩, ⟨by repeat (first | (with_reducible first | exact HB.out | apply below_alloc | apply pw_below_drewN | apply below_drew1 | refine below_set ?_ (IsS102.ge j.out) | refine below_set ?_ T.out | refine below_set ?_ Y.out) | exact HB.out)⟩⟩
   ·rw [if_neg e8] at H
    have n6 : decide (a3 < 2) = false := decide_eq_false e8
    clear e8
    replace H := bs_ H
    obtain ⟨⟨a6, f1, f2⟩, j0, H⟩ := H
    dsimp only at H
    replace H := bs_ H
    obtain ⟨⟨a7, f3, f4⟩, j1, H⟩ := H
    dsimp only at H
    replace H := bs_ H
    obtain ⟨⟨a8, d1, d2⟩, j2, H⟩ := H
    dsimp only at H
    replace H : ∃ y_ : List S74, Aside0 (y_ = (([(⟨0, wrap64 (10 * a6), a7⟩ : S74), (⟨1, wrap64 (180 + (wrap64 (10 * a8))), 0⟩ : S74)] : List S74))) ∧ ((spec_l1Once.f x d1 d2 3).bind fun f9 => (if f9.1 = true then ((spec_l1Below.f x f9.2.1 f9.2.2 2).bind fun d7 => ((spec_l1Below.f x d7.2.1 d7.2.2 36).bind fun d8 => ((spec_l1Below.f x d8.2.1 d8.2.2 5).bind fun d9 => (some (2, a4, y_, (wrap64 (120 + (wrap64 (10 * D)))), (wrap64 (30 + (wrap64 (10 * E)))), (wrap64 (50 + (wrap64 (10 * G)))), I, 60, (([(⟨d7.1, (⟨wrap64 (10 * d8.1), wrap64 (10 * d9.1)⟩ : S35)⟩ : S88)] : List S88)), L, d9.2.1, d9.2.2))))) else (some (2, a4, y_, (wrap64 (120 + (wrap64 (10 * D)))), (wrap64 (30 + (wrap64 (10 * E)))), (wrap64 (50 + (wrap64 (10 * G)))), I, 60, ([] : List S88), L, f9.2.1, f9.2.2)))) = some (r1, r2, r3, r4, r5, r6, r7, r8, r9, b2, b3, b4) := ⟨_, ⟨rfl⟩, yh_ H⟩
    obtain ⟨a1, h3, H⟩ := H
    replace H := bs_ H
    obtain ⟨⟨o5, e1, e2⟩, j3, H⟩ := H
    dsimp only at H
    by_cases h4 : o5 = true
    ·subst h4
     have H1 : ((spec_l1Below.f x e1 e2 2).bind fun d7 => ((spec_l1Below.f x d7.2.1 d7.2.2 36).bind fun d8 => ((spec_l1Below.f x d8.2.1 d8.2.2 5).bind fun d9 => (some (2, a4, a1, (wrap64 (120 + (wrap64 (10 * D)))), (wrap64 (30 + (wrap64 (10 * E)))), (wrap64 (50 + (wrap64 (10 * G)))), I, 60, (([(⟨d7.1, (⟨wrap64 (10 * d8.1), wrap64 (10 * d9.1)⟩ : S35)⟩ : S88)] : List S88)), L, d9.2.1, d9.2.2))))) = some (r1, r2, r3, r4, r5, r6, r7, r8, r9, b2, b3, b4) := by rw [if_pos rfl] at H; exact H
     clear H
     have H := H1
     clear H1
     replace H := bs_ H
     obtain ⟨⟨e3, h8, h9⟩, m8, H⟩ := H
     dsimp only at H
     replace H := bs_ H
     obtain ⟨⟨e4, i0, i1⟩, m9, H⟩ := H
     dsimp only at H
     replace H := bs_ H
     obtain ⟨⟨e5, l7, l8⟩, n0, H⟩ := H
     dsimp only at H
     replace H : ∃ y_ : List S88, Aside0 (y_ = (([(⟨e3, (⟨wrap64 (10 * e4), wrap64 (10 * e5)⟩ : S35)⟩ : S88)] : List S88))) ∧ (some (2, a4, a1, (wrap64 (120 + (wrap64 (10 * D)))), (wrap64 (30 + (wrap64 (10 * E)))), (wrap64 (50 + (wrap64 (10 * G)))), I, 60, y_, L, l7, l8)) = some (r1, r2, r3, r4, r5, r6, r7, r8, r9, b2, b3, b4) := ⟨_, ⟨rfl⟩, yh_ H⟩
     obtain ⟨e6, j8, H⟩ := H
     simp only [Option.some.injEq, Prod.mk.injEq] at H
     obtain ⟨rfl, rfl, rfl, rfl, rfl, rfl, rfl, rfl, rfl, rfl, rfl, rfl⟩ := H
     go_wp2_with (first | ((with_reducible refine gate_callee (f := 60) rfl ?_); refine goesL_ (some 58) rfl rfl Try.func60 (by kernel_rfl) rfl #[.pointer (some ⟨g, 0, none⟩), iv_ 12] rfl mp_ ?_; (with_reducible refine (spec_l1Below.calls g x d3 d4 12 a6 f1 f2 y _ ?side1 ?side2 j0.out).mono ?_); (case side1 => exact is2_ j z B); (case side2 => repeat (first | (with_reducible first | exact HB.out | apply below_alloc | apply pw_below_drewN | apply below_drew1 | refine below_set ?_ (IsS102.ge j.out) | refine below_set ?_ T.out | refine below_set ?_ Y.out) | exact HB.out)); rintro e u1 ⟨rfl, hi, hb, hk⟩; refine ⟨_, rfl, sh6_ (Kd.R_mono (Kd.R_keep (IsS102.apart (show IsS102 y _ g x d3 d4 from (is2_ j z B)) (ra_ u) (by decide)) hk (fun _ h => h.2)) (fun _ h => h.1)) (KeepBut.blk hk (g' := s) (o := .cells #[iv_ 0, .slice none 0 0, .slice none 0 0, iv_ 0, iv_ 0, iv_ 0, iv_ 0, iv_ 0, .slice none 0 0, iv_ 0] 28 (0, 0)) (bk_ m) a0.out (by simp)) (KeepBut.blk hk (g' := O) (o := .cells #[iv_ 2, X, .slice none 0 0, iv_ (wrap64 (120 + (wrap64 (10 * D)))), iv_ (wrap64 (30 + (wrap64 (10 * E)))), iv_ (wrap64 (50 + (wrap64 (10 * G)))), iv_ I, iv_ 60, .slice none 0 0, iv_ L] 28 (0, 0)) (bk_ l) a2.out (by simp)) (KeepBut.trans (kb2_ HK J U) hk (.inl rfl)) hb hi ?_⟩; clear u m l HK HB j hb hk hi; intro u m l HK HB j) | ((with_reducible refine gate_callee (f := 60) rfl ?_); refine goesL_ (some 61) rfl rfl Try.func60 (by kernel_rfl) rfl #[.pointer (some ⟨g, 0, none⟩), iv_ 2] rfl mp_ ?_; (with_reducible refine (spec_l1Below.calls g x f1 f2 2 a7 f3 f4 y _ ?side1 ?side2 j1.out).mono ?_); (case side1 => exact is2_ j z B); (case side2 => repeat (first | (with_reducible first | exact HB.out | apply below_alloc | apply pw_below_drewN | apply below_drew1 | refine below_set ?_ (IsS102.ge j.out) | refine below_set ?_ T.out | refine below_set ?_ Y.out) | exact HB.out)); rintro e u2 ⟨rfl, hi, hb, hk⟩; refine ⟨_, rfl, sh6_ (Kd.R_mono (Kd.R_keep (IsS102.apart (show IsS102 y _ g x f1 f2 from (is2_ j z B)) (ra_ u) (by decide)) hk (fun _ h => h.2)) (fun _ h => h.1)) (KeepBut.blk hk (g' := s) (o := .cells #[iv_ 0, .slice none 0 0, .slice none 0 0, iv_ 0, iv_ 0, iv_ 0, iv_ 0, iv_ 0, .slice none 0 0, iv_ 0] 28 (0, 0)) (bk_ m) a0.out (by simp)) (KeepBut.blk hk (g' := O) (o := .cells #[iv_ 2, X, .slice none 0 0, iv_ (wrap64 (120 + (wrap64 (10 * D)))), iv_ (wrap64 (30 + (wrap64 (10 * E)))), iv_ (wrap64 (50 + (wrap64 (10 * G)))), iv_ I, iv_ 60, .slice none 0 0, iv_ L] 28 (0, 0)) (bk_ l) a2.out (by simp)) (KeepBut.trans (kb2_ HK J U) hk (.inl rfl)) hb hi ?_⟩; clear u m l HK HB j hb hk hi; intro u m l HK HB j) | ((with_reducible refine gate_callee (f := 60) rfl ?_); refine goesL_ (some 64) rfl rfl Try.func60 (by kernel_rfl) rfl #[.pointer (some ⟨g, 0, none⟩), iv_ 12] rfl mp_ ?_; (with_reducible refine (spec_l1Below.calls g x f3 f4 12 a8 d1 d2 y _ ?side1 ?side2 j2.out).mono ?_); (case side1 => exact is2_ j z B); (case side2 => repeat (first | (with_reducible first | exact HB.out | apply below_alloc | apply pw_below_drewN | apply below_drew1 | refine below_set ?_ (IsS102.ge j.out) | refine below_set ?_ T.out | refine below_set ?_ Y.out) | exact HB.out)); rintro e u3 ⟨rfl, hi, hb, hk⟩; refine ⟨_, rfl, sh6_ (Kd.R_mono (Kd.R_keep (IsS102.apart (show IsS102 y _ g x f3 f4 from (is2_ j z B)) (ra_ u) (by decide)) hk (fun _ h => h.2)) (fun _ h => h.1)) (KeepBut.blk hk (g' := s) (o := .cells #[iv_ 0, .slice none 0 0, .slice none 0 0, iv_ 0, iv_ 0, iv_ 0, iv_ 0, iv_ 0, .slice none 0 0, iv_ 0] 28 (0, 0)) (bk_ m) a0.out (by simp)) (KeepBut.blk hk (g' := O) (o := .cells #[iv_ 2, X, .slice none 0 0, iv_ (wrap64 (120 + (wrap64 (10 * D)))), iv_ (wrap64 (30 + (wrap64 (10 * E)))), iv_ (wrap64 (50 + (wrap64 (10 * G)))), iv_ I, iv_ 60, .slice none 0 0, iv_ L] 28 (0, 0)) (bk_ l) a2.out (by simp)) (KeepBut.trans (kb2_ HK J U) hk (.inl rfl)) hb hi ?_⟩; clear u m l HK HB j hb hk hi; intro u m l HK HB j) | ((with_reducible refine gate_dst (N := 68) rfl ?_); refine Kd.R_lit k74 _ 74 ?hg (N := 68) ?hd (xs := ([(⟨0, wrap64 (10 * a6), a7⟩ : S74), (⟨1, wrap64 (180 + (wrap64 (10 * a8))), 0⟩ : S74)] : List S74)) (inner := [iv_ 0, iv_ (wrap64 (10 * a6)), iv_ a7, iv_ 1, iv_ (wrap64 (180 + (wrap64 (10 * a8)))), iv_ 0]) (ok := fun _ => True) (okp := fun _ => True) ?hr ?hp (fun _ hk => hk) trivial (Below.refl _ _) (Nat.le_refl _) (by simp) ?_; (case hd => rfl); (case hg => rfl); (case hr => first | (go_simp; done) | (go_simp; rfl)); (case hp => exact (Reps.c3 (show Kd.M k74 _ _ _ (⟨0, wrap64 (10 * a6), a7⟩ : S74) [iv_ 0, iv_ (wrap64 (10 * a6)), iv_ a7] from (k74_mkM _ _ _ (⟨0, wrap64 (10 * a6), a7⟩ : S74) )) (Reps.c3 (show Kd.M k74 _ _ _ (⟨1, wrap64 (180 + (wrap64 (10 * a8))), 0⟩ : S74) [iv_ 1, iv_ (wrap64 (180 + (wrap64 (10 * a8)))), iv_ 0] from (k74_mkM _ _ _ (⟨1, wrap64 (180 + (wrap64 (10 * a8))), 0⟩ : S74) )) (Reps.none _ _)))); intro o6 u4 g0 hb hg_ hnew_; clear hg_ hnew_; (first | rw [← h3.out] at g0 | (simp only [Int.reduceToNat] at g0; rw [← h3.out] at g0)); refine sh7_ (Kd.R_below (ra_ u) hb) (Kd.R_lower g0 (keep_size (w := w) (g := g) (row := none) (kb2_ HK J U))) (blk_below (bk_ m) hb) (blk_below (bk_ l) hb) (IsS102.below (is2_ j z B) hb) (KeepBut.trans (kb2_ HK J U) (KeepBut.of_below hb g none) (.inl rfl)) (below_step (by repeat (first | (with_reducible first | exact HB.out | apply below_alloc | apply pw_below_drewN | apply below_drew1 | refine below_set ?_ (IsS102.ge j.out) | refine below_set ?_ T.out | refine below_set ?_ Y.out) | exact HB.out)) hb) ?_; clear u m l j HK HB hb g0; intro u Z m l j HK HB; obtain ⟨a9, b0, n8⟩ := Kd.R_slice Z.out; subst n8; have q1 := h2.out; have q9 := a5.out; have q2 := a2.out; have r0 := B.out; have p1 := cf10_ l) | ((with_reducible refine gate_callee (f := 77) rfl ?_); refine goesL_ (some 71) rfl rfl Try.func77 (by kernel_rfl) rfl #[.pointer (some ⟨g, 0, none⟩), iv_ 3] rfl mp_ ?_; (with_reducible refine (spec_l1Once.calls g x d1 d2 3 true e1 e2 y _ ?side1 ?side2 j3.out).mono ?_); (case side1 => exact is2_ j z B); (case side2 => repeat (first | (with_reducible first | exact HB.out | apply below_alloc | apply pw_below_drewN | apply below_drew1 | refine below_set ?_ (IsS102.ge j.out) | refine below_set ?_ T.out | refine below_set ?_ Y.out) | exact HB.out)); rintro e u5 ⟨rfl, hi, hb, hk⟩; refine ⟨_, rfl, sh7_ (Kd.R_mono (Kd.R_keep (IsS102.apart (show IsS102 y _ g x d1 d2 from (is2_ j z B)) (by (with_reducible repeat (first | apply Kd.R_alloc | apply Kd.R_drewN | apply Kd.R_drew)); exact (Kd.R_mono (Kd.R_far (p := ⟨O, 2, none⟩) (Kd.R_types u.out l.out (by decide)) (fun _ hk => hk.2) (.slice a9 a1.length b0)) (fun _ h_ => h_.1))) (by decide)) hk (fun _ h => h.2)) (fun _ h => h.1)) (KeepBut.blk hk (g' := s) (o := .cells #[iv_ 0, .slice none 0 0, .slice none 0 0, iv_ 0, iv_ 0, iv_ 0, iv_ 0, iv_ 0, .slice none 0 0, iv_ 0] 28 (0, 0)) (bp_ m) a0.out (by simp)) (KeepBut.blk hk (g' := O) (o := .cells #[iv_ 2, X, .slice a9 a1.length b0, iv_ (wrap64 (120 + (wrap64 (10 * D)))), iv_ (wrap64 (30 + (wrap64 (10 * E)))), iv_ (wrap64 (50 + (wrap64 (10 * G)))), iv_ I, iv_ 60, .slice none 0 0, iv_ L] 28 (0, 0)) (bp_ l) a2.out (by simp)) (Kd.R_mono (Kd.R_keep (IsS102.apart (show IsS102 y _ g x d1 d2 from (is2_ j z B)) (by (with_reducible repeat (first | apply Kd.R_alloc | apply Kd.R_drewN | apply Kd.R_drew)); exact (Kd.R_mono (Kd.R_far (p := ⟨O, 2, none⟩) (Kd.R_types Z.out l.out (by decide)) (fun _ hk => hk.2) (.slice a9 a1.length b0)) (fun _ h_ => h_.1))) (by decide)) hk (fun _ h => h.2)) (fun _ h => h.1)) (KeepBut.trans (kb2_ HK J U) hk (.inl rfl)) hb hi ?_⟩; clear u m l Z HK HB j hb hk hi; intro u m l Z HK HB j) | ((with_reducible refine gate_callee (f := 60) rfl ?_); refine goesL_ (some 73) rfl rfl Try.func60 (by kernel_rfl) rfl #[.pointer (some ⟨g, 0, none⟩), iv_ 2] rfl mp_ ?_; (with_reducible refine (spec_l1Below.calls g x e1 e2 2 e3 h8 h9 y _ ?side1 ?side2 m8.out).mono ?_); (case side1 => exact is2_ j z B); (case side2 => repeat (first | (with_reducible first | exact HB.out | apply below_alloc | apply pw_below_drewN | apply below_drew1 | refine below_set ?_ (IsS102.ge j.out) | refine below_set ?_ T.out | refine below_set ?_ Y.out) | exact HB.out)); rintro e u6 ⟨rfl, hi, hb, hk⟩; refine ⟨_, rfl, sh7_ (Kd.R_mono (Kd.R_keep (IsS102.apart (show IsS102 y _ g x e1 e2 from (is2_ j z B)) (ra_ u) (by decide)) hk (fun _ h => h.2)) (fun _ h => h.1)) (KeepBut.blk hk (g' := s) (o := .cells #[iv_ 0, .slice none 0 0, .slice none 0 0, iv_ 0, iv_ 0, iv_ 0, iv_ 0, iv_ 0, .slice none 0 0, iv_ 0] 28 (0, 0)) (bk_ m) a0.out (by simp)) (KeepBut.blk hk (g' := O) (o := .cells #[iv_ 2, X, .slice a9 a1.length b0, iv_ (wrap64 (120 + (wrap64 (10 * D)))), iv_ (wrap64 (30 + (wrap64 (10 * E)))), iv_ (wrap64 (50 + (wrap64 (10 * G)))), iv_ I, iv_ 60, .slice none 0 0, iv_ L] 28 (0, 0)) (bk_ l) a2.out (by simp)) (Kd.R_mono (Kd.R_keep (IsS102.apart (show IsS102 y _ g x e1 e2 from (is2_ j z B)) (ra_ Z) (by decide)) hk (fun _ h => h.2)) (fun _ h => h.1)) (KeepBut.trans (kb2_ HK J U) hk (.inl rfl)) hb hi ?_⟩; clear u m l Z HK HB j hb hk hi; intro u m l Z HK HB j) | ((with_reducible refine gate_callee (f := 60) rfl ?_); refine goesL_ (some 75) rfl rfl Try.func60 (by kernel_rfl) rfl #[.pointer (some ⟨g, 0, none⟩), iv_ 36] rfl mp_ ?_; (with_reducible refine (spec_l1Below.calls g x h8 h9 36 e4 i0 i1 y _ ?side1 ?side2 m9.out).mono ?_); (case side1 => exact is2_ j z B); (case side2 => repeat (first | (with_reducible first | exact HB.out | apply below_alloc | apply pw_below_drewN | apply below_drew1 | refine below_set ?_ (IsS102.ge j.out) | refine below_set ?_ T.out | refine below_set ?_ Y.out) | exact HB.out)); rintro e u7 ⟨rfl, hi, hb, hk⟩; refine ⟨_, rfl, sh7_ (Kd.R_mono (Kd.R_keep (IsS102.apart (show IsS102 y _ g x h8 h9 from (is2_ j z B)) (ra_ u) (by decide)) hk (fun _ h => h.2)) (fun _ h => h.1)) (KeepBut.blk hk (g' := s) (o := .cells #[iv_ 0, .slice none 0 0, .slice none 0 0, iv_ 0, iv_ 0, iv_ 0, iv_ 0, iv_ 0, .slice none 0 0, iv_ 0] 28 (0, 0)) (bk_ m) a0.out (by simp)) (KeepBut.blk hk (g' := O) (o := .cells #[iv_ 2, X, .slice a9 a1.length b0, iv_ (wrap64 (120 + (wrap64 (10 * D)))), iv_ (wrap64 (30 + (wrap64 (10 * E)))), iv_ (wrap64 (50 + (wrap64 (10 * G)))), iv_ I, iv_ 60, .slice none 0 0, iv_ L] 28 (0, 0)) (bk_ l) a2.out (by simp)) (Kd.R_mono (Kd.R_keep (IsS102.apart (show IsS102 y _ g x h8 h9 from (is2_ j z B)) (ra_ Z) (by decide)) hk (fun _ h => h.2)) (fun _ h => h.1)) (KeepBut.trans (kb2_ HK J U) hk (.inl rfl)) hb hi ?_⟩; clear u m l Z HK HB j hb hk hi; intro u m l Z HK HB j) | ((with_reducible refine gate_callee (f := 60) rfl ?_); refine goesL_ (some 78) rfl rfl Try.func60 (by kernel_rfl) rfl #[.pointer (some ⟨g, 0, none⟩), iv_ 5] rfl mp_ ?_; (with_reducible refine (spec_l1Below.calls g x i0 i1 5 e5 l7 l8 y _ ?side1 ?side2 n0.out).mono ?_); (case side1 => exact is2_ j z B); (case side2 => repeat (first | (with_reducible first | exact HB.out | apply below_alloc | apply pw_below_drewN | apply below_drew1 | refine below_set ?_ (IsS102.ge j.out) | refine below_set ?_ T.out | refine below_set ?_ Y.out) | exact HB.out)); rintro e u8 ⟨rfl, hi, hb, hk⟩; refine ⟨_, rfl, sh7_ (Kd.R_mono (Kd.R_keep (IsS102.apart (show IsS102 y _ g x i0 i1 from (is2_ j z B)) (ra_ u) (by decide)) hk (fun _ h => h.2)) (fun _ h => h.1)) (KeepBut.blk hk (g' := s) (o := .cells #[iv_ 0, .slice none 0 0, .slice none 0 0, iv_ 0, iv_ 0, iv_ 0, iv_ 0, iv_ 0, .slice none 0 0, iv_ 0] 28 (0, 0)) (bk_ m) a0.out (by simp)) (KeepBut.blk hk (g' := O) (o := .cells #[iv_ 2, X, .slice a9 a1.length b0, iv_ (wrap64 (120 + (wrap64 (10 * D)))), iv_ (wrap64 (30 + (wrap64 (10 * E)))), iv_ (wrap64 (50 + (wrap64 (10 * G)))), iv_ I, iv_ 60, .slice none 0 0, iv_ L] 28 (0, 0)) (bk_ l) a2.out (by simp)) (Kd.R_mono (Kd.R_keep (IsS102.apart (show IsS102 y _ g x i0 i1 from (is2_ j z B)) (ra_ Z) (by decide)) hk (fun _ h => h.2)) (fun _ h => h.1)) (KeepBut.trans (kb2_ HK J U) hk (.inl rfl)) hb hi ?_⟩; clear u m l Z HK HB j hb hk hi; intro u m l Z HK HB j) | ((with_reducible refine gate_dst (N := 82) rfl ?_); refine Kd.R_lit k88 _ 88 ?hg (N := 82) ?hd (xs := ([(⟨e3, (⟨wrap64 (10 * e4), wrap64 (10 * e5)⟩ : S35)⟩ : S88)] : List S88)) (inner := [iv_ e3, iv_ (wrap64 (10 * e4)), iv_ (wrap64 (10 * e5))]) (ok := fun _ => True) (okp := fun _ => True) ?hr ?hp (fun _ hk => hk) trivial (Below.refl _ _) (Nat.le_refl _) (by simp) ?_; (case hd => rfl); (case hg => rfl); (case hr => first | (go_simp; done) | (go_simp; rfl)); (case hp => exact (Reps.c3 (show Kd.M k88 _ _ _ (⟨e3, (⟨wrap64 (10 * e4), wrap64 (10 * e5)⟩ : S35)⟩ : S88) [iv_ e3, iv_ (wrap64 (10 * e4)), iv_ (wrap64 (10 * e5))] from (k88_mkM _ _ _ (⟨e3, (⟨wrap64 (10 * e4), wrap64 (10 * e5)⟩ : S35)⟩ : S88) )) (Reps.none _ _))); intro t2 u9 g1 hb hg_ hnew_; clear hg_ hnew_; (first | rw [← j8.out] at g1 | (simp only [Int.reduceToNat] at g1; rw [← j8.out] at g1)); refine sh8_ (Kd.R_below (ra_ u) hb) (Kd.R_below (ra_ Z) hb) (Kd.R_lower g1 (keep_size (w := w) (g := g) (row := none) (kb2_ HK J U))) (blk_below (bk_ m) hb) (blk_below (bk_ l) hb) (IsS102.below (is2_ j z B) hb) (KeepBut.trans (kb2_ HK J U) (KeepBut.of_below hb g none) (.inl rfl)) (below_step (by repeat (first | (with_reducible first | exact HB.out | apply below_alloc | apply pw_below_drewN | apply below_drew1 | refine below_set ?_ (IsS102.ge j.out) | refine below_set ?_ T.out | refine below_set ?_ Y.out) | exact HB.out)) hb) ?_; clear u Z m l j HK HB hb g1; intro u Z j6 m l j HK HB; obtain ⟨d6, e0, n9⟩ := Kd.R_slice j6.out; subst n9; have p2 := cf10_ l; have q3 := a0.out; have s0 := z.out; have p3 := cf10_ m; obtain ⟨g9, h5, o0⟩ := Kd.R_slice u.out; subst o0))
     refine bodyPost_ret (results_cell_row rfl _ _ s 28 #[iv_ 2, .slice g9 a4.length h5, .slice a9 a1.length b0, iv_ (wrap64 (120 + (wrap64 (10 * D)))), iv_ (wrap64 (30 + (wrap64 (10 * E)))), iv_ (wrap64 (50 + (wrap64 (10 * G)))), iv_ I, iv_ 60, .slice d6 e6.length e0, iv_ L] (0, 0) _ rfl (bp_ m) Try.underlying28 rfl (by kernel_rfl)) rfl ?_
     exact ⟨_, _, _, by first | (rw [hRT_.out]; rfl) | exact er_, by (with_reducible repeat (first | apply Kd.R_alloc | apply Kd.R_drewN | apply Kd.R_drew)); exact Kd.R_mono (Kd.R_far (p := ⟨s, 9, none⟩) (Kd.R_far (p := ⟨s, 8, none⟩) (Kd.R_far (p := ⟨s, 7, none⟩) (Kd.R_far (p := ⟨s, 6, none⟩) (Kd.R_far (p := ⟨s, 5, none⟩) (Kd.R_far (p := ⟨s, 4, none⟩) (Kd.R_far (p := ⟨s, 3, none⟩) (Kd.R_far (p := ⟨s, 2, none⟩) (Kd.R_far (p := ⟨s, 1, none⟩) (Kd.R_far (p := ⟨s, 0, none⟩) (Kd.R_far (p := ⟨O, 8, none⟩) (Kd.R_types (Kd.R_types u.out l.out (by decide)) m.out (by decide)) (fun _ hk => hk.1.2) (.slice d6 e6.length e0)) (fun _ hk => hk.2) (iv_ 2)) (fun _ hk => hk.2) (.slice g9 a4.length h5)) (fun _ hk => hk.2) (.slice a9 a1.length b0)) (fun _ hk => hk.2) (iv_ (wrap64 (120 + (wrap64 (10 * D)))))) (fun _ hk => hk.2) (iv_ (wrap64 (30 + (wrap64 (10 * E)))))) (fun _ hk => hk.2) (iv_ (wrap64 (50 + (wrap64 (10 * G)))))) (fun _ hk => hk.2) (iv_ I)) (fun _ hk => hk.2) (iv_ 60)) (fun _ hk => hk.2) (.slice d6 e6.length e0)) (fun _ hk => hk.2) (iv_ L)) (fun _ hk => trivial), by (with_reducible repeat (first | apply Kd.R_alloc | apply Kd.R_drewN | apply Kd.R_drew)); exact Kd.R_mono (Kd.R_far (p := ⟨s, 9, none⟩) (Kd.R_far (p := ⟨s, 8, none⟩) (Kd.R_far (p := ⟨s, 7, none⟩) (Kd.R_far (p := ⟨s, 6, none⟩) (Kd.R_far (p := ⟨s, 5, none⟩) (Kd.R_far (p := ⟨s, 4, none⟩) (Kd.R_far (p := ⟨s, 3, none⟩) (Kd.R_far (p := ⟨s, 2, none⟩) (Kd.R_far (p := ⟨s, 1, none⟩) (Kd.R_far (p := ⟨s, 0, none⟩) (Kd.R_far (p := ⟨O, 8, none⟩) (Kd.R_types (Kd.R_types Z.out l.out (by decide)) m.out (by decide)) (fun _ hk => hk.1.2) (.slice d6 e6.length e0)) (fun _ hk => hk.2) (iv_ 2)) (fun _ hk => hk.2) (.slice g9 a4.length h5)) (fun _ hk => hk.2) (.slice a9 a1.length b0)) (fun _ hk => hk.2) (iv_ (wrap64 (120 + (wrap64 (10 * D)))))) (fun _ hk => hk.2) (iv_ (wrap64 (30 + (wrap64 (10 * E)))))) (fun _ hk => hk.2) (iv_ (wrap64 (50 + (wrap64 (10 * G)))))) (fun _ hk => hk.2) (iv_ I)) (fun _ hk => hk.2) (iv_ 60)) (fun _ hk => hk.2) (.slice d6 e6.length e0)) (fun _ hk => hk.2) (iv_ L)) (fun _ hk => trivial), by (with_reducible repeat (first | apply Kd.R_alloc | apply Kd.R_drewN | apply Kd.R_drew)); exact Kd.R_mono (Kd.R_far (p := ⟨s, 9, none⟩) (Kd.R_far (p := ⟨s, 8, none⟩) (Kd.R_far (p := ⟨s, 7, none⟩) (Kd.R_far (p := ⟨s, 6, none⟩) (Kd.R_far (p := ⟨s, 5, none⟩) (Kd.R_far (p := ⟨s, 4, none⟩) (Kd.R_far (p := ⟨s, 3, none⟩) (Kd.R_far (p := ⟨s, 2, none⟩) (Kd.R_far (p := ⟨s, 1, none⟩) (Kd.R_far (p := ⟨s, 0, none⟩) (Kd.R_far (p := ⟨O, 8, none⟩) (Kd.R_types (Kd.R_types j6.out l.out (by decide)) m.out (by decide)) (fun _ hk => hk.1.2) (.slice d6 e6.length e0)) (fun _ hk => hk.2) (iv_ 2)) (fun _ hk => hk.2) (.slice g9 a4.length h5)) (fun _ hk => hk.2) (.slice a9 a1.length b0)) (fun _ hk => hk.2) (iv_ (wrap64 (120 + (wrap64 (10 * D)))))) (fun _ hk => hk.2) (iv_ (wrap64 (30 + (wrap64 (10 * E)))))) (fun _ hk => hk.2) (iv_ (wrap64 (50 + (wrap64 (10 * G)))))) (fun _ hk => hk.2) (iv_ I)) (fun _ hk => hk.2) (iv_ 60)) (fun _ hk => hk.2) (.slice d6 e6.length e0)) (fun _ hk => hk.2) (iv_ L)) (fun _ hk => trivial), (is2_ j z B), by repeat (first | (with_reducible first | exact HB.out | apply below_alloc | apply pw_below_drewN | apply below_drew1 | refine below_set ?_ (IsS102.ge j.out) | refine below_set ?_ T.out | refine below_set ?_ Y.out) | exact HB.out), (kb2_ HK J U)⟩
    ·replace h4 := Bool.eq_false_iff.mpr h4
     subst h4
     have H1 : (some (2, a4, a1, (wrap64 (120 + (wrap64 (10 * D)))), (wrap64 (30 + (wrap64 (10 * E)))), (wrap64 (50 + (wrap64 (10 * G)))), I, 60, ([] : List S88), L, e1, e2)) = some (r1, r2, r3, r4, r5, r6, r7, r8, r9, b2, b3, b4) := by rw [if_neg (show ¬ (false = true) by decide)] at H; exact H
     clear H
     have H := H1
     clear H1
     simp only [Option.some.injEq, Prod.mk.injEq] at H
     obtain ⟨rfl, rfl, rfl, rfl, rfl, rfl, rfl, rfl, rfl, rfl, rfl, rfl⟩ := H
     go_wp2_with (first | ((with_reducible refine gate_callee (f := 60) rfl ?_); refine goesL_ (some 58) rfl rfl Try.func60 (by kernel_rfl) rfl #[.pointer (some ⟨g, 0, none⟩), iv_ 12] rfl mp_ ?_; (with_reducible refine (spec_l1Below.calls g x d3 d4 12 a6 f1 f2 y _ ?side1 ?side2 j0.out).mono ?_); (case side1 => exact is2_ j z B); (case side2 => repeat (first | (with_reducible first | exact HB.out | apply below_alloc | apply pw_below_drewN | apply below_drew1 | refine below_set ?_ (IsS102.ge j.out) | refine below_set ?_ T.out | refine below_set ?_ Y.out) | exact HB.out)); rintro e v0 ⟨rfl, hi, hb, hk⟩; refine ⟨_, rfl, sh6_ (Kd.R_mono (Kd.R_keep (IsS102.apart (show IsS102 y _ g x d3 d4 from (is2_ j z B)) (ra_ u) (by decide)) hk (fun _ h => h.2)) (fun _ h => h.1)) (KeepBut.blk hk (g' := s) (o := .cells #[iv_ 0, .slice none 0 0, .slice none 0 0, iv_ 0, iv_ 0, iv_ 0, iv_ 0, iv_ 0, .slice none 0 0, iv_ 0] 28 (0, 0)) (bk_ m) a0.out (by simp)) (KeepBut.blk hk (g' := O) (o := .cells #[iv_ 2, X, .slice none 0 0, iv_ (wrap64 (120 + (wrap64 (10 * D)))), iv_ (wrap64 (30 + (wrap64 (10 * E)))), iv_ (wrap64 (50 + (wrap64 (10 * G)))), iv_ I, iv_ 60, .slice none 0 0, iv_ L] 28 (0, 0)) (bk_ l) a2.out (by simp)) (KeepBut.trans (kb2_ HK J U) hk (.inl rfl)) hb hi ?_⟩; clear u m l HK HB j hb hk hi; intro u m l HK HB j) | ((with_reducible refine gate_callee (f := 60) rfl ?_); refine goesL_ (some 61) rfl rfl Try.func60 (by kernel_rfl) rfl #[.pointer (some ⟨g, 0, none⟩), iv_ 2] rfl mp_ ?_; (with_reducible refine (spec_l1Below.calls g x f1 f2 2 a7 f3 f4 y _ ?side1 ?side2 j1.out).mono ?_); (case side1 => exact is2_ j z B); (case side2 => repeat (first | (with_reducible first | exact HB.out | apply below_alloc | apply pw_below_drewN | apply below_drew1 | refine below_set ?_ (IsS102.ge j.out) | refine below_set ?_ T.out | refine below_set ?_ Y.out) | exact HB.out)); rintro e v1 ⟨rfl, hi, hb, hk⟩; refine ⟨_, rfl, sh6_ (Kd.R_mono (Kd.R_keep (IsS102.apart (show IsS102 y _ g x f1 f2 from (is2_ j z B)) (ra_ u) (by decide)) hk (fun _ h => h.2)) (fun _ h => h.1)) (KeepBut.blk hk (g' := s) (o := .cells #[iv_ 0, .slice none 0 0, .slice none 0 0, iv_ 0, iv_ 0, iv_ 0, iv_ 0, iv_ 0, .slice none 0 0, iv_ 0] 28 (0, 0)) (bk_ m) a0.out (by simp)) (KeepBut.blk hk (g' := O) (o := .cells #[iv_ 2, X, .slice none 0 0, iv_ (wrap64 (120 + (wrap64 (10 * D)))), iv_ (wrap64 (30 + (wrap64 (10 * E)))), iv_ (wrap64 (50 + (wrap64 (10 * G)))), iv_ I, iv_ 60, .slice none 0 0, iv_ L] 28 (0, 0)) (bk_ l) a2.out (by simp)) (KeepBut.trans (kb2_ HK J U) hk (.inl rfl)) hb hi ?_⟩; clear u m l HK HB j hb hk hi; intro u m l HK HB j) | ((with_reducible refine gate_callee (f := 60) rfl ?_); refine goesL_ (some 64) rfl rfl Try.func60 (by kernel_rfl) rfl #[.pointer (some ⟨g, 0, none⟩), iv_ 12] rfl mp_ ?_; (with_reducible refine (spec_l1Below.calls g x f3 f4 12 a8 d1 d2 y _ ?side1 ?side2 j2.out).mono ?_); (case side1 => exact is2_ j z B); (case side2 => repeat (first | (with_reducible first | exact HB.out | apply below_alloc | apply pw_below_drewN | apply below_drew1 | refine below_set ?_ (IsS102.ge j.out) | refine below_set ?_ T.out | refine below_set ?_ Y.out) | exact HB.out)); rintro e v2 ⟨rfl, hi, hb, hk⟩; refine ⟨_, rfl, sh6_ (Kd.R_mono (Kd.R_keep (IsS102.apart (show IsS102 y _ g x f3 f4 from (is2_ j z B)) (ra_ u) (by decide)) hk (fun _ h => h.2)) (fun _ h => h.1)) (KeepBut.blk hk (g' := s) (o := .cells #[iv_ 0, .slice none 0 0, .slice none 0 0, iv_ 0, iv_ 0, iv_ 0, iv_ 0, iv_ 0, .slice none 0 0, iv_ 0] 28 (0, 0)) (bk_ m) a0.out (by simp)) (KeepBut.blk hk (g' := O) (o := .cells #[iv_ 2, X, .slice none 0 0, iv_ (wrap64 (120 + (wrap64 (10 * D)))), iv_ (wrap64 (30 + (wrap64 (10 * E)))), iv_ (wrap64 (50 + (wrap64 (10 * G)))), iv_ I, iv_ 60, .slice none 0 0, iv_ L] 28 (0, 0)) (bk_ l) a2.out (by simp)) (KeepBut.trans (kb2_ HK J U) hk (.inl rfl)) hb hi ?_⟩; clear u m l HK HB j hb hk hi; intro u m l HK HB j) | ((with_reducible refine gate_dst (N := 68) rfl ?_); refine Kd.R_lit k74 _ 74 ?hg (N := 68) ?hd (xs := ([(⟨0, wrap64 (10 * a6), a7⟩ : S74), (⟨1, wrap64 (180 + (wrap64 (10 * a8))), 0⟩ : S74)] : List S74)) (inner := [iv_ 0, iv_ (wrap64 (10 * a6)), iv_ a7, iv_ 1, iv_ (wrap64 (180 + (wrap64 (10 * a8)))), iv_ 0]) (ok := fun _ => True) (okp := fun _ => True) ?hr ?hp (fun _ hk => hk) trivial (Below.refl _ _) (Nat.le_refl _) (by simp) ?_; (case hd => rfl); (case hg => rfl); (case hr => first | (go_simp; done) | (go_simp; rfl)); (case hp => exact (Reps.c3 (show Kd.M k74 _ _ _ (⟨0, wrap64 (10 * a6), a7⟩ : S74) [iv_ 0, iv_ (wrap64 (10 * a6)), iv_ a7] from (k74_mkM _ _ _ (⟨0, wrap64 (10 * a6), a7⟩ : S74) )) (Reps.c3 (show Kd.M k74 _ _ _ (⟨1, wrap64 (180 + (wrap64 (10 * a8))), 0⟩ : S74) [iv_ 1, iv_ (wrap64 (180 + (wrap64 (10 * a8)))), iv_ 0] from (k74_mkM _ _ _ (⟨1, wrap64 (180 + (wrap64 (10 * a8))), 0⟩ : S74) )) (Reps.none _ _)))); intro o6 v3 g2 hb hg_ hnew_; clear hg_ hnew_; (first | rw [← h3.out] at g2 | (simp only [Int.reduceToNat] at g2; rw [← h3.out] at g2)); refine sh7_ (Kd.R_below (ra_ u) hb) (Kd.R_lower g2 (keep_size (w := w) (g := g) (row := none) (kb2_ HK J U))) (blk_below (bk_ m) hb) (blk_below (bk_ l) hb) (IsS102.below (is2_ j z B) hb) (KeepBut.trans (kb2_ HK J U) (KeepBut.of_below hb g none) (.inl rfl)) (below_step (by repeat (first | (with_reducible first | exact HB.out | apply below_alloc | apply pw_below_drewN | apply below_drew1 | refine below_set ?_ (IsS102.ge j.out) | refine below_set ?_ T.out | refine below_set ?_ Y.out) | exact HB.out)) hb) ?_; clear u m l j HK HB hb g2; intro u Z m l j HK HB; obtain ⟨e7, f0, o1⟩ := Kd.R_slice Z.out; subst o1; have q4 := h2.out; have s1 := a5.out; have q5 := a2.out; have s2 := B.out; have p4 := cf10_ l) | ((with_reducible refine gate_callee (f := 77) rfl ?_); refine goesL_ (some 71) rfl rfl Try.func77 (by kernel_rfl) rfl #[.pointer (some ⟨g, 0, none⟩), iv_ 3] rfl mp_ ?_; (with_reducible refine (spec_l1Once.calls g x d1 d2 3 false e1 e2 y _ ?side1 ?side2 j3.out).mono ?_); (case side1 => exact is2_ j z B); (case side2 => repeat (first | (with_reducible first | exact HB.out | apply below_alloc | apply pw_below_drewN | apply below_drew1 | refine below_set ?_ (IsS102.ge j.out) | refine below_set ?_ T.out | refine below_set ?_ Y.out) | exact HB.out)); rintro e v5 ⟨rfl, hi, hb, hk⟩; refine ⟨_, rfl, sh7_ (Kd.R_mono (Kd.R_keep (IsS102.apart (show IsS102 y _ g x d1 d2 from (is2_ j z B)) (by (with_reducible repeat (first | apply Kd.R_alloc | apply Kd.R_drewN | apply Kd.R_drew)); exact (Kd.R_mono (Kd.R_far (p := ⟨O, 2, none⟩) (Kd.R_types u.out l.out (by decide)) (fun _ hk => hk.2) (.slice e7 a1.length f0)) (fun _ h_ => h_.1))) (by decide)) hk (fun _ h => h.2)) (fun _ h => h.1)) (KeepBut.blk hk (g' := s) (o := .cells #[iv_ 0, .slice none 0 0, .slice none 0 0, iv_ 0, iv_ 0, iv_ 0, iv_ 0, iv_ 0, .slice none 0 0, iv_ 0] 28 (0, 0)) (bp_ m) a0.out (by simp)) (KeepBut.blk hk (g' := O) (o := .cells #[iv_ 2, X, .slice e7 a1.length f0, iv_ (wrap64 (120 + (wrap64 (10 * D)))), iv_ (wrap64 (30 + (wrap64 (10 * E)))), iv_ (wrap64 (50 + (wrap64 (10 * G)))), iv_ I, iv_ 60, .slice none 0 0, iv_ L] 28 (0, 0)) (bp_ l) a2.out (by simp)) (Kd.R_mono (Kd.R_keep (IsS102.apart (show IsS102 y _ g x d1 d2 from (is2_ j z B)) (by (with_reducible repeat (first | apply Kd.R_alloc | apply Kd.R_drewN | apply Kd.R_drew)); exact (Kd.R_mono (Kd.R_far (p := ⟨O, 2, none⟩) (Kd.R_types Z.out l.out (by decide)) (fun _ hk => hk.2) (.slice e7 a1.length f0)) (fun _ h_ => h_.1))) (by decide)) hk (fun _ h => h.2)) (fun _ h => h.1)) (KeepBut.trans (kb2_ HK J U) hk (.inl rfl)) hb hi ?_⟩; clear u m l Z HK HB j hb hk hi; intro u m l Z HK HB j; have p5 := cf10_ l; have q6 := a0.out; have s3 := z.out; have p6 := cf10_ m; obtain ⟨i2, i3, o2⟩ := Kd.R_slice u.out; subst o2))
     refine bodyPost_ret (results_cell_row rfl _ _ s 28 #[iv_ 2, .slice i2 a4.length i3, .slice e7 a1.length f0, iv_ (wrap64 (120 + (wrap64 (10 * D)))), iv_ (wrap64 (30 + (wrap64 (10 * E)))), iv_ (wrap64 (50 + (wrap64 (10 * G)))), iv_ I, iv_ 60, .slice none 0 0, iv_ L] (0, 0) _ rfl (bp_ m) Try.underlying28 rfl (by kernel_rfl)) rfl ?_
     exact ⟨_, _, _, by first | (rw [hRT_.out]; rfl) | exact er_, by (with_reducible repeat (first | apply Kd.R_alloc | apply Kd.R_drewN | apply Kd.R_drew)); exact Kd.R_mono (Kd.R_far (p := ⟨s, 9, none⟩) (Kd.R_far (p := ⟨s, 8, none⟩) (Kd.R_far (p := ⟨s, 7, none⟩) (Kd.R_far (p := ⟨s, 6, none⟩) (Kd.R_far (p := ⟨s, 5, none⟩) (Kd.R_far (p := ⟨s, 4, none⟩) (Kd.R_far (p := ⟨s, 3, none⟩) (Kd.R_far (p := ⟨s, 2, none⟩) (Kd.R_far (p := ⟨s, 1, none⟩) (Kd.R_far (p := ⟨s, 0, none⟩) (Kd.R_types u.out m.out (by decide)) (fun _ hk => hk.2) (iv_ 2)) (fun _ hk => hk.2) (.slice i2 a4.length i3)) (fun _ hk => hk.2) (.slice e7 a1.length f0)) (fun _ hk => hk.2) (iv_ (wrap64 (120 + (wrap64 (10 * D)))))) (fun _ hk => hk.2) (iv_ (wrap64 (30 + (wrap64 (10 * E)))))) (fun _ hk => hk.2) (iv_ (wrap64 (50 + (wrap64 (10 * G)))))) (fun _ hk => hk.2) (iv_ I)) (fun _ hk => hk.2) (iv_ 60)) (fun _ hk => hk.2) (.slice none 0 0)) (fun _ hk => hk.2) (iv_ L)) (fun _ hk => trivial), by (with_reducible repeat (first | apply Kd.R_alloc | apply Kd.R_drewN | apply Kd.R_drew)); exact Kd.R_mono (Kd.R_far (p := ⟨s, 9, none⟩) (Kd.R_far (p := ⟨s, 8, none⟩) (Kd.R_far (p := ⟨s, 7, none⟩) (Kd.R_far (p := ⟨s, 6, none⟩) (Kd.R_far (p := ⟨s, 5, none⟩) (Kd.R_far (p := ⟨s, 4, none⟩) (Kd.R_far (p := ⟨s, 3, none⟩) (Kd.R_far (p := ⟨s, 2, none⟩) (Kd.R_far (p := ⟨s, 1, none⟩) (Kd.R_far (p := ⟨s, 0, none⟩) (Kd.R_types Z.out m.out (by decide)) (fun _ hk => hk.2) (iv_ 2)) (fun _ hk => hk.2) (.slice i2 a4.length i3)) (fun _ hk => hk.2) (.slice e7 a1.length f0)) (fun _ hk => hk.2) (iv_ (wrap64 (120 + (wrap64 (10 * D)))))) (fun _ hk => hk.2) (iv_ (wrap64 (30 + (wrap64 (10 * E)))))) (fun _ hk => hk.2) (iv_ (wrap64 (50 + (wrap64 (10 * G)))))) (fun _ hk => hk.2) (iv_ I)) (fun _ hk => hk.2) (iv_ 60)) (fun _ hk => hk.2) (.slice none 0 0)) (fun _ hk => hk.2) (iv_ L)) (fun _ hk => trivial), by first | exact Kd.R_nil _ _ _ _ _ | exact Kd.N_nil _ _ _ _ _ | exact Kd.V_nil _ _ _ _ _ | exact Kd.Q_nil _ _ _ _ _ | exact Kd.S_nil _ _ _ _ _, (is2_ j z B), by repeat (first | (with_reducible first | exact HB.out | apply below_alloc | apply pw_below_drewN | apply below_drew1 | refine below_set ?_ (IsS102.ge j.out) | refine below_set ?_ T.out | refine below_set ?_ Y.out) | exact HB.out), (kb2_ HK J U)⟩

/-! ### spec_l10Sky: function 76 -/
def spec_l10Sky.l0 : Nat → Int → List Int → Int → Int → Int → List S72 → List S74 → Int → Int → Int → Int → Int → List S88 → Int → Option (Int × List S72 × List S74 × Int × Int × Int × Int × Int × List S88 × Int × Int × Int)
 | 0, _, _, _, _, _, _, _, _, _, _, _, _, _, _ => none
 | k + 1, O, j, x, y, z, B, D, E, G, I, J, L, u, M => if O > 0 then ((spec_l1Below.f j x y 2).bind fun l => ((spec_l1Below.f j l.2.1 l.2.2 36).bind fun m => ((spec_l1Below.f j m.2.1 m.2.2 8).bind fun s => (if u.length < 5864062014805 then (spec_l10Sky.l0 k (wrap64 (O - 1)) j s.2.1 s.2.2 z B D E G I J L (u ++ [(⟨l.1, (⟨wrap64 (10 * m.1), wrap64 (10 * s.1)⟩ : S35)⟩ : S88)]) M) else (none))))) else (some (z, B, D, E, G, I, J, L, u, M, x, y))
def spec_l10Sky.f (k : Nat) (m : List Int) (s u : Int) : Option (Int × List S72 × List S74 × Int × Int × Int × Int × Int × List S88 × Int × Int × Int) := (spec_l7Sky.f k m s u).bind fun j => ((spec_l1Below.f m j.2.2.2.2.2.2.2.2.2.2.1 j.2.2.2.2.2.2.2.2.2.2.2 3).bind fun l => (spec_l10Sky.l0 k l.1 m l.2.1 l.2.2 j.1 j.2.1 j.2.2.1 j.2.2.2.1 j.2.2.2.2.1 j.2.2.2.2.2.1 j.2.2.2.2.2.2.1 j.2.2.2.2.2.2.2.1 (([] : List S88)) j.2.2.2.2.2.2.2.2.2.1))
def spec_l10Sky.T6 : Bool × List (List Nat × List Nat) := (true, [([], []), ([0], [0]), ([], []), ([2], [2]), ([], []), ([4, 3], [4]), ([5], [5]), ([], []), ([7, 5], [7]), ([8], [8]), ([6, 9], [6, 9]), ([3, 10], [3, 10]), ([11], [11]), ([1, 12, 8], [1, 12]), ([0, 1, 2, 3, 4, 5, 6, 7, 8, 9, 10, 11, 12, 13], []), ([14, 13, 13, 0, 1, 2, 3, 4, 5, 6, 7, 8, 9, 10, 11, 12, 13], [13, 14])])
def spec_l10Sky.B6 : List Nat := [0, 1, 0, 4, 0, 28, 60, 0, 188, 444, 1020, 2044, 4092, 8191, 16383, 32767]
theorem spec_l10Sky.tab6 : rtab .any (opsOf Try.f76 6) = spec_l10Sky.T6 := by kernel_rfl
theorem spec_l10Sky.bits6 : waitsOk spec_l10Sky.T6.2 spec_l10Sky.B6 = true := by kernel_rfl
theorem spec_l10Sky.calls (k g : Nat) (y : List Int) (e8 e9 r1 : Int) (r2 : List S72) (r3 : List S74) (r4 r5 r6 r7 r8 : Int) (r9 : List S88) (d7 d8 d9 : Int) (x w : World) (hI : IsS102 x w g y e8 e9) (hB : Below x.heap.size x w) (h : spec_l10Sky.f k y e8 e9 = some (r1, r2, r3, r4, r5, r6, r7, r8, r9, d7, d8, d9)) :
  Calls Try.prog 76 #[.pointer (some ⟨g, 0, none⟩)] w fun e w' => ∃ i0 i1 i2 : Value, e = .returned (.agg #[iv_ r1, i0, i1, iv_ r4, iv_ r5, iv_ r6, iv_ r7, iv_ r8, i2, iv_ d7]) ∧ Kd.R k72 72 w' w.heap.size (fun _ => True) i0 r2 ∧ Kd.R k74 74 w' w.heap.size (fun _ => True) i1 r3 ∧ Kd.R k88 88 w' w.heap.size (fun _ => True) i2 r9 ∧ IsS102 x w' g y d8 d9 ∧ Below x.heap.size x w' ∧ KeepBut w w' g none := by
 have m1 := Try.underlying28
 have m2 := Try.underlying35
 have m3 := Try.underlying88
 have j := Aside0.mk hI
 have HK := Aside0.mk (KeepBut.refl w g none)
 have HL := Aside0.mk hB.size
 clear hI
 have g9 := Aside0.mk hB.size
 have HB := Aside0.mk hB
 clear hB
 have H := h
 clear h
 unfold spec_l10Sky.f at H
 replace H := bs_ H
 obtain ⟨⟨I, D, E, J, L, M, O, T, b5, U, b0, b1⟩, A2, H⟩ := H
 dsimp only at H
 replace H : ∃ y_ : List S88, Aside0 (y_ = (([] : List S88))) ∧ ((spec_l1Below.f y b0 b1 3).bind fun g4 => (spec_l10Sky.l0 k g4.1 y g4.2.1 g4.2.2 I D E J L M O T y_ U)) = some (r1, r2, r3, r4, r5, r6, r7, r8, r9, d7, d8, d9) := ⟨_, ⟨rfl⟩, yh_ H⟩
 obtain ⟨b8, h0, H⟩ := H
 replace H := bs_ H
 obtain ⟨⟨h7, h8, h9⟩, A3, H⟩ := H
 dsimp only at H
 have H' := Aside0.mk H
 clear H
 go_enter Try.func76, Try.ntmps76
 go_wp2_with (first | ((with_reducible refine gd_ 2 ?_); refine bx_ 2 28 #[iv_ 0, .slice none 0 0, .slice none 0 0, iv_ 0, iv_ 0, iv_ 0, iv_ 0, iv_ 0, .slice none 0 0, iv_ 0] ?_; intro s hg w4 hbox hb; refine sh8_ (IsS102.below (is_ j) hb) (KeepBut.trans (kb_ HK) (KeepBut.of_below hb g none) (.inl rfl)) (below_step (by repeat (first | (with_reducible first | exact HB.out | apply below_alloc | apply pw_below_drewN | apply below_drew1 | refine below_set ?_ (IsS102.ge j.out)) | exact HB.out)) hb) hbox ((by rw [hg]; exact (keep_size (w := w) (g := g) (row := none) (kb_ HK)) : w.heap.size ≤ s)) ((Nat.le_trans g9.out (by rw [hg]; exact (keep_size (w := w) (g := g) (row := none) (kb_ HK)) : w.heap.size ≤ s) : x.heap.size ≤ s)) ((by rw [hg]; exact Nat.ne_of_lt (IsS102.lt (show IsS102 x _ g y e8 e9 from (is_ j))) : g ≠ s)) ((by rw [hg]; exact Nat.ne_of_gt (IsS102.lt (show IsS102 x _ g y e8 e9 from (is_ j))) : s ≠ g)) ?_; clear j HK HB hb hbox hg; intro j HK HB u a1 a4 z c1) | ((with_reducible refine gate_callee (f := 59) rfl ?_); refine goesL_ (some 6) rfl rfl Try.func59 (by kernel_rfl) rfl #[.pointer (some ⟨g, 0, none⟩)] rfl mp_ ?_; (with_reducible refine (spec_l7Sky.calls k g y e8 e9 I D E J L M O T b5 U b0 b1 x _ ?side1 ?side2 A2.out).mono ?_); (case side1 => exact is1_ j z); (case side2 => repeat (first | (with_reducible first | exact HB.out | apply below_alloc | apply pw_below_drewN | apply below_drew1 | refine below_set ?_ (IsS102.ge j.out) | refine below_set ?_ a4.out) | exact HB.out)); rintro e w5 ⟨m4, m5, m6, rfl, h3, h4, h5, hi, hb, hk⟩; refine ⟨_, rfl, sh7_ (KeepBut.blk hk (g' := s) (o := .cells #[iv_ 0, .slice none 0 0, .slice none 0 0, iv_ 0, iv_ 0, iv_ 0, iv_ 0, iv_ 0, .slice none 0 0, iv_ 0] 28 (0, 0)) (bk_ u) c1.out (by simp)) (Kd.R_lower h3 (keep_size (w := w) (g := g) (row := none) (kb1_ HK a1))) (Kd.R_lower h4 (keep_size (w := w) (g := g) (row := none) (kb1_ HK a1))) (Kd.R_lower h5 (keep_size (w := w) (g := g) (row := none) (kb1_ HK a1))) (KeepBut.trans (kb1_ HK a1) hk (.inl rfl)) hb hi ?_⟩; clear u HK HB j hb hk hi h3 h4 h5; intro u a6 a7 a8 HK HB j) | ((with_reducible refine gd_ 3 ?_); refine bx_ 3 28 #[iv_ 0, .slice none 0 0, .slice none 0 0, iv_ 0, iv_ 0, iv_ 0, iv_ 0, iv_ 0, .slice none 0 0, iv_ 0] ?_; intro l hg w6 hbox hb; refine sh14_ (Kd.R_below (ra_ a6) hb) (Kd.R_below (ra_ a7) hb) (Kd.R_below (ra_ a8) hb) (IsS102.below (is1_ j z) hb) (blk_below (bk_ u) hb) (KeepBut.trans (kb1_ HK a1) (KeepBut.of_below hb g none) (.inl rfl)) (below_step (by repeat (first | (with_reducible first | exact HB.out | apply below_alloc | apply pw_below_drewN | apply below_drew1 | refine below_set ?_ (IsS102.ge j.out) | refine below_set ?_ a4.out) | exact HB.out)) hb) hbox ((by rw [hg]; exact (keep_size (w := w) (g := g) (row := none) (kb1_ HK a1)) : w.heap.size ≤ l)) ((Nat.le_trans g9.out (by rw [hg]; exact (keep_size (w := w) (g := g) (row := none) (kb1_ HK a1)) : w.heap.size ≤ l) : x.heap.size ≤ l)) (nl_ hg (bk_ u)) (ng_ hg (bk_ u)) ((by rw [hg]; exact Nat.ne_of_lt (IsS102.lt (show IsS102 x _ g y b0 b1 from (is1_ j z))) : g ≠ l)) ((by rw [hg]; exact Nat.ne_of_gt (IsS102.lt (show IsS102 x _ g y b0 b1 from (is1_ j z))) : l ≠ g)) ?_; clear a6 a7 a8 j u HK HB hb hbox hg; intro a6 a7 a8 j u HK HB m a5 b2 g0 g3 B d0; have l2 := g3.out; have l7 := g0.out; have l3 := d0.out; have l8 := B.out; have k5 := cf10_ m; obtain ⟨X, Z, j1⟩ := Kd.R_slice a6.out; subst j1; obtain ⟨Y, a0, j2⟩ := Kd.R_slice a7.out; subst j2; obtain ⟨b9, d2, j3⟩ := Kd.R_slice a8.out; subst j3) | ((with_reducible refine gate_dst (N := 7) rfl ?_); refine Kd.R_lit k88 _ 88 ?hg (N := 7) ?hd (xs := ([] : List S88)) (inner := []) (ok := fun _ => True) (okp := fun _ => True) ?hr ?hp (fun _ hk => hk) trivial (Below.refl _ _) (Nat.le_refl _) (by simp) ?_; (case hd => rfl); (case hg => rfl); (case hr => first | (go_simp; done) | (go_simp; rfl)); (case hp => exact (Reps.none _ _)); intro m7 m9 d4 hb hg_ hnew_; clear hg_ hnew_; (first | rw [← h0.out] at d4 | (simp only [Int.reduceToNat] at d4; rw [← h0.out] at d4)); refine sh9_ (Kd.R_below (by (with_reducible repeat (first | apply Kd.R_alloc | apply Kd.R_drewN | apply Kd.R_drew)); exact (Kd.R_mono (Kd.R_far (p := ⟨l, 9, none⟩) (Kd.R_far (p := ⟨l, 8, none⟩) (Kd.R_far (p := ⟨l, 7, none⟩) (Kd.R_far (p := ⟨l, 6, none⟩) (Kd.R_far (p := ⟨l, 5, none⟩) (Kd.R_far (p := ⟨l, 4, none⟩) (Kd.R_far (p := ⟨l, 3, none⟩) (Kd.R_far (p := ⟨l, 2, none⟩) (Kd.R_far (p := ⟨l, 1, none⟩) (Kd.R_far (p := ⟨l, 0, none⟩) (Kd.R_types a6.out m.out (by decide)) (fun _ hk => hk.2) (iv_ I)) (fun _ hk => hk.2) (.slice X D.length Z)) (fun _ hk => hk.2) (.slice Y E.length a0)) (fun _ hk => hk.2) (iv_ J)) (fun _ hk => hk.2) (iv_ L)) (fun _ hk => hk.2) (iv_ M)) (fun _ hk => hk.2) (iv_ O)) (fun _ hk => hk.2) (iv_ T)) (fun _ hk => hk.2) (.slice b9 b5.length d2)) (fun _ hk => hk.2) (iv_ U)) (fun _ h_ => h_.1))) hb) (Kd.R_below (by (with_reducible repeat (first | apply Kd.R_alloc | apply Kd.R_drewN | apply Kd.R_drew)); exact (Kd.R_mono (Kd.R_far (p := ⟨l, 9, none⟩) (Kd.R_far (p := ⟨l, 8, none⟩) (Kd.R_far (p := ⟨l, 7, none⟩) (Kd.R_far (p := ⟨l, 6, none⟩) (Kd.R_far (p := ⟨l, 5, none⟩) (Kd.R_far (p := ⟨l, 4, none⟩) (Kd.R_far (p := ⟨l, 3, none⟩) (Kd.R_far (p := ⟨l, 2, none⟩) (Kd.R_far (p := ⟨l, 1, none⟩) (Kd.R_far (p := ⟨l, 0, none⟩) (Kd.R_types a7.out m.out (by decide)) (fun _ hk => hk.2) (iv_ I)) (fun _ hk => hk.2) (.slice X D.length Z)) (fun _ hk => hk.2) (.slice Y E.length a0)) (fun _ hk => hk.2) (iv_ J)) (fun _ hk => hk.2) (iv_ L)) (fun _ hk => hk.2) (iv_ M)) (fun _ hk => hk.2) (iv_ O)) (fun _ hk => hk.2) (iv_ T)) (fun _ hk => hk.2) (.slice b9 b5.length d2)) (fun _ hk => hk.2) (iv_ U)) (fun _ h_ => h_.1))) hb) (Kd.R_elder' (by (with_reducible repeat (first | apply Kd.R_alloc | apply Kd.R_drewN | apply Kd.R_drew)); exact (Kd.R_mono (Kd.R_far (p := ⟨l, 9, none⟩) (Kd.R_far (p := ⟨l, 8, none⟩) (Kd.R_far (p := ⟨l, 7, none⟩) (Kd.R_far (p := ⟨l, 6, none⟩) (Kd.R_far (p := ⟨l, 5, none⟩) (Kd.R_far (p := ⟨l, 4, none⟩) (Kd.R_far (p := ⟨l, 3, none⟩) (Kd.R_far (p := ⟨l, 2, none⟩) (Kd.R_far (p := ⟨l, 1, none⟩) (Kd.R_far (p := ⟨l, 0, none⟩) (Kd.R_types a8.out m.out (by decide)) (fun _ hk => hk.2) (iv_ I)) (fun _ hk => hk.2) (.slice X D.length Z)) (fun _ hk => hk.2) (.slice Y E.length a0)) (fun _ hk => hk.2) (iv_ J)) (fun _ hk => hk.2) (iv_ L)) (fun _ hk => hk.2) (iv_ M)) (fun _ hk => hk.2) (iv_ O)) (fun _ hk => hk.2) (iv_ T)) (fun _ hk => hk.2) (.slice b9 b5.length d2)) (fun _ hk => hk.2) (iv_ U)) (fun _ h_ => h_.1))) (Kd.R_base d4) hb) (Kd.R_lower (Kd.R_new' d4 (Kd.R_lt (by (with_reducible repeat (first | apply Kd.R_alloc | apply Kd.R_drewN | apply Kd.R_drew)); exact (Kd.R_mono (Kd.R_far (p := ⟨l, 9, none⟩) (Kd.R_far (p := ⟨l, 8, none⟩) (Kd.R_far (p := ⟨l, 7, none⟩) (Kd.R_far (p := ⟨l, 6, none⟩) (Kd.R_far (p := ⟨l, 5, none⟩) (Kd.R_far (p := ⟨l, 4, none⟩) (Kd.R_far (p := ⟨l, 3, none⟩) (Kd.R_far (p := ⟨l, 2, none⟩) (Kd.R_far (p := ⟨l, 1, none⟩) (Kd.R_far (p := ⟨l, 0, none⟩) (Kd.R_types a8.out m.out (by decide)) (fun _ hk => hk.2) (iv_ I)) (fun _ hk => hk.2) (.slice X D.length Z)) (fun _ hk => hk.2) (.slice Y E.length a0)) (fun _ hk => hk.2) (iv_ J)) (fun _ hk => hk.2) (iv_ L)) (fun _ hk => hk.2) (iv_ M)) (fun _ hk => hk.2) (iv_ O)) (fun _ hk => hk.2) (iv_ T)) (fun _ hk => hk.2) (.slice b9 b5.length d2)) (fun _ hk => hk.2) (iv_ U)) (fun _ h_ => h_.1))))) (keep_size (w := w) (g := g) (row := none) (kb2_ HK a1 a5))) (IsS102.below (show IsS102 x ((((((((((w6.setCell ⟨l, 0, none⟩ (iv_ I)).setCell ⟨l, 1, none⟩ (.slice X D.length Z)).setCell ⟨l, 2, none⟩ (.slice Y E.length a0)).setCell ⟨l, 3, none⟩ (iv_ J)).setCell ⟨l, 4, none⟩ (iv_ L)).setCell ⟨l, 5, none⟩ (iv_ M)).setCell ⟨l, 6, none⟩ (iv_ O)).setCell ⟨l, 7, none⟩ (iv_ T)).setCell ⟨l, 8, none⟩ (.slice b9 b5.length d2)).setCell ⟨l, 9, none⟩ (iv_ U)) g y b0 b1 from (is2_ j z B)) hb) (blk_below (g := s) (o := .cells #[iv_ 0, .slice none 0 0, .slice none 0 0, iv_ 0, iv_ 0, iv_ 0, iv_ 0, iv_ 0, .slice none 0 0, iv_ 0] 28 (0, 0)) (bp_ u) hb) (blk_below (g := l) (o := .cells #[iv_ I, .slice X D.length Z, .slice Y E.length a0, iv_ J, iv_ L, iv_ M, iv_ O, iv_ T, .slice b9 b5.length d2, iv_ U] 28 (0, 0)) (bp_ m) hb) (KeepBut.trans (kb2_ HK a1 a5) (KeepBut.of_below hb g none) (.inl rfl)) (below_step (by repeat (first | (with_reducible first | exact HB.out | apply below_alloc | apply pw_below_drewN | apply below_drew1 | refine below_set ?_ (IsS102.ge j.out) | refine below_set ?_ a4.out | refine below_set ?_ b2.out) | exact HB.out)) hb) ?_; clear a6 a7 a8 j u m HK HB hb d4; intro a6 a7 a8 d5 j u m HK HB; obtain ⟨c0, d3, j4⟩ := Kd.R_slice d5.out; subst j4; have k2 := cf10_ m) | ((with_reducible refine gate_callee (f := 60) rfl ?_); refine goesL_ (some 10) rfl rfl Try.func60 (by kernel_rfl) rfl #[.pointer (some ⟨g, 0, none⟩), iv_ 3] rfl mp_ ?_; (with_reducible refine (spec_l1Below.calls g y b0 b1 3 h7 h8 h9 x _ ?side1 ?side2 A3.out).mono ?_); (case side1 => exact is2_ j z B); (case side2 => repeat (first | (with_reducible first | exact HB.out | apply below_alloc | apply pw_below_drewN | apply below_drew1 | refine below_set ?_ (IsS102.ge j.out) | refine below_set ?_ a4.out | refine below_set ?_ b2.out) | exact HB.out)); rintro e n0 ⟨rfl, hi, hb, hk⟩; refine ⟨_, rfl, sh9_ (KeepBut.blk hk (g' := s) (o := .cells #[iv_ 0, .slice none 0 0, .slice none 0 0, iv_ 0, iv_ 0, iv_ 0, iv_ 0, iv_ 0, .slice none 0 0, iv_ 0] 28 (0, 0)) (bp_ u) c1.out (by simp)) (Kd.R_mono (Kd.R_keep (IsS102.apart (show IsS102 x _ g y b0 b1 from (is2_ j z B)) (by (with_reducible repeat (first | apply Kd.R_alloc | apply Kd.R_drewN | apply Kd.R_drew)); exact (Kd.R_mono (Kd.R_far (p := ⟨l, 8, none⟩) (Kd.R_types a6.out m.out (by decide)) (fun _ hk => hk.2) (.slice c0 b8.length d3)) (fun _ h_ => h_.1))) (by decide)) hk (fun _ h => h.2)) (fun _ h => h.1)) (Kd.R_mono (Kd.R_keep (IsS102.apart (show IsS102 x _ g y b0 b1 from (is2_ j z B)) (by (with_reducible repeat (first | apply Kd.R_alloc | apply Kd.R_drewN | apply Kd.R_drew)); exact (Kd.R_mono (Kd.R_far (p := ⟨l, 8, none⟩) (Kd.R_types a7.out m.out (by decide)) (fun _ hk => hk.2) (.slice c0 b8.length d3)) (fun _ h_ => h_.1))) (by decide)) hk (fun _ h => h.2)) (fun _ h => h.1)) (Kd.R_mono (Kd.R_keep (IsS102.apart (show IsS102 x _ g y b0 b1 from (is2_ j z B)) (by (with_reducible repeat (first | apply Kd.R_alloc | apply Kd.R_drewN | apply Kd.R_drew)); exact (Kd.R_mono (Kd.R_far (p := ⟨l, 8, none⟩) (Kd.R_types a8.out m.out (by decide)) (fun _ hk => hk.2) (.slice c0 b8.length d3)) (fun _ h_ => h_.1))) (by decide)) hk (fun _ h => h.2)) (fun _ h => h.1)) (KeepBut.blk hk (g' := l) (o := .cells #[iv_ I, .slice X D.length Z, .slice Y E.length a0, iv_ J, iv_ L, iv_ M, iv_ O, iv_ T, .slice c0 b8.length d3, iv_ U] 28 (0, 0)) (bp_ m) d0.out (by simp)) (Kd.R_mono (Kd.R_keep (IsS102.apart (show IsS102 x _ g y b0 b1 from (is2_ j z B)) (by (with_reducible repeat (first | apply Kd.R_alloc | apply Kd.R_drewN | apply Kd.R_drew)); exact (Kd.R_mono (Kd.R_far (p := ⟨l, 8, none⟩) (Kd.R_types d5.out m.out (by decide)) (fun _ hk => hk.2) (.slice c0 b8.length d3)) (fun _ h_ => h_.1))) (by decide)) hk (fun _ h => h.2)) (fun _ h => h.1)) (KeepBut.trans (kb2_ HK a1 a5) hk (.inl rfl)) hb hi ?_⟩; clear u a6 a7 a8 m d5 HK HB j hb hk hi; intro u a6 a7 a8 m d5 HK HB j))
 go_loopg [4] k (fun kq v4 w' => ∃ (b4 : Int) (b6 : Int) (b7 : Int) (b3 : List S88) (a9 : Value), v4 = iv_ b4 ∧ Aside0 (spec_l10Sky.l0 kq b4 y b6 b7 I D E J L M O T b3 U = some (r1, r2, r3, r4, r5, r6, r7, r8, r9, d7, d8, d9)) ∧ Aside0 (kq ≤ k) ∧ Aside0 (Kd.R k72 72 w' w.heap.size (fun _ => True) (.slice X D.length Z) D) ∧ Aside0 (Kd.R k74 74 w' w.heap.size (fun _ => True) (.slice Y E.length a0) E) ∧ Aside0 (Kd.R k88 88 w' w.heap.size (fun _ => True) a9 b3) ∧ Aside0 (w'.heap[s]? = some (.cells #[iv_ 0, (.slice none 0 0), (.slice none 0 0), iv_ 0, iv_ 0, iv_ 0, iv_ 0, iv_ 0, (.slice none 0 0), iv_ 0] 28 (0, 0))) ∧ Aside0 (w'.heap[l]? = some (.cells #[iv_ I, (.slice X D.length Z), (.slice Y E.length a0), iv_ J, iv_ L, iv_ M, iv_ O, iv_ T, a9, iv_ U] 28 (0, 0))) ∧ Aside0 (IsS102 x w' g y b6 b7) ∧ Aside0 (KeepBut w w' g none) ∧ Aside0 (Below x.heap.size x w'))
 case atStart => exact ⟨(h7), (h8), (h9), (b8), (.slice c0 b8.length d3), (by first | rfl | (simp; done) | (simp [*]; done)), H', ⟨Nat.le_refl _⟩, ⟨ra_ a6⟩, ⟨ra_ a7⟩, ⟨by (with_reducible repeat (first | apply Kd.R_alloc | apply Kd.R_drewN | apply Kd.R_drew)); exact Kd.R_mono d5.out (fun _ hk => trivial)⟩, ⟨(bk_ u)⟩, ⟨(bk_ m)⟩, ⟨(is2_ j z B)⟩, ⟨(kb2_ HK a1 a5)⟩, ⟨by repeat (first | (with_reducible first | exact HB.out | apply below_alloc | apply pw_below_drewN | apply below_drew1 | refine below_set ?_ (IsS102.ge j.out) | refine below_set ?_ a4.out | refine below_set ?_ b2.out) | exact HB.out)⟩⟩
 case round =>
  clear H'
  obtain ⟨b4, b6, b7, b3, a9, rfl, HA, g7, a2, a3, G, u, m, j, HK, HB⟩ := hrel
  cases gk with
  | zero => exact absurd HA.out (by simp [spec_l10Sky.l0])
  | succ k1 =>
   have H := HA.out
   clear HA
   simp only [spec_l10Sky.l0] at H
   by_cases d1 : b4 > 0
   ·rw [if_pos d1] at H
    have j0 : decide (0 < b4) = true := decide_eq_true d1
    clear d1
    replace H := bs_ H
    obtain ⟨⟨f0, f1, f2⟩, i3, H⟩ := H
    dsimp only at H
    replace H := bs_ H
    obtain ⟨⟨f3, f4, f5⟩, i5, H⟩ := H
    dsimp only at H
    replace H := bs_ H
    obtain ⟨⟨f6, g5, g6⟩, i6, H⟩ := H
    dsimp only at H
    replace H := ifn_ H
    obtain ⟨h1, H⟩ := H
    have i8 := Aside0.mk h1
    clear h1
    replace H : ∃ y_ : List S88, Aside0 (y_ = (b3 ++ [(⟨f0, (⟨wrap64 (10 * f3), wrap64 (10 * f6)⟩ : S35)⟩ : S88)])) ∧ (spec_l10Sky.l0 k1 (wrap64 (b4 - 1)) y g5 g6 I D E J L M O T y_ U) = some (r1, r2, r3, r4, r5, r6, r7, r8, r9, d7, d8, d9) := ⟨_, ⟨rfl⟩, yh_ H⟩
    obtain ⟨f7, i9, H⟩ := H
    have H' := Aside0.mk H
    clear H
    try go_wp2
    refine sh8_ (Kd.R_drew a2.out) (Kd.R_drew a3.out) (Kd.R_drew G.out) (blk_drew u.out) (blk_drew m.out) (IsS102.drew j.out) (keep_drew HK.out) (below_drew1 HB.out) ?_
    clear a2 a3 G u m j HK HB
    intro a2 a3 G u m j HK HB
    refine start_ (n := 16) (S := fun w' => Cz10 w' l (iv_ I) (.slice X D.length Z) (.slice Y E.length a0) (iv_ J) (iv_ L) (iv_ M) (iv_ O) (iv_ T) (a9) (iv_ U)) (ds := [15]) (bo_ 16 0) (by kernel_rfl) rfl rfl (cz10_ m) (fun hHeld => ?_); refine with_tabW spec_l10Sky.tab6 spec_l10Sky.bits6 (fun HT_ HW_ => ?_)
    generalize wr.drew = n1 at a2 a3 G u m j HK HB hHeld ⊢
    refine pur_ 0 (bo_ 16 1) (some 15) HT_ ?_
    refine pur_ 2 (bo_ 16 5) (some 17) HT_ ?_
    refine pur_ 4 (bo_ 16 21) (some 19) HT_ ?_
    refine pur_ 7 (bo_ 16 149) (some 22) HT_ ?_
    refine tak_ 1 (bo_ 16 151) (some 16) HT_ HW_ hHeld ?_
    refine one_ (i := 3) (N := some 18) (bo_ 16 159) rfl rfl (one_of HT_.out (by kernel_rfl)) (by decide) (fun K hK => ?_)
    refine goes_ Try.func60 (by kernel_rfl) rfl #[.pointer (some ⟨g, 0, none⟩), iv_ 2] (by rfl) rfl rfl mp_ ?_
    with_reducible refine (spec_l1Below.calls g y b6 b7 2 f0 f1 f2 x _ ?side1 ?side2 i3.out).mono ?_
    (case side1 => exact is2_ j z B)
    (case side2 => repeat (first | (with_reducible first | exact HB.out | apply below_alloc | apply pw_below_drewN | apply below_drew1 | refine below_set ?_ (IsS102.ge j.out) | refine below_set ?_ a4.out | refine below_set ?_ b2.out) | exact HB.out))
    rintro e n2 ⟨rfl, hi, hb, hk⟩
    refine ⟨_, rfl, sh8_ (Kd.R_mono (Kd.R_keep (IsS102.apart (show IsS102 x _ g y b6 b7 from (is2_ j z B)) (ra_ a2) (by decide)) hk (fun _ h => h.2)) (fun _ h => h.1)) (Kd.R_mono (Kd.R_keep (IsS102.apart (show IsS102 x _ g y b6 b7 from (is2_ j z B)) (ra_ a3) (by decide)) hk (fun _ h => h.2)) (fun _ h => h.1)) (Kd.R_mono (Kd.R_keep (IsS102.apart (show IsS102 x _ g y b6 b7 from (is2_ j z B)) (ra_ G) (by decide)) hk (fun _ h => h.2)) (fun _ h => h.1)) (KeepBut.blk hk (g' := s) (o := .cells #[iv_ 0, .slice none 0 0, .slice none 0 0, iv_ 0, iv_ 0, iv_ 0, iv_ 0, iv_ 0, .slice none 0 0, iv_ 0] 28 (0, 0)) (bk_ u) c1.out (by simp)) (KeepBut.blk hk (g' := l) (o := .cells #[iv_ I, .slice X D.length Z, .slice Y E.length a0, iv_ J, iv_ L, iv_ M, iv_ O, iv_ T, a9, iv_ U] 28 (0, 0)) (bk_ m) d0.out (by simp)) (KeepBut.trans (kb2_ HK a1 a5) hk (.inl rfl)) hb hi ?_⟩
    clear a2 a3 G u m HK HB j hb hk hi
    intro a2 a3 G u m HK HB j
    refine hK.out _ _ (cz10_ m) (fun hHeld => ?_)
    clear hK K
    refine norm_ (show Act.put _ (some 18) _ = _ from pt_) ?_
    refine one_ (i := 5) (N := some 20) (bo_ 16 191) rfl rfl (one_of HT_.out (by kernel_rfl)) (by decide) (fun K hK => ?_)
    refine goes_ Try.func60 (by kernel_rfl) rfl #[.pointer (some ⟨g, 0, none⟩), iv_ 36] (by rfl) rfl rfl mp_ ?_
    with_reducible refine (spec_l1Below.calls g y f1 f2 36 f3 f4 f5 x _ ?side1 ?side2 i5.out).mono ?_
    (case side1 => exact is2_ j z B)
    (case side2 => repeat (first | (with_reducible first | exact HB.out | apply below_alloc | apply pw_below_drewN | apply below_drew1 | refine below_set ?_ (IsS102.ge j.out) | refine below_set ?_ a4.out | refine below_set ?_ b2.out) | exact HB.out))
    rintro e n3 ⟨rfl, hi, hb, hk⟩
    refine ⟨_, rfl, sh8_ (Kd.R_mono (Kd.R_keep (IsS102.apart (show IsS102 x _ g y f1 f2 from (is2_ j z B)) (ra_ a2) (by decide)) hk (fun _ h => h.2)) (fun _ h => h.1)) (Kd.R_mono (Kd.R_keep (IsS102.apart (show IsS102 x _ g y f1 f2 from (is2_ j z B)) (ra_ a3) (by decide)) hk (fun _ h => h.2)) (fun _ h => h.1)) (Kd.R_mono (Kd.R_keep (IsS102.apart (show IsS102 x _ g y f1 f2 from (is2_ j z B)) (ra_ G) (by decide)) hk (fun _ h => h.2)) (fun _ h => h.1)) (KeepBut.blk hk (g' := s) (o := .cells #[iv_ 0, .slice none 0 0, .slice none 0 0, iv_ 0, iv_ 0, iv_ 0, iv_ 0, iv_ 0, .slice none 0 0, iv_ 0] 28 (0, 0)) (bk_ u) c1.out (by simp)) (KeepBut.blk hk (g' := l) (o := .cells #[iv_ I, .slice X D.length Z, .slice Y E.length a0, iv_ J, iv_ L, iv_ M, iv_ O, iv_ T, a9, iv_ U] 28 (0, 0)) (bk_ m) d0.out (by simp)) (KeepBut.trans (kb2_ HK a1 a5) hk (.inl rfl)) hb hi ?_⟩
    clear a2 a3 G u m HK HB j hb hk hi
    intro a2 a3 G u m HK HB j
    refine hK.out _ _ (cz10_ m) (fun hHeld => ?_)
    clear hK K
    refine norm_ (show Act.put _ (some 20) _ = _ from pt_) ?_
    refine pur_ 6 (bo_ 16 255) (some 21) HT_ ?_
    refine one_ (i := 8) (N := some 23) (bo_ 16 511) rfl rfl (one_of HT_.out (by kernel_rfl)) (by decide) (fun K hK => ?_)
    refine goes_ Try.func60 (by kernel_rfl) rfl #[.pointer (some ⟨g, 0, none⟩), iv_ 8] (by rfl) rfl rfl mp_ ?_
    with_reducible refine (spec_l1Below.calls g y f4 f5 8 f6 g5 g6 x _ ?side1 ?side2 i6.out).mono ?_
    (case side1 => exact is2_ j z B)
    (case side2 => repeat (first | (with_reducible first | exact HB.out | apply below_alloc | apply pw_below_drewN | apply below_drew1 | refine below_set ?_ (IsS102.ge j.out) | refine below_set ?_ a4.out | refine below_set ?_ b2.out) | exact HB.out))
    rintro e n4 ⟨rfl, hi, hb, hk⟩
    refine ⟨_, rfl, sh8_ (Kd.R_mono (Kd.R_keep (IsS102.apart (show IsS102 x _ g y f4 f5 from (is2_ j z B)) (ra_ a2) (by decide)) hk (fun _ h => h.2)) (fun _ h => h.1)) (Kd.R_mono (Kd.R_keep (IsS102.apart (show IsS102 x _ g y f4 f5 from (is2_ j z B)) (ra_ a3) (by decide)) hk (fun _ h => h.2)) (fun _ h => h.1)) (Kd.R_mono (Kd.R_keep (IsS102.apart (show IsS102 x _ g y f4 f5 from (is2_ j z B)) (ra_ G) (by decide)) hk (fun _ h => h.2)) (fun _ h => h.1)) (KeepBut.blk hk (g' := s) (o := .cells #[iv_ 0, .slice none 0 0, .slice none 0 0, iv_ 0, iv_ 0, iv_ 0, iv_ 0, iv_ 0, .slice none 0 0, iv_ 0] 28 (0, 0)) (bk_ u) c1.out (by simp)) (KeepBut.blk hk (g' := l) (o := .cells #[iv_ I, .slice X D.length Z, .slice Y E.length a0, iv_ J, iv_ L, iv_ M, iv_ O, iv_ T, a9, iv_ U] 28 (0, 0)) (bk_ m) d0.out (by simp)) (KeepBut.trans (kb2_ HK a1 a5) hk (.inl rfl)) hb hi ?_⟩
    clear a2 a3 G u m HK HB j hb hk hi
    intro a2 a3 G u m HK HB j
    refine hK.out _ _ (cz10_ m) (fun hHeld => ?_)
    clear hK K
    refine norm_ (show Act.put _ (some 23) _ = _ from pt_) ?_
    refine pur_ 9 (bo_ 16 1023) (some 24) HT_ ?_
    refine pur_ 10 (bo_ 16 2047) (some 25) HT_ ?_
    refine pur_ 11 (bo_ 16 4095) (some 26) HT_ ?_
    refine one_ (i := 12) (N := some 27) (bo_ 16 8191) rfl rfl (one_of HT_.out (by kernel_rfl)) (by decide) (fun K hK => ?_)
    refine value_ (w1 := ?_) (v := ?_) (by rfl) rfl ?_ ?_
    rotate_left 2
    ·go_simp
     constructor
     ·rfl
     ·rfl
    refine hK.out _ _ ⟨(blk_cell (blk_alloc m.out _) 0).trans rfl, (blk_cell (blk_alloc m.out _) 1).trans rfl, (blk_cell (blk_alloc m.out _) 2).trans rfl, (blk_cell (blk_alloc m.out _) 3).trans rfl, (blk_cell (blk_alloc m.out _) 4).trans rfl, (blk_cell (blk_alloc m.out _) 5).trans rfl, (blk_cell (blk_alloc m.out _) 6).trans rfl, (blk_cell (blk_alloc m.out _) 7).trans rfl, (blk_cell (blk_alloc m.out _) 8).trans rfl, (blk_cell (blk_alloc m.out _) 9).trans rfl⟩ (fun hHeld => ?_)
    clear hK K
    refine norm_ (show Act.put _ (some 27) _ = _ from pt_) ?_
    refine one_ (i := 13) (N := some 28) (bo_ 16 16383) rfl rfl (one_of HT_.out (by kernel_rfl)) (by decide) (fun K hK => ?_)
    refine Kd.R_append_step k88 w.heap.size (by rfl) (.tmp 16) (.tmp 27) 26 88 (.agg #[(iv_ 0), (iv_ 0), (iv_ 0)]) 24 rfl Try.underlying26 info88 rfl (by decide) (by omega) a9 b3 (⟨f0, (⟨wrap64 (10 * f3), wrap64 (10 * f6)⟩ : S35)⟩ : S88) [iv_ f0, iv_ (wrap64 (10 * f3)), iv_ (wrap64 (10 * f6))] (fun _ => True) (fun _ => False) rfl rfl ?aP (fun _ hk => hk.elim) ?aF ?aO (Below.refl _ _) ?aS ?aL ?_
    (case aP => exact k88_mkM _ _ _ (⟨f0, (⟨wrap64 (10 * f3), wrap64 (10 * f6)⟩ : S35)⟩ : S88))
    (case aF => exact (fun _ _ => trivial))
    (case aO => exact (ra_ G))
    (case aS => exact (keep_size (w := w) (g := g) (row := none) (kb2_ HK a1 a5)))
    (case aL => have := i8.out; omega)
    intro m8 j9 ho hb hg hat
    rw [← i9.out] at ho
    refine sh8_ (Kd.R_over' (ra_ a2) (Kd.R_typed (ra_ G)) (by decide) hg) (Kd.R_over' (ra_ a3) (Kd.R_typed (ra_ G)) (by decide) hg) (blk_grown (g := s) (o := .cells #[iv_ 0, .slice none 0 0, .slice none 0 0, iv_ 0, iv_ 0, iv_ 0, iv_ 0, iv_ 0, .slice none 0 0, iv_ 0] 28 (0, 0)) (bk_ u) hg (Kd.R_ne G.out u.out (by decide))) (blk_grown (g := l) (o := .cells #[iv_ I, .slice X D.length Z, .slice Y E.length a0, iv_ J, iv_ L, iv_ M, iv_ O, iv_ T, a9, iv_ U] 28 (0, 0)) (bk_ m) hg (Kd.R_ne G.out m.out (by decide))) (IsS102.grown (is2_ j z B) hg (IsS102.own_ne j.out G.out (by decide))) (below_weaken (by repeat (first | (with_reducible first | exact HB.out | apply below_alloc | apply pw_below_drewN | apply below_drew1 | refine below_set ?_ (IsS102.ge j.out) | refine below_set ?_ a4.out | refine below_set ?_ b2.out) | exact HB.out)) HL.out hb) (KeepBut.trans (kb2_ HK a1 a5) (KeepBut.of_grown hg g) (Kd.R_base2 G.out)) ho ?_
    clear a2 a3 u m j HB HK G ho hb hg hat
    intro a2 a3 u m j HB HK g8
    obtain ⟨f8, g1, h2⟩ := Kd.R_slice g8.out
    (first | subst h2 | (injection h2 with f1_ f2_ f3_; have j6 := f1_.symm; have j7 := f3_.symm; clear f1_ f2_ f3_; subst j6; subst j7))
    refine hK.out _ _ (cz10_ m) (fun hHeld => ?_)
    clear hK K
    refine norm_ (show Act.put _ (some 28) _ = _ from pt_) ?_
    refine pur_ 14 (bo_ 16 32767) (some 29) HT_ ?_
    refine last_ (i := 15) (N := none) (bo_ 16 65535) rfl rfl (one_of HT_.out (by kernel_rfl)) (by decide) (fun K hK => ?_)
    have m0 : j9.cell? ⟨l, 8, none⟩ = some (a9) := bc_ m 8 rfl
    have k6 := bf_ m 8
    have l9 := g0.out
    have k7 := g3.out
    refine skip_ (w1 := ?_) (by rfl) rfl ?_ ?_
    rotate_left
    ·go_simp
     rfl
    refine hK.out _ _ ?_
    clear hK K
    refine done_ (done_of HT_.out (by kernel_rfl)) ?_
    try go_wp2
    go_roundg k1
    case measure => have := g7.out; omega
    case rel => exact ⟨(wrap64 (b4 - 1)), (g5), (g6), (f7), (.slice f8 f7.length g1), (by first | rfl | (simp; done) | (simp [*]; done)), H', ⟨by have := g7.out; omega⟩, ⟨by (with_reducible repeat (first | apply Kd.R_alloc | apply Kd.R_drewN | apply Kd.R_drew)); exact Kd.R_mono (Kd.R_far (p := ⟨l, 8, none⟩) (Kd.R_types a2.out m.out (by decide)) (fun _ hk => hk.2) (.slice f8 f7.length g1)) (fun _ hk => trivial)⟩, ⟨by (with_reducible repeat (first | apply Kd.R_alloc | apply Kd.R_drewN | apply Kd.R_drew)); exact Kd.R_mono (Kd.R_far (p := ⟨l, 8, none⟩) (Kd.R_types a3.out m.out (by decide)) (fun _ hk => hk.2) (.slice f8 f7.length g1)) (fun _ hk => trivial)⟩, ⟨by (with_reducible repeat (first | apply Kd.R_alloc | apply Kd.R_drewN | apply Kd.R_drew)); exact Kd.R_mono (Kd.R_far (p := ⟨l, 8, none⟩) (Kd.R_types g8.out m.out (by decide)) (fun _ hk => hk.2) (.slice f8 f7.length g1)) (fun _ hk => trivial)⟩, ⟨by (with_reducible repeat (first | refine blk_drewN ?_ _ | refine blk_drew ?_ | refine blk_alloc ?_ _)); refine blk_far ?_ g0.out _; exact bk_ u⟩, ⟨by (with_reducible repeat (first | refine blk_drewN ?_ _ | refine blk_drew ?_ | refine blk_alloc ?_ _)); refine blk_put (cs := #[iv_ I, .slice X D.length Z, .slice Y E.length a0, iv_ J, iv_ L, iv_ M, iv_ O, iv_ T, a9, iv_ U]) ?_ 8 _ rfl; exact bk_ m⟩, ⟨(is2_ j z B)⟩, ⟨(kb2_ HK a1 a5)⟩, ⟨by repeat (first | (with_reducible first | exact HB.out | apply below_alloc | apply pw_below_drewN | apply below_drew1 | refine below_set ?_ (IsS102.ge j.out) | refine below_set ?_ a4.out | refine below_set ?_ b2.out) | exact HB.out)⟩⟩
   ·rw [if_neg d1] at H
    have j0 : decide (0 < b4) = false := decide_eq_false d1
    clear d1
    simp only [Option.some.injEq, Prod.mk.injEq] at H
    obtain ⟨rfl, rfl, rfl, rfl, rfl, rfl, rfl, rfl, rfl, rfl, rfl, rfl⟩ := H
    have k8 := g3.out
    have l4 := g0.out
    have k9 := d0.out
    have l5 := B.out
    have k3 := cf10_ m
    have l1 := c1.out
    have l6 := z.out
    have k4 := cf10_ u
    obtain ⟨f9, g2, j5⟩ := Kd.R_slice G.out
    subst j5
    go_wp2
    refine bodyPost_ret (results_cell_row rfl _ _ s 28 #[iv_ I, .slice X D.length Z, .slice Y E.length a0, iv_ J, iv_ L, iv_ M, iv_ O, iv_ T, .slice f9 b3.length g2, iv_ U] (0, 0) _ rfl (bp_ u) Try.underlying28 rfl (by kernel_rfl)) rfl ?_
    exact ⟨_, _, _, by first | (rw [hRT_.out]; rfl) | exact er_, by (with_reducible repeat (first | apply Kd.R_alloc | apply Kd.R_drewN | apply Kd.R_drew)); exact Kd.R_mono (Kd.R_far (p := ⟨s, 9, none⟩) (Kd.R_far (p := ⟨s, 8, none⟩) (Kd.R_far (p := ⟨s, 7, none⟩) (Kd.R_far (p := ⟨s, 6, none⟩) (Kd.R_far (p := ⟨s, 5, none⟩) (Kd.R_far (p := ⟨s, 4, none⟩) (Kd.R_far (p := ⟨s, 3, none⟩) (Kd.R_far (p := ⟨s, 2, none⟩) (Kd.R_far (p := ⟨s, 1, none⟩) (Kd.R_far (p := ⟨s, 0, none⟩) (Kd.R_types a2.out u.out (by decide)) (fun _ hk => hk.2) (iv_ I)) (fun _ hk => hk.2) (.slice X D.length Z)) (fun _ hk => hk.2) (.slice Y E.length a0)) (fun _ hk => hk.2) (iv_ J)) (fun _ hk => hk.2) (iv_ L)) (fun _ hk => hk.2) (iv_ M)) (fun _ hk => hk.2) (iv_ O)) (fun _ hk => hk.2) (iv_ T)) (fun _ hk => hk.2) (.slice f9 b3.length g2)) (fun _ hk => hk.2) (iv_ U)) (fun _ hk => trivial), by (with_reducible repeat (first | apply Kd.R_alloc | apply Kd.R_drewN | apply Kd.R_drew)); exact Kd.R_mono (Kd.R_far (p := ⟨s, 9, none⟩) (Kd.R_far (p := ⟨s, 8, none⟩) (Kd.R_far (p := ⟨s, 7, none⟩) (Kd.R_far (p := ⟨s, 6, none⟩) (Kd.R_far (p := ⟨s, 5, none⟩) (Kd.R_far (p := ⟨s, 4, none⟩) (Kd.R_far (p := ⟨s, 3, none⟩) (Kd.R_far (p := ⟨s, 2, none⟩) (Kd.R_far (p := ⟨s, 1, none⟩) (Kd.R_far (p := ⟨s, 0, none⟩) (Kd.R_types a3.out u.out (by decide)) (fun _ hk => hk.2) (iv_ I)) (fun _ hk => hk.2) (.slice X D.length Z)) (fun _ hk => hk.2) (.slice Y E.length a0)) (fun _ hk => hk.2) (iv_ J)) (fun _ hk => hk.2) (iv_ L)) (fun _ hk => hk.2) (iv_ M)) (fun _ hk => hk.2) (iv_ O)) (fun _ hk => hk.2) (iv_ T)) (fun _ hk => hk.2) (.slice f9 b3.length g2)) (fun _ hk => hk.2) (iv_ U)) (fun _ hk => trivial), by (with_reducible repeat (first | apply Kd.R_alloc | apply Kd.R_drewN | apply Kd.R_drew)); exact Kd.R_mono (Kd.R_far (p := ⟨s, 9, none⟩) (Kd.R_far (p := ⟨s, 8, none⟩) (Kd.R_far (p := ⟨s, 7, none⟩) (Kd.R_far (p := ⟨s, 6, none⟩) (Kd.R_far (p := ⟨s, 5, none⟩) (Kd.R_far (p := ⟨s, 4, none⟩) (Kd.R_far (p := ⟨s, 3, none⟩) (Kd.R_far (p := ⟨s, 2, none⟩) (Kd.R_far (p := ⟨s, 1, none⟩) (Kd.R_far (p := ⟨s, 0, none⟩) (Kd.R_types G.out u.out (by decide)) (fun _ hk => hk.2) (iv_ I)) (fun _ hk => hk.2) (.slice X D.length Z)) (fun _ hk => hk.2) (.slice Y E.length a0)) (fun _ hk => hk.2) (iv_ J)) (fun _ hk => hk.2) (iv_ L)) (fun _ hk => hk.2) (iv_ M)) (fun _ hk => hk.2) (iv_ O)) (fun _ hk => hk.2) (iv_ T)) (fun _ hk => hk.2) (.slice f9 b3.length g2)) (fun _ hk => hk.2) (iv_ U)) (fun _ hk => trivial), (is2_ j z B), by repeat (first | (with_reducible first | exact HB.out | apply below_alloc | apply pw_below_drewN | apply below_drew1 | refine below_set ?_ (IsS102.ge j.out) | refine below_set ?_ a4.out | refine below_set ?_ b2.out) | exact HB.out), (kb2_ HK a1 a5)⟩

end Go.Proofs.Ytopbkdcicidajaa.PFnContacts
