-- Written by a program of this session for this claim (the kit's printer with changes).
import Derived.Test.YtopbkdcicidajaaQFnContactsx0
import Derived.Test.YtopbkdcicidajaaQFnContactsx1
import Derived.Test.YtopbkdcicidajaaQFnContactsx2
namespace Go.Proofs.Ytopbkdcicidajaa.PFnContacts
open Go.RowKit Go.Proofs.YtopbkdcicidajaaW.PrintWords Go.Proofs.YtopbkdcicidajaaW.PrintLast Go.Proofs.YtopbkdcicidajaaW.PrintMore
attribute [local go_sem] max2_int min2_int max_two min_two max_three min_three max_four min_four   -- for this text's walks alone
set_option linter.unusedVariables false
set_option maxHeartbeats 8000000
set_option maxRecDepth 100000
set_option linter.unusedSimpArgs false

/-! ### impl_PlaceAt: function 57 -/
def impl_PlaceAt.f (l j m s u : Int) : Option (Int) := (impl_InRange.f u 0 1000).bind fun x => (if x = true then ((impl_AngleOf.f j).bind fun y => ((impl_speedOf.f l j m s).bind fun z => ((impl_AngleOf.f (wrap64 (y + (wrap64 (z * u))))).bind fun B => (some B)))) else ((impl_AngleOf.f j).bind fun D => ((impl_speedOf.f l j m s).bind fun G => ((impl_AngleOf.f (wrap64 (D))).bind fun E => (some E)))))
def impl_PlaceAt.T3 : Bool × List (List Nat × List Nat) := (true, [([], []), ([0], [0]), ([1], [1]), ([], []), ([3, 2], [3]), ([], []), ([4, 5], [4, 5]), ([2, 6], [2, 6]), ([7, 4], [7]), ([8, 8, 0, 1, 2, 3, 4, 5, 6, 7, 8], [8])])
def impl_PlaceAt.B3 : List Nat := [0, 1, 3, 0, 15, 0, 63, 127, 255, 511]
theorem impl_PlaceAt.tab3 : rtab .any (opsOf Try.f57 3) = impl_PlaceAt.T3 := by kernel_rfl
theorem impl_PlaceAt.bits3 : waitsOk impl_PlaceAt.T3.2 impl_PlaceAt.B3 = true := by kernel_rfl
theorem impl_PlaceAt.calls (m l s u D r : Int) (w : World) (h : impl_PlaceAt.f m l s u D = some r) :
  Calls Try.prog 57 #[.agg #[iv_ m, iv_ l, iv_ s, iv_ u], iv_ D] w fun e w' => e = .returned (iv_ r) ∧ Below w.heap.size w w' := by
 have a6 := Try.underlying72
 have HB := Aside0.mk (Below.refl w.heap.size w)
 have H := h
 clear h
 unfold impl_PlaceAt.f at H
 replace H := bs_ H
 obtain ⟨a4, L, H⟩ := H
 by_cases c4 : a4 = true
 ·subst c4
  rw [if_pos rfl] at H
  replace H := bs_ H
  obtain ⟨O, A5, H⟩ := H
  replace H := bs_ H
  obtain ⟨T, A6, H⟩ := H
  replace H := bs_ H
  obtain ⟨a5, A7, H⟩ := H
  obtain rfl := Option.some.inj H
  go_enter Try.func57, Try.ntmps57
  try go_wp2_with (first | ((with_reducible refine gd_ 2 ?_); refine bx_ 2 72 #[iv_ m, iv_ l, iv_ s, iv_ u] ?_; intro E hg B hbox hb; refine sh3_ (below_step (bl_ HB) hb) hbox (ge_ hg (bl_ HB)) ?_; clear HB hb hbox hg; intro HB j x) | ((with_reducible refine gate_callee (f := 93) rfl ?_); refine gl_ 6 Try.func93 (impl_InRange.calls D 0 1000 true _ L.out) ?_; rintro e w' ⟨rfl, ⟨nd, rfl⟩⟩; refine ⟨_, rfl, ?_⟩))
  (try (rw [drewN_self B]; generalize hq_ : World.drewN B _ = B; have G : Aside0 (B.heap[E]? = some (.cells #[iv_ m, iv_ l, iv_ s, iv_ u] 72 (0, 0))) := ⟨by rw [← hq_]; exact (bk_ j)⟩; have I : Aside0 (Below w.heap.size w B) := ⟨by rw [← hq_]; exact (bl1_ HB x)⟩; clear j HB hq_; have j := G; have HB := I; clear G I))
  refine sh2_ (blk_drew j.out) (below_drew1 HB.out) ?_
  clear j HB
  intro j HB
  refine start_ (n := 10) (S := fun w' => Cz4 w' E (iv_ m) (iv_ l) (iv_ s) (iv_ u)) (ds := []) (bo_ 10 0) (by kernel_rfl) rfl rfl (cz4_ j) (fun hHeld => ?_); refine with_tabW impl_PlaceAt.tab3 impl_PlaceAt.bits3 (fun HT_ HW_ => ?_)
  generalize B.drew = w9 at j HB hHeld ⊢
  refine pur_ 0 (bo_ 10 1) (some 8) HT_ ?_
  refine pur_ 5 (bo_ 10 33) (some 13) HT_ ?_
  refine tak_ 1 (bo_ 10 35) (some 9) HT_ HW_ hHeld ?_
  refine tak_ 3 (bo_ 10 43) (some 11) HT_ HW_ hHeld ?_
  refine onc_ 2 (bo_ 10 47) (some 10) HT_ Try.func58 (impl_AngleOf.calls l O _ A5.out) ?_
  rintro e w' ⟨rfl, ⟨nd, rfl⟩⟩
  refine ⟨_, _, rfl, (cz4_ j), pt_, fun hHeld => ?_⟩
  refine onc_ 4 (bo_ 10 63) (some 12) HT_ Try.func95 (impl_speedOf.calls m l s u T _ A6.out) ?_
  rintro e a7 ⟨rfl, hb⟩
  refine sh2_ (blk_below (bk_ j) hb) (below_step (bl1_ HB x) hb) ?_
  clear j HB hb
  intro j HB
  refine ⟨_, _, rfl, (cz4_ j), pt_, fun hHeld => ?_⟩
  refine pur_ 6 (bo_ 10 127) (some 14) HT_ ?_
  refine pur_ 7 (bo_ 10 255) (some 15) HT_ ?_
  refine onc_ 8 (bo_ 10 511) (some 16) HT_ Try.func58 (impl_AngleOf.calls (wrap64 (O + (wrap64 (T * D)))) a5 _ A7.out) ?_
  rintro e w' ⟨rfl, ⟨nd, rfl⟩⟩
  refine ⟨_, _, rfl, (cz4_ j), pt_, fun hHeld => ?_⟩
  refine pur_ 9 (bo_ 10 1023) (some 4) HT_ ?_
  refine done_ (done_of HT_.out (by kernel_rfl)) ?_
  try go_wp2
  go_ret
  exact ⟨by first | (rw [hRT_.out]; rfl) | exact er_, bl1_ HB x⟩
 ·replace c4 := Bool.eq_false_iff.mpr c4
  subst c4
  have M : ((impl_AngleOf.f l).bind fun y => ((impl_speedOf.f m l s u).bind fun U => ((impl_AngleOf.f (wrap64 (y))).bind fun J => (some J)))) = some r := by rw [if_neg (show ¬ (false = true) by decide)] at H; exact H
  clear H
  have H := M
  clear M
  replace H := bs_ H
  obtain ⟨y, X, H⟩ := H
  replace H := bs_ H
  obtain ⟨U, Y, H⟩ := H
  replace H := bs_ H
  obtain ⟨J, Z, H⟩ := H
  obtain rfl := Option.some.inj H
  go_enter Try.func57, Try.ntmps57
  try go_wp2_with (first | ((with_reducible refine gd_ 2 ?_); refine bx_ 2 72 #[iv_ m, iv_ l, iv_ s, iv_ u] ?_; intro E hg z hbox hb; refine sh3_ (below_step (bl_ HB) hb) hbox (ge_ hg (bl_ HB)) ?_; clear HB hb hbox hg; intro HB j x) | ((with_reducible refine gate_callee (f := 93) rfl ?_); refine gl_ 6 Try.func93 (impl_InRange.calls D 0 1000 false _ L.out) ?_; rintro e w' ⟨rfl, ⟨nd, rfl⟩⟩; refine ⟨_, rfl, ?_⟩))
  (try (rw [drewN_self z]; generalize hq_ : World.drewN z _ = z; have G : Aside0 (z.heap[E]? = some (.cells #[iv_ m, iv_ l, iv_ s, iv_ u] 72 (0, 0))) := ⟨by rw [← hq_]; exact (bk_ j)⟩; have I : Aside0 (Below w.heap.size w z) := ⟨by rw [← hq_]; exact (bl1_ HB x)⟩; clear j HB hq_; have j := G; have HB := I; clear G I))
  refine sh2_ (blk_drew j.out) (below_drew1 HB.out) ?_
  clear j HB
  intro j HB
  refine start_ (n := 10) (S := fun w' => Cz4 w' E (iv_ m) (iv_ l) (iv_ s) (iv_ u)) (ds := []) (bo_ 10 0) (by kernel_rfl) rfl rfl (cz4_ j) (fun hHeld => ?_); refine with_tabW impl_PlaceAt.tab3 impl_PlaceAt.bits3 (fun HT_ HW_ => ?_)
  generalize z.drew = a8 at j HB hHeld ⊢
  refine pur_ 0 (bo_ 10 1) (some 8) HT_ ?_
  refine pur_ 5 (bo_ 10 33) (some 13) HT_ ?_
  refine tak_ 1 (bo_ 10 35) (some 9) HT_ HW_ hHeld ?_
  refine tak_ 3 (bo_ 10 43) (some 11) HT_ HW_ hHeld ?_
  refine onc_ 2 (bo_ 10 47) (some 10) HT_ Try.func58 (impl_AngleOf.calls l y _ X.out) ?_
  rintro e w' ⟨rfl, ⟨nd, rfl⟩⟩
  refine ⟨_, _, rfl, (cz4_ j), pt_, fun hHeld => ?_⟩
  refine onc_ 4 (bo_ 10 63) (some 12) HT_ Try.func95 (impl_speedOf.calls m l s u U _ Y.out) ?_
  rintro e a9 ⟨rfl, hb⟩
  refine sh2_ (blk_below (bk_ j) hb) (below_step (bl1_ HB x) hb) ?_
  clear j HB hb
  intro j HB
  refine ⟨_, _, rfl, (cz4_ j), pt_, fun hHeld => ?_⟩
  refine pur_ 6 (bo_ 10 127) (some 14) HT_ ?_
  refine pur_ 7 (bo_ 10 255) (some 15) HT_ ?_
  refine one_ (i := 8) (N := some 16) (bo_ 10 511) rfl rfl (one_of HT_.out (by kernel_rfl)) (by decide) (fun K hK => ?_)
  refine goes_ Try.func58 (by kernel_rfl) rfl #[iv_ (wrap64 (y))] (by rfl) rfl rfl (by (try simp only [List.map_toArray, List.map_cons, List.map_nil]); first | done | rfl | (exact congrArg (fun z_ => #[Value.int IntKind.i64 (wrap64 z_)]) (show y + wrap64 0 = y by (have h_ : wrap64 0 = 0 := (by (unfold wrap64; omega)); omega)))) ?_
  with_reducible refine (impl_AngleOf.calls (wrap64 (y)) J _ Z.out).mono ?_
  rintro e w' ⟨rfl, ⟨nd, rfl⟩⟩
  refine ⟨_, rfl, ?_⟩
  refine hK.out _ _ (cz4_ j) (fun hHeld => ?_)
  clear hK K
  refine norm_ (show Act.put _ (some 16) _ = _ from pt_) ?_
  refine pur_ 9 (bo_ 10 1023) (some 4) HT_ ?_
  refine done_ (done_of HT_.out (by kernel_rfl)) ?_
  try go_wp2
  go_ret
  exact ⟨by first | (rw [hRT_.out]; rfl) | exact er_, bl1_ HB x⟩

/-! ### impl_isWidth: function 92 -/
def impl_isWidth.f (j : Int) : Option (Bool) := (impl_InRange.f j 0 359).bind fun l => (some l)
theorem impl_isWidth.calls (j : Int) (r : Bool) (w : World) (h : impl_isWidth.f j = some r) :
  Calls Try.prog 92 #[iv_ j] w fun e w' => e = .returned (.bool r) ∧ Drawn0 w w' := by
 have H := h
 clear h
 unfold impl_isWidth.f at H
 replace H := bs_ H
 obtain ⟨m, l, H⟩ := H
 obtain rfl := Option.some.inj H
 go_enter Try.func92, Try.ntmps92
 go_wp2_with (first | ((with_reducible refine gate_callee (f := 93) rfl ?_); refine gl_ 4 Try.func93 (impl_InRange.calls j 0 359 m _ l.out) ?_; rintro e w' ⟨rfl, ⟨nd, rfl⟩⟩; refine ⟨_, rfl, ?_⟩))
 go_ret
 exact ⟨by first | rfl | (simp; done) | (simp [*]; done), by repeat (first | exact Drawn0.refl _ | apply Drawn0.step)⟩

/-! ### impl_WidenArc: function 94 -/
def impl_WidenArc.f (s j l : Int) : Option (Int × Int) := (impl_AngleOf.f s).bind fun m => ((impl_InRange.f l 0 360).bind fun u => (if u = true then ((impl_isWidth.f j).bind fun x => (if x = true then ((impl_AngleOf.f (wrap64 (m - l))).bind fun y => (some (y, mn (wrap64 (j + (wrap64 (2 * l)))) 359))) else (some (m, j)))) else (some (m, j))))
def impl_WidenArc.T4 : Bool × List (List Nat × List Nat) := (true, [([], []), ([0], [0]), ([], []), ([1, 2], [1, 2]), ([3], [3]), ([], []), ([5], [5]), ([], []), ([7], [7]), ([6, 8], [6, 8]), ([9], [9]), ([4, 10], [4, 10]), ([11, 4, 0, 1, 2, 3, 4, 5, 6, 7, 8, 9, 10, 11], [11])])
def impl_WidenArc.B4 : List Nat := [0, 1, 0, 7, 15, 0, 32, 0, 128, 480, 992, 2047, 4095]
theorem impl_WidenArc.tab4 : rtab .any (opsOf Try.f94 4) = impl_WidenArc.T4 := by kernel_rfl
theorem impl_WidenArc.bits4 : waitsOk impl_WidenArc.T4.2 impl_WidenArc.B4 = true := by kernel_rfl
theorem impl_WidenArc.calls (E m D T U : Int) (w : World) (h : impl_WidenArc.f E m D = some (T, U)) :
  Calls Try.prog 94 #[.agg #[iv_ E, iv_ m], iv_ D] w fun e w' => e = .returned (.agg #[iv_ T, iv_ U]) ∧ Below w.heap.size w w' := by
 have e2 := Try.underlying35
 have HB := Aside0.mk (Below.refl w.heap.size w)
 have H := h
 clear h
 unfold impl_WidenArc.f at H
 replace H := bs_ H
 obtain ⟨s, A3, H⟩ := H
 replace H := bs_ H
 obtain ⟨a8, A4, H⟩ := H
 by_cases c5 : a8 = true
 ·subst c5
  have I : ((impl_isWidth.f m).bind fun a5 => (if a5 = true then ((impl_AngleOf.f (wrap64 (s - D))).bind fun X => (some (X, mn (wrap64 (m + (wrap64 (2 * D)))) 359))) else (some (s, m)))) = some (T, U) := by rw [if_pos rfl] at H; exact H
  clear H
  have H := I
  clear I
  replace H := bs_ H
  obtain ⟨a5, A6, H⟩ := H
  by_cases c7 : a5 = true
  ·subst c7
   have I : ((impl_AngleOf.f (wrap64 (s - D))).bind fun X => (some (X, mn (wrap64 (m + (wrap64 (2 * D)))) 359))) = some (T, U) := by rw [if_pos rfl] at H; exact H
   clear H
   have H := I
   clear I
   replace H := bs_ H
   obtain ⟨X, A8, H⟩ := H
   obtain ⟨ji9, hji9⟩ : ∃ j_ : Int, (mn (wrap64 (m + (wrap64 (2 * D)))) 359) = j_ := ⟨_, rfl⟩
   replace H : (some (X, ji9)) = some (T, U) := by first | (rw [hji9] at H; exact H) | (simp only [hji9] at H ⊢; exact H)
   (try rw [hji9] at A3)
   (try rw [hji9] at A4)
   (try rw [hji9] at A6)
   (try rw [hji9] at A8)
   (try (have c1 : ji9 ≤ 359 := by (rw [← hji9]; unfold mn; (repeat' split) <;> omega)))
   (try (have c0 : ji9 ≤ 64 := by omega))
   have b9 : (if 359 < (wrap64 (m + (wrap64 (2 * D)))) then 359 else (wrap64 (m + (wrap64 (2 * D))))) = ji9 := hji9
   simp only [Option.some.injEq, Prod.mk.injEq] at H
   obtain ⟨rfl, rfl⟩ := H
   go_enter Try.func94, Try.ntmps94
   try go_wp2_with (first | ((with_reducible refine gd_ 2 ?_); refine bx_ 2 35 #[iv_ E, iv_ m] ?_; intro G hg e3 hbox hb; refine sh3_ (below_step (bl_ HB) hb) hbox (ge_ hg (bl_ HB)) ?_; clear HB hb hbox hg; intro HB j u) | ((with_reducible refine gd_ 4 ?_); refine bx_ 4 35 #[iv_ 0, iv_ 0] ?_; intro x hg M hbox hb; refine sh6_ (blk_below (bk_ j) hb) (below_step (bl1_ HB u) hb) hbox (ge_ hg (bl1_ HB u)) (nl_ hg (bk_ j)) (ng_ hg (bk_ j)) ?_; clear j HB hb hbox hg; intro j HB l L J O; have d2 := J.out; have d5 := O.out; have a9 := cf2_ j) | ((with_reducible refine gate_callee (f := 58) rfl ?_); refine gl_ 7 Try.func58 (impl_AngleOf.calls E s _ A3.out) ?_; rintro e w' ⟨rfl, ⟨nd, rfl⟩⟩; refine ⟨_, rfl, ?_⟩; (try (rw [drewN_self M]; generalize hq_ : World.drewN M _ = M; have y : Aside0 (M.heap[G]? = some (.cells #[iv_ E, iv_ m] 35 (0, 0))) := ⟨by rw [← hq_]; exact (bk_ j)⟩; have z : Aside0 (M.heap[x]? = some (.cells #[iv_ 0, iv_ 0] 35 (0, 0))) := ⟨by rw [← hq_]; exact (bk_ l)⟩; have B : Aside0 (Below w.heap.size w M) := ⟨by rw [← hq_]; exact (bl2_ HB u L)⟩; clear j l HB hq_; have j := y; have l := z; have HB := B; clear y z B)); have b0 := cf2_ j) | ((with_reducible refine gate_callee (f := 93) rfl ?_); refine gl_ 10 Try.func93 (impl_InRange.calls D 0 360 true _ A4.out) ?_; rintro e w' ⟨rfl, ⟨nd, rfl⟩⟩; refine ⟨_, rfl, ?_⟩) | (go_at_call 92; (with_reducible refine (impl_isWidth.calls m true _ A6.out).mono ?_); rintro e w' ⟨rfl, ⟨nd, rfl⟩⟩))
   have y : Aside0 ((M.setCell ⟨G, 0, none⟩ (iv_ s)).heap[G]? = some (.cells #[iv_ s, iv_ m] 35 (0, 0))) := ⟨by (with_reducible repeat (first | refine blk_drewN ?_ _ | refine blk_drew ?_ | refine blk_alloc ?_ _)); refine blk_put (cs := #[iv_ E, iv_ m]) ?_ 0 _ rfl; exact bk_ j⟩
   have z : Aside0 ((M.setCell ⟨G, 0, none⟩ (iv_ s)).heap[x]? = some (.cells #[iv_ 0, iv_ 0] 35 (0, 0))) := ⟨by (with_reducible repeat (first | refine blk_drewN ?_ _ | refine blk_drew ?_ | refine blk_alloc ?_ _)); refine blk_far ?_ O.out _; exact bk_ l⟩
   have B : Aside0 (Below w.heap.size w (M.setCell ⟨G, 0, none⟩ (iv_ s))) := ⟨bl2_ HB u L⟩
   (try clear j)
   (try clear l)
   (try clear HB)
   generalize (M.setCell ⟨G, 0, none⟩ (iv_ s)) = Y at y z B ⊢
   have j := y
   have l := z
   have HB := B
   clear y z B
   (try (rw [drewN_self Y]; generalize hq_ : World.drewN Y _ = Y; have y : Aside0 (Y.heap[G]? = some (.cells #[iv_ s, iv_ m] 35 (0, 0))) := ⟨by rw [← hq_]; exact (bk_ j)⟩; have z : Aside0 (Y.heap[x]? = some (.cells #[iv_ 0, iv_ 0] 35 (0, 0))) := ⟨by rw [← hq_]; exact (bk_ l)⟩; have B : Aside0 (Below w.heap.size w Y) := ⟨by rw [← hq_]; exact (bl2_ HB u L)⟩; clear j l HB hq_; have j := y; have l := z; have HB := B; clear y z B))
   refine sh3_ (blk_drew j.out) (blk_drew l.out) (below_drew1 HB.out) ?_
   clear j l HB
   intro j l HB
   refine start_ (n := 13) (S := fun w' => Cz2 w' G (iv_ s) (iv_ m)) (ds := []) (bo_ 13 0) (by kernel_rfl) rfl rfl (cz2_ j) (fun hHeld => ?_); refine with_tabW impl_WidenArc.tab4 impl_WidenArc.bits4 (fun HT_ HW_ => ?_)
   generalize Y.drew = a7 at j l HB hHeld ⊢
   refine pur_ 0 (bo_ 13 1) (some 19) HT_ ?_
   refine pur_ 2 (bo_ 13 5) (some 21) HT_ ?_
   refine pur_ 5 (bo_ 13 37) (some 24) HT_ ?_
   refine pur_ 7 (bo_ 13 165) (some 26) HT_ ?_
   refine pur_ 8 (bo_ 13 421) (some 27) HT_ ?_
   refine tak_ 1 (bo_ 13 423) (some 20) HT_ HW_ hHeld ?_
   refine pur_ 3 (bo_ 13 431) (some 22) HT_ ?_
   refine tak_ 6 (bo_ 13 495) (some 25) HT_ HW_ hHeld ?_
   refine pur_ 9 (bo_ 13 1007) (some 28) HT_ ?_
   refine pur_ 10 (bo_ 13 2031) (some 29) HT_ ?_
   refine onc_ 4 (bo_ 13 2047) (some 23) HT_ Try.func58 (impl_AngleOf.calls (wrap64 (s - D)) X _ A8.out) ?_
   rintro e w' ⟨rfl, ⟨nd, rfl⟩⟩
   refine ⟨_, _, rfl, (cz2_ j), pt_, fun hHeld => ?_⟩
   refine pur_ 11 (bo_ 13 4095) (some 30) HT_ ?_
   refine one_ (i := 12) (N := none) (bo_ 13 8191) rfl rfl (one_of HT_.out (by kernel_rfl)) (by decide) (fun K hK => ?_)
   have e0 : a7.cell? ⟨x, 0, none⟩ = some (iv_ 0) := bc_ l 0 rfl
   have b7 := bf_ l 0
   have d8 := J.out
   have d0 := O.out
   have e1 : a7.cell? ⟨x, 1, none⟩ = some (iv_ 0) := bc_ l 1 rfl
   have b8 := bf_ l 1
   have d9 := J.out
   have d1 := O.out
   refine skip_ (w1 := ?_) (by rfl) rfl ?_ ?_
   rotate_left
   ·go_simp
    rfl
   refine hK.out _ _ ⟨((cell_far (p := ⟨x, _, none⟩) J.out _).trans (((cell_far (p := ⟨x, _, none⟩) J.out _).trans (hHeld.1)))), ((cell_far (p := ⟨x, _, none⟩) J.out _).trans (((cell_far (p := ⟨x, _, none⟩) J.out _).trans (hHeld.2))))⟩ (fun hHeld => ?_)
   clear hK K
   refine done_ (done_of HT_.out (by kernel_rfl)) ?_
   try go_wp2
   refine bodyPost_ret (results_cell_row rfl _ _ x 35 #[iv_ X, iv_ ji9] (0, 0) _ rfl (bp_ l) Try.underlying35 rfl (by kernel_rfl)) rfl ?_
   exact ⟨by first | rfl | (rw [hRT_.out]; rfl) | (simp [errW_none, errW_some] <;> rfl) | (simp only [← hji9]; first | rfl | (simp [errW_none, errW_some] <;> rfl)) | (simp [*, errW_none, errW_some] <;> rfl), bl2_ HB u L⟩
  ·replace c7 := Bool.eq_false_iff.mpr c7
   subst c7
   have I : (some (s, m)) = some (T, U) := by rw [if_neg (show ¬ (false = true) by decide)] at H; exact H
   clear H
   have H := I
   clear I
   simp only [Option.some.injEq, Prod.mk.injEq] at H
   obtain ⟨rfl, rfl⟩ := H
   go_enter Try.func94, Try.ntmps94
   go_wp2_with (first | ((with_reducible refine gd_ 2 ?_); refine bx_ 2 35 #[iv_ E, iv_ m] ?_; intro G hg e4 hbox hb; refine sh3_ (below_step (bl_ HB) hb) hbox (ge_ hg (bl_ HB)) ?_; clear HB hb hbox hg; intro HB j u) | ((with_reducible refine gd_ 4 ?_); refine bx_ 4 35 #[iv_ 0, iv_ 0] ?_; intro x hg Z hbox hb; refine sh6_ (blk_below (bk_ j) hb) (below_step (bl1_ HB u) hb) hbox (ge_ hg (bl1_ HB u)) (nl_ hg (bk_ j)) (ng_ hg (bk_ j)) ?_; clear j HB hb hbox hg; intro j HB l L J O; have d3 := J.out; have d6 := O.out; have b1 := cf2_ j) | ((with_reducible refine gate_callee (f := 58) rfl ?_); refine gl_ 7 Try.func58 (impl_AngleOf.calls E s _ A3.out) ?_; rintro e w' ⟨rfl, ⟨nd, rfl⟩⟩; refine ⟨_, rfl, ?_⟩; (try (rw [drewN_self Z]; generalize hq_ : World.drewN Z _ = Z; have y : Aside0 (Z.heap[G]? = some (.cells #[iv_ E, iv_ m] 35 (0, 0))) := ⟨by rw [← hq_]; exact (bk_ j)⟩; have z : Aside0 (Z.heap[x]? = some (.cells #[iv_ 0, iv_ 0] 35 (0, 0))) := ⟨by rw [← hq_]; exact (bk_ l)⟩; have B : Aside0 (Below w.heap.size w Z) := ⟨by rw [← hq_]; exact (bl2_ HB u L)⟩; clear j l HB hq_; have j := y; have l := z; have HB := B; clear y z B)); have b2 := cf2_ j) | ((with_reducible refine gate_callee (f := 93) rfl ?_); refine gl_ 10 Try.func93 (impl_InRange.calls D 0 360 true _ A4.out) ?_; rintro e w' ⟨rfl, ⟨nd, rfl⟩⟩; refine ⟨_, rfl, ?_⟩) | (go_at_call 92; (with_reducible refine (impl_isWidth.calls m false _ A6.out).mono ?_); rintro e w' ⟨rfl, ⟨nd, rfl⟩⟩; have b3 := cf2_ l))
   refine bodyPost_ret (results_cell_row rfl _ _ x 35 #[iv_ s, iv_ m] (0, 0) _ rfl (bp_ l) Try.underlying35 rfl (by kernel_rfl)) rfl ?_
   exact ⟨by first | (rw [hRT_.out]; rfl) | exact er_, bl2_ HB u L⟩
 ·replace c5 := Bool.eq_false_iff.mpr c5
  subst c5
  have I : (some (s, m)) = some (T, U) := by rw [if_neg (show ¬ (false = true) by decide)] at H; exact H
  clear H
  have H := I
  clear I
  simp only [Option.some.injEq, Prod.mk.injEq] at H
  obtain ⟨rfl, rfl⟩ := H
  go_enter Try.func94, Try.ntmps94
  go_wp2_with (first | ((with_reducible refine gd_ 2 ?_); refine bx_ 2 35 #[iv_ E, iv_ m] ?_; intro G hg e5 hbox hb; refine sh3_ (below_step (bl_ HB) hb) hbox (ge_ hg (bl_ HB)) ?_; clear HB hb hbox hg; intro HB j u) | ((with_reducible refine gd_ 4 ?_); refine bx_ 4 35 #[iv_ 0, iv_ 0] ?_; intro x hg a0 hbox hb; refine sh6_ (blk_below (bk_ j) hb) (below_step (bl1_ HB u) hb) hbox (ge_ hg (bl1_ HB u)) (nl_ hg (bk_ j)) (ng_ hg (bk_ j)) ?_; clear j HB hb hbox hg; intro j HB l L J O; have d4 := J.out; have d7 := O.out; have b4 := cf2_ j) | ((with_reducible refine gate_callee (f := 58) rfl ?_); refine gl_ 7 Try.func58 (impl_AngleOf.calls E s _ A3.out) ?_; rintro e w' ⟨rfl, ⟨nd, rfl⟩⟩; refine ⟨_, rfl, ?_⟩; (try (rw [drewN_self a0]; generalize hq_ : World.drewN a0 _ = a0; have y : Aside0 (a0.heap[G]? = some (.cells #[iv_ E, iv_ m] 35 (0, 0))) := ⟨by rw [← hq_]; exact (bk_ j)⟩; have z : Aside0 (a0.heap[x]? = some (.cells #[iv_ 0, iv_ 0] 35 (0, 0))) := ⟨by rw [← hq_]; exact (bk_ l)⟩; have B : Aside0 (Below w.heap.size w a0) := ⟨by rw [← hq_]; exact (bl2_ HB u L)⟩; clear j l HB hq_; have j := y; have l := z; have HB := B; clear y z B)); have b5 := cf2_ j) | ((with_reducible refine gate_callee (f := 93) rfl ?_); refine gl_ 10 Try.func93 (impl_InRange.calls D 0 360 false _ A4.out) ?_; rintro e w' ⟨rfl, ⟨nd, rfl⟩⟩; refine ⟨_, rfl, ?_⟩; have b6 := cf2_ l))
  refine bodyPost_ret (results_cell_row rfl _ _ x 35 #[iv_ s, iv_ m] (0, 0) _ rfl (bp_ l) Try.underlying35 rfl (by kernel_rfl)) rfl ?_
  exact ⟨by first | (rw [hRT_.out]; rfl) | exact er_, bl2_ HB u L⟩

/-! ### impl_PlacesAt: function 56 -/
def impl_PlacesAt.f (m s u j x : Int) : Option (Int × Int) := (impl_PlaceAt.f m s u j x).bind fun y => ((impl_WidenArc.f y 0 j).bind fun l => (some (l.1, l.2)))
def impl_PlacesAt.T1 : Bool × List (List Nat × List Nat) := (true, [([], []), ([], []), ([0, 1], [0, 1]), ([2], [2]), ([], []), ([4], [4]), ([3, 5, 2], [3, 5]), ([6, 6, 0, 1, 2, 3, 4, 5, 6], [6])])
def impl_PlacesAt.B1 : List Nat := [0, 0, 3, 7, 0, 16, 63, 127]
theorem impl_PlacesAt.tab1 : rtab .any (opsOf Try.f56 1) = impl_PlacesAt.T1 := by kernel_rfl
theorem impl_PlacesAt.bits1 : waitsOk impl_PlacesAt.T1.2 impl_PlacesAt.B1 = true := by kernel_rfl
theorem impl_PlacesAt.calls (y z B u E I J : Int) (w : World) (h : impl_PlacesAt.f y z B u E = some (I, J)) :
  Calls Try.prog 56 #[.agg #[iv_ y, iv_ z, iv_ B, iv_ u], iv_ E] w fun e w' => e = .returned (.agg #[iv_ I, iv_ J]) ∧ Below w.heap.size w w' := by
 have b0 := Try.underlying72
 have a9 := Try.underlying35
 have HB := Aside0.mk (Below.refl w.heap.size w)
 have H := h
 clear h
 unfold impl_PlacesAt.f at H
 replace H := bs_ H
 obtain ⟨L, U, H⟩ := H
 replace H := bs_ H
 obtain ⟨⟨M, O⟩, X, H⟩ := H
 dsimp only at H
 simp only [Option.some.injEq, Prod.mk.injEq] at H
 obtain ⟨rfl, rfl⟩ := H
 go_enter Try.func56, Try.ntmps56
 try go_wp2_with (first | ((with_reducible refine gd_ 2 ?_); refine bx_ 2 72 #[iv_ y, iv_ z, iv_ B, iv_ u] ?_; intro Y hg w5 hbox hb; refine sh3_ (below_step (bl_ HB) hb) hbox (ge_ hg (bl_ HB)) ?_; clear HB hb hbox hg; intro HB j x) | ((with_reducible refine gd_ 4 ?_); refine bx_ 4 35 #[iv_ 0, iv_ 0] ?_; intro m hg Z hbox hb; refine sh6_ (blk_below (bk_ j) hb) (below_step (bl1_ HB x) hb) hbox (ge_ hg (bl1_ HB x)) (nl_ hg (bk_ j)) (ng_ hg (bk_ j)) ?_; clear j HB hb hbox hg; intro j HB l D s G))
 refine sh3_ (blk_drew j.out) (blk_drew l.out) (below_drew1 HB.out) ?_
 clear j l HB
 intro j l HB
 refine start_ (n := 8) (S := fun w' => Cz4 w' Y (iv_ y) (iv_ z) (iv_ B) (iv_ u)) (ds := []) (bo_ 8 0) (by kernel_rfl) rfl rfl (cz4_ j) (fun hHeld => ?_); refine with_tabW impl_PlacesAt.tab1 impl_PlacesAt.bits1 (fun HT_ HW_ => ?_)
 generalize Z.drew = w7 at j l HB hHeld ⊢
 refine pur_ 1 (bo_ 8 2) (some 6) HT_ ?_
 refine pur_ 4 (bo_ 8 18) (some 9) HT_ ?_
 refine tak_ 0 (bo_ 8 19) (some 5) HT_ HW_ hHeld ?_
 refine tak_ 5 (bo_ 8 51) (some 10) HT_ HW_ hHeld ?_
 refine onc_ 2 (bo_ 8 55) (some 7) HT_ Try.func57 (impl_PlaceAt.calls y z B u E L _ U.out) ?_
 rintro e w8 ⟨rfl, hb⟩
 refine sh3_ (blk_below (bk_ j) hb) (blk_below (bk_ l) hb) (below_step (bl2_ HB x D) hb) ?_
 clear j l HB hb
 intro j l HB
 refine ⟨_, _, rfl, (cz4_ j), pt_, fun hHeld => ?_⟩
 refine pur_ 3 (bo_ 8 63) (some 8) HT_ ?_
 refine onc_ 6 (bo_ 8 127) (some 11) HT_ Try.func94 (impl_WidenArc.calls L 0 u M O _ X.out) ?_
 rintro e T ⟨rfl, hb⟩
 refine sh3_ (blk_below (bk_ j) hb) (blk_below (bk_ l) hb) (below_step (bl2_ HB x D) hb) ?_
 clear j l HB hb
 intro j l HB
 refine ⟨_, _, rfl, (cz4_ j), pt_, fun hHeld => ?_⟩
 refine one_ (i := 7) (N := none) (bo_ 8 255) rfl rfl (one_of HT_.out (by kernel_rfl)) (by decide) (fun K hK => ?_)
 have a7 : T.cell? ⟨m, 0, none⟩ = some (iv_ 0) := bc_ l 0 rfl
 have a0 := bf_ l 0
 have a5 := s.out
 have a3 := G.out
 have a8 : T.cell? ⟨m, 1, none⟩ = some (iv_ 0) := bc_ l 1 rfl
 have a2 := bf_ l 1
 have a6 := s.out
 have a4 := G.out
 refine skip_ (w1 := ?_) (by rfl) rfl ?_ ?_
 rotate_left
 ·go_simp
  rfl
 refine hK.out _ _ ⟨((cell_far (p := ⟨m, _, none⟩) s.out _).trans (((cell_far (p := ⟨m, _, none⟩) s.out _).trans (hHeld.1)))), ((cell_far (p := ⟨m, _, none⟩) s.out _).trans (((cell_far (p := ⟨m, _, none⟩) s.out _).trans (hHeld.2.1)))), ((cell_far (p := ⟨m, _, none⟩) s.out _).trans (((cell_far (p := ⟨m, _, none⟩) s.out _).trans (hHeld.2.2.1)))), ((cell_far (p := ⟨m, _, none⟩) s.out _).trans (((cell_far (p := ⟨m, _, none⟩) s.out _).trans (hHeld.2.2.2))))⟩ (fun hHeld => ?_)
 clear hK K
 refine done_ (done_of HT_.out (by kernel_rfl)) ?_
 try go_wp2
 refine bodyPost_ret (results_cell_row rfl _ _ m 35 #[iv_ M, iv_ O] (0, 0) _ rfl (bp_ l) Try.underlying35 rfl (by kernel_rfl)) rfl ?_
 exact ⟨by first | (rw [hRT_.out]; rfl) | exact er_, bl2_ HB x D⟩

/-! ### impl_NodeAt: function 13 -/
def impl_NodeAt.f (s : Int) (l : List S72) (m : List S74) (u x y z B : Int) (I : List S88) (D j E : Int) : Option (Int × Int) := (impl_isSatellite.f s l m u x y z B I D j).bind fun J => (if J = true then (if 0 ≤ j then (if j < (l.length : Int) then ((impl_PlacesAt.f ((rd_T72 l j).f0) ((rd_T72 l j).f1) ((rd_T72 l j).f2) ((rd_T72 l j).f3) E).bind fun G => (some (G.1, G.2))) else (none)) else (none)) else ((impl_IsSite.f s l m u x y z B I D j).bind fun L => (if L = true then (if 0 ≤ (wrap64 (j - (l.length : Int))) then (if (wrap64 (j - (l.length : Int))) < (m.length : Int) then ((impl_PlaceAt.f 0 ((rd_T74 m (wrap64 (j - (l.length : Int)))).f1) ((rd_T74 m (wrap64 (j - (l.length : Int)))).f2) 0 E).bind fun M => (some (M, 0))) else (none)) else (none)) else (some (0, 0)))))
theorem impl_NodeAt.calls (B : Int) (Y : Option Addr) (a4 : Nat) (l : List S72) (a8 : Option Addr) (a5 : Nat) (s : List S74) (D E G I J : Int) (Z : Option Addr) (a6 : Nat) (y : List S88) (L u O U X : Int) (w : World) (e0 : Kd.C k72 w Y l.length l) (d7 : l.length ≤ a4) (e1 : Kd.C k74 w a8 s.length s) (d8 : s.length ≤ a5) (e2 : Kd.C k88 w Z y.length y) (d9 : y.length ≤ a6) (h : impl_NodeAt.f B l s D E G I J y L u O = some (U, X)) :
  Calls Try.prog 13 #[.agg #[iv_ B, .slice Y l.length a4, .slice a8 s.length a5, iv_ D, iv_ E, iv_ G, iv_ I, iv_ J, .slice Z y.length a6, iv_ L], iv_ u, iv_ O] w fun e w' => e = .returned (.agg #[iv_ U, iv_ X]) ∧ Below w.heap.size w w' := by
 have j4 := Try.underlying28
 have j5 := Try.underlying35
 have j6 := Try.underlying72
 have j7 := Try.underlying74
 have a0 := Aside0.mk e0
 have a9 := Aside0.mk d7
 clear e0 d7
 have a3 := Aside0.mk e1
 have b0 := Aside0.mk d8
 clear e1 d8
 have b2 := Aside0.mk e2
 have b1 := Aside0.mk d9
 clear e2 d9
 have HB := Aside0.mk (Below.refl w.heap.size w)
 have H := h
 clear h
 unfold impl_NodeAt.f at H
 replace H := bs_ H
 obtain ⟨g6, A4, H⟩ := H
 by_cases c5 : g6 = true
 ·subst c5
  have M : (if 0 ≤ u then (if u < (l.length : Int) then ((impl_PlacesAt.f ((rd_T72 l u).f0) ((rd_T72 l u).f1) ((rd_T72 l u).f2) ((rd_T72 l u).f3) O).bind fun d4 => (some (d4.1, d4.2))) else (none)) else (none)) = some (U, X) := by rw [if_pos rfl] at H; exact H
  clear H
  have H := M
  clear M
  replace H := ifn_ H
  obtain ⟨c6, H⟩ := H
  have h0 := decide_eq_true c6
  clear c6
  replace H := ifn_ H
  obtain ⟨c7, H⟩ := H
  have h1 := decide_eq_true c7
  clear c7
  replace H := bs_ H
  obtain ⟨⟨f4, f5⟩, A8, H⟩ := H
  dsimp only at H
  simp only [Option.some.injEq, Prod.mk.injEq] at H
  obtain ⟨rfl, rfl⟩ := H
  go_enter Try.func13, Try.ntmps13
  go_wp2_with (first | ((with_reducible refine gd_ 3 ?_); refine bx_ 3 28 #[iv_ B, .slice Y l.length a4, .slice a8 s.length a5, iv_ D, iv_ E, iv_ G, iv_ I, iv_ J, .slice Z y.length a6, iv_ L] ?_; intro b9 hg w9 hbox hb; refine sh3_ (below_step (bl_ HB) hb) hbox (ge_ hg (bl_ HB)) ?_; clear HB hb hbox hg; intro HB j x) | ((with_reducible refine gd_ 6 ?_); refine bx_ 6 35 #[iv_ 0, iv_ 0] ?_; intro a7 hg j8 hbox hb; refine sh6_ (blk_below (bk_ j) hb) (below_step (bl1_ HB x) hb) hbox (ge_ hg (bl1_ HB x)) (nl_ hg (bk_ j)) (ng_ hg (bk_ j)) ?_; clear j HB hb hbox hg; intro j HB m z b3 b4; have i4 := b3.out; have i9 := b4.out; have h2 := cf10_ j) | ((with_reducible refine gate_callee (f := 53) rfl ?_); refine gl_ 11 Try.func53 (impl_isSatellite.calls B _ _ l _ _ s D E G I J _ _ y L u true _ (ck_ a0 HB) a9.out (ck_ a3 HB) b0.out (ck_ b2 HB) b1.out A4.out) ?_; rintro e j9 ⟨rfl, hb⟩; refine ⟨_, rfl, sh3_ (blk_below (bk_ j) hb) (blk_below (bk_ m) hb) (below_step (bl2_ HB x z) hb) ?_⟩; clear j m HB hb; intro j m HB; have h3 := cf10_ j; have c0 : 0 ≤ (u : Int) := od_; have d0 : u < (l.length : Int) := od_; obtain ⟨g7, g3, e3, e4, e5, e6⟩ := at_T72 a0.out u c0 d0; cases g3; replace e3 := hbc_ HB e3; replace e4 := hbc_ HB e4; replace e5 := hbc_ HB e5; replace e6 := hbc_ HB e6; replace c0 := eq_true c0; replace d0 := eq_true d0) | ((with_reducible refine gate_callee (f := 56) rfl ?_); refine gl_ 18 Try.func56 (impl_PlacesAt.calls ((rd_T72 l u).f0) ((rd_T72 l u).f1) ((rd_T72 l u).f2) ((rd_T72 l u).f3) O f4 f5 _ A8.out) ?_; rintro e k0 ⟨rfl, hb⟩; refine ⟨_, rfl, sh3_ (blk_below (bk_ j) hb) (blk_below (bk_ m) hb) (below_step (bl2_ HB x z) hb) ?_⟩; clear j m HB hb; intro j m HB; have h4 := cf2_ m))
  refine bodyPost_ret (results_cell_row rfl _ _ a7 35 #[iv_ f4, iv_ f5] (0, 0) _ rfl (bp_ m) Try.underlying35 rfl (by kernel_rfl)) rfl ?_
  exact ⟨by first | (rw [hRT_.out]; rfl) | exact er_, bl2_ HB x z⟩
 ·replace c5 := Bool.eq_false_iff.mpr c5
  subst c5
  have M : ((impl_IsSite.f B l s D E G I J y L u).bind fun d2 => (if d2 = true then (if 0 ≤ (wrap64 (u - (l.length : Int))) then (if (wrap64 (u - (l.length : Int))) < (s.length : Int) then ((impl_PlaceAt.f 0 ((rd_T74 s (wrap64 (u - (l.length : Int)))).f1) ((rd_T74 s (wrap64 (u - (l.length : Int)))).f2) 0 O).bind fun T => (some (T, 0))) else (none)) else (none)) else (some (0, 0)))) = some (U, X) := by rw [if_neg (show ¬ (false = true) by decide)] at H; exact H
  clear H
  have H := M
  clear M
  replace H := bs_ H
  obtain ⟨d2, b8, H⟩ := H
  by_cases b7 : d2 = true
  ·subst b7
   have M : (if 0 ≤ (wrap64 (u - (l.length : Int))) then (if (wrap64 (u - (l.length : Int))) < (s.length : Int) then ((impl_PlaceAt.f 0 ((rd_T74 s (wrap64 (u - (l.length : Int)))).f1) ((rd_T74 s (wrap64 (u - (l.length : Int)))).f2) 0 O).bind fun T => (some (T, 0))) else (none)) else (none)) = some (U, X) := by rw [if_pos rfl] at H; exact H
   clear H
   have H := M
   clear M
   obtain ⟨ji19, hji19⟩ : ∃ j_ : Int, (wrap64 (u - (l.length : Int))) = j_ := ⟨_, rfl⟩
   replace H : (if 0 ≤ (ji19) then (if (ji19) < (s.length : Int) then ((impl_PlaceAt.f 0 ((rd_T74 s (ji19)).f1) ((rd_T74 s (ji19)).f2) 0 O).bind fun T => (some (T, 0))) else (none)) else (none)) = some (U, X) := by first | (rw [hji19] at H; exact H) | (simp only [hji19] at H ⊢; exact H)
   (try rw [hji19] at A4)
   (try rw [hji19] at b8)
   have i3 : (IntKind.i64.wrap (u - (l.length : Int))) = ji19 := (i64_w _).trans hji19
   replace H := ifn_ H
   obtain ⟨d5, H⟩ := H
   have g8 := decide_eq_true d5
   clear d5
   replace H := ifn_ H
   obtain ⟨d6, H⟩ := H
   have g9 := decide_eq_true d6
   clear d6
   replace H := bs_ H
   obtain ⟨T, f6, H⟩ := H
   simp only [Option.some.injEq, Prod.mk.injEq] at H
   obtain ⟨rfl, rfl⟩ := H
   go_enter Try.func13, Try.ntmps13
   go_wp2_with (first | ((with_reducible refine gd_ 3 ?_); refine bx_ 3 28 #[iv_ B, .slice Y l.length a4, .slice a8 s.length a5, iv_ D, iv_ E, iv_ G, iv_ I, iv_ J, .slice Z y.length a6, iv_ L] ?_; intro b9 hg k1 hbox hb; refine sh3_ (below_step (bl_ HB) hb) hbox (ge_ hg (bl_ HB)) ?_; clear HB hb hbox hg; intro HB j x) | ((with_reducible refine gd_ 6 ?_); refine bx_ 6 35 #[iv_ 0, iv_ 0] ?_; intro a7 hg k2 hbox hb; refine sh6_ (blk_below (bk_ j) hb) (below_step (bl1_ HB x) hb) hbox (ge_ hg (bl1_ HB x)) (nl_ hg (bk_ j)) (ng_ hg (bk_ j)) ?_; clear j HB hb hbox hg; intro j HB m z b3 b4; have i5 := b3.out; have j0 := b4.out; have h5 := cf10_ j) | ((with_reducible refine gate_callee (f := 53) rfl ?_); refine gl_ 11 Try.func53 (impl_isSatellite.calls B _ _ l _ _ s D E G I J _ _ y L u false _ (ck_ a0 HB) a9.out (ck_ a3 HB) b0.out (ck_ b2 HB) b1.out A4.out) ?_; rintro e k3 ⟨rfl, hb⟩; refine ⟨_, rfl, sh3_ (blk_below (bk_ j) hb) (blk_below (bk_ m) hb) (below_step (bl2_ HB x z) hb) ?_⟩; clear j m HB hb; intro j m HB; have h6 := cf10_ j) | ((with_reducible refine gate_callee (f := 54) rfl ?_); refine gl_ 22 Try.func54 (impl_IsSite.calls B _ _ l _ _ s D E G I J _ _ y L u true _ (ck_ a0 HB) a9.out (ck_ a3 HB) b0.out (ck_ b2 HB) b1.out b8.out) ?_; rintro e k4 ⟨rfl, hb⟩; refine ⟨_, rfl, sh3_ (blk_below (bk_ j) hb) (blk_below (bk_ m) hb) (below_step (bl2_ HB x z) hb) ?_⟩; clear j m HB hb; intro j m HB; have h7 := cf10_ j; have c1 : 0 ≤ ((ji19) : Int) := od_; have d1 : (ji19) < (s.length : Int) := od_; obtain ⟨g2, g4, e7, e8, e9⟩ := at_T74 a3.out (ji19) c1 d1; cases g4; replace e7 := hbc_ HB e7; replace e8 := hbc_ HB e8; replace e9 := hbc_ HB e9; replace c1 := eq_true c1; replace d1 := eq_true d1) | ((with_reducible refine gd_ 7 ?_); refine bx_ 7 74 #[iv_ 0, iv_ 0, iv_ 0] ?_; intro g5 hg k5 hbox hb; refine sh9_ (blk_below (bk_ j) hb) (blk_below (bk_ m) hb) (below_step (bl2_ HB x z) hb) hbox (ge_ hg (bl2_ HB x z)) (nl_ hg (bk_ j)) (ng_ hg (bk_ j)) (nl_ hg (bk_ m)) (ng_ hg (bk_ m)) ?_; clear j m HB hb hbox hg; intro j m HB b6 d3 f8 g0 f9 g1; have i6 := g0.out; have j1 := f8.out; have i7 := g1.out; have j2 := f9.out; have h8 := cf3_ b6) | ((with_reducible refine gate_callee (f := 57) rfl ?_); refine goesL_ (some 38) rfl rfl Try.func57 (by kernel_rfl) rfl #[.agg #[iv_ 0, iv_ ((rd_T74 s (ji19)).f1), iv_ ((rd_T74 s (ji19)).f2), iv_ 0], iv_ O] rfl (by (try simp only [List.map_toArray, List.map_cons, List.map_nil]); first | done | (simp only [hji19]; rfl) | rfl | (simp only [List.length_drop, List.length_take]; rfl)) ?_; (with_reducible refine (impl_PlaceAt.calls 0 ((rd_T74 s (ji19)).f1) ((rd_T74 s (ji19)).f2) 0 O T _ f6.out).mono ?_); rintro e k6 ⟨rfl, hb⟩; refine ⟨_, rfl, sh4_ (blk_below (g := b9) (o := .cells #[iv_ B, .slice Y l.length a4, .slice (some g2) s.length a5, iv_ D, iv_ E, iv_ G, iv_ I, iv_ J, .slice Z y.length a6, iv_ L] 28 (0, 0)) (bp_ j) hb) (blk_below (g := a7) (o := .cells #[iv_ 0, iv_ 0] 35 (0, 0)) (bp_ m) hb) (blk_below (g := g5) (o := .cells #[iv_ ((rd_T74 s (ji19)).f0), iv_ ((rd_T74 s (ji19)).f1), iv_ ((rd_T74 s (ji19)).f2)] 74 (0, 0)) (bp_ b6) hb) (below_step (bl3_ HB x z d3) hb) ?_⟩; clear j m b6 HB hb; intro j m b6 HB; have h9 := cf2_ m))
   refine bodyPost_ret (results_cell_row rfl _ _ a7 35 #[iv_ T, iv_ 0] (0, 0) _ rfl (bp_ m) Try.underlying35 rfl (by kernel_rfl)) rfl ?_
   exact ⟨by first | rfl | (rw [hRT_.out]; rfl) | (simp [errW_none, errW_some] <;> rfl) | (simp only [← hji19]; first | rfl | (simp [errW_none, errW_some] <;> rfl)) | (simp [*, errW_none, errW_some] <;> rfl), bl3_ HB x z d3⟩
  ·replace b7 := Bool.eq_false_iff.mpr b7
   subst b7
   have M : (some (0, 0)) = some (U, X) := by rw [if_neg (show ¬ (false = true) by decide)] at H; exact H
   clear H
   have H := M
   clear M
   simp only [Option.some.injEq, Prod.mk.injEq] at H
   obtain ⟨rfl, rfl⟩ := H
   go_enter Try.func13, Try.ntmps13
   go_wp2_with (first | ((with_reducible refine gd_ 3 ?_); refine bx_ 3 28 #[iv_ B, .slice Y l.length a4, .slice a8 s.length a5, iv_ D, iv_ E, iv_ G, iv_ I, iv_ J, .slice Z y.length a6, iv_ L] ?_; intro b9 hg k7 hbox hb; refine sh3_ (below_step (bl_ HB) hb) hbox (ge_ hg (bl_ HB)) ?_; clear HB hb hbox hg; intro HB j x) | ((with_reducible refine gd_ 6 ?_); refine bx_ 6 35 #[iv_ 0, iv_ 0] ?_; intro a7 hg k8 hbox hb; refine sh6_ (blk_below (bk_ j) hb) (below_step (bl1_ HB x) hb) hbox (ge_ hg (bl1_ HB x)) (nl_ hg (bk_ j)) (ng_ hg (bk_ j)) ?_; clear j HB hb hbox hg; intro j HB m z b3 b4; have i8 := b3.out; have j3 := b4.out; have i0 := cf10_ j) | ((with_reducible refine gate_callee (f := 53) rfl ?_); refine gl_ 11 Try.func53 (impl_isSatellite.calls B _ _ l _ _ s D E G I J _ _ y L u false _ (ck_ a0 HB) a9.out (ck_ a3 HB) b0.out (ck_ b2 HB) b1.out A4.out) ?_; rintro e k9 ⟨rfl, hb⟩; refine ⟨_, rfl, sh3_ (blk_below (bk_ j) hb) (blk_below (bk_ m) hb) (below_step (bl2_ HB x z) hb) ?_⟩; clear j m HB hb; intro j m HB; have i1 := cf10_ j) | ((with_reducible refine gate_callee (f := 54) rfl ?_); refine gl_ 22 Try.func54 (impl_IsSite.calls B _ _ l _ _ s D E G I J _ _ y L u false _ (ck_ a0 HB) a9.out (ck_ a3 HB) b0.out (ck_ b2 HB) b1.out b8.out) ?_; rintro e l0 ⟨rfl, hb⟩; refine ⟨_, rfl, sh3_ (blk_below (bk_ j) hb) (blk_below (bk_ m) hb) (below_step (bl2_ HB x z) hb) ?_⟩; clear j m HB hb; intro j m HB; have i2 := cf2_ m))
   refine bodyPost_ret (results_cell_row rfl _ _ a7 35 #[iv_ 0, iv_ 0] (0, 0) _ rfl (bp_ m) Try.underlying35 rfl (by kernel_rfl)) rfl ?_
   exact ⟨by first | (rw [hRT_.out]; rfl) | exact er_, bl2_ HB x z⟩

/-! ### impl_GapOf: function 14 -/
def impl_GapOf.f (l m : Int) : Option (Int) := (impl_AngleOf.f l).bind fun s => ((impl_AngleOf.f m).bind fun u => ((impl_AngleOf.f (wrap64 (s - u))).bind fun j => (some (mn j (wrap64 (360 - j))))))
theorem impl_GapOf.calls (l m r : Int) (w : World) (h : impl_GapOf.f l m = some r) :
  Calls Try.prog 14 #[iv_ l, iv_ m] w fun e w' => e = .returned (iv_ r) ∧ Below w.heap.size w w' := by
 have HB := Aside0.mk (Below.refl w.heap.size w)
 have H := h
 clear h
 unfold impl_GapOf.f at H
 replace H := bs_ H
 obtain ⟨y, s, H⟩ := H
 replace H := bs_ H
 obtain ⟨z, u, H⟩ := H
 replace H := bs_ H
 obtain ⟨j, x, H⟩ := H
 obtain ⟨ji6, hji6⟩ : ∃ j_ : Int, (mn j (wrap64 (360 - j))) = j_ := ⟨_, rfl⟩
 replace H : (some ji6) = some r := by first | (rw [hji6] at H; exact H) | (simp only [hji6] at H ⊢; exact H)
 (try rw [hji6] at s)
 (try rw [hji6] at u)
 (try rw [hji6] at x)
 have B : (if (wrap64 (360 - j)) < j then (wrap64 (360 - j)) else j) = ji6 := hji6
 obtain rfl := Option.some.inj H
 go_enter Try.func14, Try.ntmps14
 go_wp2_with (first | ((with_reducible refine gate_callee (f := 58) rfl ?_); refine gl_ 7 Try.func58 (impl_AngleOf.calls l y _ s.out) ?_; rintro e w' ⟨rfl, ⟨nd, rfl⟩⟩; refine ⟨_, rfl, ?_⟩) | ((with_reducible refine gate_callee (f := 58) rfl ?_); refine gl_ 9 Try.func58 (impl_AngleOf.calls m z _ u.out) ?_; rintro e w' ⟨rfl, ⟨nd, rfl⟩⟩; refine ⟨_, rfl, ?_⟩) | ((with_reducible refine gate_callee (f := 58) rfl ?_); refine gl_ 11 Try.func58 (impl_AngleOf.calls (wrap64 (y - z)) j _ x.out) ?_; rintro e w' ⟨rfl, ⟨nd, rfl⟩⟩; refine ⟨_, rfl, ?_⟩))
 go_ret
 exact ⟨by first | rfl | (rw [hRT_.out]; rfl) | (simp [errW_none, errW_some] <;> rfl) | (simp only [← hji6]; first | rfl | (simp [errW_none, errW_some] <;> rfl)) | (simp [*, errW_none, errW_some] <;> rfl), bl_ HB⟩

/-! ### impl_MiddleOf: function 51 -/
def impl_MiddleOf.f (j l : Int) : Option (Int) := (impl_isWidth.f l).bind fun m => (if m = true then ((impl_AngleOf.f j).bind fun s => ((impl_AngleOf.f (wrap64 (s + (wrap64 (Int.tdiv l 2))))).bind fun u => (some u))) else ((impl_AngleOf.f j).bind fun x => (some x)))
theorem impl_MiddleOf.calls (l j r : Int) (w : World) (h : impl_MiddleOf.f l j = some r) :
  Calls Try.prog 51 #[.agg #[iv_ l, iv_ j]] w fun e w' => e = .returned (iv_ r) ∧ Below w.heap.size w w' := by
 have U := Try.underlying35
 have HB := Aside0.mk (Below.refl w.heap.size w)
 have H := h
 clear h
 unfold impl_MiddleOf.f at H
 replace H := bs_ H
 obtain ⟨T, u, H⟩ := H
 by_cases c3 : T = true
 ·subst c3
  rw [if_pos rfl] at H
  replace H := bs_ H
  obtain ⟨x, B, H⟩ := H
  replace H := bs_ H
  obtain ⟨G, D, H⟩ := H
  obtain rfl := Option.some.inj H
  go_enter Try.func51, Try.ntmps51
  go_wp2_with (first | ((with_reducible refine gd_ 1 ?_); refine bx_ 1 35 #[iv_ l, iv_ j] ?_; intro y hg M hbox hb; refine sh3_ (below_step (bl_ HB) hb) hbox (ge_ hg (bl_ HB)) ?_; clear HB hb hbox hg; intro HB m s; have L := cf2_ m) | (go_at_call 92; (with_reducible refine (impl_isWidth.calls j true _ u.out).mono ?_); rintro e w' ⟨rfl, ⟨nd, rfl⟩⟩; (try exact dd_)) | (go_at_call 58; (with_reducible refine (impl_AngleOf.calls l x _ B.out).mono ?_); rintro e w' ⟨rfl, ⟨nd, rfl⟩⟩; (try exact dd_)) | (go_at_call 58; (with_reducible refine (impl_AngleOf.calls (wrap64 (x + (wrap64 (Int.tdiv j 2)))) G _ D.out).mono ?_); rintro e w' ⟨rfl, ⟨nd, rfl⟩⟩; (try exact dd_)))
  repeat (go_quiet (first | ((with_reducible refine gd_ 1 ?_); refine bx_ 1 35 #[iv_ l, iv_ j] ?_; intro y hg M hbox hb; refine sh3_ (below_step (bl_ HB) hb) hbox (ge_ hg (bl_ HB)) ?_; clear HB hb hbox hg; intro HB m s; have L := cf2_ m) | (go_at_call 92; (with_reducible refine (impl_isWidth.calls j true _ u.out).mono ?_); rintro e w' ⟨rfl, ⟨nd, rfl⟩⟩; (try exact dd_)) | (go_at_call 58; (with_reducible refine (impl_AngleOf.calls l x _ B.out).mono ?_); rintro e w' ⟨rfl, ⟨nd, rfl⟩⟩; (try exact dd_)) | (go_at_call 58; (with_reducible refine (impl_AngleOf.calls (wrap64 (x + (wrap64 (Int.tdiv j 2)))) G _ D.out).mono ?_); rintro e w' ⟨rfl, ⟨nd, rfl⟩⟩; (try exact dd_))); try go_wp2_with (first | ((with_reducible refine gd_ 1 ?_); refine bx_ 1 35 #[iv_ l, iv_ j] ?_; intro y hg M hbox hb; refine sh3_ (below_step (bl_ HB) hb) hbox (ge_ hg (bl_ HB)) ?_; clear HB hb hbox hg; intro HB m s; have L := cf2_ m) | (go_at_call 92; (with_reducible refine (impl_isWidth.calls j true _ u.out).mono ?_); rintro e w' ⟨rfl, ⟨nd, rfl⟩⟩; (try exact dd_)) | (go_at_call 58; (with_reducible refine (impl_AngleOf.calls l x _ B.out).mono ?_); rintro e w' ⟨rfl, ⟨nd, rfl⟩⟩; (try exact dd_)) | (go_at_call 58; (with_reducible refine (impl_AngleOf.calls (wrap64 (x + (wrap64 (Int.tdiv j 2)))) G _ D.out).mono ?_); rintro e w' ⟨rfl, ⟨nd, rfl⟩⟩; (try exact dd_))))
  go_ret
  exact ⟨by first | (rw [hRT_.out]; rfl) | exact er_, bl1_ HB s⟩
 ·replace c3 := Bool.eq_false_iff.mpr c3
  subst c3
  have I : ((impl_AngleOf.f l).bind fun z => (some z)) = some r := by rw [if_neg (show ¬ (false = true) by decide)] at H; exact H
  clear H
  have H := I
  clear I
  replace H := bs_ H
  obtain ⟨z, E, H⟩ := H
  obtain rfl := Option.some.inj H
  go_enter Try.func51, Try.ntmps51
  go_wp2_with (first | ((with_reducible refine gd_ 1 ?_); refine bx_ 1 35 #[iv_ l, iv_ j] ?_; intro y hg O hbox hb; refine sh3_ (below_step (bl_ HB) hb) hbox (ge_ hg (bl_ HB)) ?_; clear HB hb hbox hg; intro HB m s; have J := cf2_ m) | (go_at_call 92; (with_reducible refine (impl_isWidth.calls j false _ u.out).mono ?_); rintro e w' ⟨rfl, ⟨nd, rfl⟩⟩; (try exact dd_)) | (go_at_call 58; (with_reducible refine (impl_AngleOf.calls l z _ E.out).mono ?_); rintro e w' ⟨rfl, ⟨nd, rfl⟩⟩; (try exact dd_)))
  repeat (go_quiet (first | ((with_reducible refine gd_ 1 ?_); refine bx_ 1 35 #[iv_ l, iv_ j] ?_; intro y hg O hbox hb; refine sh3_ (below_step (bl_ HB) hb) hbox (ge_ hg (bl_ HB)) ?_; clear HB hb hbox hg; intro HB m s; have J := cf2_ m) | (go_at_call 92; (with_reducible refine (impl_isWidth.calls j false _ u.out).mono ?_); rintro e w' ⟨rfl, ⟨nd, rfl⟩⟩; (try exact dd_)) | (go_at_call 58; (with_reducible refine (impl_AngleOf.calls l z _ E.out).mono ?_); rintro e w' ⟨rfl, ⟨nd, rfl⟩⟩; (try exact dd_))); try go_wp2_with (first | ((with_reducible refine gd_ 1 ?_); refine bx_ 1 35 #[iv_ l, iv_ j] ?_; intro y hg O hbox hb; refine sh3_ (below_step (bl_ HB) hb) hbox (ge_ hg (bl_ HB)) ?_; clear HB hb hbox hg; intro HB m s; have J := cf2_ m) | (go_at_call 92; (with_reducible refine (impl_isWidth.calls j false _ u.out).mono ?_); rintro e w' ⟨rfl, ⟨nd, rfl⟩⟩; (try exact dd_)) | (go_at_call 58; (with_reducible refine (impl_AngleOf.calls l z _ E.out).mono ?_); rintro e w' ⟨rfl, ⟨nd, rfl⟩⟩; (try exact dd_))))
  go_ret
  exact ⟨by first | (rw [hRT_.out]; rfl) | exact er_, bl1_ HB s⟩

end Go.Proofs.Ytopbkdcicidajaa.PFnContacts
