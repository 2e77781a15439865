-- Written by a program of this session for this claim (the kit's printer with changes).
import Derived.Test.YtopbkdcicidajaaQFnContactsx0
import Derived.Test.YtopbkdcicidajaaQFnContactsx1
import Derived.Test.YtopbkdcicidajaaQFnContactsx5
import Derived.Test.YtopbkdcicidajaaQFnContactsx6
import Derived.Test.YtopbkdcicidajaaQFnContactsx7
import Derived.Test.YtopbkdcicidajaaQFnContactsx9
import Derived.Test.YtopbkdcicidajaaQFnContactsx10
namespace Go.Proofs.Ytopbkdcicidajaa.PFnContacts
open Go.RowKit Go.Proofs.YtopbkdcicidajaaW.PrintWords Go.Proofs.YtopbkdcicidajaaW.PrintLast Go.Proofs.YtopbkdcicidajaaW.PrintMore
attribute [local go_sem] max2_int min2_int max_two min_two max_three min_three max_four min_four   -- for this text's walks alone
set_option linter.unusedVariables false
set_option maxHeartbeats 8000000
set_option maxRecDepth 100000
set_option linter.unusedSimpArgs false

/-! ### impl_JoinSpans_1: function 101 -/
def impl_JoinSpans_1.f (j : Int) (l : List Bool) : Option (Bool) := if 0 ≤ j then (if j < (l.length : Int) then (some (rdOf false l j)) else (none)) else (none)
theorem impl_JoinSpans_1.calls (l : Int) (m : Option Addr) (u : Nat) (j : List Bool) (r : Bool) (w : World) (s : Nat) (G : w.heap[s]? = some (.cells #[.slice m j.length u] 109 (0, 0))) (B : Kd.C Kd.bool w m j.length j) (z : j.length ≤ u) (h : impl_JoinSpans_1.f l j = some r) :
  Calls Try.prog 101 #[iv_ l, .pointer (some ⟨s, 0, none⟩)] w fun e w' => e = .returned (.bool r) ∧ Drawn0 w w' := by
 have O : w.cell? ⟨s, 0, none⟩ = some (.slice m j.length u) := (blk_cell G 0).trans rfl
 have D := Aside0.mk B
 have I := Aside0.mk z
 clear B z
 have H := h
 clear h
 unfold impl_JoinSpans_1.f at H
 replace H := ifn_ H
 obtain ⟨c3, H⟩ := H
 have L := decide_eq_true c3
 clear c3
 replace H := ifn_ H
 obtain ⟨c4, H⟩ := H
 have M := decide_eq_true c4
 clear c4
 obtain rfl := Option.some.inj H
 have x : 0 ≤ (l : Int) := od_
 have y : l < (j.length : Int) := od_
 obtain ⟨J, E, T⟩ := Kd.at_bool D.out l x y
 cases E
 replace x := eq_true x
 replace y := eq_true y
 go_enter Try.func101, Try.ntmps101
 go_wp2
 go_ret
 exact ⟨by first | rfl | (simp; done) | (simp [*]; done), by repeat (first | exact Drawn0.refl _ | apply Drawn0.step)⟩


def where_impl_JoinSpans_1.f (k : Nat) (l m : Int) (j : List Bool) : Option (List S82) := sw.f (fun k' t' => impl_JoinSpans_1.f t' j) k l m
theorem where_impl_JoinSpans_1.calls (k : Nat) (u x : Int) (l : Option Addr) (s : Nat) (j : List Bool) (r : List S82) (w : World) (m : Nat) (z : w.heap[m]? = some (.cells #[.slice l j.length s] 109 (0, 0))) (E : Kd.C Kd.bool w l j.length j) (D : j.length ≤ s) (h : where_impl_JoinSpans_1.f k u x j = some r) :
  Calls Try.prog 61 #[iv_ u, iv_ x, .func (.func 101) #[] #[.pointer (some ⟨m, 0, none⟩)]] w fun e w' => ∃ y : Value, e = .returned (y) ∧ Kd.R k82 82 w' w.heap.size (fun _ => True) y r ∧ Below w.heap.size w w' := by
 refine sw.calls (fun k' t' => impl_JoinSpans_1.f t' j) k u x r w 101 _ (fun args w => enters_ Try.func101 (by kernel_rfl) rfl args w) (fun k' t b W hq hb => ?_) h
 have B := blk_below z hb
 have hh := impl_JoinSpans_1.calls t l s j b W m B (Kd.C_below E hb) D hq
 exact hh.mono (fun e w' hx => ⟨hx.1, by obtain ⟨n, rfl⟩ := hx.2.out; exact pw_below_drewN (Below.refl _ _) n⟩)

/-! ### impl_JoinSpans: function 67 -/
def impl_JoinSpans.f (k : Nat) (j : List S82) : Option (List S82) := (impl_ticks.f k j).bind fun l => ((where_impl_JoinSpans_1.f k 0 1000 l).bind fun m => (some m))
theorem impl_JoinSpans.calls (k : Nat) (E : Option Addr) (G : Nat) (l r : List S82) (w : World) (J : Kd.C k82 w E l.length l) (I : l.length ≤ G) (h : impl_JoinSpans.f k l = some r) :
  Calls Try.prog 67 #[.slice E l.length G] w fun e w' => ∃ M : Value, e = .returned (M) ∧ Kd.R k82 82 w' w.heap.size (fun _ => True) M r ∧ Below w.heap.size w w' := by
 have Z := Aside0.mk J
 have X := Aside0.mk I
 clear J I
 have HB := Aside0.mk (Below.refl w.heap.size w)
 have H := h
 clear h
 unfold impl_JoinSpans.f at H
 replace H := bs_ H
 obtain ⟨s, O, H⟩ := H
 replace H := bs_ H
 obtain ⟨a1, T, H⟩ := H
 obtain rfl := Option.some.inj H
 go_enter Try.func67, Try.ntmps67
 go_wp2_with (first | ((with_reducible refine gate_callee (f := 100) rfl ?_); refine gl_ 5 Try.func100 (impl_ticks.calls k _ _ l s _ (cq_ Z) X.out O.out) ?_; rintro e w4 ⟨a5, rfl, m, hb⟩; refine ⟨_, rfl, sh2_ (Kd.R_lower m (below_size (bl_ HB))) (below_step (bl_ HB) hb) ?_⟩; clear HB hb m; intro y HB; obtain ⟨u, z, a0⟩ := Kd.R_slice y.out; subst a0) | ((with_reducible refine gd_ 3 ?_); refine bx_ 3 109 #[.slice none 0 0] ?_; intro B hg a6 hbox hb; have hHBy_ := Aside0.mk hb; have U := Aside0.mk ((by rw [hg]; exact Nat.le_refl _ : w4.heap.size ≤ B)); have HBx_ := hHBy_; clear hHBy_; have x := Aside0.mk hbox; clear hb hg hbox; have a3 := bc_ x 0 rfl; have a4 := bf_ x 0) | ((with_reducible refine gate_callee (f := 61) rfl ?_); refine goesL_ (some 7) rfl rfl Try.func61 (by kernel_rfl) rfl #[iv_ 0, iv_ 1000, .func (.func 101) #[] #[.pointer (some ⟨B, 0, none⟩)]] rfl mp_ ?_; have HBz_ := below_set (j := 0) (v := .slice u s.length z) (HBx_.out) U.out; (refine (where_impl_JoinSpans_1.calls k 0 1000 u z s a1 _ B (blk_put (cs := #[.slice none 0 0]) (x.out) 0 (.slice u s.length z) rfl) (Kd.C_below (Kd.R_reads' y.out).2.2 HBz_) (Kd.R_reads' y.out).2.1 T.out).mono ?_); rintro e wz ⟨vz, rfl, m, hb⟩; refine ⟨_, rfl, ?_⟩; have D := Aside0.mk (below_then HB.out (below_size HB.out) HBz_); have Y := Aside0.mk (Kd.R_lower m (below_size D.out)); have L := Aside0.mk (below_step D.out hb); clear HB; have HB := L; clear D L hb m))
 go_ret
 exact ⟨_, by first | (rw [hRT_.out]; rfl) | exact er_, ra_ Y, bl_ HB⟩

/-! ### impl_ShortenSpans: function 81 -/
mutual
def impl_ShortenSpans.j0 : Nat → List S82 → Int → Int → List S82 → Bool → Option (List S82)
 | 0, _, _, _, _, _ => none
 | k + 1, z, s, u, m, B => if B = true then (some m) else ((impl_JoinSpans.f k z).bind fun y => (impl_ShortenSpans.l0 k s u m y (y.length : Int) 0))
def impl_ShortenSpans.l0 : Nat → Int → Int → List S82 → List S82 → Int → Int → Option (List S82)
 | 0, _, _, _, _, _, _ => none
 | k + 1, s, u, m, l, x, j => if j < x then (if 0 ≤ j then (if j < (l.length : Int) then (if (wrap64 (((rd_T82 l j).f0) + s)) < (wrap64 (((rd_T82 l j).f1) - u)) then (if m.length < 8796093022208 then (impl_ShortenSpans.l0 k s u (m ++ [(⟨wrap64 (((rd_T82 l j).f0) + s), wrap64 (((rd_T82 l j).f1) - u)⟩ : S82)]) l x (wrap64 (j + 1))) else (none)) else (impl_ShortenSpans.l0 k s u m l x (wrap64 (j + 1)))) else (none)) else (none)) else (some m)
end
def impl_ShortenSpans.f (k : Nat) (m : List S82) (j l : Int) : Option (List S82) := (some (([] : List S82) : List S82)).bind fun s => (if j < 0 then (impl_ShortenSpans.j0 k m j l s true) else (if l < 0 then (impl_ShortenSpans.j0 k m j l s true) else (if j > 1000 then (impl_ShortenSpans.j0 k m j l s true) else (impl_ShortenSpans.j0 k m j l s (decide (l > 1000))))))
theorem impl_ShortenSpans.calls (k : Nat) (A0 : Option Addr) (c0 : Nat) (z : List S82) (s u : Int) (r : List S82) (w : World) (b9 : Kd.C k82 w A0 z.length z) (b8 : z.length ≤ c0) (h : impl_ShortenSpans.f k z s u = some r) :
  Calls Try.prog 81 #[.slice A0 z.length c0, iv_ s, iv_ u] w fun e w' => ∃ c1 : Value, e = .returned (c1) ∧ Kd.R k82 82 w' w.heap.size (fun _ => True) c1 r ∧ Below w.heap.size w w' := by
 have f4 := Try.underlying82
 have d4 := Aside0.mk b9
 have d2 := Aside0.mk b8
 clear b9 b8
 have HB := Aside0.mk (Below.refl w.heap.size w)
 have H := h
 clear h
 unfold impl_ShortenSpans.f at H
 replace H : ∃ y_ : List S82, Aside0 (y_ = (([] : List S82))) ∧ (if s < 0 then (impl_ShortenSpans.j0 k z s u y_ true) else (if u < 0 then (impl_ShortenSpans.j0 k z s u y_ true) else (if s > 1000 then (impl_ShortenSpans.j0 k z s u y_ true) else (impl_ShortenSpans.j0 k z s u y_ (decide (u > 1000)))))) = some r := ⟨_, ⟨rfl⟩, yh_ H⟩
 obtain ⟨a0, b2, H⟩ := H
 have a3 := Aside0.mk H
 clear H
 go_enter Try.func81, Try.ntmps81
 go_upto_region 2 with (first | ((with_reducible refine gate_dst (N := 10) rfl ?_); refine Kd.R_lit k82 _ 82 ?hg (N := 10) ?hd (xs := ([] : List S82)) (inner := []) (ok := fun _ => True) (okp := fun _ => True) ?hr ?hp (fun _ hk => hk) trivial (Below.refl _ _) (Nat.le_refl _) (by simp) ?_; (case hd => rfl); (case hg => rfl); (case hr => first | (go_simp; done) | (go_simp; rfl)); (case hp => exact (Reps.none _ _)); intro e6 w5 O hb hg_ hnew_; clear hg_ hnew_; (first | rw [← b2.out] at O | (simp only [Int.reduceToNat] at O; rw [← b2.out] at O)); refine sh2_ (Kd.R_lower O (below_size (bl_ HB))) (below_step (bl_ HB) hb) ?_; clear HB hb O; intro Y HB))
 (try simp only [Act.put, List.setIfInBounds_toArray, List.set_cons_zero, List.set_cons_succ])
 go_cut [24] (fun e4 wc => ∃ (kq : Nat) (Z : Bool), e4 = .bool Z ∧ Aside0 (impl_ShortenSpans.j0 kq z s u a0 Z = some r) ∧ Aside0 (kq ≤ k) ∧ Aside0 (Kd.R k82 82 wc w.heap.size (fun _ => True) e6 a0) ∧ Aside0 (Below w.heap.size w wc))
 case first =>
  have H := a3.out
  clear a3
  by_cases c7 : s < 0
  ·rw [if_pos c7] at H
   have M := decide_eq_true c7
   clear c7
   (first | rw [M] | (simp only [i64_w, i32_w]; rw [M]) | skip)
   have H' := Aside0.mk H
   clear H
   go_wp2
   go_meet
   case rel => exact ⟨_, (true), (by first | rfl | (simp; done) | (simp [*]; done)), H', ⟨by first | omega | exact Nat.le_refl _⟩, ⟨ra_ Y⟩, ⟨bl_ HB⟩⟩
  ·rw [if_neg c7] at H
   have M := decide_eq_false c7
   clear c7
   (first | rw [M] | (simp only [i64_w, i32_w]; rw [M]) | skip)
   by_cases c8 : u < 0
   ·rw [if_pos c8] at H
    have d9 := decide_eq_true c8
    clear c8
    have H' := Aside0.mk H
    clear H
    go_wp2
    go_meet
    case rel => exact ⟨_, (true), (by first | rfl | (simp; done) | (simp [*]; done)), H', ⟨by first | omega | exact Nat.le_refl _⟩, ⟨ra_ Y⟩, ⟨bl_ HB⟩⟩
   ·rw [if_neg c8] at H
    have d9 := decide_eq_false c8
    clear c8
    by_cases c9 : s > 1000
    ·rw [if_pos c9] at H
     have e0 : decide (1000 < s) = true := decide_eq_true c9
     clear c9
     have H' := Aside0.mk H
     clear H
     go_wp2
     go_meet
     case rel => exact ⟨_, (true), (by first | rfl | (simp; done) | (simp [*]; done)), H', ⟨by first | omega | exact Nat.le_refl _⟩, ⟨ra_ Y⟩, ⟨bl_ HB⟩⟩
    ·rw [if_neg c9] at H
     have e0 : decide (1000 < s) = false := decide_eq_false c9
     clear c9
     have H' := Aside0.mk H
     clear H
     go_wp2
     go_meet
     case rel => exact ⟨_, (decide (u > 1000)), (by first | rfl | (simp; done) | (simp [*]; done)), H', ⟨by first | omega | exact Nat.le_refl _⟩, ⟨ra_ Y⟩, ⟨bl_ HB⟩⟩
 case rest =>
  clear a3
  obtain ⟨kq, Z, rfl, HA, U, x, HB⟩ := hcut
  cases kq with
  | zero => exact absurd HA.out (by simp [impl_ShortenSpans.j0])
  | succ T =>
   have H := HA.out
   clear HA
   simp only [impl_ShortenSpans.j0] at H
   by_cases c10 : Z = true
   ·subst c10
    rw [if_pos rfl] at H
    obtain rfl := Option.some.inj H
    go_wp2
    go_ret
    exact ⟨_, by first | (rw [hRT_.out]; rfl) | exact er_, ra_ x, bl_ HB⟩
   ·replace c10 := Bool.eq_false_iff.mpr c10
    subst c10
    have H1 : ((impl_JoinSpans.f T z).bind fun j => (impl_ShortenSpans.l0 T s u a0 j (j.length : Int) 0)) = some r := by rw [if_neg (show ¬ (false = true) by decide)] at H; exact H
    clear H
    have H := H1
    clear H1
    replace H := bs_ H
    obtain ⟨j, d1, H⟩ := H
    have H' := Aside0.mk H
    clear H
    go_wp2_with (first | ((with_reducible refine gate_callee (f := 67) rfl ?_); refine gl_ 27 Try.func67 (impl_JoinSpans.calls T _ _ z j _ (ck_ d4 HB) d2.out d1.out) ?_; rintro e f7 ⟨f5, rfl, a6, hb⟩; refine ⟨_, rfl, sh3_ (Kd.R_elder' (ra_ x) (Kd.R_base a6) hb) (Kd.R_lower (Kd.R_new' a6 (Kd.R_lt (ra_ x))) (below_size (bl_ HB))) (below_step (bl_ HB) hb) ?_⟩; clear x HB hb a6; intro x b1 HB; obtain ⟨a9, a4, e1⟩ := Kd.R_slice b1.out; subst e1))
    go_loopg [7, 29] T (fun kq v7 e5 w' => ∃ (J : List S82) (l : Int), e5 = iv_ l ∧ Aside0 (impl_ShortenSpans.l0 kq s u J j (j.length : Int) l = some r) ∧ Aside0 (kq ≤ T) ∧ Aside0 (Kd.R k82 82 w' w.heap.size (fun k_ => some k_ ≠ ((.slice a9 j.length a4) : Value).ownBlock) v7 J) ∧ Aside0 (Kd.R k82 82 w' w.heap.size (fun k_ => some k_ ≠ (v7 : Value).ownBlock) (.slice a9 j.length a4) j) ∧ Aside0 (Below w.heap.size w w'))
    case atStart => exact ⟨(a0), (0), (by first | rfl | (simp; done) | (simp [*]; done)), H', ⟨Nat.le_refl _⟩, ⟨by (with_reducible repeat (first | apply Kd.R_alloc | apply Kd.R_drewN | apply Kd.R_drew)); exact Kd.R_mono x.out (fun _ hk => hk.2)⟩, ⟨by (with_reducible repeat (first | apply Kd.R_alloc | apply Kd.R_drewN | apply Kd.R_drew)); exact Kd.R_mono b1.out (fun _ hk => hk.2)⟩, ⟨bl_ HB⟩⟩
    case round =>
     clear H'
     obtain ⟨J, l, rfl, HA, X, x, y, HB⟩ := hrel
     cases gk with
     | zero => exact absurd HA.out (by simp [impl_ShortenSpans.l0])
     | succ k2 =>
      have H := HA.out
      clear HA
      simp only [impl_ShortenSpans.l0] at H
      by_cases G : l < (j.length : Int)
      ·rw [if_pos G] at H
       have d7 := decide_eq_true G
       clear G
       replace H := ifn_ H
       obtain ⟨b5, H⟩ := H
       have e8 := decide_eq_true b5
       clear b5
       replace H := ifn_ H
       obtain ⟨b6, H⟩ := H
       have e9 := decide_eq_true b6
       clear b6
       by_cases I : (wrap64 (((rd_T82 j l).f0) + s)) < (wrap64 (((rd_T82 j l).f1) - u))
       ·rw [if_pos I] at H
        have d8 := decide_eq_true I
        clear I
        replace H := ifn_ H
        obtain ⟨b7, H⟩ := H
        have d5 := Aside0.mk b7
        clear b7
        replace H : ∃ y_ : List S82, Aside0 (y_ = (J ++ [(⟨wrap64 (((rd_T82 j l).f0) + s), wrap64 (((rd_T82 j l).f1) - u)⟩ : S82)])) ∧ (impl_ShortenSpans.l0 k2 s u y_ j (j.length : Int) (wrap64 (l + 1))) = some r := ⟨_, ⟨rfl⟩, yh_ H⟩
        obtain ⟨e7, d6, H⟩ := H
        have H' := Aside0.mk H
        clear H
        have D : 0 ≤ (l : Int) := od_
        have E : l < (j.length : Int) := od_
        obtain ⟨b3, a5, e2, e3⟩ := at_T82 (Kd.R_reads' y.out).2.2 l D E
        cases a5
        replace D := eq_true D
        replace E := eq_true E
        go_wp2_with (first | ((with_reducible refine gd_ 9 ?_); refine bx_ 9 82 #[iv_ 0, iv_ 0] ?_; intro m hg f8 hbox hb; refine sh5_ (Kd.R_below (Kd.R_elderB (ra_ x) m (Nat.le_of_eq hg.symm)) hb) (Kd.R_below (Kd.R_elderB (ra_ y) m (Nat.le_of_eq hg.symm)) hb) (below_step (bl_ HB) hb) hbox (ge_ hg (bl_ HB)) ?_; clear x y HB hb hbox hg; intro x y HB B L; have f2 := cf2_ B) | ((with_reducible refine gate_builtin (b := .append) (xs := #[.tmp 42, .tmp 52]) rfl ?_); at_builtin; refine Kd.R_append k82 (w0 := w) w.heap.size rfl (.tmp 42) (.tmp 52) 40 82 (.agg #[(iv_ 0), (iv_ 0)]) 16 rfl Try.underlying40 info82 rfl (by decide) (by omega) u7 J (⟨wrap64 (((rd_T82 j l).f0) + s), wrap64 (((rd_T82 j l).f1) - u)⟩ : S82) [iv_ (wrap64 (((rd_T82 j l).f0) + s)), iv_ (wrap64 (((rd_T82 j l).f1) - u))] (fun k_ => some k_ ≠ (.slice (some b3) j.length a4 : Value).ownBlock ∧ k_ ≠ m) (fun _ => False) rfl (by first | (go_simp; done) | (go_simp; rfl)) ?aP (fun _ hk => hk.elim) ?aF ?aO ?aB ?aS ?aL ?_; (case aP => exact k82_mkM _ _ _ (⟨wrap64 (((rd_T82 j l).f0) + s), wrap64 (((rd_T82 j l).f1) - u)⟩ : S82)); (case aB => exact (bl1_ HB L)); (case aF => exact (fun k_ hk => ⟨Kd.fresh' (Kd.R_lt (by (with_reducible repeat (first | apply Kd.R_alloc | apply Kd.R_drewN | apply Kd.R_drew)); exact (Kd.R_mono (Kd.R_far (p := ⟨m, 1, none⟩) (Kd.R_far (p := ⟨m, 0, none⟩) (Kd.R_mono y.out (fun k_ hk => (⟨hk, hk.2⟩ : _ ∧ k_ ≠ m))) (fun _ hk => hk.2) (iv_ ((rd_T82 j l).f0))) (fun _ hk => hk.2) (iv_ ((rd_T82 j l).f1))) (fun _ h_ => h_.1)))) k_ hk, Kd.freshB (g := m) (o := .cells #[iv_ ((rd_T82 j l).f0), iv_ ((rd_T82 j l).f1)] 82 (0, 0)) (bp_ B) k_ hk⟩)); (case aO => exact (by (with_reducible repeat (first | apply Kd.R_alloc | apply Kd.R_drewN | apply Kd.R_drew)); exact Kd.R_mono (Kd.R_far (p := ⟨m, 1, none⟩) (Kd.R_far (p := ⟨m, 0, none⟩) (Kd.R_mono x.out (fun k_ hk => (⟨hk, hk.2⟩ : _ ∧ k_ ≠ m))) (fun _ hk => hk.2) (iv_ ((rd_T82 j l).f0))) (fun _ hk => hk.2) (iv_ ((rd_T82 j l).f1))) (fun _ hk => ⟨hk.1.1, hk.1.2⟩))); (case aS => exact (below_size (bl1_ HB L))); (case aL => have := d5.out; omega); intro f6 f9 ho hb hg hat; rw [← d6.out] at ho; refine sh4_ (Kd.R_after (ok := (fun k_ => k_ ≠ m)) (by (with_reducible repeat (first | apply Kd.R_alloc | apply Kd.R_drewN | apply Kd.R_drew)); exact Kd.R_mono (Kd.R_far (p := ⟨m, 1, none⟩) (Kd.R_far (p := ⟨m, 0, none⟩) (Kd.R_mono y.out (fun k_ hk => (⟨hk, hk.2⟩ : _ ∧ k_ ≠ m))) (fun _ hk => hk.2) (iv_ ((rd_T82 j l).f0))) (fun _ hk => hk.2) (iv_ ((rd_T82 j l).f1))) (fun _ hk => ⟨hk.1.2, hk.1.1⟩)) hg hat) (blk_grown (g := m) (o := .cells #[iv_ ((rd_T82 j l).f0), iv_ ((rd_T82 j l).f1)] 82 (0, 0)) (bp_ B) hg (Kd.R_away x.out (fun _ hk => hk.2))) hb ho ?_; clear y B HB x ho hb hg hat; intro y B HB d3))
        go_roundg k2
        case measure => have := U.out; have := X.out; omega
        case rel => exact ⟨(e7), (wrap64 (l + 1)), (by first | rfl | (simp; done) | (simp [*]; done)), H', ⟨by have := U.out; have := X.out; omega⟩, ⟨by (with_reducible repeat (first | apply Kd.R_alloc | apply Kd.R_drewN | apply Kd.R_drew)); exact Kd.R_mono d3.out (fun _ hk => hk.1)⟩, ⟨by (with_reducible repeat (first | apply Kd.R_alloc | apply Kd.R_drewN | apply Kd.R_drew)); exact Kd.R_mono y.out (fun _ hk => hk.2)⟩, ⟨bl1_ HB L⟩⟩
       ·rw [if_neg I] at H
        have d8 := decide_eq_false I
        clear I
        have H' := Aside0.mk H
        clear H
        have D : 0 ≤ (l : Int) := od_
        have E : l < (j.length : Int) := od_
        obtain ⟨b3, a5, e2, e3⟩ := at_T82 (Kd.R_reads' y.out).2.2 l D E
        cases a5
        replace D := eq_true D
        replace E := eq_true E
        go_wp2_with (first | ((with_reducible refine gd_ 9 ?_); refine bx_ 9 82 #[iv_ 0, iv_ 0] ?_; intro m hg g0 hbox hb; refine sh5_ (Kd.R_below (Kd.R_elderB (ra_ x) m (Nat.le_of_eq hg.symm)) hb) (Kd.R_below (Kd.R_elderB (ra_ y) m (Nat.le_of_eq hg.symm)) hb) (below_step (bl_ HB) hb) hbox (ge_ hg (bl_ HB)) ?_; clear x y HB hb hbox hg; intro x y HB B L; have f3 := cf2_ B))
        go_roundg k2
        case measure => have := U.out; have := X.out; omega
        case rel => exact ⟨(J), (wrap64 (l + 1)), (by first | rfl | (simp; done) | (simp [*]; done)), H', ⟨by have := U.out; have := X.out; omega⟩, ⟨by (with_reducible repeat (first | apply Kd.R_alloc | apply Kd.R_drewN | apply Kd.R_drew)); exact Kd.R_mono (Kd.R_far (p := ⟨m, 1, none⟩) (Kd.R_far (p := ⟨m, 0, none⟩) (Kd.R_mono x.out (fun k_ hk => (⟨hk, hk.2⟩ : _ ∧ k_ ≠ m))) (fun _ hk => hk.2) (iv_ ((rd_T82 j l).f0))) (fun _ hk => hk.2) (iv_ ((rd_T82 j l).f1))) (fun _ hk => hk.1.1)⟩, ⟨by (with_reducible repeat (first | apply Kd.R_alloc | apply Kd.R_drewN | apply Kd.R_drew)); exact Kd.R_mono (Kd.R_far (p := ⟨m, 1, none⟩) (Kd.R_far (p := ⟨m, 0, none⟩) (Kd.R_mono y.out (fun k_ hk => (⟨hk, hk.2⟩ : _ ∧ k_ ≠ m))) (fun _ hk => hk.2) (iv_ ((rd_T82 j l).f0))) (fun _ hk => hk.2) (iv_ ((rd_T82 j l).f1))) (fun _ hk => hk.1.1)⟩, ⟨bl1_ HB L⟩⟩
      ·rw [if_neg G] at H
       have d7 := decide_eq_false G
       clear G
       obtain rfl := Option.some.inj H
       go_wp2
       go_ret
       exact ⟨_, by first | (rw [hRT_.out]; rfl) | exact er_, by (with_reducible repeat (first | apply Kd.R_alloc | apply Kd.R_drewN | apply Kd.R_drew)); exact Kd.R_mono x.out (fun _ hk => trivial), bl_ HB⟩

/-! ### impl_ContactsOf: function 35 -/
mutual
def impl_ContactsOf.j0 : Nat → Int → Int → Int → Int → List S53 → Bool → Int → List S72 → List S74 → Int → Int → Int → Int → Int → List S88 → Int → Option (List S53)
 | 0, _, _, _, _, _, _, _, _, _, _, _, _, _, _, _, _ => none
 | k + 1, j, m, E, G, l, D, I, J, L, M, O, T, U, X, Y, z => if D = true then (some l) else ((impl_SpeakingSpans.f k I J L M O T U X Y z j m E G).bind fun B => ((impl_ShortenSpans.f k B z 0).bind fun x => (impl_ContactsOf.l0 k j m l x (x.length : Int) 0)))
def impl_ContactsOf.l0 : Nat → Int → Int → List S53 → List S82 → Int → Int → Option (List S53)
 | 0, _, _, _, _, _, _ => none
 | k + 1, j, m, l, u, y, s => if s < y then (if 0 ≤ s then (if s < (u.length : Int) then (if l.length < 4398046511104 then (impl_ContactsOf.l0 k j m (l ++ [(⟨mn j m, mx j m, (rd_T82 u s).f0, (rd_T82 u s).f1⟩ : S53)]) u y (wrap64 (s + 1))) else (none)) else (none)) else (none)) else (some l)
end
def impl_ContactsOf.f (k : Nat) (j : Int) (D : List S72) (E : List S74) (l m s u x : Int) (G : List S88) (y z B I J : Int) : Option (List S53) := (some (([] : List S53) : List S53)).bind fun L => (if z = B then (impl_ContactsOf.j0 k z B I J L true j D E l m s u x G y) else ((impl_IsSky.f k j D E l m s u x G y).bind fun M => (impl_ContactsOf.j0 k z B I J L (!M) j D E l m s u x G y)))
def impl_ContactsOf.T4 : Bool × List (List Nat × List Nat) := (true, [([], []), ([], []), ([], []), ([], []), ([], []), ([0, 1, 2, 3, 4], [0, 1, 2, 3, 4]), ([], []), ([6], [6]), ([5, 7, 5], [5, 7]), ([8], [8]), ([], [])])
def impl_ContactsOf.B4 : List Nat := [0, 0, 0, 0, 0, 31, 0, 64, 255, 511, 0]
theorem impl_ContactsOf.tab4 : rtab .any (opsOf Try.f35 4) = impl_ContactsOf.T4 := by kernel_rfl
theorem impl_ContactsOf.bits4 : waitsOk impl_ContactsOf.T4.2 impl_ContactsOf.B4 = true := by kernel_rfl
theorem impl_ContactsOf.calls (k : Nat) (G : Int) (Y : Option Addr) (a9 : Nat) (z : List S72) (Z : Option Addr) (b0 : Nat) (B : List S74) (I J L M O : Int) (a0 : Option Addr) (b1 : Nat) (D : List S88) (E u x a3 a4 : Int) (r : List S53) (w : World) (g0 : Kd.C k72 w Y z.length z) (f7 : z.length ≤ a9) (g1 : Kd.C k74 w Z B.length B) (f8 : B.length ≤ b0) (g2 : Kd.C k88 w a0 D.length D) (f9 : D.length ≤ b1) (h : impl_ContactsOf.f k G z B I J L M O D E u x a3 a4 = some r) :
  Calls Try.prog 35 #[.agg #[iv_ G, .slice Y z.length a9, .slice Z B.length b0, iv_ I, iv_ J, iv_ L, iv_ M, iv_ O, .slice a0 D.length b1, iv_ E], iv_ u, iv_ x, iv_ a3, iv_ a4] w fun e w' => ∃ g3 : Value, e = .returned (g3) ∧ Kd.R k53 53 w' w.heap.size (fun _ => True) g3 r ∧ Below w.heap.size w w' := by
 have j4 := Try.underlying28
 have j6 := Try.underlying82
 have j5 := Try.underlying53
 have e6 := Aside0.mk g0
 have e0 := Aside0.mk f7
 clear g0 f7
 have e7 := Aside0.mk g1
 have e1 := Aside0.mk f8
 clear g1 f8
 have e8 := Aside0.mk g2
 have e2 := Aside0.mk f9
 clear g2 f9
 have HB := Aside0.mk (Below.refl w.heap.size w)
 have H := h
 clear h
 unfold impl_ContactsOf.f at H
 replace H : ∃ y_ : List S53, Aside0 (y_ = (([] : List S53))) ∧ (if u = x then (impl_ContactsOf.j0 k u x a3 a4 y_ true G z B I J L M O D E) else ((impl_IsSky.f k G z B I J L M O D E).bind fun c1 => (impl_ContactsOf.j0 k u x a3 a4 y_ (!c1) G z B I J L M O D E))) = some r := ⟨_, ⟨rfl⟩, yh_ H⟩
 obtain ⟨d2, e9, H⟩ := H
 have d4 := Aside0.mk H
 clear H
 go_enter Try.func35, Try.ntmps35
 go_upto_region 2 with (first | ((with_reducible refine gd_ 5 ?_); refine bx_ 5 28 #[iv_ G, .slice Y z.length a9, .slice Z B.length b0, iv_ I, iv_ J, iv_ L, iv_ M, iv_ O, .slice a0 D.length b1, iv_ E] ?_; intro b9 hg w7 hbox hb; refine sh3_ (below_step (bl_ HB) hb) hbox (ge_ hg (bl_ HB)) ?_; clear HB hb hbox hg; intro HB l y) | ((with_reducible refine gate_dst (N := 14) rfl ?_); refine Kd.R_lit k53 _ 53 ?hg (N := 14) ?hd (xs := ([] : List S53)) (inner := []) (ok := fun _ => True) (okp := fun _ => True) ?hr ?hp (fun _ hk => hk) trivial (Below.refl _ _) (Nat.le_refl _) (by simp) ?_; (case hd => rfl); (case hg => rfl); (case hr => first | (go_simp; done) | (go_simp; rfl)); (case hp => exact (Reps.none _ _)); intro i0 w8 b7 hb hg_ hnew_; clear hg_ hnew_; (first | rw [← e9.out] at b7 | (simp only [Int.reduceToNat] at b7; rw [← e9.out] at b7)); refine sh3_ (Kd.R_lower b7 (below_size (bl1_ HB y))) (blk_below (bk_ l) hb) (below_step (bl1_ HB y) hb) ?_; clear l HB hb b7; intro b5 l HB))
 (try simp only [Act.put, List.setIfInBounds_toArray, List.set_cons_zero, List.set_cons_succ])
 go_cut [22] (fun h8 wc => ∃ (kq : Nat) (d1 : Bool), h8 = .bool d1 ∧ Aside0 (impl_ContactsOf.j0 kq u x a3 a4 d2 d1 G z B I J L M O D E = some r) ∧ Aside0 (kq ≤ k) ∧ Aside0 (Kd.R k53 53 wc w.heap.size (fun _ => True) i0 d2) ∧ Aside0 (wc.heap[b9]? = some (.cells #[iv_ G, (.slice Y z.length a9), (.slice Z B.length b0), iv_ I, iv_ J, iv_ L, iv_ M, iv_ O, (.slice a0 D.length b1), iv_ E] 28 (0, 0))) ∧ Aside0 (Below w.heap.size w wc))
 case first =>
  have H := d4.out
  clear d4
  by_cases c10 : u = x
  ·rw [if_pos c10] at H
   obtain ⟨b6, h3⟩ := bt_ c10
   clear c10
   (first | rw [b6] | (simp only [i64_w, i32_w]; rw [b6]) | skip)
   have H' := Aside0.mk H
   clear H
   go_wp2
   go_meet
   case rel => exact ⟨_, (true), (by first | rfl | (simp; done) | (simp [*]; done)), H', ⟨by first | omega | exact Nat.le_refl _⟩, ⟨ra_ b5⟩, ⟨(bk_ l)⟩, ⟨bl1_ HB y⟩⟩
  ·rw [if_neg c10] at H
   obtain ⟨b6, h3⟩ := bn_ c10
   (first | rw [b6] | (simp only [i64_w, i32_w]; rw [b6]) | skip)
   replace H := bs_ H
   obtain ⟨c1, g4, H⟩ := H
   have H' := Aside0.mk H
   clear H
   have i7 := cf10_ l
   go_wp2_with (first | (go_at_call 80; (with_reducible refine (impl_IsSky.calls k G _ _ z _ _ B I J L M O _ _ D E c1 _ ?side1 ?side2 ?side3 ?side4 ?side5 ?side6 g4.out).mono ?_); (case side1 => exact ck_ e6 HB); (case side2 => exact e0.out); (case side3 => exact ck_ e7 HB); (case side4 => exact e1.out); (case side5 => exact ck_ e8 HB); (case side6 => exact e2.out); rintro e k3 ⟨rfl, hb⟩; refine sh3_ (Kd.R_below (ra_ b5) hb) (blk_below (bk_ l) hb) (below_step (bl1_ HB y) hb) ?_; clear b5 l HB hb; intro b5 l HB))
   go_meet
   case rel => exact ⟨_, (!c1), (by first | rfl | (simp; done) | (simp [*]; done)), H', ⟨by first | omega | exact Nat.le_refl _⟩, ⟨ra_ b5⟩, ⟨(bk_ l)⟩, ⟨bl1_ HB y⟩⟩
 case rest =>
  clear d4
  obtain ⟨kq, d1, rfl, HA, e3, s, l, HB⟩ := hcut
  cases kq with
  | zero => exact absurd HA.out (by simp [impl_ContactsOf.j0])
  | succ b2 =>
   have H := HA.out
   clear HA
   simp only [impl_ContactsOf.j0] at H
   by_cases b8 : d1 = true
   ·subst b8
    rw [if_pos rfl] at H
    obtain rfl := Option.some.inj H
    go_wp2
    go_ret
    exact ⟨_, by first | (rw [hRT_.out]; rfl) | exact er_, ra_ s, bl1_ HB y⟩
   ·replace b8 := Bool.eq_false_iff.mpr b8
    subst b8
    have H1 : ((impl_SpeakingSpans.f b2 G z B I J L M O D E u x a3 a4).bind fun d0 => ((impl_ShortenSpans.f b2 d0 E 0).bind fun j => (impl_ContactsOf.l0 b2 u x d2 j (j.length : Int) 0))) = some r := by rw [if_neg (show ¬ (false = true) by decide)] at H; exact H
    clear H
    have H := H1
    clear H1
    replace H := bs_ H
    obtain ⟨d0, g5, H⟩ := H
    replace H := bs_ H
    obtain ⟨j, g6, H⟩ := H
    have H' := Aside0.mk H
    clear H
    try go_wp2
    refine sh3_ (Kd.R_drew s.out) (blk_drew l.out) (below_drew1 HB.out) ?_
    clear s l HB
    intro s l HB
    refine start_ (n := 11) (S := fun w' => Cz10 w' b9 (iv_ G) (.slice Y z.length a9) (.slice Z B.length b0) (iv_ I) (iv_ J) (iv_ L) (iv_ M) (iv_ O) (.slice a0 D.length b1) (iv_ E)) (ds := []) (bo_ 11 0) (by kernel_rfl) rfl rfl (cz10_ l) (fun hHeld => ?_); refine with_tabW impl_ContactsOf.tab4 impl_ContactsOf.bits4 (fun HT_ HW_ => ?_)
    generalize wc.drew = k4 at s l HB hHeld ⊢
    refine pur_ 1 (bo_ 11 2) (some 25) HT_ ?_
    refine pur_ 2 (bo_ 11 6) (some 26) HT_ ?_
    refine pur_ 3 (bo_ 11 14) (some 27) HT_ ?_
    refine pur_ 4 (bo_ 11 30) (some 28) HT_ ?_
    refine pur_ 6 (bo_ 11 94) (some 30) HT_ ?_
    refine pur_ 10 (bo_ 11 1118) (some 34) HT_ ?_
    refine tak_ 0 (bo_ 11 1119) (some 24) HT_ HW_ hHeld ?_
    refine tak_ 7 (bo_ 11 1247) (some 31) HT_ HW_ hHeld ?_
    refine onc_ 5 (bo_ 11 1279) (some 29) HT_ Try.func27 (impl_SpeakingSpans.calls b2 G _ _ z _ _ B I J L M O _ _ D E u x a3 a4 d0 _ (ck_ e6 HB) e0.out (ck_ e7 HB) e1.out (ck_ e8 HB) e2.out g5.out) ?_
    rintro e k5 ⟨j9, rfl, b4, hb⟩
    refine sh4_ (Kd.R_below (ra_ s) hb) (Kd.R_lower b4 (below_size (bl1_ HB y))) (blk_below (bk_ l) hb) (below_step (bl1_ HB y) hb) ?_
    clear s l HB hb b4
    intro s a6 l HB
    obtain ⟨i2, i6, f5⟩ := Kd.R_slice a6.out
    (first | subst f5 | (injection f5 with f1_ f2_ f3_; have d5 := f1_.symm; have d6 := f3_.symm; clear f1_ f2_ f3_; subst d5; subst d6))
    refine ⟨_, _, rfl, (cz10_ l), pt_, fun hHeld => ?_⟩
    refine onc_ 8 (bo_ 11 1535) (some 32) HT_ Try.func81 (impl_ShortenSpans.calls b2 _ _ d0 E 0 j _ (cr_ a6) (rl_ a6) g6.out) ?_
    rintro e k6 ⟨k0, rfl, b4, hb⟩
    refine sh5_ (Kd.R_below (ra_ s) hb) (Kd.R_elder' (ra_ a6) (Kd.R_base b4) hb) (Kd.R_lower (Kd.R_new' b4 (Kd.R_lt (ra_ a6))) (below_size (bl1_ HB y))) (blk_below (bk_ l) hb) (below_step (bl1_ HB y) hb) ?_
    clear s a6 l HB hb b4
    intro s a6 e5 l HB
    obtain ⟨g7, h5, f6⟩ := Kd.R_slice e5.out
    (first | subst f6 | (injection f6 with f1_ f2_ f3_; have d5 := f1_.symm; have d6 := f3_.symm; clear f1_ f2_ f3_; subst d5; subst d6))
    refine ⟨_, _, rfl, (cz10_ l), pt_, fun hHeld => ?_⟩
    refine pur_ 9 (bo_ 11 2047) (some 33) HT_ ?_
    refine done_ (done_of HT_.out (by kernel_rfl)) ?_
    try go_wp2
    go_loopg [11, 34] b2 (fun kq h7 h9 w' => ∃ (U : List S53) (m : Int), h9 = iv_ m ∧ Aside0 (impl_ContactsOf.l0 kq u x U j (j.length : Int) m = some r) ∧ Aside0 (kq ≤ b2) ∧ Aside0 (Kd.R k53 53 w' w.heap.size (fun _ => True) h7 U) ∧ Aside0 (Kd.R k82 82 w' w.heap.size (fun _ => True) (.slice g7 j.length h5) j) ∧ Aside0 (w'.heap[b9]? = some (.cells #[iv_ G, (.slice Y z.length a9), (.slice Z B.length b0), iv_ I, iv_ J, iv_ L, iv_ M, iv_ O, (.slice a0 D.length b1), iv_ E] 28 (0, 0))) ∧ Aside0 (Below w.heap.size w w'))
    case atStart => exact ⟨(d2), (0), (by first | rfl | (simp; done) | (simp [*]; done)), H', ⟨Nat.le_refl _⟩, ⟨ra_ s⟩, ⟨by (with_reducible repeat (first | apply Kd.R_alloc | apply Kd.R_drewN | apply Kd.R_drew)); exact Kd.R_mono e5.out (fun _ hk => trivial)⟩, ⟨(bk_ l)⟩, ⟨bl1_ HB y⟩⟩
    case round =>
     clear H'
     obtain ⟨U, m, rfl, HA, e4, s, X, l, HB⟩ := hrel
     cases gk with
     | zero => exact absurd HA.out (by simp [impl_ContactsOf.l0])
     | succ k2 =>
      have H := HA.out
      clear HA
      simp only [impl_ContactsOf.l0] at H
      by_cases b3 : m < (j.length : Int)
      ·rw [if_pos b3] at H
       have h4 := decide_eq_true b3
       clear b3
       replace H := ifn_ H
       obtain ⟨f2, H⟩ := H
       have i4 := decide_eq_true f2
       clear f2
       replace H := ifn_ H
       obtain ⟨f3, H⟩ := H
       have i5 := decide_eq_true f3
       clear f3
       obtain ⟨ji25, hji25⟩ : ∃ j_ : Int, (mn u x) = j_ := ⟨_, rfl⟩
       replace H : (if U.length < 4398046511104 then (impl_ContactsOf.l0 k2 u x (U ++ [(⟨ji25, mx u x, (rd_T82 j m).f0, (rd_T82 j m).f1⟩ : S53)]) j (j.length : Int) (wrap64 (m + 1))) else (none)) = some r := by first | (rw [hji25] at H; exact H) | (simp only [hji25] at H ⊢; exact H)
       have i9 : (if x < u then x else u) = ji25 := hji25
       obtain ⟨ji26, hji26⟩ : ∃ j_ : Int, (mx u x) = j_ := ⟨_, rfl⟩
       replace H : (if U.length < 4398046511104 then (impl_ContactsOf.l0 k2 u x (U ++ [(⟨ji25, ji26, (rd_T82 j m).f0, (rd_T82 j m).f1⟩ : S53)]) j (j.length : Int) (wrap64 (m + 1))) else (none)) = some r := by first | (rw [hji26] at H; exact H) | (simp only [hji26] at H ⊢; exact H)
       have j1 : (if u < x then x else u) = ji26 := hji26
       replace H := ifn_ H
       obtain ⟨f4, H⟩ := H
       have g9 := Aside0.mk f4
       clear f4
       replace H : ∃ y_ : List S53, Aside0 (y_ = (U ++ [(⟨ji25, ji26, (rd_T82 j m).f0, (rd_T82 j m).f1⟩ : S53)])) ∧ (impl_ContactsOf.l0 k2 u x y_ j (j.length : Int) (wrap64 (m + 1))) = some r := ⟨_, ⟨rfl⟩, yh_ H⟩
       obtain ⟨i1, h2, H⟩ := H
       have H' := Aside0.mk H
       clear H
       have d7 : 0 ≤ (m : Int) := od_
       have d8 : m < (j.length : Int) := od_
       obtain ⟨i3, h6, j7, j8⟩ := at_T82 (Kd.R_reads' X.out).2.2 m d7 d8
       cases h6
       replace d7 := eq_true d7
       replace d8 := eq_true d8
       go_wp2_with (first | ((with_reducible refine gd_ 13 ?_); refine bx_ 13 82 #[iv_ 0, iv_ 0] ?_; intro T hg k7 hbox hb; refine sh8_ (Kd.R_below (ra_ s) hb) (Kd.R_below (Kd.R_elderB (ra_ X) T (Nat.le_of_eq hg.symm)) hb) (blk_below (bk_ l) hb) (below_step (bl1_ HB y) hb) hbox (ge_ hg (bl1_ HB y)) (nl_ hg (bk_ l)) (ng_ hg (bk_ l)) ?_; clear s X l HB hb hbox hg; intro s X l HB a5 d3 h0 h1; have j2 := h1.out; have j3 := h0.out; have i8 := cf2_ a5) | ((with_reducible refine gate_builtin (b := .append) (xs := #[.tmp 38, .tmp 50]) rfl ?_); at_builtin; refine Kd.R_append k53 (w0 := w) w.heap.size rfl (.tmp 38) (.tmp 50) 50 53 (.agg #[(iv_ 0), (iv_ 0), (iv_ 0), (iv_ 0)]) 32 rfl Try.underlying50 info53 rfl (by decide) (by omega) u11 U (⟨ji25, ji26, (rd_T82 j m).f0, (rd_T82 j m).f1⟩ : S53) [iv_ ji25, iv_ ji26, iv_ ((rd_T82 j m).f0), iv_ ((rd_T82 j m).f1)] (fun _ => True) (fun _ => False) rfl (by first | (go_simp; done) | (go_simp; rfl)) ?aP (fun _ hk => hk.elim) ?aF ?aO ?aB ?aS ?aL ?_; (case aP => exact k53_mkM _ _ _ (⟨ji25, ji26, (rd_T82 j m).f0, (rd_T82 j m).f1⟩ : S53)); (case aB => exact (bl2_ HB y d3)); (case aF => exact (fun _ _ => trivial)); (case aO => exact (by (with_reducible repeat (first | apply Kd.R_alloc | apply Kd.R_drewN | apply Kd.R_drew)); exact Kd.R_mono (Kd.R_far (p := ⟨T, 1, none⟩) (Kd.R_far (p := ⟨T, 0, none⟩) (Kd.R_types s.out a5.out (by decide)) (fun _ hk => hk.2) (iv_ ((rd_T82 j m).f0))) (fun _ hk => hk.2) (iv_ ((rd_T82 j m).f1))) (fun _ hk => trivial))); (case aS => exact (below_size (bl2_ HB y d3))); (case aL => have := g9.out; omega); intro k1 k8 ho hb hg hat; rw [← h2.out] at ho; refine sh5_ (Kd.R_over' (by (with_reducible repeat (first | apply Kd.R_alloc | apply Kd.R_drewN | apply Kd.R_drew)); exact (Kd.R_mono (Kd.R_far (p := ⟨T, 1, none⟩) (Kd.R_far (p := ⟨T, 0, none⟩) (Kd.R_mono X.out (fun k_ hk => (⟨hk, hk.2⟩ : _ ∧ k_ ≠ T))) (fun _ hk => hk.2) (iv_ ((rd_T82 j m).f0))) (fun _ hk => hk.2) (iv_ ((rd_T82 j m).f1))) (fun _ h_ => h_.1))) (Kd.R_typed (by (with_reducible repeat (first | apply Kd.R_alloc | apply Kd.R_drewN | apply Kd.R_drew)); exact (Kd.R_mono (Kd.R_far (p := ⟨T, 1, none⟩) (Kd.R_far (p := ⟨T, 0, none⟩) (Kd.R_types s.out a5.out (by decide)) (fun _ hk => hk.2) (iv_ ((rd_T82 j m).f0))) (fun _ hk => hk.2) (iv_ ((rd_T82 j m).f1))) (fun _ h_ => h_.1)))) (by decide) hg) (blk_grown (g := b9) (o := .cells #[iv_ G, .slice Y z.length a9, .slice Z B.length b0, iv_ I, iv_ J, iv_ L, iv_ M, iv_ O, .slice a0 D.length b1, iv_ E] 28 (0, 0)) (bp_ l) hg (Kd.R_ne s.out l.out (by decide))) (blk_grown (g := T) (o := .cells #[iv_ ((rd_T82 j m).f0), iv_ ((rd_T82 j m).f1)] 82 (0, 0)) (bp_ a5) hg (Kd.R_ne s.out a5.out (by decide))) hb ho ?_; clear X l a5 HB s ho hb hg hat; intro X l a5 HB g8))
       go_roundg k2
       case measure => have := e3.out; have := e4.out; omega
       case rel => exact ⟨(i1), (wrap64 (m + 1)), (by first | rfl | (simp; done) | (simp [*]; done)), H', ⟨by have := e3.out; have := e4.out; omega⟩, ⟨ra_ g8⟩, ⟨by (with_reducible repeat (first | apply Kd.R_alloc | apply Kd.R_drewN | apply Kd.R_drew)); exact Kd.R_mono X.out (fun _ hk => trivial)⟩, ⟨(bk_ l)⟩, ⟨bl2_ HB y d3⟩⟩
      ·rw [if_neg b3] at H
       have h4 := decide_eq_false b3
       clear b3
       obtain rfl := Option.some.inj H
       go_wp2
       go_ret
       exact ⟨_, by first | (rw [hRT_.out]; rfl) | exact er_, ra_ s, bl1_ HB y⟩

/-! ### impl_Min: function 36 -/
def impl_Min.f (j l : Int) : Option (Int) := some (mn j l)
theorem impl_Min.calls (j l r : Int) (w : World) (h : impl_Min.f j l = some r) :
  Calls Try.prog 36 #[iv_ j, iv_ l] w fun e w' => e = .returned (iv_ r) ∧ Below w.heap.size w w' := by
 have HB := Aside0.mk (Below.refl w.heap.size w)
 have H := h
 clear h
 unfold impl_Min.f at H
 obtain ⟨ji3, hji3⟩ : ∃ j_ : Int, (mn j l) = j_ := ⟨_, rfl⟩
 replace H : (some ji3) = some r := by first | (rw [hji3] at H; exact H) | (simp only [hji3] at H ⊢; exact H)
 have m : (if l < j then l else j) = ji3 := hji3
 obtain rfl := Option.some.inj H
 go_enter Try.func36, Try.ntmps36
 go_wp2
 go_ret
 exact ⟨by first | rfl | (rw [hRT_.out]; rfl) | (simp [errW_none, errW_some] <;> rfl) | (simp only [← hji3]; first | rfl | (simp [errW_none, errW_some] <;> rfl)) | (simp [*, errW_none, errW_some] <;> rfl), bl_ HB⟩

/-! ### spec_DrawPlanOf: function 37 -/
def spec_DrawPlanOf.f (k : Nat) (u : List Int) : Option (Int × List S72 × List S74 × Int × Int × Int × Int × Int × List S88 × Int × Int × Int) := (spec_l1New.f k u).bind fun l => ((spec_l10Sky.f k l.1 l.2.1 l.2.2).bind fun j => ((spec_l1Below.f l.1 j.2.2.2.2.2.2.2.2.2.2.1 j.2.2.2.2.2.2.2.2.2.2.2 20).bind fun m => ((spec_l1Below.f l.1 m.2.1 m.2.2 30).bind fun s => (some (j.1, j.2.1, j.2.2.1, j.2.2.2.1, j.2.2.2.2.1, j.2.2.2.2.2.1, j.2.2.2.2.2.2.1, j.2.2.2.2.2.2.2.1, j.2.2.2.2.2.2.2.2.1, j.2.2.2.2.2.2.2.2.2.1, wrap64 (m.1 - 2), wrap64 ((wrap64 (m.1 - 2)) + s.1))))))
def spec_DrawPlanOf.T4 : Bool × List (List Nat × List Nat) := (true, [([], []), ([], []), ([], []), ([], []), ([3], [3]), ([2, 4], [2, 4]), ([0, 4, 0], [0]), ([1, 6, 0, 1, 6], [1]), ([5, 7, 0, 1, 2, 3, 4, 5, 6, 7], [5])])
def spec_DrawPlanOf.B4 : List Nat := [0, 0, 0, 0, 8, 28, 25, 91, 255]
theorem spec_DrawPlanOf.tab4 : rtab .any (opsOf Try.f37 4) = spec_DrawPlanOf.T4 := by kernel_rfl
theorem spec_DrawPlanOf.bits4 : waitsOk spec_DrawPlanOf.T4.2 spec_DrawPlanOf.B4 = true := by kernel_rfl
theorem spec_DrawPlanOf.calls (k : Nat) (A0 : Option Addr) (c0 : Nat) (l0 : List Int) (r1 : Int) (r2 : List S72) (r3 : List S74) (r4 r5 r6 r7 r8 : Int) (r9 : List S88) (d6 d7 d8 : Int) (w : World) (d4 : Kd.C (Kd.int .u8) w A0 l0.length l0) (d0 : l0.length ≤ c0) (h : spec_DrawPlanOf.f k l0 = some (r1, r2, r3, r4, r5, r6, r7, r8, r9, d6, d7, d8)) :
  Calls Try.prog 37 #[.slice A0 l0.length c0] w fun e w' => ∃ e9 f0 f1 : Value, e = .returned (.tuple #[.agg #[iv_ r1, e9, f0, iv_ r4, iv_ r5, iv_ r6, iv_ r7, iv_ r8, f1, iv_ d6], iv_ d7, iv_ d8]) ∧ Kd.R k72 72 w' w.heap.size (fun _ => True) e9 r2 ∧ Kd.R k74 74 w' w.heap.size (fun _ => True) f0 r3 ∧ Kd.R k88 88 w' w.heap.size (fun _ => True) f1 r9 ∧ Below w.heap.size w w' := by
 have l3 := Try.underlying28
 have f7 := Aside0.mk d4
 have f6 := Aside0.mk d0
 clear d4 d0
 have HB := Aside0.mk (Below.refl w.heap.size w)
 have H := h
 clear h
 unfold spec_DrawPlanOf.f at H
 replace H := bs_ H
 obtain ⟨⟨G, e7, e8⟩, A2, H⟩ := H
 dsimp only at H
 replace H := bs_ H
 obtain ⟨⟨L, M, O, T, U, X, Y, Z, a0, a1, b1, b2⟩, A3, H⟩ := H
 dsimp only at H
 replace H := bs_ H
 obtain ⟨⟨g1, b3, b4⟩, A4, H⟩ := H
 dsimp only at H
 replace H := bs_ H
 obtain ⟨⟨g2, g3, g4⟩, A5, H⟩ := H
 dsimp only at H
 simp only [Option.some.injEq, Prod.mk.injEq] at H
 obtain ⟨rfl, rfl, rfl, rfl, rfl, rfl, rfl, rfl, rfl, rfl, rfl, rfl⟩ := H
 go_enter Try.func37, Try.ntmps37
 try go_wp2_with (first | ((with_reducible refine gd_ 2 ?_); refine bx_ 2 28 #[iv_ 0, .slice none 0 0, .slice none 0 0, iv_ 0, iv_ 0, iv_ 0, iv_ 0, iv_ 0, .slice none 0 0, iv_ 0] ?_; intro j hg w6 hbox hb; refine sh3_ (below_step (bl_ HB) hb) hbox (ge_ hg (bl_ HB)) ?_; clear HB hb hbox hg; intro HB m I) | ((with_reducible refine gate_callee (f := 49) rfl ?_); refine goesL_ (some 9) rfl rfl Try.func49 (by kernel_rfl) rfl #[.slice A0 l0.length c0] rfl mp_ ?_; (with_reducible refine (spec_l1New.calls k _ _ l0 G e7 e8 w _ ?side1 ?side2 ?side3 A2.out).mono ?_); (case side1 => exact bl1_ HB I); (case side2 => exact f7.out); (case side3 => exact f6.out); rintro e w7 ⟨y, rfl, hi, hb, b5⟩; refine ⟨_, rfl, sh5_ (blk_below (bk_ m) b5) hb hi (IsS102.ne_blk hi (blk_below (bk_ m) b5) (by decide)) (Ne.symm (IsS102.ne_blk hi (blk_below (bk_ m) b5) (by decide))) ?_⟩; clear m HB hb b5 hi; intro m HB s E b8) | ((with_reducible refine gate_callee (f := 76) rfl ?_); refine goesL_ (some 11) rfl rfl Try.func76 (by kernel_rfl) rfl #[.pointer (some ⟨y, 0, none⟩)] rfl mp_ ?_; (with_reducible refine (spec_l10Sky.calls k y G e7 e8 L M O T U X Y Z a0 a1 b1 b2 w _ ?side1 ?side2 A3.out).mono ?_); (case side1 => exact is1_ s E); (case side2 => repeat (first | (with_reducible first | exact HB.out | apply below_alloc | apply pw_below_drewN | apply below_drew1 | refine below_set ?_ (IsS102.ge s.out) | refine below_set ?_ I.out) | exact HB.out)); rintro e w8 ⟨l4, l5, l6, rfl, d1, d2, d3, hi, hb, hk⟩; refine ⟨_, rfl, sh6_ (KeepBut.blk hk (g' := j) (o := .cells #[iv_ 0, .slice none 0 0, .slice none 0 0, iv_ 0, iv_ 0, iv_ 0, iv_ 0, iv_ 0, .slice none 0 0, iv_ 0] 28 (0, 0)) (bk_ m) b8.out (by simp)) (Kd.R_lower d1 (below_size (by repeat (first | (with_reducible first | exact HB.out | apply below_alloc | apply pw_below_drewN | apply below_drew1 | refine below_set ?_ (IsS102.ge s.out) | refine below_set ?_ I.out) | exact HB.out)))) (Kd.R_lower d2 (below_size (by repeat (first | (with_reducible first | exact HB.out | apply below_alloc | apply pw_below_drewN | apply below_drew1 | refine below_set ?_ (IsS102.ge s.out) | refine below_set ?_ I.out) | exact HB.out)))) (Kd.R_lower d3 (below_size (by repeat (first | (with_reducible first | exact HB.out | apply below_alloc | apply pw_below_drewN | apply below_drew1 | refine below_set ?_ (IsS102.ge s.out) | refine below_set ?_ I.out) | exact HB.out)))) hb hi ?_⟩; clear m HB s hb hk hi d1 d2 d3; intro m z B D HB s) | ((with_reducible refine gd_ 6 ?_); refine bx_ 6 28 #[iv_ 0, .slice none 0 0, .slice none 0 0, iv_ 0, iv_ 0, iv_ 0, iv_ 0, iv_ 0, .slice none 0 0, iv_ 0] ?_; intro u hg w9 hbox hb; refine sh13_ (Kd.R_below (ra_ z) hb) (Kd.R_below (ra_ B) hb) (Kd.R_below (ra_ D) hb) (blk_below (bk_ m) hb) (IsS102.below (is1_ s E) hb) (below_step (by repeat (first | (with_reducible first | exact HB.out | apply below_alloc | apply pw_below_drewN | apply below_drew1 | refine below_set ?_ (IsS102.ge s.out) | refine below_set ?_ I.out) | exact HB.out)) hb) hbox (ge_ hg (by repeat (first | (with_reducible first | exact HB.out | apply below_alloc | apply pw_below_drewN | apply below_drew1 | refine below_set ?_ (IsS102.ge s.out) | refine below_set ?_ I.out) | exact HB.out))) (ge_ hg (by repeat (first | (with_reducible first | exact HB.out | apply below_alloc | apply pw_below_drewN | apply below_drew1 | refine below_set ?_ (IsS102.ge s.out) | refine below_set ?_ I.out) | exact HB.out))) (nl_ hg (bk_ m)) (ng_ hg (bk_ m)) ((by rw [hg]; exact Nat.ne_of_lt (IsS102.lt (show IsS102 w _ y G b1 b2 from (is1_ s E))) : y ≠ u)) ((by rw [hg]; exact Nat.ne_of_gt (IsS102.lt (show IsS102 w _ y G b1 b2 from (is1_ s E))) : u ≠ y)) ?_; clear z B D m s HB hb hbox hg; intro z B D m s HB x g6 b7 J l a9 b9; have i8 := l.out; have j0 := J.out; have i9 := b9.out; have j1 := a9.out; have g7 := cf10_ x; obtain ⟨a2, a5, f8⟩ := Kd.R_slice z.out; subst f8; obtain ⟨a3, a6, f9⟩ := Kd.R_slice B.out; subst f9; obtain ⟨a4, a7, g0⟩ := Kd.R_slice D.out; subst g0) | ((with_reducible refine gate_callee (f := 60) rfl ?_); refine goesL_ (some 13) rfl rfl Try.func60 (by kernel_rfl) rfl #[.pointer (some ⟨y, 0, none⟩), iv_ 20] rfl mp_ ?_; (with_reducible refine (spec_l1Below.calls y G b1 b2 20 g1 b3 b4 w _ ?side1 ?side2 A4.out).mono ?_); (case side1 => exact is2_ s E a9); (case side2 => repeat (first | (with_reducible first | exact HB.out | apply below_alloc | apply pw_below_drewN | apply below_drew1 | refine below_set ?_ (IsS102.ge s.out) | refine below_set ?_ I.out | refine below_set ?_ b7.out) | exact HB.out)); rintro e g5 ⟨rfl, hi, hb, hk⟩; refine ⟨_, rfl, sh7_ (KeepBut.blk hk (g' := j) (o := .cells #[iv_ 0, .slice none 0 0, .slice none 0 0, iv_ 0, iv_ 0, iv_ 0, iv_ 0, iv_ 0, .slice none 0 0, iv_ 0] 28 (0, 0)) (bp_ m) b8.out (by simp)) (Kd.R_mono (Kd.R_keep (IsS102.apart (show IsS102 w _ y G b1 b2 from (is2_ s E a9)) (by (with_reducible repeat (first | apply Kd.R_alloc | apply Kd.R_drewN | apply Kd.R_drew)); exact (Kd.R_mono (Kd.R_far (p := ⟨u, 9, none⟩) (Kd.R_far (p := ⟨u, 8, none⟩) (Kd.R_far (p := ⟨u, 7, none⟩) (Kd.R_far (p := ⟨u, 6, none⟩) (Kd.R_far (p := ⟨u, 5, none⟩) (Kd.R_far (p := ⟨u, 4, none⟩) (Kd.R_far (p := ⟨u, 3, none⟩) (Kd.R_far (p := ⟨u, 2, none⟩) (Kd.R_far (p := ⟨u, 1, none⟩) (Kd.R_far (p := ⟨u, 0, none⟩) (Kd.R_types z.out x.out (by decide)) (fun _ hk => hk.2) (iv_ L)) (fun _ hk => hk.2) (.slice a2 M.length a5)) (fun _ hk => hk.2) (.slice a3 O.length a6)) (fun _ hk => hk.2) (iv_ T)) (fun _ hk => hk.2) (iv_ U)) (fun _ hk => hk.2) (iv_ X)) (fun _ hk => hk.2) (iv_ Y)) (fun _ hk => hk.2) (iv_ Z)) (fun _ hk => hk.2) (.slice a4 a0.length a7)) (fun _ hk => hk.2) (iv_ a1)) (fun _ h_ => h_.1))) (by decide)) hk (fun _ h => h.2)) (fun _ h => h.1)) (Kd.R_mono (Kd.R_keep (IsS102.apart (show IsS102 w _ y G b1 b2 from (is2_ s E a9)) (by (with_reducible repeat (first | apply Kd.R_alloc | apply Kd.R_drewN | apply Kd.R_drew)); exact (Kd.R_mono (Kd.R_far (p := ⟨u, 9, none⟩) (Kd.R_far (p := ⟨u, 8, none⟩) (Kd.R_far (p := ⟨u, 7, none⟩) (Kd.R_far (p := ⟨u, 6, none⟩) (Kd.R_far (p := ⟨u, 5, none⟩) (Kd.R_far (p := ⟨u, 4, none⟩) (Kd.R_far (p := ⟨u, 3, none⟩) (Kd.R_far (p := ⟨u, 2, none⟩) (Kd.R_far (p := ⟨u, 1, none⟩) (Kd.R_far (p := ⟨u, 0, none⟩) (Kd.R_types B.out x.out (by decide)) (fun _ hk => hk.2) (iv_ L)) (fun _ hk => hk.2) (.slice a2 M.length a5)) (fun _ hk => hk.2) (.slice a3 O.length a6)) (fun _ hk => hk.2) (iv_ T)) (fun _ hk => hk.2) (iv_ U)) (fun _ hk => hk.2) (iv_ X)) (fun _ hk => hk.2) (iv_ Y)) (fun _ hk => hk.2) (iv_ Z)) (fun _ hk => hk.2) (.slice a4 a0.length a7)) (fun _ hk => hk.2) (iv_ a1)) (fun _ h_ => h_.1))) (by decide)) hk (fun _ h => h.2)) (fun _ h => h.1)) (Kd.R_mono (Kd.R_keep (IsS102.apart (show IsS102 w _ y G b1 b2 from (is2_ s E a9)) (by (with_reducible repeat (first | apply Kd.R_alloc | apply Kd.R_drewN | apply Kd.R_drew)); exact (Kd.R_mono (Kd.R_far (p := ⟨u, 9, none⟩) (Kd.R_far (p := ⟨u, 8, none⟩) (Kd.R_far (p := ⟨u, 7, none⟩) (Kd.R_far (p := ⟨u, 6, none⟩) (Kd.R_far (p := ⟨u, 5, none⟩) (Kd.R_far (p := ⟨u, 4, none⟩) (Kd.R_far (p := ⟨u, 3, none⟩) (Kd.R_far (p := ⟨u, 2, none⟩) (Kd.R_far (p := ⟨u, 1, none⟩) (Kd.R_far (p := ⟨u, 0, none⟩) (Kd.R_types D.out x.out (by decide)) (fun _ hk => hk.2) (iv_ L)) (fun _ hk => hk.2) (.slice a2 M.length a5)) (fun _ hk => hk.2) (.slice a3 O.length a6)) (fun _ hk => hk.2) (iv_ T)) (fun _ hk => hk.2) (iv_ U)) (fun _ hk => hk.2) (iv_ X)) (fun _ hk => hk.2) (iv_ Y)) (fun _ hk => hk.2) (iv_ Z)) (fun _ hk => hk.2) (.slice a4 a0.length a7)) (fun _ hk => hk.2) (iv_ a1)) (fun _ h_ => h_.1))) (by decide)) hk (fun _ h => h.2)) (fun _ h => h.1)) (KeepBut.blk hk (g' := u) (o := .cells #[iv_ L, .slice a2 M.length a5, .slice a3 O.length a6, iv_ T, iv_ U, iv_ X, iv_ Y, iv_ Z, .slice a4 a0.length a7, iv_ a1] 28 (0, 0)) (bp_ x) b9.out (by simp)) hb hi ?_⟩; clear m z B D x HB s hb hk hi; intro m z B D x HB s))
 refine sh7_ (Kd.R_drew z.out) (Kd.R_drew B.out) (Kd.R_drew D.out) (blk_drew m.out) (blk_drew x.out) (IsS102.drew s.out) (below_drew1 HB.out) ?_
 clear z B D m x s HB
 intro z B D m x s HB
 refine start_ (n := 9) (S := fun w' => Cz10 w' u (iv_ L) (.slice a2 M.length a5) (.slice a3 O.length a6) (iv_ T) (iv_ U) (iv_ X) (iv_ Y) (iv_ Z) (.slice a4 a0.length a7) (iv_ a1)) (ds := []) (bo_ 9 0) (by kernel_rfl) rfl rfl (cz10_ x) (fun hHeld => ?_); refine with_tabW spec_DrawPlanOf.tab4 spec_DrawPlanOf.bits4 (fun HT_ HW_ => ?_)
 generalize g5.drew = l7 at z B D m x s HB hHeld ⊢
 refine pur_ 1 (bo_ 9 2) (some 16) HT_ ?_
 refine pur_ 2 (bo_ 9 6) (some 17) HT_ ?_
 refine pur_ 3 (bo_ 9 14) (some 18) HT_ ?_
 refine tak_ 0 (bo_ 9 15) (some 15) HT_ HW_ hHeld ?_
 refine one_ (i := 4) (N := some 19) (bo_ 9 31) rfl rfl (one_of HT_.out (by kernel_rfl)) (by decide) (fun K hK => ?_)
 refine goes_ Try.func60 (by kernel_rfl) rfl #[.pointer (some ⟨y, 0, none⟩), iv_ 30] (by rfl) rfl rfl mp_ ?_
 with_reducible refine (spec_l1Below.calls y G b3 b4 30 g2 g3 g4 w _ ?side1 ?side2 A5.out).mono ?_
 (case side1 => exact is2_ s E a9)
 (case side2 => repeat (first | (with_reducible first | exact HB.out | apply below_alloc | apply pw_below_drewN | apply below_drew1 | refine below_set ?_ (IsS102.ge s.out) | refine below_set ?_ I.out | refine below_set ?_ b7.out) | exact HB.out))
 rintro e a8 ⟨rfl, hi, hb, hk⟩
 refine ⟨_, rfl, sh7_ (KeepBut.blk hk (g' := j) (o := .cells #[iv_ 0, .slice none 0 0, .slice none 0 0, iv_ 0, iv_ 0, iv_ 0, iv_ 0, iv_ 0, .slice none 0 0, iv_ 0] 28 (0, 0)) (bk_ m) b8.out (by simp)) (Kd.R_mono (Kd.R_keep (IsS102.apart (show IsS102 w _ y G b3 b4 from (is2_ s E a9)) (ra_ z) (by decide)) hk (fun _ h => h.2)) (fun _ h => h.1)) (Kd.R_mono (Kd.R_keep (IsS102.apart (show IsS102 w _ y G b3 b4 from (is2_ s E a9)) (ra_ B) (by decide)) hk (fun _ h => h.2)) (fun _ h => h.1)) (Kd.R_mono (Kd.R_keep (IsS102.apart (show IsS102 w _ y G b3 b4 from (is2_ s E a9)) (ra_ D) (by decide)) hk (fun _ h => h.2)) (fun _ h => h.1)) (KeepBut.blk hk (g' := u) (o := .cells #[iv_ L, .slice a2 M.length a5, .slice a3 O.length a6, iv_ T, iv_ U, iv_ X, iv_ Y, iv_ Z, .slice a4 a0.length a7, iv_ a1] 28 (0, 0)) (bk_ x) b9.out (by simp)) hb hi ?_⟩
 clear m z B D x HB s hb hk hi
 intro m z B D x HB s
 refine hK.out _ _ (cz10_ x) (fun hHeld => ?_)
 clear hK K
 refine norm_ (show Act.put _ (some 19) _ = _ from pt_) ?_
 refine pur_ 5 (bo_ 9 63) (some 20) HT_ ?_
 refine one_ (i := 6) (N := none) (bo_ 9 127) rfl rfl (one_of HT_.out (by kernel_rfl)) (by decide) (fun K hK => ?_)
 have k2 : a8.cell? ⟨j, 0, none⟩ = some (iv_ 0) := bc_ m 0 rfl
 have g8 := bf_ m 0
 have j2 := l.out
 have h8 := J.out
 have k3 : a8.cell? ⟨j, 1, none⟩ = some (.slice none 0 0) := bc_ m 1 rfl
 have g9 := bf_ m 1
 have j3 := l.out
 have h9 := J.out
 have k4 : a8.cell? ⟨j, 2, none⟩ = some (.slice none 0 0) := bc_ m 2 rfl
 have h0 := bf_ m 2
 have j4 := l.out
 have i0 := J.out
 have k5 : a8.cell? ⟨j, 3, none⟩ = some (iv_ 0) := bc_ m 3 rfl
 have h1 := bf_ m 3
 have j5 := l.out
 have i1 := J.out
 have k6 : a8.cell? ⟨j, 4, none⟩ = some (iv_ 0) := bc_ m 4 rfl
 have h2 := bf_ m 4
 have j6 := l.out
 have i2 := J.out
 have k7 : a8.cell? ⟨j, 5, none⟩ = some (iv_ 0) := bc_ m 5 rfl
 have h3 := bf_ m 5
 have j7 := l.out
 have i3 := J.out
 have k8 : a8.cell? ⟨j, 6, none⟩ = some (iv_ 0) := bc_ m 6 rfl
 have h4 := bf_ m 6
 have j8 := l.out
 have i4 := J.out
 have k9 : a8.cell? ⟨j, 7, none⟩ = some (iv_ 0) := bc_ m 7 rfl
 have h5 := bf_ m 7
 have j9 := l.out
 have i5 := J.out
 have l1 : a8.cell? ⟨j, 8, none⟩ = some (.slice none 0 0) := bc_ m 8 rfl
 have h6 := bf_ m 8
 have k0 := l.out
 have i6 := J.out
 have l2 : a8.cell? ⟨j, 9, none⟩ = some (iv_ 0) := bc_ m 9 rfl
 have h7 := bf_ m 9
 have k1 := l.out
 have i7 := J.out
 refine skip_ (w1 := ?_) (by rfl) rfl ?_ ?_
 rotate_left
 ·go_simp
  rfl
 refine hK.out _ _ ⟨((cell_far (p := ⟨j, _, none⟩) l.out _).trans (((cell_far (p := ⟨j, _, none⟩) l.out _).trans (((cell_far (p := ⟨j, _, none⟩) l.out _).trans (((cell_far (p := ⟨j, _, none⟩) l.out _).trans (((cell_far (p := ⟨j, _, none⟩) l.out _).trans (((cell_far (p := ⟨j, _, none⟩) l.out _).trans (((cell_far (p := ⟨j, _, none⟩) l.out _).trans (((cell_far (p := ⟨j, _, none⟩) l.out _).trans (((cell_far (p := ⟨j, _, none⟩) l.out _).trans (((cell_far (p := ⟨j, _, none⟩) l.out _).trans (hHeld.1)))))))))))))))))))), ((cell_far (p := ⟨j, _, none⟩) l.out _).trans (((cell_far (p := ⟨j, _, none⟩) l.out _).trans (((cell_far (p := ⟨j, _, none⟩) l.out _).trans (((cell_far (p := ⟨j, _, none⟩) l.out _).trans (((cell_far (p := ⟨j, _, none⟩) l.out _).trans (((cell_far (p := ⟨j, _, none⟩) l.out _).trans (((cell_far (p := ⟨j, _, none⟩) l.out _).trans (((cell_far (p := ⟨j, _, none⟩) l.out _).trans (((cell_far (p := ⟨j, _, none⟩) l.out _).trans (((cell_far (p := ⟨j, _, none⟩) l.out _).trans (hHeld.2.1)))))))))))))))))))), ((cell_far (p := ⟨j, _, none⟩) l.out _).trans (((cell_far (p := ⟨j, _, none⟩) l.out _).trans (((cell_far (p := ⟨j, _, none⟩) l.out _).trans (((cell_far (p := ⟨j, _, none⟩) l.out _).trans (((cell_far (p := ⟨j, _, none⟩) l.out _).trans (((cell_far (p := ⟨j, _, none⟩) l.out _).trans (((cell_far (p := ⟨j, _, none⟩) l.out _).trans (((cell_far (p := ⟨j, _, none⟩) l.out _).trans (((cell_far (p := ⟨j, _, none⟩) l.out _).trans (((cell_far (p := ⟨j, _, none⟩) l.out _).trans (hHeld.2.2.1)))))))))))))))))))), ((cell_far (p := ⟨j, _, none⟩) l.out _).trans (((cell_far (p := ⟨j, _, none⟩) l.out _).trans (((cell_far (p := ⟨j, _, none⟩) l.out _).trans (((cell_far (p := ⟨j, _, none⟩) l.out _).trans (((cell_far (p := ⟨j, _, none⟩) l.out _).trans (((cell_far (p := ⟨j, _, none⟩) l.out _).trans (((cell_far (p := ⟨j, _, none⟩) l.out _).trans (((cell_far (p := ⟨j, _, none⟩) l.out _).trans (((cell_far (p := ⟨j, _, none⟩) l.out _).trans (((cell_far (p := ⟨j, _, none⟩) l.out _).trans (hHeld.2.2.2.1)))))))))))))))))))), ((cell_far (p := ⟨j, _, none⟩) l.out _).trans (((cell_far (p := ⟨j, _, none⟩) l.out _).trans (((cell_far (p := ⟨j, _, none⟩) l.out _).trans (((cell_far (p := ⟨j, _, none⟩) l.out _).trans (((cell_far (p := ⟨j, _, none⟩) l.out _).trans (((cell_far (p := ⟨j, _, none⟩) l.out _).trans (((cell_far (p := ⟨j, _, none⟩) l.out _).trans (((cell_far (p := ⟨j, _, none⟩) l.out _).trans (((cell_far (p := ⟨j, _, none⟩) l.out _).trans (((cell_far (p := ⟨j, _, none⟩) l.out _).trans (hHeld.2.2.2.2.1)))))))))))))))))))), ((cell_far (p := ⟨j, _, none⟩) l.out _).trans (((cell_far (p := ⟨j, _, none⟩) l.out _).trans (((cell_far (p := ⟨j, _, none⟩) l.out _).trans (((cell_far (p := ⟨j, _, none⟩) l.out _).trans (((cell_far (p := ⟨j, _, none⟩) l.out _).trans (((cell_far (p := ⟨j, _, none⟩) l.out _).trans (((cell_far (p := ⟨j, _, none⟩) l.out _).trans (((cell_far (p := ⟨j, _, none⟩) l.out _).trans (((cell_far (p := ⟨j, _, none⟩) l.out _).trans (((cell_far (p := ⟨j, _, none⟩) l.out _).trans (hHeld.2.2.2.2.2.1)))))))))))))))))))), ((cell_far (p := ⟨j, _, none⟩) l.out _).trans (((cell_far (p := ⟨j, _, none⟩) l.out _).trans (((cell_far (p := ⟨j, _, none⟩) l.out _).trans (((cell_far (p := ⟨j, _, none⟩) l.out _).trans (((cell_far (p := ⟨j, _, none⟩) l.out _).trans (((cell_far (p := ⟨j, _, none⟩) l.out _).trans (((cell_far (p := ⟨j, _, none⟩) l.out _).trans (((cell_far (p := ⟨j, _, none⟩) l.out _).trans (((cell_far (p := ⟨j, _, none⟩) l.out _).trans (((cell_far (p := ⟨j, _, none⟩) l.out _).trans (hHeld.2.2.2.2.2.2.1)))))))))))))))))))), ((cell_far (p := ⟨j, _, none⟩) l.out _).trans (((cell_far (p := ⟨j, _, none⟩) l.out _).trans (((cell_far (p := ⟨j, _, none⟩) l.out _).trans (((cell_far (p := ⟨j, _, none⟩) l.out _).trans (((cell_far (p := ⟨j, _, none⟩) l.out _).trans (((cell_far (p := ⟨j, _, none⟩) l.out _).trans (((cell_far (p := ⟨j, _, none⟩) l.out _).trans (((cell_far (p := ⟨j, _, none⟩) l.out _).trans (((cell_far (p := ⟨j, _, none⟩) l.out _).trans (((cell_far (p := ⟨j, _, none⟩) l.out _).trans (hHeld.2.2.2.2.2.2.2.1)))))))))))))))))))), ((cell_far (p := ⟨j, _, none⟩) l.out _).trans (((cell_far (p := ⟨j, _, none⟩) l.out _).trans (((cell_far (p := ⟨j, _, none⟩) l.out _).trans (((cell_far (p := ⟨j, _, none⟩) l.out _).trans (((cell_far (p := ⟨j, _, none⟩) l.out _).trans (((cell_far (p := ⟨j, _, none⟩) l.out _).trans (((cell_far (p := ⟨j, _, none⟩) l.out _).trans (((cell_far (p := ⟨j, _, none⟩) l.out _).trans (((cell_far (p := ⟨j, _, none⟩) l.out _).trans (((cell_far (p := ⟨j, _, none⟩) l.out _).trans (hHeld.2.2.2.2.2.2.2.2.1)))))))))))))))))))), ((cell_far (p := ⟨j, _, none⟩) l.out _).trans (((cell_far (p := ⟨j, _, none⟩) l.out _).trans (((cell_far (p := ⟨j, _, none⟩) l.out _).trans (((cell_far (p := ⟨j, _, none⟩) l.out _).trans (((cell_far (p := ⟨j, _, none⟩) l.out _).trans (((cell_far (p := ⟨j, _, none⟩) l.out _).trans (((cell_far (p := ⟨j, _, none⟩) l.out _).trans (((cell_far (p := ⟨j, _, none⟩) l.out _).trans (((cell_far (p := ⟨j, _, none⟩) l.out _).trans (((cell_far (p := ⟨j, _, none⟩) l.out _).trans (hHeld.2.2.2.2.2.2.2.2.2))))))))))))))))))))⟩ (fun hHeld => ?_)
 clear hK K
 refine pur_ 7 (bo_ 9 255) (some 3) HT_ ?_
 refine pur_ 8 (bo_ 9 511) (some 4) HT_ ?_
 refine done_ (done_of HT_.out (by kernel_rfl)) ?_
 try go_wp2
 refine bodyPost_ret (results_ctt rfl _ _ j 28 #[iv_ L, .slice a2 M.length a5, .slice a3 O.length a6, iv_ T, iv_ U, iv_ X, iv_ Y, iv_ Z, .slice a4 a0.length a7, iv_ a1] (0, 0) _ rfl (bp_ m) Try.underlying28 rfl (by kernel_rfl)) rfl ?_
 exact ⟨_, _, _, by first | (rw [hRT_.out]; rfl) | exact er_, by (with_reducible repeat (first | apply Kd.R_alloc | apply Kd.R_drewN | apply Kd.R_drew)); exact Kd.R_mono (Kd.R_far (p := ⟨j, 9, none⟩) (Kd.R_far (p := ⟨j, 8, none⟩) (Kd.R_far (p := ⟨j, 7, none⟩) (Kd.R_far (p := ⟨j, 6, none⟩) (Kd.R_far (p := ⟨j, 5, none⟩) (Kd.R_far (p := ⟨j, 4, none⟩) (Kd.R_far (p := ⟨j, 3, none⟩) (Kd.R_far (p := ⟨j, 2, none⟩) (Kd.R_far (p := ⟨j, 1, none⟩) (Kd.R_far (p := ⟨j, 0, none⟩) (Kd.R_types z.out m.out (by decide)) (fun _ hk => hk.2) (iv_ L)) (fun _ hk => hk.2) (.slice a2 M.length a5)) (fun _ hk => hk.2) (.slice a3 O.length a6)) (fun _ hk => hk.2) (iv_ T)) (fun _ hk => hk.2) (iv_ U)) (fun _ hk => hk.2) (iv_ X)) (fun _ hk => hk.2) (iv_ Y)) (fun _ hk => hk.2) (iv_ Z)) (fun _ hk => hk.2) (.slice a4 a0.length a7)) (fun _ hk => hk.2) (iv_ a1)) (fun _ hk => trivial), by (with_reducible repeat (first | apply Kd.R_alloc | apply Kd.R_drewN | apply Kd.R_drew)); exact Kd.R_mono (Kd.R_far (p := ⟨j, 9, none⟩) (Kd.R_far (p := ⟨j, 8, none⟩) (Kd.R_far (p := ⟨j, 7, none⟩) (Kd.R_far (p := ⟨j, 6, none⟩) (Kd.R_far (p := ⟨j, 5, none⟩) (Kd.R_far (p := ⟨j, 4, none⟩) (Kd.R_far (p := ⟨j, 3, none⟩) (Kd.R_far (p := ⟨j, 2, none⟩) (Kd.R_far (p := ⟨j, 1, none⟩) (Kd.R_far (p := ⟨j, 0, none⟩) (Kd.R_types B.out m.out (by decide)) (fun _ hk => hk.2) (iv_ L)) (fun _ hk => hk.2) (.slice a2 M.length a5)) (fun _ hk => hk.2) (.slice a3 O.length a6)) (fun _ hk => hk.2) (iv_ T)) (fun _ hk => hk.2) (iv_ U)) (fun _ hk => hk.2) (iv_ X)) (fun _ hk => hk.2) (iv_ Y)) (fun _ hk => hk.2) (iv_ Z)) (fun _ hk => hk.2) (.slice a4 a0.length a7)) (fun _ hk => hk.2) (iv_ a1)) (fun _ hk => trivial), by (with_reducible repeat (first | apply Kd.R_alloc | apply Kd.R_drewN | apply Kd.R_drew)); exact Kd.R_mono (Kd.R_far (p := ⟨j, 9, none⟩) (Kd.R_far (p := ⟨j, 8, none⟩) (Kd.R_far (p := ⟨j, 7, none⟩) (Kd.R_far (p := ⟨j, 6, none⟩) (Kd.R_far (p := ⟨j, 5, none⟩) (Kd.R_far (p := ⟨j, 4, none⟩) (Kd.R_far (p := ⟨j, 3, none⟩) (Kd.R_far (p := ⟨j, 2, none⟩) (Kd.R_far (p := ⟨j, 1, none⟩) (Kd.R_far (p := ⟨j, 0, none⟩) (Kd.R_types D.out m.out (by decide)) (fun _ hk => hk.2) (iv_ L)) (fun _ hk => hk.2) (.slice a2 M.length a5)) (fun _ hk => hk.2) (.slice a3 O.length a6)) (fun _ hk => hk.2) (iv_ T)) (fun _ hk => hk.2) (iv_ U)) (fun _ hk => hk.2) (iv_ X)) (fun _ hk => hk.2) (iv_ Y)) (fun _ hk => hk.2) (iv_ Z)) (fun _ hk => hk.2) (.slice a4 a0.length a7)) (fun _ hk => hk.2) (iv_ a1)) (fun _ hk => trivial), by repeat (first | (with_reducible first | exact HB.out | apply below_alloc | apply pw_below_drewN | apply below_drew1 | refine below_set ?_ (IsS102.ge s.out) | refine below_set ?_ I.out | refine below_set ?_ b7.out) | exact HB.out)⟩

/-! ### impl_PlanOf: function 38 -/
mutual
def impl_PlanOf.l0 : Nat → Int → Int → List S53 → Int → Int → Int → List S72 → List S74 → Int → Int → Int → Int → Int → List S88 → Int → Option (List S53)
 | 0, _, _, _, _, _, _, _, _, _, _, _, _, _, _, _ => none
 | k + 1, I, L, l, J, j, m, s, u, x, y, z, B, D, E, G => if j < J then (impl_PlanOf.l1 k I L l j (wrap64 (j + 1)) J j m s u x y z B D E G) else (some l)
def impl_PlanOf.l1 : Nat → Int → Int → List S53 → Int → Int → Int → Int → Int → List S72 → List S74 → Int → Int → Int → Int → Int → List S88 → Int → Option (List S53)
 | 0, _, _, _, _, _, _, _, _, _, _, _, _, _, _, _, _, _ => none
 | k + 1, I, L, l, T, M, J, j, m, s, u, x, y, z, B, D, E, G => (impl_NodesOf.f m s u x y z B D E G).bind fun U => (if M < U then ((impl_ContactsOf.f k m s u x y z B D E G T M I L).bind fun O => (if l.length + O.length < 4398046511104 then (impl_PlanOf.l1 k I L (l ++ O) T (wrap64 (M + 1)) J j m s u x y z B D E G) else (none))) else (impl_PlanOf.l0 k I L l J (wrap64 (j + 1)) m s u x y z B D E G))
end
def impl_PlanOf.f (k : Nat) (j : Int) (z : List S72) (B : List S74) (l m s u x : Int) (D : List S88) (y E G : Int) : Option (List S53) := (impl_NodesOf.f j z B l m s u x D y).bind fun I => (impl_PlanOf.l0 k E G (([] : List S53)) I 0 j z B l m s u x D y)
theorem impl_PlanOf.calls (k : Nat) (x : Int) (U : Option Addr) (a0 : Nat) (l : List S72) (X : Option Addr) (a3 : Nat) (m : List S74) (y z B D E : Int) (Y : Option Addr) (a4 : Nat) (s : List S88) (G M O : Int) (r : List S53) (w : World) (d8 : Kd.C k72 w U l.length l) (d5 : l.length ≤ a0) (d9 : Kd.C k74 w X m.length m) (d6 : m.length ≤ a3) (e0 : Kd.C k88 w Y s.length s) (d7 : s.length ≤ a4) (h : impl_PlanOf.f k x l m y z B D E s G M O = some r) :
  Calls Try.prog 38 #[.agg #[iv_ x, .slice U l.length a0, .slice X m.length a3, iv_ y, iv_ z, iv_ B, iv_ D, iv_ E, .slice Y s.length a4, iv_ G], iv_ M, iv_ O] w fun e w' => ∃ e2 : Value, e = .returned (e2) ∧ Kd.R k53 53 w' w.heap.size (fun _ => True) e2 r ∧ Below w.heap.size w w' := by
 have g1 := Try.underlying28
 have b4 := Aside0.mk d8
 have a8 := Aside0.mk d5
 clear d8 d5
 have b5 := Aside0.mk d9
 have a9 := Aside0.mk d6
 clear d9 d6
 have b6 := Aside0.mk e0
 have b0 := Aside0.mk d7
 clear e0 d7
 have HB := Aside0.mk (Below.refl w.heap.size w)
 have H := h
 clear h
 unfold impl_PlanOf.f at H
 replace H : ∃ y_ : List S53, Aside0 (y_ = (([] : List S53))) ∧ ((impl_NodesOf.f x l m y z B D E s G).bind fun L => (impl_PlanOf.l0 k M O y_ L 0 x l m y z B D E s G)) = some r := ⟨_, ⟨rfl⟩, yh_ H⟩
 obtain ⟨f5, d3, H⟩ := H
 replace H := bs_ H
 obtain ⟨L, A4, H⟩ := H
 have H' := Aside0.mk H
 clear H
 go_enter Try.func38, Try.ntmps38
 go_wp2_with (first | ((with_reducible refine gd_ 3 ?_); refine bx_ 3 28 #[iv_ x, .slice U l.length a0, .slice X m.length a3, iv_ y, iv_ z, iv_ B, iv_ D, iv_ E, .slice Y s.length a4, iv_ G] ?_; intro c0 hg w5 hbox hb; refine sh3_ (below_step (bl_ HB) hb) hbox (ge_ hg (bl_ HB)) ?_; clear HB hb hbox hg; intro HB j I) | ((with_reducible refine gate_dst (N := 10) rfl ?_); refine Kd.R_lit k53 _ 53 ?hg (N := 10) ?hd (xs := ([] : List S53)) (inner := []) (ok := fun _ => True) (okp := fun _ => True) ?hr ?hp (fun _ hk => hk) trivial (Below.refl _ _) (Nat.le_refl _) (by simp) ?_; (case hd => rfl); (case hg => rfl); (case hr => first | (go_simp; done) | (go_simp; rfl)); (case hp => exact (Reps.none _ _)); intro g2 w6 a7 hb hg_ hnew_; clear hg_ hnew_; (first | rw [← d3.out] at a7 | (simp only [Int.reduceToNat] at a7; rw [← d3.out] at a7)); refine sh3_ (Kd.R_lower a7 (below_size (bl1_ HB I))) (blk_below (bk_ j) hb) (below_step (bl1_ HB I) hb) ?_; clear j HB hb a7; intro b3 j HB; have g0 := cf10_ j) | ((with_reducible refine gate_callee (f := 41) rfl ?_); refine gl_ 12 Try.func41 (impl_NodesOf.calls x _ _ l _ _ m y z B D E _ _ s G L _ (ck_ b4 HB) a8.out (ck_ b5 HB) a9.out (ck_ b6 HB) b0.out A4.out) ?_; rintro e w9 ⟨rfl, hb⟩; refine ⟨_, rfl, sh3_ (Kd.R_below (ra_ b3) hb) (blk_below (bk_ j) hb) (below_step (bl1_ HB I) hb) ?_⟩; clear b3 j HB hb; intro b3 j HB))
 go_loopg [7, 13] k (fun kq v7 f3 w' => ∃ (b9 : List S53) (J : Int), f3 = iv_ J ∧ Aside0 (impl_PlanOf.l0 kq M O b9 L J x l m y z B D E s G = some r) ∧ Aside0 (kq ≤ k) ∧ Aside0 (Kd.R k53 53 w' w.heap.size (fun _ => True) v7 b9) ∧ Aside0 (w'.heap[c0]? = some (.cells #[iv_ x, (.slice U l.length a0), (.slice X m.length a3), iv_ y, iv_ z, iv_ B, iv_ D, iv_ E, (.slice Y s.length a4), iv_ G] 28 (0, 0))) ∧ Aside0 (Below w.heap.size w w'))
 case atStart => exact ⟨(f5), (0), (by first | rfl | (simp; done) | (simp [*]; done)), H', ⟨Nat.le_refl _⟩, ⟨ra_ b3⟩, ⟨(bk_ j)⟩, ⟨bl1_ HB I⟩⟩
 case round =>
  clear H'
  obtain ⟨b9, J, rfl, HA, b1, u, j, HB⟩ := hrel
  cases gk with
  | zero => exact absurd HA.out (by simp [impl_PlanOf.l0])
  | succ k1 =>
   have H := HA.out
   clear HA
   simp only [impl_PlanOf.l0] at H
   by_cases c10 : J < L
   ·rw [if_pos c10] at H
    have e9 := decide_eq_true c10
    clear c10
    have H' := Aside0.mk H
    clear H
    go_wp2
    go_loopg [7, 9] k1 (fun kq v7 v9 w' => ∃ (a6 : List S53) (T : Int), v9 = iv_ T ∧ Aside0 (impl_PlanOf.l1 kq M O a6 J T L J x l m y z B D E s G = some r) ∧ Aside0 (kq ≤ k1) ∧ Aside0 (Kd.R k53 53 w' w.heap.size (fun _ => True) v7 a6) ∧ Aside0 (w'.heap[c0]? = some (.cells #[iv_ x, (.slice U l.length a0), (.slice X m.length a3), iv_ y, iv_ z, iv_ B, iv_ D, iv_ E, (.slice Y s.length a4), iv_ G] 28 (0, 0))) ∧ Aside0 (Below w.heap.size w w'))
    case atStart => exact ⟨(b9), (wrap64 (J + 1)), (by first | rfl | (simp; done) | (simp [*]; done)), H', ⟨Nat.le_refl _⟩, ⟨ra_ u⟩, ⟨(bk_ j)⟩, ⟨bl1_ HB I⟩⟩
    case round =>
     clear H'
     obtain ⟨a6, T, rfl, HA, b2, u, j, HB⟩ := hrel
     cases gk with
     | zero => exact absurd HA.out (by simp [impl_PlanOf.l1])
     | succ k2 =>
      have H := HA.out
      clear HA
      simp only [impl_PlanOf.l1] at H
      replace H := bs_ H
      obtain ⟨d0, d2, H⟩ := H
      by_cases a5 : T < d0
      ·rw [if_pos a5] at H
       have f0 := decide_eq_true a5
       clear a5
       replace H := bs_ H
       obtain ⟨b8, e3, H⟩ := H
       replace H := ifn_ H
       obtain ⟨d4, H⟩ := H
       have e7 := Aside0.mk d4
       clear d4
       replace H : ∃ y_ : List S53, Aside0 (y_ = (a6 ++ b8)) ∧ (impl_PlanOf.l1 k2 M O y_ J (wrap64 (T + 1)) L J x l m y z B D E s G) = some r := ⟨_, ⟨rfl⟩, yh_ H⟩
       obtain ⟨f6, e8, H⟩ := H
       have H' := Aside0.mk H
       clear H
       have f7 := cf10_ j
       go_wp2_with (first | ((with_reducible refine gate_callee (f := 41) rfl ?_); refine gl_ 20 Try.func41 (impl_NodesOf.calls x _ _ l _ _ m y z B D E _ _ s G d0 _ (ck_ b4 HB) a8.out (ck_ b5 HB) a9.out (ck_ b6 HB) b0.out d2.out) ?_; rintro e g5 ⟨rfl, hb⟩; refine ⟨_, rfl, sh3_ (Kd.R_below (ra_ u) hb) (blk_below (bk_ j) hb) (below_step (bl1_ HB I) hb) ?_⟩; clear u j HB hb; intro u j HB; have f8 := cf10_ j) | ((with_reducible refine gate_callee (f := 35) rfl ?_); refine gl_ 30 Try.func35 (impl_ContactsOf.calls k2 x _ _ l _ _ m y z B D E _ _ s G J T M O b8 _ (ck_ b4 HB) a8.out (ck_ b5 HB) a9.out (ck_ b6 HB) b0.out e3.out) ?_; rintro e g6 ⟨g3, rfl, c1, hb⟩; refine ⟨_, rfl, sh4_ (Kd.R_elder' (ra_ u) (Kd.R_base c1) hb) (Kd.R_lower (Kd.R_new' c1 (Kd.R_lt (ra_ u))) (below_size (bl1_ HB I))) (blk_below (bk_ j) hb) (below_step (bl1_ HB I) hb) ?_⟩; clear u j HB hb c1; intro u Z j HB; obtain ⟨e5, f1, f2⟩ := Kd.R_slice Z.out; subst f2) | ((with_reducible refine gate_builtin (b := .append) (xs := #[.tmp 24, .tmp 30]) rfl ?_); at_builtin; refine Kd.R_append_rows k53 (w0 := w) w.heap.size rfl (.tmp 24) (.tmp 30) 50 53 (.agg #[(iv_ 0), (iv_ 0), (iv_ 0), (iv_ 0)]) 32 rfl Try.underlying50 info53 rfl (by decide) (by omega) u7 a6 b8 _ _ _ (fun k_ => some k_ ≠ (.slice e5 b8.length f1 : Value).ownBlock) (fun _ => False) rfl rfl ?aO ?aR (fun _ _ h => h) (fun _ h => h.elim) ?aF ?aB ?aS ?aL ?_; (case aR => repeat (first | exact (Kd.R_reads' Z.out).2.2 | (with_reducible refine Kd.C_alloc ?_ _) | (with_reducible refine Kd.C_drewN ?_ _) | (with_reducible refine Kd.C_drew ?_))); (case aB => exact (bl1_ HB I)); (case aF => exact (fun k_ hk => Kd.fresh' (Kd.R_lt (ra_ Z)) k_ hk)); (case aO => exact (by (with_reducible repeat (first | apply Kd.R_alloc | apply Kd.R_drewN | apply Kd.R_drew)); exact Kd.R_mono u.out (fun _ hk => hk.2))); (case aS => exact (below_size (bl1_ HB I))); (case aL => have := e7.out; omega); intro g4 g7 ho hb hg hat; rw [← e8.out] at ho; refine sh4_ (blk_grown (g := c0) (o := .cells #[iv_ x, .slice U l.length a0, .slice X m.length a3, iv_ y, iv_ z, iv_ B, iv_ D, iv_ E, .slice Y s.length a4, iv_ G] 28 (0, 0)) (bk_ j) hg (Kd.R_ne u.out j.out (by decide))) (Kd.R_after (ok := (fun _ => True)) (ra_ Z) hg hat) hb ho ?_; clear j Z HB u ho hb hg hat; intro j Z HB e6))
       go_roundg k2
       case measure => have := b1.out; have := b2.out; omega
       case rel => exact ⟨(f6), (wrap64 (T + 1)), (by first | rfl | (simp; done) | (simp [*]; done)), H', ⟨by have := b1.out; have := b2.out; omega⟩, ⟨by (with_reducible repeat (first | apply Kd.R_alloc | apply Kd.R_drewN | apply Kd.R_drew)); exact Kd.R_mono e6.out (fun _ hk => trivial)⟩, ⟨(bk_ j)⟩, ⟨bl1_ HB I⟩⟩
      ·rw [if_neg a5] at H
       have f0 := decide_eq_false a5
       clear a5
       have H' := Aside0.mk H
       clear H
       have f9 := cf10_ j
       go_wp2_with (first | ((with_reducible refine gate_callee (f := 41) rfl ?_); refine gl_ 20 Try.func41 (impl_NodesOf.calls x _ _ l _ _ m y z B D E _ _ s G d0 _ (ck_ b4 HB) a8.out (ck_ b5 HB) a9.out (ck_ b6 HB) b0.out d2.out) ?_; rintro e g8 ⟨rfl, hb⟩; refine ⟨_, rfl, sh3_ (Kd.R_below (ra_ u) hb) (blk_below (bk_ j) hb) (below_step (bl1_ HB I) hb) ?_⟩; clear u j HB hb; intro u j HB))
       go_roundg k2
       case measure => have := b1.out; have := b2.out; omega
       case rel => exact ⟨(a6), (wrap64 (J + 1)), (by first | rfl | (simp; done) | (simp [*]; done)), H', ⟨by have := b1.out; have := b2.out; omega⟩, ⟨ra_ u⟩, ⟨(bk_ j)⟩, ⟨bl1_ HB I⟩⟩
   ·rw [if_neg c10] at H
    have e9 : decide (J < L) = false := decide_eq_false c10
    clear c10
    obtain rfl := Option.some.inj H
    go_wp2
    go_ret
    exact ⟨_, by first | (rw [hRT_.out]; rfl) | exact er_, ra_ u, bl1_ HB I⟩

/-! ### spec_l4Raw: function 50 -/
def spec_l4Raw.f (s : List Int) (u x : Int) : Option (Int × Int × Int) := (spec_l1Once.f s u x 6).bind fun j => (if j.1 = true then ((spec_l1Int.f s j.2.1 j.2.2 (([(-1), 0, 1000, 1001, 9223372036854775807, (-9223372036854775808)] : List Int))).bind fun l => (some (l.1, l.2.1, l.2.2))) else ((spec_l1Below.f s j.2.1 j.2.2 40).bind fun m => (some (m.1, m.2.1, m.2.2))))
theorem spec_l4Raw.calls (g : Nat) (l : List Int) (I J D E G : Int) (m w : World) (hI : IsS102 m w g l I J) (hB : Below m.heap.size m w) (h : spec_l4Raw.f l I J = some (D, E, G)) :
  Calls Try.prog 50 #[.pointer (some ⟨g, 0, none⟩)] w fun e w' => e = .returned (iv_ D) ∧ IsS102 m w' g l E G ∧ Below m.heap.size m w' ∧ KeepBut w w' g none := by
 have j := Aside0.mk hI
 have HK := Aside0.mk (KeepBut.refl w g none)
 have HL := Aside0.mk hB.size
 clear hI
 have a9 := Aside0.mk hB.size
 have HB := Aside0.mk hB
 clear hB
 have H := h
 clear h
 unfold spec_l4Raw.f at H
 replace H := bs_ H
 obtain ⟨⟨a2, s, u⟩, O, H⟩ := H
 dsimp only at H
 by_cases c3 : a2 = true
 ·subst c3
  have z : ((spec_l1Int.f l s u (([(-1), 0, 1000, 1001, 9223372036854775807, (-9223372036854775808)] : List Int))).bind fun y => (some (y.1, y.2.1, y.2.2))) = some (D, E, G) := by rw [if_pos rfl] at H; exact H
  clear H
  have H := z
  clear z
  replace H : ∃ y_ : List Int, Aside0 (y_ = (([(-1), 0, 1000, 1001, 9223372036854775807, (-9223372036854775808)] : List Int))) ∧ ((spec_l1Int.f l s u y_).bind fun y => (some (y.1, y.2.1, y.2.2))) = some (D, E, G) := ⟨_, ⟨rfl⟩, yh_ H⟩
  obtain ⟨U, T, H⟩ := H
  replace H := bs_ H
  obtain ⟨⟨a3, a4, a5⟩, Y, H⟩ := H
  dsimp only at H
  simp only [Option.some.injEq, Prod.mk.injEq] at H
  obtain ⟨rfl, rfl, rfl⟩ := H
  go_enter Try.func50, Try.ntmps50
  go_wp2_with (first | ((with_reducible refine gate_callee (f := 77) rfl ?_); refine goesL_ (some 4) rfl rfl Try.func77 (by kernel_rfl) rfl #[.pointer (some ⟨g, 0, none⟩), iv_ 6] rfl mp_ ?_; (with_reducible refine (spec_l1Once.calls g l I J 6 true s u m _ ?side1 ?side2 O.out).mono ?_); (case side1 => exact is_ j); (case side2 => repeat (first | (with_reducible first | exact HB.out | apply below_alloc | apply pw_below_drewN | apply below_drew1 | refine below_set ?_ (IsS102.ge j.out)) | exact HB.out)); rintro e w5 ⟨rfl, hi, hb, hk⟩; refine ⟨_, rfl, sh3_ (KeepBut.trans (kb_ HK) hk (.inl rfl)) hb hi ?_⟩; clear HK HB j hb hk hi; intro HK HB j) | ((with_reducible refine gate_dst (N := 6) rfl ?_); refine Kd.R_lit (Kd.int .i64) _ 3 ?hg (N := 6) ?hd (xs := ([(-1), 0, 1000, 1001, 9223372036854775807, (-9223372036854775808)] : List Int)) (inner := [iv_ (-1), iv_ 0, iv_ 1000, iv_ 1001, iv_ 9223372036854775807, iv_ (-9223372036854775808)]) (ok := fun _ => True) (okp := fun _ => True) ?hr ?hp (fun _ hk => hk) trivial (Below.refl _ _) (Nat.le_refl _) (by simp) ?_; (case hd => rfl); (case hg => rfl); (case hr => first | (go_simp; done) | (go_simp; rfl)); (case hp => exact (Reps.one (show Kd.M (Kd.int .i64) _ _ _ (-1) [iv_ (-1)] from rfl) (Reps.one (show Kd.M (Kd.int .i64) _ _ _ 0 [iv_ 0] from rfl) (Reps.one (show Kd.M (Kd.int .i64) _ _ _ 1000 [iv_ 1000] from rfl) (Reps.one (show Kd.M (Kd.int .i64) _ _ _ 1001 [iv_ 1001] from rfl) (Reps.one (show Kd.M (Kd.int .i64) _ _ _ 9223372036854775807 [iv_ 9223372036854775807] from rfl) (Reps.one (show Kd.M (Kd.int .i64) _ _ _ (-9223372036854775808) [iv_ (-9223372036854775808)] from rfl) (Reps.none _ _)))))))); intro b0 w6 B hb hg_ hnew_; clear hg_ hnew_; (first | rw [← T.out] at B | (simp only [Int.reduceToNat] at B; rw [← T.out] at B)); refine sh4_ (Kd.R_lower B (keep_size (w := w) (g := g) (row := none) (kb_ HK))) (IsS102.below (is_ j) hb) (KeepBut.trans (kb_ HK) (KeepBut.of_below hb g none) (.inl rfl)) (below_step (by repeat (first | (with_reducible first | exact HB.out | apply below_alloc | apply pw_below_drewN | apply below_drew1 | refine below_set ?_ (IsS102.ge j.out)) | exact HB.out)) hb) ?_; clear j HK HB hb B; intro x j HK HB; obtain ⟨Z, a0, a1⟩ := Kd.R_slice x.out; subst a1) | ((with_reducible refine gate_callee (f := 91) rfl ?_); refine goesL_ (some 7) rfl rfl Try.func91 (by kernel_rfl) rfl #[.pointer (some ⟨g, 0, none⟩), .slice Z U.length a0] rfl mp_ ?_; (with_reducible refine (spec_l1Int.calls g l s u _ _ U a3 a4 a5 m _ ?side1 ?side2 ?side3 ?side4 ?side5 Y.out).mono ?_); (case side1 => exact is_ j); (case side2 => repeat (first | (with_reducible first | exact HB.out | apply below_alloc | apply pw_below_drewN | apply below_drew1 | refine below_set ?_ (IsS102.ge j.out)) | exact HB.out)); (case side3 => repeat (first | exact (Kd.R_reads' x.out).2.2 | (with_reducible refine Kd.C_alloc ?_ _) | (with_reducible refine Kd.C_drewN ?_ _) | (with_reducible refine Kd.C_drew ?_))); (case side4 => exact (Kd.R_reads' x.out).2.1); (case side5 => exact far_slice (IsS102.own_ne j.out x.out (by decide))); rintro e w9 ⟨rfl, hi, hb, hk⟩; refine ⟨_, rfl, sh4_ (Kd.R_mono (Kd.R_keep (IsS102.apart (show IsS102 m _ g l s u from (is_ j)) (ra_ x) (by decide)) hk (fun _ h => h.2)) (fun _ h => h.1)) (KeepBut.trans (kb_ HK) hk (.inl rfl)) hb hi ?_⟩; clear x HK HB j hb hk hi; intro x HK HB j))
  go_ret
  exact ⟨by first | (rw [hRT_.out]; rfl) | exact er_, (is_ j), by repeat (first | (with_reducible first | exact HB.out | apply below_alloc | apply pw_below_drewN | apply below_drew1 | refine below_set ?_ (IsS102.ge j.out)) | exact HB.out), (kb_ HK)⟩
 ·replace c3 := Bool.eq_false_iff.mpr c3
  subst c3
  have z : ((spec_l1Below.f l s u 40).bind fun L => (some (L.1, L.2.1, L.2.2))) = some (D, E, G) := by rw [if_neg (show ¬ (false = true) by decide)] at H; exact H
  clear H
  have H := z
  clear z
  replace H := bs_ H
  obtain ⟨⟨a6, a7, a8⟩, X, H⟩ := H
  dsimp only at H
  simp only [Option.some.injEq, Prod.mk.injEq] at H
  obtain ⟨rfl, rfl, rfl⟩ := H
  go_enter Try.func50, Try.ntmps50
  go_wp2_with (first | ((with_reducible refine gate_callee (f := 77) rfl ?_); refine goesL_ (some 4) rfl rfl Try.func77 (by kernel_rfl) rfl #[.pointer (some ⟨g, 0, none⟩), iv_ 6] rfl mp_ ?_; (with_reducible refine (spec_l1Once.calls g l I J 6 false s u m _ ?side1 ?side2 O.out).mono ?_); (case side1 => exact is_ j); (case side2 => repeat (first | (with_reducible first | exact HB.out | apply below_alloc | apply pw_below_drewN | apply below_drew1 | refine below_set ?_ (IsS102.ge j.out)) | exact HB.out)); rintro e b1 ⟨rfl, hi, hb, hk⟩; refine ⟨_, rfl, sh3_ (KeepBut.trans (kb_ HK) hk (.inl rfl)) hb hi ?_⟩; clear HK HB j hb hk hi; intro HK HB j) | ((with_reducible refine gate_callee (f := 60) rfl ?_); refine goesL_ (some 9) rfl rfl Try.func60 (by kernel_rfl) rfl #[.pointer (some ⟨g, 0, none⟩), iv_ 40] rfl mp_ ?_; (with_reducible refine (spec_l1Below.calls g l s u 40 a6 a7 a8 m _ ?side1 ?side2 X.out).mono ?_); (case side1 => exact is_ j); (case side2 => repeat (first | (with_reducible first | exact HB.out | apply below_alloc | apply pw_below_drewN | apply below_drew1 | refine below_set ?_ (IsS102.ge j.out)) | exact HB.out)); rintro e b2 ⟨rfl, hi, hb, hk⟩; refine ⟨_, rfl, sh3_ (KeepBut.trans (kb_ HK) hk (.inl rfl)) hb hi ?_⟩; clear HK HB j hb hk hi; intro HK HB j))
  go_ret
  exact ⟨by first | (rw [hRT_.out]; rfl) | exact er_, (is_ j), by repeat (first | (with_reducible first | exact HB.out | apply below_alloc | apply pw_below_drewN | apply below_drew1 | refine below_set ?_ (IsS102.ge j.out)) | exact HB.out), (kb_ HK)⟩

/-! ### spec_Min: function 122 -/
def spec_Min.f (j l : Int) : Option (Int) := if l < j then (some l) else (some j)
theorem spec_Min.calls (j l r : Int) (w : World) (h : spec_Min.f j l = some r) :
  Calls Try.prog 122 #[iv_ j, iv_ l] w fun e w' => e = .returned (iv_ r) ∧ Drawn0 w w' := by
 have H := h
 clear h
 unfold spec_Min.f at H
 by_cases c3 : l < j
 ·rw [if_pos c3] at H
  have m := decide_eq_true c3
  clear c3
  obtain rfl := Option.some.inj H
  go_enter Try.func122, Try.ntmps122
  go_wp2
  go_ret
  exact ⟨by first | rfl | (simp; done) | (simp [*]; done), by repeat (first | exact Drawn0.refl _ | apply Drawn0.step)⟩
 ·rw [if_neg c3] at H
  have m := decide_eq_false c3
  clear c3
  obtain rfl := Option.some.inj H
  go_enter Try.func122, Try.ntmps122
  go_wp2
  go_ret
  exact ⟨by first | rfl | (simp; done) | (simp [*]; done), by repeat (first | exact Drawn0.refl _ | apply Drawn0.step)⟩

end Go.Proofs.Ytopbkdcicidajaa.PFnContacts
