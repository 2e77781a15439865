-- Written by a program of this session for this claim (the kit's printer with changes).
import Derived.Test.YtpjhdehbikohmaaGreatQFnExactPlanOfx0
import Derived.Test.YtpjhdehbikohmaaGreatQFnExactPlanOfx3
import Derived.Test.YtpjhdehbikohmaaGreatQFnExactPlanOfx5
import Derived.Test.YtpjhdehbikohmaaGreatQFnExactPlanOfx6
import Derived.Test.YtpjhdehbikohmaaGreatQFnExactPlanOfx7
import Derived.Test.YtpjhdehbikohmaaGreatQFnExactPlanOfx8
namespace Go.Proofs.YtpjhdehbikohmaaGreat.PFnExactPlanOf
open Go.RowKit Go.Proofs.YtpjhdehbikohmaaGreatW.PrintWords Go.Proofs.YtpjhdehbikohmaaGreatW.PrintLast Go.Proofs.YtpjhdehbikohmaaGreatW.PrintMore
attribute [local go_sem] max2_int min2_int max_two min_two max_three min_three max_four min_four   -- for this text's walks alone
set_option linter.unusedVariables false
set_option maxHeartbeats 8000000
set_option maxRecDepth 100000
set_option linter.unusedSimpArgs false

/-! ### spec_IsSure: function 66 -/
def spec_IsSure.f (k : Nat) (j : Int) (E : List S68) (G : List S70) (l m s u x : Int) (I : List S76) (y z B D : Int) : Option (Bool) := (spec_SightAt.f k j E G l m s u x I y z B D).bind fun J => (some (J == 2))
theorem spec_IsSure.calls (k : Nat) (u : Int) (G : Option Addr) (T : Nat) (j : List S68) (I : Option Addr) (U : Nat) (l : List S70) (x y z B D : Int) (J : Option Addr) (X : Nat) (m : List S76) (E L M O : Int) (r : Bool) (w : World) (a5 : Kd.C k68 w G j.length j) (Z : j.length ≤ T) (a6 : Kd.C k70 w I l.length l) (a0 : l.length ≤ U) (a7 : Kd.C k76 w J m.length m) (a4 : m.length ≤ X) (h : spec_IsSure.f k u j l x y z B D m E L M O = some r) :
  Calls Tryz.prog 66 #[.agg #[iv_ u, .slice G j.length T, .slice I l.length U, iv_ x, iv_ y, iv_ z, iv_ B, iv_ D, .slice J m.length X, iv_ E], iv_ L, iv_ M, iv_ O] w fun e w' => e = .returned (.bool r) ∧ Below w.heap.size w w' := by
 have b8 := Tryz.underlying34
 have b2 := Aside0.mk a5
 have a9 := Aside0.mk Z
 clear a5 Z
 have b3 := Aside0.mk a6
 have b0 := Aside0.mk a0
 clear a6 a0
 have b4 := Aside0.mk a7
 have b1 := Aside0.mk a4
 clear a7 a4
 have HB := Aside0.mk (Below.refl w.heap.size w)
 have H := h
 clear h
 unfold spec_IsSure.f at H
 replace H := bs_ H
 obtain ⟨b5, A5, H⟩ := H
 obtain rfl := Option.some.inj H
 go_enter Tryz.func66, Tryz.ntmps66
 go_wp2_with (first | ((with_reducible refine gd_ 4 ?_); refine bx_ 4 34 #[iv_ u, .slice G j.length T, .slice I l.length U, iv_ x, iv_ y, iv_ z, iv_ B, iv_ D, .slice J m.length X, iv_ E] ?_; intro b6 hg w6 hbox hb; refine sh3_ (below_step (bl_ HB) hb) hbox (ge_ hg (bl_ HB)) ?_; clear HB hb hbox hg; intro HB s Y; have b7 := cf10_ s) | ((with_reducible refine gate_callee (f := 80) rfl ?_); refine gl_ 13 Tryz.func80 (spec_SightAt.calls k u _ _ j _ _ l x y z B D _ _ m E L M O b5 _ (ck_ b2 HB) a9.out (ck_ b3 HB) b0.out (ck_ b4 HB) b1.out A5.out) ?_; rintro e w8 ⟨rfl, hb⟩; refine ⟨_, rfl, sh2_ (blk_below (bk_ s) hb) (below_step (bl1_ HB Y) hb) ?_⟩; clear s HB hb; intro s HB))
 go_ret
 exact ⟨er_, bl1_ HB Y⟩

/-! ### spec_SureWindows: function 46 -/
def spec_SureWindows.l0 : Nat → Int → Int → List S52 → Int → Int → Int → List S68 → List S70 → Int → Int → Int → Int → Int → List S76 → Int → Option (List S52)
 | 0, _, _, _, _, _, _, _, _, _, _, _, _, _, _, _ => none
 | k + 1, l, u, m, s, j, x, y, z, B, D, E, G, I, J, L => if j < s then ((spec_IsSure.f k x y z B D E G I J L l u j).bind fun M => (if M = true then ((spec_l4Put.f m j).bind fun O => (spec_SureWindows.l0 k l u O s (wrap64 (j + 1)) x y z B D E G I J L)) else (spec_SureWindows.l0 k l u m s (wrap64 (j + 1)) x y z B D E G I J L))) else (some m)
def spec_SureWindows.f (k : Nat) (l : Int) (I : List S68) (J : List S70) (m s u x y : Int) (L : List S76) (z B D E G : Int) : Option (List S52) := (spec_l8Ticks.f E G).bind fun j => (spec_SureWindows.l0 k B D (([] : List S52)) j.2 j.1 l I J m s u x y L z)
theorem spec_SureWindows.calls (k : Nat) (z : Int) (X : Option Addr) (a7 : Nat) (m : List S68) (Y : Option Addr) (a8 : Nat) (s : List S70) (B D E G I : Int) (Z : Option Addr) (a9 : Nat) (u : List S76) (J M O a3 a4 : Int) (r : List S52) (w : World) (d6 : Kd.C k68 w X m.length m) (d2 : m.length ≤ a7) (d7 : Kd.C k70 w Y s.length s) (d3 : s.length ≤ a8) (d8 : Kd.C k76 w Z u.length u) (d4 : u.length ≤ a9) (h : spec_SureWindows.f k z m s B D E G I u J M O a3 a4 = some r) :
  Calls Tryz.prog 46 #[.agg #[iv_ z, .slice X m.length a7, .slice Y s.length a8, iv_ B, iv_ D, iv_ E, iv_ G, iv_ I, .slice Z u.length a9, iv_ J], iv_ M, iv_ O, iv_ a3, iv_ a4] w fun e w' => ∃ e1 : Value, e = .returned (e1) ∧ Kd.R k52 52 w' w.heap.size (fun _ => True) e1 r ∧ Below w.heap.size w w' := by
 have f5 := Tryz.underlying34
 have b9 := Aside0.mk d6
 have b6 := Aside0.mk d2
 clear d6 d2
 have c0 := Aside0.mk d7
 have b7 := Aside0.mk d3
 clear d7 d3
 have c1 := Aside0.mk d8
 have b8 := Aside0.mk d4
 clear d8 d4
 have HB := Aside0.mk (Below.refl w.heap.size w)
 have H := h
 clear h
 unfold spec_SureWindows.f at H
 replace H : ∃ y_ : List S52, Aside0 (y_ = (([] : List S52))) ∧ ((spec_l8Ticks.f a3 a4).bind fun d1 => (spec_SureWindows.l0 k M O y_ d1.2 d1.1 z m s B D E G I u J)) = some r := ⟨_, ⟨rfl⟩, yh_ H⟩
 obtain ⟨f2, d0, H⟩ := H
 replace H := bs_ H
 obtain ⟨⟨d9, b1⟩, A6, H⟩ := H
 dsimp only at H
 have H' := Aside0.mk H
 clear H
 go_enter Tryz.func46, Tryz.ntmps46
 go_wp2_with (first | ((with_reducible refine gd_ 5 ?_); refine bx_ 5 34 #[iv_ z, .slice X m.length a7, .slice Y s.length a8, iv_ B, iv_ D, iv_ E, iv_ G, iv_ I, .slice Z u.length a9, iv_ J] ?_; intro e8 hg w7 hbox hb; refine sh3_ (below_step (bl_ HB) hb) hbox (ge_ hg (bl_ HB)) ?_; clear HB hb hbox hg; intro HB j y) | ((with_reducible refine gate_dst (N := 15) rfl ?_); refine Kd.R_lit k52 _ 52 ?hg (N := 15) ?hd (xs := ([] : List S52)) (inner := []) (ok := fun _ => True) (okp := fun _ => True) ?hr ?hp (fun _ hk => hk) trivial (Below.refl _ _) (Nat.le_refl _) (by simp) ?_; (case hd => rfl); (case hg => rfl); (case hr => first | (go_simp; done) | (go_simp; rfl)); (case hp => exact (Reps.none _ _)); intro f6 w8 T hb hg_ hnew_; clear hg_ hnew_; (first | rw [← d0.out] at T | (simp only [Int.reduceToNat] at T; rw [← d0.out] at T)); refine sh3_ (Kd.R_lower T (below_size (bl1_ HB y))) (blk_below (bk_ j) hb) (below_step (bl1_ HB y) hb) ?_; clear j HB hb T; intro e4 j HB) | ((with_reducible refine gate_callee (f := 65) rfl ?_); refine gl_ 19 Tryz.func65 (spec_l8Ticks.calls a3 a4 d9 b1 _ A6.out) ?_; rintro e w' ⟨rfl, ⟨nd, rfl⟩⟩; refine ⟨_, rfl, ?_⟩))
 go_loopg [11, 14] k (fun kq f0 f1 w' => ∃ (L : List S52) (x : Int), f1 = iv_ x ∧ Aside0 (spec_SureWindows.l0 kq M O L b1 x z m s B D E G I u J = some r) ∧ Aside0 (kq ≤ k) ∧ Aside0 (Kd.R k52 52 w' w.heap.size (fun _ => True) f0 L) ∧ Aside0 (w'.heap[e8]? = some (.cells #[iv_ z, (.slice X m.length a7), (.slice Y s.length a8), iv_ B, iv_ D, iv_ E, iv_ G, iv_ I, (.slice Z u.length a9), iv_ J] 34 (0, 0))) ∧ Aside0 (Below w.heap.size w w'))
 case atStart => exact ⟨(f2), (d9), (by first | rfl | (simp; done) | (simp [*]; done)), H', ⟨Nat.le_refl _⟩, ⟨ra_ e4⟩, ⟨by (with_reducible repeat (first | refine blk_drewN ?_ _ | refine blk_drew ?_ | refine blk_alloc ?_ _)); exact j.out⟩, ⟨bl1_ HB y⟩⟩
 case round =>
  clear H'
  obtain ⟨L, x, rfl, HA, a0, l, j, HB⟩ := hrel
  cases gk with
  | zero => exact absurd HA.out (by simp [spec_SureWindows.l0])
  | succ U =>
   have H := HA.out
   clear HA
   simp only [spec_SureWindows.l0] at H
   by_cases c10 : x < b1
   ·rw [if_pos c10] at H
    have e6 := decide_eq_true c10
    clear c10
    replace H := bs_ H
    obtain ⟨e9, b4, H⟩ := H
    by_cases b0 : e9 = true
    ·subst b0
     rw [if_pos rfl] at H
     replace H := bs_ H
     obtain ⟨e0, e2, H⟩ := H
     have H' := Aside0.mk H
     clear H
     have f3 := cf10_ j
     go_wp2_with (first | ((with_reducible refine gate_callee (f := 66) rfl ?_); refine gl_ 32 Tryz.func66 (spec_IsSure.calls U z _ _ m _ _ s B D E G I _ _ u J M O x true _ (ck_ b9 HB) b6.out (ck_ c0 HB) b7.out (ck_ c1 HB) b8.out b4.out) ?_; rintro e f8 ⟨rfl, hb⟩; refine ⟨_, rfl, sh3_ (Kd.R_below (ra_ l) hb) (blk_below (bk_ j) hb) (below_step (bl1_ HB y) hb) ?_⟩; clear l j HB hb; intro l j HB; obtain ⟨b2, b3, e7⟩ := Kd.R_slice l.out; subst e7) | ((with_reducible refine gate_callee (f := 64) rfl ?_); refine goesL_ (some 35) rfl rfl Tryz.func64 (by kernel_rfl) rfl #[.slice b2 L.length b3, iv_ x] rfl mp_ ?_; (with_reducible refine (spec_l4Put.calls (fun k_ => some k_ = (.slice b2 L.length b3 : Value).ownBlock) (.slice b2 L.length b3) L x e0 w _ ?side1 ?side2 e2.out).mono ?_); (case side1 => repeat (first | (with_reducible first | exact HB.out | apply below_alloc | apply pw_below_drewN | apply below_drew1 | refine below_set ?_ y.out) | exact HB.out)); (case side2 => exact Kd.R_tight rfl l.out); rintro e f9 ⟨f7, rfl, d5, hb, hkp⟩; refine ⟨_, rfl, sh3_ (blk_kept (bk_ j) hkp (fun hs_ => (fun e_ => (Kd.R_ne l.out j.out (by decide)) e_) hs_)) (Kd.R_mono (ok' := fun k_ => True) d5 (fun k_ hk_ => trivial)) hb ?_⟩; clear j HB l hb hkp d5; intro j e5 HB))
     go_roundg U
     case measure => have := a0.out; omega
     case rel => exact ⟨(e0), (wrap64 (x + 1)), (by first | rfl | (simp; done) | (simp [*]; done)), H', ⟨by have := a0.out; omega⟩, ⟨ra_ e5⟩, ⟨by (with_reducible repeat (first | refine blk_drewN ?_ _ | refine blk_drew ?_ | refine blk_alloc ?_ _)); exact j.out⟩, ⟨bl1_ HB y⟩⟩
    ·replace b0 := Bool.eq_false_iff.mpr b0
     subst b0
     have H1 : (spec_SureWindows.l0 U M O L b1 (wrap64 (x + 1)) z m s B D E G I u J) = some r := by rw [if_neg (show ¬ (false = true) by decide)] at H; exact H
     clear H
     have H := H1
     clear H1
     have H' := Aside0.mk H
     clear H
     have f4 := cf10_ j
     go_wp2_with (first | ((with_reducible refine gate_callee (f := 66) rfl ?_); refine gl_ 32 Tryz.func66 (spec_IsSure.calls U z _ _ m _ _ s B D E G I _ _ u J M O x false _ (ck_ b9 HB) b6.out (ck_ c0 HB) b7.out (ck_ c1 HB) b8.out b4.out) ?_; rintro e g0 ⟨rfl, hb⟩; refine ⟨_, rfl, sh3_ (Kd.R_below (ra_ l) hb) (blk_below (bk_ j) hb) (below_step (bl1_ HB y) hb) ?_⟩; clear l j HB hb; intro l j HB))
     go_roundg U
     case measure => have := a0.out; omega
     case rel => exact ⟨(L), (wrap64 (x + 1)), (by first | rfl | (simp; done) | (simp [*]; done)), H', ⟨by have := a0.out; omega⟩, ⟨ra_ l⟩, ⟨by (with_reducible repeat (first | refine blk_drewN ?_ _ | refine blk_drew ?_ | refine blk_alloc ?_ _)); exact j.out⟩, ⟨bl1_ HB y⟩⟩
   ·rw [if_neg c10] at H
    have e6 := decide_eq_false c10
    clear c10
    obtain rfl := Option.some.inj H
    go_wp2
    go_ret
    exact ⟨_, er_, ra_ l, bl1_ HB y⟩

/-! ### spec_InArc: function 91 -/
def spec_InArc.f (l j m : Int) : Option (Bool) := if j ≥ 0 then ((spec_AngleOf.f m).bind fun s => ((spec_AngleOf.f l).bind fun u => ((spec_AngleOf.f (wrap64 (s - u))).bind fun x => (some (decide (x ≤ j)))))) else (some false)
theorem spec_InArc.calls (m j u : Int) (r : Bool) (w : World) (h : spec_InArc.f m j u = some r) :
  Calls Tryz.prog 91 #[.agg #[iv_ m, iv_ j], iv_ u] w fun e w' => e = .returned (.bool r) ∧ Below w.heap.size w w' := by
 have U := Tryz.underlying74
 have HB := Aside0.mk (Below.refl w.heap.size w)
 have H := h
 clear h
 unfold spec_InArc.f at H
 by_cases c3 : j ≥ 0
 ·rw [if_pos c3] at H
  have O : decide (0 ≤ j) = true := decide_eq_true c3
  clear c3
  replace H := bs_ H
  obtain ⟨y, D, H⟩ := H
  replace H := bs_ H
  obtain ⟨z, E, H⟩ := H
  obtain ⟨ji6, hji6⟩ : ∃ j_ : Int, (wrap64 (y - z)) = j_ := ⟨_, rfl⟩
  replace H : ((spec_AngleOf.f (ji6)).bind fun B => (some (decide (B ≤ j)))) = some r := by first | (rw [hji6] at H; exact H) | (simp only [hji6] at H ⊢; exact H)
  (try rw [hji6] at D)
  (try rw [hji6] at E)
  have T : (IntKind.i64.wrap (y - z)) = ji6 := (i64_w _).trans hji6
  replace H := bs_ H
  obtain ⟨B, G, H⟩ := H
  obtain rfl := Option.some.inj H
  go_enter Tryz.func91, Tryz.ntmps91
  go_wp2_with (first | ((with_reducible refine gd_ 2 ?_); refine bx_ 2 74 #[iv_ m, iv_ j] ?_; intro x hg M hbox hb; refine sh3_ (below_step (bl_ HB) hb) hbox (ge_ hg (bl_ HB)) ?_; clear HB hb hbox hg; intro HB l s; have J := cf2_ l) | (go_at_call 104; (with_reducible refine (spec_AngleOf.calls u y _ D.out).mono ?_); rintro e w' ⟨rfl, ⟨nd, rfl⟩⟩; (try exact dd_)) | (go_at_call 104; (with_reducible refine (spec_AngleOf.calls m z _ E.out).mono ?_); rintro e w' ⟨rfl, ⟨nd, rfl⟩⟩; (try exact dd_)) | (go_at_call 104; (with_reducible refine (spec_AngleOf.calls ji6 B _ G.out).mono ?_); rintro e w' ⟨rfl, ⟨nd, rfl⟩⟩; (try exact dd_)))
  repeat (go_quiet (first | ((with_reducible refine gd_ 2 ?_); refine bx_ 2 74 #[iv_ m, iv_ j] ?_; intro x hg M hbox hb; refine sh3_ (below_step (bl_ HB) hb) hbox (ge_ hg (bl_ HB)) ?_; clear HB hb hbox hg; intro HB l s; have J := cf2_ l) | (go_at_call 104; (with_reducible refine (spec_AngleOf.calls u y _ D.out).mono ?_); rintro e w' ⟨rfl, ⟨nd, rfl⟩⟩; (try exact dd_)) | (go_at_call 104; (with_reducible refine (spec_AngleOf.calls m z _ E.out).mono ?_); rintro e w' ⟨rfl, ⟨nd, rfl⟩⟩; (try exact dd_)) | (go_at_call 104; (with_reducible refine (spec_AngleOf.calls ji6 B _ G.out).mono ?_); rintro e w' ⟨rfl, ⟨nd, rfl⟩⟩; (try exact dd_))); try go_wp2_with (first | ((with_reducible refine gd_ 2 ?_); refine bx_ 2 74 #[iv_ m, iv_ j] ?_; intro x hg M hbox hb; refine sh3_ (below_step (bl_ HB) hb) hbox (ge_ hg (bl_ HB)) ?_; clear HB hb hbox hg; intro HB l s; have J := cf2_ l) | (go_at_call 104; (with_reducible refine (spec_AngleOf.calls u y _ D.out).mono ?_); rintro e w' ⟨rfl, ⟨nd, rfl⟩⟩; (try exact dd_)) | (go_at_call 104; (with_reducible refine (spec_AngleOf.calls m z _ E.out).mono ?_); rintro e w' ⟨rfl, ⟨nd, rfl⟩⟩; (try exact dd_)) | (go_at_call 104; (with_reducible refine (spec_AngleOf.calls ji6 B _ G.out).mono ?_); rintro e w' ⟨rfl, ⟨nd, rfl⟩⟩; (try exact dd_))))
  go_ret
  exact ⟨by first | rfl | (simp [errW_none, errW_some] <;> rfl) | (simp only [← hji6]; first | rfl | (simp [errW_none, errW_some] <;> rfl)) | (simp [*, errW_none, errW_some] <;> rfl), bl1_ HB s⟩
 ·rw [if_neg c3] at H
  have O : decide (0 ≤ j) = false := decide_eq_false c3
  clear c3
  obtain rfl := Option.some.inj H
  go_enter Tryz.func91, Tryz.ntmps91
  go_wp2_with (first | ((with_reducible refine gd_ 2 ?_); refine bx_ 2 74 #[iv_ m, iv_ j] ?_; intro x hg L hbox hb; refine sh3_ (below_step (bl_ HB) hb) hbox (ge_ hg (bl_ HB)) ?_; clear HB hb hbox hg; intro HB l s; have I := cf2_ l))
  repeat (go_quiet (first | ((with_reducible refine gd_ 2 ?_); refine bx_ 2 74 #[iv_ m, iv_ j] ?_; intro x hg L hbox hb; refine sh3_ (below_step (bl_ HB) hb) hbox (ge_ hg (bl_ HB)) ?_; clear HB hb hbox hg; intro HB l s; have I := cf2_ l)); try go_wp2_with (first | ((with_reducible refine gd_ 2 ?_); refine bx_ 2 74 #[iv_ m, iv_ j] ?_; intro x hg L hbox hb; refine sh3_ (below_step (bl_ HB) hb) hbox (ge_ hg (bl_ HB)) ?_; clear HB hb hbox hg; intro HB l s; have I := cf2_ l)))
  go_ret
  exact ⟨er_, bl1_ HB s⟩

/-! ### spec_ArcsMeet: function 81 -/
def spec_ArcsMeet.f (j l m s : Int) : Option (Bool) := if l ≥ 0 then (if s ≥ 0 then ((spec_InArc.f j l m).bind fun u => (if u = true then (some true) else ((spec_InArc.f m s j).bind fun x => (some x)))) else (some false)) else (some false)
theorem spec_ArcsMeet.calls (y s z u : Int) (r : Bool) (w : World) (h : spec_ArcsMeet.f y s z u = some r) :
  Calls Tryz.prog 81 #[.agg #[iv_ y, iv_ s], .agg #[iv_ z, iv_ u]] w fun e w' => e = .returned (.bool r) ∧ Below w.heap.size w w' := by
 have b4 := Tryz.underlying74
 have HB := Aside0.mk (Below.refl w.heap.size w)
 have H := h
 clear h
 unfold spec_ArcsMeet.f at H
 by_cases c3 : s ≥ 0
 ·rw [if_pos c3] at H
  have O : decide (0 ≤ s) = true := decide_eq_true c3
  clear c3
  by_cases c4 : u ≥ 0
  ·rw [if_pos c4] at H
   have T : decide (0 ≤ u) = true := decide_eq_true c4
   clear c4
   replace H := bs_ H
   obtain ⟨U, J, H⟩ := H
   by_cases c6 : U = true
   ·subst c6
    rw [if_pos rfl] at H
    obtain rfl := Option.some.inj H
    go_enter Tryz.func81, Tryz.ntmps81
    go_wp2_with (first | ((with_reducible refine gd_ 2 ?_); refine bx_ 2 74 #[iv_ y, iv_ s] ?_; intro E hg w7 hbox hb; refine sh3_ (below_step (bl_ HB) hb) hbox (ge_ hg (bl_ HB)) ?_; clear HB hb hbox hg; intro HB j l) | ((with_reducible refine gd_ 3 ?_); refine bx_ 3 74 #[iv_ z, iv_ u] ?_; intro G hg w8 hbox hb; refine sh6_ (blk_below (bk_ j) hb) (below_step (bl1_ HB l) hb) hbox (ge_ hg (bl1_ HB l)) (nl_ hg (bk_ j)) (ng_ hg (bk_ j)) ?_; clear j HB hb hbox hg; intro j HB m x B D; have a9 := B.out; have b3 := D.out; have X := cf2_ j; have Y := cf2_ m) | (go_at_call 91; (with_reducible refine (spec_InArc.calls y s z true _ J.out).mono ?_); rintro e b5 ⟨rfl, hb⟩; refine sh3_ (blk_below (bk_ j) hb) (blk_below (bk_ m) hb) (below_step (bl2_ HB l x) hb) ?_; clear j m HB hb; intro j m HB))
    go_ret
    exact ⟨er_, bl2_ HB l x⟩
   ·replace c6 := Bool.eq_false_iff.mpr c6
    subst c6
    have L : ((spec_InArc.f z u y).bind fun I => (some I)) = some r := by rw [if_neg (show ¬ (false = true) by decide)] at H; exact H
    clear H
    have H := L
    clear L
    replace H := bs_ H
    obtain ⟨I, M, H⟩ := H
    obtain rfl := Option.some.inj H
    go_enter Tryz.func81, Tryz.ntmps81
    go_wp2_with (first | ((with_reducible refine gd_ 2 ?_); refine bx_ 2 74 #[iv_ y, iv_ s] ?_; intro E hg b6 hbox hb; refine sh3_ (below_step (bl_ HB) hb) hbox (ge_ hg (bl_ HB)) ?_; clear HB hb hbox hg; intro HB j l) | ((with_reducible refine gd_ 3 ?_); refine bx_ 3 74 #[iv_ z, iv_ u] ?_; intro G hg b7 hbox hb; refine sh6_ (blk_below (bk_ j) hb) (below_step (bl1_ HB l) hb) hbox (ge_ hg (bl1_ HB l)) (nl_ hg (bk_ j)) (ng_ hg (bk_ j)) ?_; clear j HB hb hbox hg; intro j HB m x B D; have a6 := B.out; have b0 := D.out; have Z := cf2_ j; have a0 := cf2_ m) | (go_at_call 91; (with_reducible refine (spec_InArc.calls y s z false _ J.out).mono ?_); rintro e b8 ⟨rfl, hb⟩; refine sh3_ (blk_below (bk_ j) hb) (blk_below (bk_ m) hb) (below_step (bl2_ HB l x) hb) ?_; clear j m HB hb; intro j m HB; have a1 := cf2_ m; have a2 := cf2_ j) | (go_at_call 91; (with_reducible refine (spec_InArc.calls z u y I _ M.out).mono ?_); rintro e b9 ⟨rfl, hb⟩; refine sh3_ (blk_below (bk_ j) hb) (blk_below (bk_ m) hb) (below_step (bl2_ HB l x) hb) ?_; clear j m HB hb; intro j m HB))
    go_ret
    exact ⟨er_, bl2_ HB l x⟩
  ·rw [if_neg c4] at H
   have T : decide (0 ≤ u) = false := decide_eq_false c4
   clear c4
   obtain rfl := Option.some.inj H
   go_enter Tryz.func81, Tryz.ntmps81
   go_wp2_with (first | ((with_reducible refine gd_ 2 ?_); refine bx_ 2 74 #[iv_ y, iv_ s] ?_; intro E hg c0 hbox hb; refine sh3_ (below_step (bl_ HB) hb) hbox (ge_ hg (bl_ HB)) ?_; clear HB hb hbox hg; intro HB j l) | ((with_reducible refine gd_ 3 ?_); refine bx_ 3 74 #[iv_ z, iv_ u] ?_; intro G hg c1 hbox hb; refine sh6_ (blk_below (bk_ j) hb) (below_step (bl1_ HB l) hb) hbox (ge_ hg (bl1_ HB l)) (nl_ hg (bk_ j)) (ng_ hg (bk_ j)) ?_; clear j HB hb hbox hg; intro j HB m x B D; have a7 := B.out; have b1 := D.out; have a3 := cf2_ j; have a4 := cf2_ m))
   go_ret
   exact ⟨er_, bl2_ HB l x⟩
 ·rw [if_neg c3] at H
  have O : decide (0 ≤ s) = false := decide_eq_false c3
  clear c3
  obtain rfl := Option.some.inj H
  go_enter Tryz.func81, Tryz.ntmps81
  go_wp2_with (first | ((with_reducible refine gd_ 2 ?_); refine bx_ 2 74 #[iv_ y, iv_ s] ?_; intro E hg d0 hbox hb; refine sh3_ (below_step (bl_ HB) hb) hbox (ge_ hg (bl_ HB)) ?_; clear HB hb hbox hg; intro HB j l) | ((with_reducible refine gd_ 3 ?_); refine bx_ 3 74 #[iv_ z, iv_ u] ?_; intro G hg d1 hbox hb; refine sh6_ (blk_below (bk_ j) hb) (below_step (bl1_ HB l) hb) hbox (ge_ hg (bl1_ HB l)) (nl_ hg (bk_ j)) (ng_ hg (bk_ j)) ?_; clear j HB hb hbox hg; intro j HB m x B D; have a8 := B.out; have b2 := D.out; have a5 := cf2_ j))
  go_ret
  exact ⟨er_, bl2_ HB l x⟩

/-! ### spec_MayDisturb: function 67 -/
def spec_MayDisturb.l0 : Nat → Int → Int → Int → Int → List S68 → List S70 → Int → Int → Int → Int → Int → List S76 → Int → Option (Bool)
 | 0, _, _, _, _, _, _, _, _, _, _, _, _, _ => none
 | k + 1, m, u, l, x, s, y, z, B, D, E, G, j, I => if l < (j.length : Int) then (if 0 ≤ l then (if 0 ≤ m then (if m < (s.length : Int) then (if ((rd_T76 j l).f0) = ((rd_T68 s m).f0) then ((spec_NodeAt.f k x s y z B D E G j I m u).bind fun J => ((spec_ArcsMeet.f J.1 J.2 ((rd_T76 j l).f1.f0) ((rd_T76 j l).f1.f1)).bind fun L => (if L = true then (some true) else (spec_MayDisturb.l0 k m u (wrap64 (l + 1)) x s y z B D E G j I)))) else (spec_MayDisturb.l0 k m u (wrap64 (l + 1)) x s y z B D E G j I)) else (none)) else (none)) else (none)) else (some false)
def spec_MayDisturb.f (k : Nat) (m : Int) (l : List S68) (E : List S70) (s u x y z : Int) (G : List S76) (B j D : Int) : Option (Bool) := (spec_l1In.f j 0 (wrap64 ((l.length : Int) - 1))).bind fun I => (if I = true then (spec_MayDisturb.l0 k j D 0 m l E s u x y z G B) else (some false))
def spec_MayDisturb.T6 : Bool × List (List Nat × List Nat) := (true, [([], []), ([0], [0]), ([], []), ([1, 2], [1, 2]), ([3], [3]), ([4], [4]), ([], []), ([6], [6]), ([], []), ([7, 8], [7, 8]), ([9], [9]), ([10], [10]), ([5, 11], [5, 11]), ([12], [12]), ([13], [13]), ([13], [13]), ([13], [13]), ([14, 15, 16, 13, 13], [13, 14, 15, 16]), ([13], [13]), ([18, 13], [13, 18]), ([13], [13]), ([19, 20, 13], [13, 19, 20]), ([21, 13], [13, 21]), ([22, 13], [13, 22]), ([17, 23, 17, 13], [13, 17, 23]), ([13, 24], [13, 24])])
def spec_MayDisturb.B6 : List Nat := [0, 1, 0, 7, 15, 31, 0, 64, 0, 448, 960, 1984, 4095, 8191, 16383, 16383, 16383, 131071, 16383, 278527, 16383, 1851391, 3948543, 8142847, 16777215, 33554431]
theorem spec_MayDisturb.tab6 : rtab .any (opsOf Tryz.f67 6) = spec_MayDisturb.T6 := by kernel_rfl
theorem spec_MayDisturb.bits6 : waitsOk spec_MayDisturb.T6.2 spec_MayDisturb.B6 = true := by kernel_rfl
theorem spec_MayDisturb.calls (k : Nat) (a5 : Int) (d6 : Option Addr) (c1 : Nat) (u : List S68) (c0 : Option Addr) (d0 : Nat) (L : List S70) (a6 a7 a8 a9 b0 : Int) (d7 : Option Addr) (d1 : Nat) (s : List S76) (b1 m a2 : Int) (r : Bool) (w : World) (g6 : Kd.C k68 w d6 u.length u) (g3 : u.length ≤ c1) (g7 : Kd.C k70 w c0 L.length L) (g4 : L.length ≤ d0) (g8 : Kd.C k76 w d7 s.length s) (g5 : s.length ≤ d1) (h : spec_MayDisturb.f k a5 u L a6 a7 a8 a9 b0 s b1 m a2 = some r) :
  Calls Tryz.prog 67 #[.agg #[iv_ a5, .slice d6 u.length c1, .slice c0 L.length d0, iv_ a6, iv_ a7, iv_ a8, iv_ a9, iv_ b0, .slice d7 s.length d1, iv_ b1], iv_ m, iv_ a2] w fun e w' => e = .returned (.bool r) ∧ Below w.heap.size w w' := by
 have i4 := Tryz.underlying34
 have i5 := Tryz.underlying74
 have d9 := Aside0.mk g6
 have f8 := Aside0.mk g3
 clear g6 g3
 have g1 := Aside0.mk g7
 have f9 := Aside0.mk g4
 clear g7 g4
 have d2 := Aside0.mk g8
 have g0 := Aside0.mk g5
 clear g8 g5
 have HB := Aside0.mk (Below.refl w.heap.size w)
 have H := h
 clear h
 unfold spec_MayDisturb.f at H
 replace H := bs_ H
 obtain ⟨h2, A4, H⟩ := H
 by_cases c5 : h2 = true
 ·subst c5
  rw [if_pos rfl] at H
  have H' := Aside0.mk H
  clear H
  go_enter Tryz.func67, Tryz.ntmps67
  go_wp2_with (first | ((with_reducible refine gd_ 3 ?_); refine bx_ 3 34 #[iv_ a5, .slice d6 u.length c1, .slice c0 L.length d0, iv_ a6, iv_ a7, iv_ a8, iv_ a9, iv_ b0, .slice d7 s.length d1, iv_ b1] ?_; intro e3 hg w6 hbox hb; refine sh3_ (below_step (bl_ HB) hb) hbox (ge_ hg (bl_ HB)) ?_; clear HB hb hbox hg; intro HB j b2; have i3 := cf10_ j) | ((with_reducible refine gate_callee (f := 40) rfl ?_); refine gl_ 13 Tryz.func40 (spec_l1In.calls m 0 (wrap64 ((u.length : Int) - 1)) true _ A4.out) ?_; rintro e w' ⟨rfl, ⟨nd, rfl⟩⟩; refine ⟨_, rfl, ?_⟩))
  go_loopg [7] k (fun kq v7 w' => ∃ (l : Int), v7 = iv_ l ∧ Aside0 (spec_MayDisturb.l0 kq m a2 l a5 u L a6 a7 a8 a9 b0 s b1 = some r) ∧ Aside0 (kq ≤ k) ∧ Aside0 (w'.heap[e3]? = some (.cells #[iv_ a5, (.slice d6 u.length c1), (.slice c0 L.length d0), iv_ a6, iv_ a7, iv_ a8, iv_ a9, iv_ b0, (.slice d7 s.length d1), iv_ b1] 34 (0, 0))) ∧ Aside0 (Below w.heap.size w w'))
  case atStart => exact ⟨(0), (by first | rfl | (simp; done) | (simp [*]; done)), H', ⟨Nat.le_refl _⟩, ⟨by (with_reducible repeat (first | refine blk_drewN ?_ _ | refine blk_drew ?_ | refine blk_alloc ?_ _)); exact j.out⟩, ⟨bl1_ HB b2⟩⟩
  case round =>
   clear H'
   obtain ⟨l, rfl, HA, e5, j, HB⟩ := hrel
   cases gk with
   | zero => exact absurd HA.out (by simp [spec_MayDisturb.l0])
   | succ k1 =>
    have H := HA.out
    clear HA
    simp only [spec_MayDisturb.l0] at H
    by_cases c8 : l < (s.length : Int)
    ·rw [if_pos c8] at H
     have h1 := decide_eq_true c8
     clear c8
     replace H := ifn_ H
     obtain ⟨c9, H⟩ := H
     have h7 := decide_eq_true c9
     clear c9
     replace H := ifn_ H
     obtain ⟨c10, H⟩ := H
     have h5 := decide_eq_true c10
     clear c10
     replace H := ifn_ H
     obtain ⟨g2, H⟩ := H
     have h6 := decide_eq_true g2
     clear g2
     by_cases e0 : ((rd_T76 s l).f0) = ((rd_T68 u m).f0)
     ·rw [if_pos e0] at H
      obtain ⟨g9, h0⟩ := bt_ e0
      clear e0
      replace H := bs_ H
      obtain ⟨⟨e7, e8⟩, f5, H⟩ := H
      dsimp only at H
      replace H := bs_ H
      obtain ⟨h3, f6, H⟩ := H
      by_cases e6 : h3 = true
      ·subst e6
       rw [if_pos rfl] at H
       obtain rfl := Option.some.inj H
       have h8 := cf10_ j
       try go_wp2
       refine sh2_ (blk_drew j.out) (below_drew1 HB.out) ?_
       clear j HB
       intro j HB
       have b3 : 0 ≤ (l : Int) := od_
       have b5 : l < (s.length : Int) := od_
       obtain ⟨x, e1, M, O, T⟩ := at_T76 d2.out l b3 b5
       have D := T
       have B := O
       have z := M
       cases e1
       replace M := hbc_ HB M
       replace O := hbc_ HB O
       replace T := hbc_ HB T
       replace b3 := eq_true b3
       replace b5 := eq_true b5
       have b4 : 0 ≤ (m : Int) := od_
       have b6 : m < (u.length : Int) := od_
       obtain ⟨y, e2, U, X, Y, Z⟩ := at_T68 d9.out m b4 b6
       have J := Z
       have I := Y
       have G := X
       have E := U
       cases e2
       replace U := hbc_ HB U
       replace X := hbc_ HB X
       replace Y := hbc_ HB Y
       replace Z := hbc_ HB Z
       replace b4 := eq_true b4
       replace b6 := eq_true b6
       have d3 : 0 ≤ (l : Int) := od_
       have d4 : l < (s.length : Int) := od_
       obtain ⟨e9, f4, b7, b8, b9⟩ := at_T76 d2.out l d3 d4
       have a4 := b9
       have a3 := b8
       have a0 := b7
       obtain rfl : x = e9 := (by injection f4)
       replace b7 := hbc_ HB b7
       replace b8 := hbc_ HB b8
       replace b9 := hbc_ HB b9
       replace d3 := eq_true d3
       replace d4 := eq_true d4
       refine start_ (n := 26) (S := fun w' => Ck10 w' e3 (iv_ a5) (.slice (some y) u.length c1) (.slice c0 L.length d0) (iv_ a6) (iv_ a7) (iv_ a8) (iv_ a9) (iv_ b0) (.slice (some x) s.length d1) (iv_ b1) (w'.cell? (x.add ((l).toNat * 3)) = some (iv_ ((rd_T76 s l).f0)) ∧ w'.cell? ⟨(x.add ((l).toNat * 3)).block, (x.add ((l).toNat * 3)).off + 1, none⟩ = some (iv_ ((rd_T76 s l).f1.f0)) ∧ w'.cell? ⟨(x.add ((l).toNat * 3)).block, (x.add ((l).toNat * 3)).off + 2, none⟩ = some (iv_ ((rd_T76 s l).f1.f1)) ∧ w'.cell? (y.add ((m).toNat * 4)) = some (iv_ ((rd_T68 u m).f0)) ∧ w'.cell? ⟨(y.add ((m).toNat * 4)).block, (y.add ((m).toNat * 4)).off + 1, none⟩ = some (iv_ ((rd_T68 u m).f1)) ∧ w'.cell? ⟨(y.add ((m).toNat * 4)).block, (y.add ((m).toNat * 4)).off + 2, none⟩ = some (iv_ ((rd_T68 u m).f2)) ∧ w'.cell? ⟨(y.add ((m).toNat * 4)).block, (y.add ((m).toNat * 4)).off + 3, none⟩ = some (iv_ ((rd_T68 u m).f3)) ∧ w'.cell? (x.add ((l).toNat * 3)) = some (iv_ ((rd_T76 s l).f0)) ∧ w'.cell? ⟨(x.add ((l).toNat * 3)).block, (x.add ((l).toNat * 3)).off + 1, none⟩ = some (iv_ ((rd_T76 s l).f1.f0)) ∧ w'.cell? ⟨(x.add ((l).toNat * 3)).block, (x.add ((l).toNat * 3)).off + 2, none⟩ = some (iv_ ((rd_T76 s l).f1.f1)))) (ds := []) (bo_ 26 0) (by kernel_rfl) rfl rfl ⟨(bc_ j 0 rfl), (bc_ j 1 rfl), (bc_ j 2 rfl), (bc_ j 3 rfl), (bc_ j 4 rfl), (bc_ j 5 rfl), (bc_ j 6 rfl), (bc_ j 7 rfl), (bc_ j 8 rfl), (bc_ j 9 rfl), ((HB.out.cell (World.block_lt_of_cell? w _ z)).trans z), ((HB.out.cell (World.block_lt_of_cell? w _ B)).trans B), ((HB.out.cell (World.block_lt_of_cell? w _ D)).trans D), ((HB.out.cell (World.block_lt_of_cell? w _ E)).trans E), ((HB.out.cell (World.block_lt_of_cell? w _ G)).trans G), ((HB.out.cell (World.block_lt_of_cell? w _ I)).trans I), ((HB.out.cell (World.block_lt_of_cell? w _ J)).trans J), ((HB.out.cell (World.block_lt_of_cell? w _ a0)).trans a0), ((HB.out.cell (World.block_lt_of_cell? w _ a3)).trans a3), ((HB.out.cell (World.block_lt_of_cell? w _ a4)).trans a4)⟩ (fun hHeld => ?_); refine with_tabW spec_MayDisturb.tab6 spec_MayDisturb.bits6 (fun HT_ HW_ => ?_)
       generalize wr.drew = i6 at j HB M O T U X Y Z b7 b8 b9 hHeld ⊢
       refine pur_ 0 (bo_ 26 1) (some 22) HT_ ?_
       refine pur_ 2 (bo_ 26 5) (some 24) HT_ ?_
       refine pur_ 6 (bo_ 26 69) (some 28) HT_ ?_
       refine pur_ 8 (bo_ 26 325) (some 30) HT_ ?_
       refine tak_ 1 (bo_ 26 327) (some 23) HT_ HW_ hHeld ?_
       refine pur_ 3 (bo_ 26 335) (some 25) HT_ ?_
       refine pur_ 4 (bo_ 26 351) (some 26) HT_ ?_
       refine tak_ 5 (bo_ 26 383) (some 27) HT_ HW_ hHeld ?_
       refine tak_ 7 (bo_ 26 511) (some 29) HT_ HW_ hHeld ?_
       refine pur_ 9 (bo_ 26 1023) (some 31) HT_ ?_
       refine pur_ 10 (bo_ 26 2047) (some 32) HT_ ?_
       refine tak_ 11 (bo_ 26 4095) (some 33) HT_ HW_ hHeld ?_
       refine pur_ 12 (bo_ 26 8191) (some 34) HT_ ?_
       refine pur_ 13 (bo_ 26 16383) (some 35) HT_ ?_
       refine pur_ 15 (bo_ 26 49151) (some 37) HT_ ?_
       refine pur_ 16 (bo_ 26 114687) (some 38) HT_ ?_
       refine pur_ 18 (bo_ 26 376831) (some 40) HT_ ?_
       refine pur_ 20 (bo_ 26 1425407) (some 42) HT_ ?_
       refine tak_ 14 (bo_ 26 1441791) (some 36) HT_ HW_ hHeld ?_
       refine tak_ 19 (bo_ 26 1966079) (some 41) HT_ HW_ hHeld ?_
       refine pur_ 21 (bo_ 26 4063231) (some 43) HT_ ?_
       refine pur_ 22 (bo_ 26 8257535) (some 44) HT_ ?_
       refine tak_ 23 (bo_ 26 16646143) (some 45) HT_ HW_ hHeld ?_
       refine onc_ 17 (bo_ 26 16777215) (some 39) HT_ Tryz.func82 (spec_NodeAt.calls k1 a5 _ _ u _ _ L a6 a7 a8 a9 b0 _ _ s b1 m a2 e7 e8 _ (ck_ d9 HB) f8.out (ck_ g1 HB) f9.out (ck_ d2 HB) g0.out f5.out) ?_
       rintro e i7 ⟨rfl, hb⟩
       refine sh2_ (blk_below (bk_ j) hb) (below_step (bl1_ HB b2) hb) ?_
       clear j HB hb
       intro j HB
       refine ⟨_, _, rfl, ⟨(bc_ j 0 rfl), (bc_ j 1 rfl), (bc_ j 2 rfl), (bc_ j 3 rfl), (bc_ j 4 rfl), (bc_ j 5 rfl), (bc_ j 6 rfl), (bc_ j 7 rfl), (bc_ j 8 rfl), (bc_ j 9 rfl), ((HB.out.cell (World.block_lt_of_cell? w _ z)).trans z), ((HB.out.cell (World.block_lt_of_cell? w _ B)).trans B), ((HB.out.cell (World.block_lt_of_cell? w _ D)).trans D), ((HB.out.cell (World.block_lt_of_cell? w _ E)).trans E), ((HB.out.cell (World.block_lt_of_cell? w _ G)).trans G), ((HB.out.cell (World.block_lt_of_cell? w _ I)).trans I), ((HB.out.cell (World.block_lt_of_cell? w _ J)).trans J), ((HB.out.cell (World.block_lt_of_cell? w _ a0)).trans a0), ((HB.out.cell (World.block_lt_of_cell? w _ a3)).trans a3), ((HB.out.cell (World.block_lt_of_cell? w _ a4)).trans a4)⟩, pt_, fun hHeld => ?_⟩
       refine onc_ 24 (bo_ 26 33554431) (some 46) HT_ Tryz.func81 (spec_ArcsMeet.calls e7 e8 ((rd_T76 s l).f1.f0) ((rd_T76 s l).f1.f1) true _ f6.out) ?_
       rintro e i8 ⟨rfl, hb⟩
       refine sh2_ (blk_below (bk_ j) hb) (below_step (bl1_ HB b2) hb) ?_
       clear j HB hb
       intro j HB
       refine ⟨_, _, rfl, ⟨(bc_ j 0 rfl), (bc_ j 1 rfl), (bc_ j 2 rfl), (bc_ j 3 rfl), (bc_ j 4 rfl), (bc_ j 5 rfl), (bc_ j 6 rfl), (bc_ j 7 rfl), (bc_ j 8 rfl), (bc_ j 9 rfl), ((HB.out.cell (World.block_lt_of_cell? w _ z)).trans z), ((HB.out.cell (World.block_lt_of_cell? w _ B)).trans B), ((HB.out.cell (World.block_lt_of_cell? w _ D)).trans D), ((HB.out.cell (World.block_lt_of_cell? w _ E)).trans E), ((HB.out.cell (World.block_lt_of_cell? w _ G)).trans G), ((HB.out.cell (World.block_lt_of_cell? w _ I)).trans I), ((HB.out.cell (World.block_lt_of_cell? w _ J)).trans J), ((HB.out.cell (World.block_lt_of_cell? w _ a0)).trans a0), ((HB.out.cell (World.block_lt_of_cell? w _ a3)).trans a3), ((HB.out.cell (World.block_lt_of_cell? w _ a4)).trans a4)⟩, pt_, fun hHeld => ?_⟩
       refine pur_ 25 (bo_ 26 67108863) (some 47) HT_ ?_
       refine done_ (done_of HT_.out (by kernel_rfl)) ?_
       try go_wp2
       go_ret
       exact ⟨er_, bl1_ HB b2⟩
      ·replace e6 := Bool.eq_false_iff.mpr e6
       subst e6
       have H1 : (spec_MayDisturb.l0 k1 m a2 (wrap64 (l + 1)) a5 u L a6 a7 a8 a9 b0 s b1) = some r := by rw [if_neg (show ¬ (false = true) by decide)] at H; exact H
       clear H
       have H := H1
       clear H1
       have H' := Aside0.mk H
       clear H
       have h9 := cf10_ j
       try go_wp2
       refine sh2_ (blk_drew j.out) (below_drew1 HB.out) ?_
       clear j HB
       intro j HB
       have b3 : 0 ≤ (l : Int) := od_
       have b5 : l < (s.length : Int) := od_
       obtain ⟨x, e1, M, O, T⟩ := at_T76 d2.out l b3 b5
       have D := T
       have B := O
       have z := M
       cases e1
       replace M := hbc_ HB M
       replace O := hbc_ HB O
       replace T := hbc_ HB T
       replace b3 := eq_true b3
       replace b5 := eq_true b5
       have b4 : 0 ≤ (m : Int) := od_
       have b6 : m < (u.length : Int) := od_
       obtain ⟨y, e2, U, X, Y, Z⟩ := at_T68 d9.out m b4 b6
       have J := Z
       have I := Y
       have G := X
       have E := U
       cases e2
       replace U := hbc_ HB U
       replace X := hbc_ HB X
       replace Y := hbc_ HB Y
       replace Z := hbc_ HB Z
       replace b4 := eq_true b4
       replace b6 := eq_true b6
       have d3 : 0 ≤ (l : Int) := od_
       have d4 : l < (s.length : Int) := od_
       obtain ⟨e9, f4, b7, b8, b9⟩ := at_T76 d2.out l d3 d4
       have a4 := b9
       have a3 := b8
       have a0 := b7
       obtain rfl : x = e9 := (by injection f4)
       replace b7 := hbc_ HB b7
       replace b8 := hbc_ HB b8
       replace b9 := hbc_ HB b9
       replace d3 := eq_true d3
       replace d4 := eq_true d4
       refine start_ (n := 26) (S := fun w' => Ck10 w' e3 (iv_ a5) (.slice (some y) u.length c1) (.slice c0 L.length d0) (iv_ a6) (iv_ a7) (iv_ a8) (iv_ a9) (iv_ b0) (.slice (some x) s.length d1) (iv_ b1) (w'.cell? (x.add ((l).toNat * 3)) = some (iv_ ((rd_T76 s l).f0)) ∧ w'.cell? ⟨(x.add ((l).toNat * 3)).block, (x.add ((l).toNat * 3)).off + 1, none⟩ = some (iv_ ((rd_T76 s l).f1.f0)) ∧ w'.cell? ⟨(x.add ((l).toNat * 3)).block, (x.add ((l).toNat * 3)).off + 2, none⟩ = some (iv_ ((rd_T76 s l).f1.f1)) ∧ w'.cell? (y.add ((m).toNat * 4)) = some (iv_ ((rd_T68 u m).f0)) ∧ w'.cell? ⟨(y.add ((m).toNat * 4)).block, (y.add ((m).toNat * 4)).off + 1, none⟩ = some (iv_ ((rd_T68 u m).f1)) ∧ w'.cell? ⟨(y.add ((m).toNat * 4)).block, (y.add ((m).toNat * 4)).off + 2, none⟩ = some (iv_ ((rd_T68 u m).f2)) ∧ w'.cell? ⟨(y.add ((m).toNat * 4)).block, (y.add ((m).toNat * 4)).off + 3, none⟩ = some (iv_ ((rd_T68 u m).f3)) ∧ w'.cell? (x.add ((l).toNat * 3)) = some (iv_ ((rd_T76 s l).f0)) ∧ w'.cell? ⟨(x.add ((l).toNat * 3)).block, (x.add ((l).toNat * 3)).off + 1, none⟩ = some (iv_ ((rd_T76 s l).f1.f0)) ∧ w'.cell? ⟨(x.add ((l).toNat * 3)).block, (x.add ((l).toNat * 3)).off + 2, none⟩ = some (iv_ ((rd_T76 s l).f1.f1)))) (ds := []) (bo_ 26 0) (by kernel_rfl) rfl rfl ⟨(bc_ j 0 rfl), (bc_ j 1 rfl), (bc_ j 2 rfl), (bc_ j 3 rfl), (bc_ j 4 rfl), (bc_ j 5 rfl), (bc_ j 6 rfl), (bc_ j 7 rfl), (bc_ j 8 rfl), (bc_ j 9 rfl), ((HB.out.cell (World.block_lt_of_cell? w _ z)).trans z), ((HB.out.cell (World.block_lt_of_cell? w _ B)).trans B), ((HB.out.cell (World.block_lt_of_cell? w _ D)).trans D), ((HB.out.cell (World.block_lt_of_cell? w _ E)).trans E), ((HB.out.cell (World.block_lt_of_cell? w _ G)).trans G), ((HB.out.cell (World.block_lt_of_cell? w _ I)).trans I), ((HB.out.cell (World.block_lt_of_cell? w _ J)).trans J), ((HB.out.cell (World.block_lt_of_cell? w _ a0)).trans a0), ((HB.out.cell (World.block_lt_of_cell? w _ a3)).trans a3), ((HB.out.cell (World.block_lt_of_cell? w _ a4)).trans a4)⟩ (fun hHeld => ?_); refine with_tabW spec_MayDisturb.tab6 spec_MayDisturb.bits6 (fun HT_ HW_ => ?_)
       generalize wr.drew = i9 at j HB M O T U X Y Z b7 b8 b9 hHeld ⊢
       refine pur_ 0 (bo_ 26 1) (some 22) HT_ ?_
       refine pur_ 2 (bo_ 26 5) (some 24) HT_ ?_
       refine pur_ 6 (bo_ 26 69) (some 28) HT_ ?_
       refine pur_ 8 (bo_ 26 325) (some 30) HT_ ?_
       refine tak_ 1 (bo_ 26 327) (some 23) HT_ HW_ hHeld ?_
       refine pur_ 3 (bo_ 26 335) (some 25) HT_ ?_
       refine pur_ 4 (bo_ 26 351) (some 26) HT_ ?_
       refine tak_ 5 (bo_ 26 383) (some 27) HT_ HW_ hHeld ?_
       refine tak_ 7 (bo_ 26 511) (some 29) HT_ HW_ hHeld ?_
       refine pur_ 9 (bo_ 26 1023) (some 31) HT_ ?_
       refine pur_ 10 (bo_ 26 2047) (some 32) HT_ ?_
       refine tak_ 11 (bo_ 26 4095) (some 33) HT_ HW_ hHeld ?_
       refine pur_ 12 (bo_ 26 8191) (some 34) HT_ ?_
       refine pur_ 13 (bo_ 26 16383) (some 35) HT_ ?_
       refine pur_ 15 (bo_ 26 49151) (some 37) HT_ ?_
       refine pur_ 16 (bo_ 26 114687) (some 38) HT_ ?_
       refine pur_ 18 (bo_ 26 376831) (some 40) HT_ ?_
       refine pur_ 20 (bo_ 26 1425407) (some 42) HT_ ?_
       refine tak_ 14 (bo_ 26 1441791) (some 36) HT_ HW_ hHeld ?_
       refine tak_ 19 (bo_ 26 1966079) (some 41) HT_ HW_ hHeld ?_
       refine pur_ 21 (bo_ 26 4063231) (some 43) HT_ ?_
       refine pur_ 22 (bo_ 26 8257535) (some 44) HT_ ?_
       refine tak_ 23 (bo_ 26 16646143) (some 45) HT_ HW_ hHeld ?_
       refine onc_ 17 (bo_ 26 16777215) (some 39) HT_ Tryz.func82 (spec_NodeAt.calls k1 a5 _ _ u _ _ L a6 a7 a8 a9 b0 _ _ s b1 m a2 e7 e8 _ (ck_ d9 HB) f8.out (ck_ g1 HB) f9.out (ck_ d2 HB) g0.out f5.out) ?_
       rintro e j0 ⟨rfl, hb⟩
       refine sh2_ (blk_below (bk_ j) hb) (below_step (bl1_ HB b2) hb) ?_
       clear j HB hb
       intro j HB
       refine ⟨_, _, rfl, ⟨(bc_ j 0 rfl), (bc_ j 1 rfl), (bc_ j 2 rfl), (bc_ j 3 rfl), (bc_ j 4 rfl), (bc_ j 5 rfl), (bc_ j 6 rfl), (bc_ j 7 rfl), (bc_ j 8 rfl), (bc_ j 9 rfl), ((HB.out.cell (World.block_lt_of_cell? w _ z)).trans z), ((HB.out.cell (World.block_lt_of_cell? w _ B)).trans B), ((HB.out.cell (World.block_lt_of_cell? w _ D)).trans D), ((HB.out.cell (World.block_lt_of_cell? w _ E)).trans E), ((HB.out.cell (World.block_lt_of_cell? w _ G)).trans G), ((HB.out.cell (World.block_lt_of_cell? w _ I)).trans I), ((HB.out.cell (World.block_lt_of_cell? w _ J)).trans J), ((HB.out.cell (World.block_lt_of_cell? w _ a0)).trans a0), ((HB.out.cell (World.block_lt_of_cell? w _ a3)).trans a3), ((HB.out.cell (World.block_lt_of_cell? w _ a4)).trans a4)⟩, pt_, fun hHeld => ?_⟩
       refine onc_ 24 (bo_ 26 33554431) (some 46) HT_ Tryz.func81 (spec_ArcsMeet.calls e7 e8 ((rd_T76 s l).f1.f0) ((rd_T76 s l).f1.f1) false _ f6.out) ?_
       rintro e j1 ⟨rfl, hb⟩
       refine sh2_ (blk_below (bk_ j) hb) (below_step (bl1_ HB b2) hb) ?_
       clear j HB hb
       intro j HB
       refine ⟨_, _, rfl, ⟨(bc_ j 0 rfl), (bc_ j 1 rfl), (bc_ j 2 rfl), (bc_ j 3 rfl), (bc_ j 4 rfl), (bc_ j 5 rfl), (bc_ j 6 rfl), (bc_ j 7 rfl), (bc_ j 8 rfl), (bc_ j 9 rfl), ((HB.out.cell (World.block_lt_of_cell? w _ z)).trans z), ((HB.out.cell (World.block_lt_of_cell? w _ B)).trans B), ((HB.out.cell (World.block_lt_of_cell? w _ D)).trans D), ((HB.out.cell (World.block_lt_of_cell? w _ E)).trans E), ((HB.out.cell (World.block_lt_of_cell? w _ G)).trans G), ((HB.out.cell (World.block_lt_of_cell? w _ I)).trans I), ((HB.out.cell (World.block_lt_of_cell? w _ J)).trans J), ((HB.out.cell (World.block_lt_of_cell? w _ a0)).trans a0), ((HB.out.cell (World.block_lt_of_cell? w _ a3)).trans a3), ((HB.out.cell (World.block_lt_of_cell? w _ a4)).trans a4)⟩, pt_, fun hHeld => ?_⟩
       refine pur_ 25 (bo_ 26 67108863) (some 47) HT_ ?_
       refine done_ (done_of HT_.out (by kernel_rfl)) ?_
       try go_wp2
       go_roundg k1
       case measure => have := e5.out; omega
       case rel => exact ⟨(wrap64 (l + 1)), (by first | rfl | (simp; done) | (simp [*]; done)), H', ⟨by have := e5.out; omega⟩, ⟨by (with_reducible repeat (first | refine blk_drewN ?_ _ | refine blk_drew ?_ | refine blk_alloc ?_ _)); exact j.out⟩, ⟨bl1_ HB b2⟩⟩
     ·rw [if_neg e0] at H
      obtain ⟨g9, h0⟩ := bn_ e0
      have H' := Aside0.mk H
      clear H
      have i0 := cf10_ j
      try go_wp2
      refine sh2_ (blk_drew j.out) (below_drew1 HB.out) ?_
      clear j HB
      intro j HB
      have b3 : 0 ≤ (l : Int) := od_
      have b5 : l < (s.length : Int) := od_
      obtain ⟨x, e1, M, O, T⟩ := at_T76 d2.out l b3 b5
      have D := T
      have B := O
      have z := M
      cases e1
      replace M := hbc_ HB M
      replace O := hbc_ HB O
      replace T := hbc_ HB T
      replace b3 := eq_true b3
      replace b5 := eq_true b5
      have b4 : 0 ≤ (m : Int) := od_
      have b6 : m < (u.length : Int) := od_
      obtain ⟨y, e2, U, X, Y, Z⟩ := at_T68 d9.out m b4 b6
      have J := Z
      have I := Y
      have G := X
      have E := U
      cases e2
      replace U := hbc_ HB U
      replace X := hbc_ HB X
      replace Y := hbc_ HB Y
      replace Z := hbc_ HB Z
      replace b4 := eq_true b4
      replace b6 := eq_true b6
      refine start_ (n := 26) (S := fun w' => Ck10 w' e3 (iv_ a5) (.slice (some y) u.length c1) (.slice c0 L.length d0) (iv_ a6) (iv_ a7) (iv_ a8) (iv_ a9) (iv_ b0) (.slice (some x) s.length d1) (iv_ b1) (w'.cell? (x.add ((l).toNat * 3)) = some (iv_ ((rd_T76 s l).f0)) ∧ w'.cell? ⟨(x.add ((l).toNat * 3)).block, (x.add ((l).toNat * 3)).off + 1, none⟩ = some (iv_ ((rd_T76 s l).f1.f0)) ∧ w'.cell? ⟨(x.add ((l).toNat * 3)).block, (x.add ((l).toNat * 3)).off + 2, none⟩ = some (iv_ ((rd_T76 s l).f1.f1)) ∧ w'.cell? (y.add ((m).toNat * 4)) = some (iv_ ((rd_T68 u m).f0)) ∧ w'.cell? ⟨(y.add ((m).toNat * 4)).block, (y.add ((m).toNat * 4)).off + 1, none⟩ = some (iv_ ((rd_T68 u m).f1)) ∧ w'.cell? ⟨(y.add ((m).toNat * 4)).block, (y.add ((m).toNat * 4)).off + 2, none⟩ = some (iv_ ((rd_T68 u m).f2)) ∧ w'.cell? ⟨(y.add ((m).toNat * 4)).block, (y.add ((m).toNat * 4)).off + 3, none⟩ = some (iv_ ((rd_T68 u m).f3)))) (ds := []) (bo_ 26 0) (by kernel_rfl) rfl rfl ⟨(bc_ j 0 rfl), (bc_ j 1 rfl), (bc_ j 2 rfl), (bc_ j 3 rfl), (bc_ j 4 rfl), (bc_ j 5 rfl), (bc_ j 6 rfl), (bc_ j 7 rfl), (bc_ j 8 rfl), (bc_ j 9 rfl), ((HB.out.cell (World.block_lt_of_cell? w _ z)).trans z), ((HB.out.cell (World.block_lt_of_cell? w _ B)).trans B), ((HB.out.cell (World.block_lt_of_cell? w _ D)).trans D), ((HB.out.cell (World.block_lt_of_cell? w _ E)).trans E), ((HB.out.cell (World.block_lt_of_cell? w _ G)).trans G), ((HB.out.cell (World.block_lt_of_cell? w _ I)).trans I), ((HB.out.cell (World.block_lt_of_cell? w _ J)).trans J)⟩ (fun hHeld => ?_); refine with_tabW spec_MayDisturb.tab6 spec_MayDisturb.bits6 (fun HT_ HW_ => ?_)
      generalize wr.drew = j2 at j HB M O T U X Y Z hHeld ⊢
      refine pur_ 0 (bo_ 26 1) (some 22) HT_ ?_
      refine pur_ 2 (bo_ 26 5) (some 24) HT_ ?_
      refine pur_ 6 (bo_ 26 69) (some 28) HT_ ?_
      refine pur_ 8 (bo_ 26 325) (some 30) HT_ ?_
      refine tak_ 1 (bo_ 26 327) (some 23) HT_ HW_ hHeld ?_
      refine pur_ 3 (bo_ 26 335) (some 25) HT_ ?_
      refine pur_ 4 (bo_ 26 351) (some 26) HT_ ?_
      refine tak_ 5 (bo_ 26 383) (some 27) HT_ HW_ hHeld ?_
      refine tak_ 7 (bo_ 26 511) (some 29) HT_ HW_ hHeld ?_
      refine pur_ 9 (bo_ 26 1023) (some 31) HT_ ?_
      refine pur_ 10 (bo_ 26 2047) (some 32) HT_ ?_
      refine tak_ 11 (bo_ 26 4095) (some 33) HT_ HW_ hHeld ?_
      refine pur_ 12 (bo_ 26 8191) (some 34) HT_ ?_
      refine pur_ 13 (bo_ 26 16383) (some 35) HT_ ?_
      refine pure_ (i := 14) (N := some 36) (v := undef) (a' := ?_) (bo_ 26 32767) rfl rfl (any_of HT_.out (by kernel_rfl)) (fun _ _ _ h => h) (Or.inr ⟨by rfl, rfl⟩) ?_ ?_
      rotate_left
      ·simp only [Act.put, List.setIfInBounds_toArray, List.set_cons_zero, List.set_cons_succ, i64_w, i32_w]
       rfl
      refine pure_ (i := 15) (N := some 37) (v := undef) (a' := ?_) (bo_ 26 65535) rfl rfl (any_of HT_.out (by kernel_rfl)) (fun _ _ _ h => h) (Or.inr ⟨by rfl, rfl⟩) ?_ ?_
      rotate_left
      ·simp only [Act.put, List.setIfInBounds_toArray, List.set_cons_zero, List.set_cons_succ, i64_w, i32_w]
       rfl
      refine pure_ (i := 16) (N := some 38) (v := undef) (a' := ?_) (bo_ 26 131071) rfl rfl (any_of HT_.out (by kernel_rfl)) (fun _ _ _ h => h) (Or.inr ⟨by rfl, rfl⟩) ?_ ?_
      rotate_left
      ·simp only [Act.put, List.setIfInBounds_toArray, List.set_cons_zero, List.set_cons_succ, i64_w, i32_w]
       rfl
      refine pure_ (i := 17) (N := some 39) (v := undef) (a' := ?_) (bo_ 26 262143) rfl rfl (any_of HT_.out (by kernel_rfl)) (fun _ _ _ h => h) (Or.inr ⟨by rfl, rfl⟩) ?_ ?_
      rotate_left
      ·simp only [Act.put, List.setIfInBounds_toArray, List.set_cons_zero, List.set_cons_succ, i64_w, i32_w]
       rfl
      refine pure_ (i := 18) (N := some 40) (v := undef) (a' := ?_) (bo_ 26 524287) rfl rfl (any_of HT_.out (by kernel_rfl)) (fun _ _ _ h => h) (Or.inr ⟨by rfl, rfl⟩) ?_ ?_
      rotate_left
      ·simp only [Act.put, List.setIfInBounds_toArray, List.set_cons_zero, List.set_cons_succ, i64_w, i32_w]
       rfl
      refine pure_ (i := 19) (N := some 41) (v := undef) (a' := ?_) (bo_ 26 1048575) rfl rfl (any_of HT_.out (by kernel_rfl)) (fun _ _ _ h => h) (Or.inr ⟨by rfl, rfl⟩) ?_ ?_
      rotate_left
      ·simp only [Act.put, List.setIfInBounds_toArray, List.set_cons_zero, List.set_cons_succ, i64_w, i32_w]
       rfl
      refine pure_ (i := 20) (N := some 42) (v := undef) (a' := ?_) (bo_ 26 2097151) rfl rfl (any_of HT_.out (by kernel_rfl)) (fun _ _ _ h => h) (Or.inr ⟨by rfl, rfl⟩) ?_ ?_
      rotate_left
      ·simp only [Act.put, List.setIfInBounds_toArray, List.set_cons_zero, List.set_cons_succ, i64_w, i32_w]
       rfl
      refine pure_ (i := 21) (N := some 43) (v := undef) (a' := ?_) (bo_ 26 4194303) rfl rfl (any_of HT_.out (by kernel_rfl)) (fun _ _ _ h => h) (Or.inr ⟨by rfl, rfl⟩) ?_ ?_
      rotate_left
      ·simp only [Act.put, List.setIfInBounds_toArray, List.set_cons_zero, List.set_cons_succ, i64_w, i32_w]
       rfl
      refine pure_ (i := 22) (N := some 44) (v := undef) (a' := ?_) (bo_ 26 8388607) rfl rfl (any_of HT_.out (by kernel_rfl)) (fun _ _ _ h => h) (Or.inr ⟨by rfl, rfl⟩) ?_ ?_
      rotate_left
      ·simp only [Act.put, List.setIfInBounds_toArray, List.set_cons_zero, List.set_cons_succ, i64_w, i32_w]
       rfl
      refine pure_ (i := 23) (N := some 45) (v := undef) (a' := ?_) (bo_ 26 16777215) rfl rfl (any_of HT_.out (by kernel_rfl)) (fun _ _ _ h => h) (Or.inr ⟨by rfl, rfl⟩) ?_ ?_
      rotate_left
      ·simp only [Act.put, List.setIfInBounds_toArray, List.set_cons_zero, List.set_cons_succ, i64_w, i32_w]
       rfl
      refine pure_ (i := 24) (N := some 46) (v := undef) (a' := ?_) (bo_ 26 33554431) rfl rfl (any_of HT_.out (by kernel_rfl)) (fun _ _ _ h => h) (Or.inr ⟨by rfl, rfl⟩) ?_ ?_
      rotate_left
      ·simp only [Act.put, List.setIfInBounds_toArray, List.set_cons_zero, List.set_cons_succ, i64_w, i32_w]
       rfl
      refine pur_ 25 (bo_ 26 67108863) (some 47) HT_ ?_
      refine done_ (done_of HT_.out (by kernel_rfl)) ?_
      try go_wp2
      go_roundg k1
      case measure => have := e5.out; omega
      case rel => exact ⟨(wrap64 (l + 1)), (by first | rfl | (simp; done) | (simp [*]; done)), H', ⟨by have := e5.out; omega⟩, ⟨by (with_reducible repeat (first | refine blk_drewN ?_ _ | refine blk_drew ?_ | refine blk_alloc ?_ _)); exact j.out⟩, ⟨bl1_ HB b2⟩⟩
    ·rw [if_neg c8] at H
     have h1 : decide (l < (s.length : Int)) = false := decide_eq_false c8
     clear c8
     obtain rfl := Option.some.inj H
     have i1 := cf10_ j
     go_wp2
     go_ret
     exact ⟨er_, bl1_ HB b2⟩
 ·replace c5 := Bool.eq_false_iff.mpr c5
  subst c5
  have H1 : (some false) = some r := by rw [if_neg (show ¬ (false = true) by decide)] at H; exact H
  clear H
  have H := H1
  clear H1
  obtain rfl := Option.some.inj H
  go_enter Tryz.func67, Tryz.ntmps67
  go_wp2_with (first | ((with_reducible refine gd_ 3 ?_); refine bx_ 3 34 #[iv_ a5, .slice d6 u.length c1, .slice c0 L.length d0, iv_ a6, iv_ a7, iv_ a8, iv_ a9, iv_ b0, .slice d7 s.length d1, iv_ b1] ?_; intro e3 hg j3 hbox hb; refine sh3_ (below_step (bl_ HB) hb) hbox (ge_ hg (bl_ HB)) ?_; clear HB hb hbox hg; intro HB j b2; have i2 := cf10_ j) | ((with_reducible refine gate_callee (f := 40) rfl ?_); refine gl_ 13 Tryz.func40 (spec_l1In.calls m 0 (wrap64 ((u.length : Int) - 1)) false _ A4.out) ?_; rintro e w' ⟨rfl, ⟨nd, rfl⟩⟩; refine ⟨_, rfl, ?_⟩))
  go_ret
  exact ⟨er_, bl1_ HB b2⟩

end Go.Proofs.YtpjhdehbikohmaaGreat.PFnExactPlanOf
