-- Written by a program of this session for this claim (the kit's printer with changes).
import Derived.Test.YtpjhdehbikohmaaGreatQFnExactContactsOfx0
import Derived.Test.YtpjhdehbikohmaaGreatQFnExactContactsOfx8
namespace Go.Proofs.YtpjhdehbikohmaaGreat.PFnExactContactsOf
open Go.RowKit Go.Proofs.YtpjhdehbikohmaaGreatW.PrintWords Go.Proofs.YtpjhdehbikohmaaGreatW.PrintLast Go.Proofs.YtpjhdehbikohmaaGreatW.PrintMore
attribute [local go_sem] max2_int min2_int max_two min_two max_three min_three max_four min_four   -- for this text's walks alone
set_option linter.unusedVariables false
set_option maxHeartbeats 8000000
set_option maxRecDepth 100000
set_option linter.unusedSimpArgs false

/-! ### laws_toSiteS: function 25 -/
def laws_toSiteS.l0 : Nat → List S84 → List S70 → Int → Option (List S70)
 | 0, _, _, _ => none
 | k + 1, l, s, j => if j < (l.length : Int) then (if 0 ≤ j then ((laws_toSite.f ((rd_T84 l j).f0) ((rd_T84 l j).f1) ((rd_T84 l j).f2)).bind fun m => (if j < (s.length : Int) then (laws_toSiteS.l0 k l (s.set (j : Int).toNat (⟨m.1, m.2.1, m.2.2⟩ : S70)) (wrap64 (j + 1))) else (none))) else (none)) else (some s)
def laws_toSiteS.f (k : Nat) (j : List S84) : Option (List S70) := if 0 ≤ (j.length : Int) then (if ((j.length : Int) : Int).toNat ≤ 11728124029610 then (laws_toSiteS.l0 k j (List.replicate ((j.length : Int) : Int).toNat z70) 0) else (none)) else (none)
theorem laws_toSiteS.calls (k : Nat) (A0 : Option Addr) (c0 : Nat) (m : List S84) (r : List S70) (w : World) (b3 : Kd.C k84 w A0 m.length m) (b1 : m.length ≤ c0) (h : laws_toSiteS.f k m = some r) :
  Calls Tryz.prog 25 #[.slice A0 m.length c0] w fun e w' => ∃ b8 : Value, e = .returned (b8) ∧ Kd.R k70 70 w' w.heap.size (fun _ => True) b8 r ∧ Below w.heap.size w w' := by
 have g5 := Tryz.underlying84
 have g4 := Tryz.underlying70
 have d1 := Aside0.mk b3
 have e7 := Aside0.mk b1
 clear b3 b1
 have HB := Aside0.mk (Below.refl w.heap.size w)
 have H := h
 clear h
 unfold laws_toSiteS.f at H
 replace H := ifn_ H
 obtain ⟨c2, H⟩ := H
 have e9 := eq_true c2
 have f3 := decide_eq_true c2
 clear c2
 replace H := ifn_ H
 obtain ⟨c3, H⟩ := H
 have f4 := eq_true c3
 have f5 := decide_eq_true c3
 clear c3
 replace H : ∃ y_ : List S70, Aside0 (y_ = (List.replicate ((m.length : Int) : Int).toNat z70)) ∧ (laws_toSiteS.l0 k m y_ 0) = some r := ⟨_, ⟨rfl⟩, yh_ H⟩
 obtain ⟨e5, a4, H⟩ := H
 have H' := Aside0.mk H
 clear H
 go_enter Tryz.func25, Tryz.ntmps25
 go_wp2_with (first | ((with_reducible refine gate_dst (N := 7) rfl ?_); refine Kd.R_make k70 _ 70 rfl (N := 7) rfl 31 _ _ rfl (m.length : Int) rfl rfl Tryz.underlying31 (.agg #[(iv_ 0), (iv_ 0), (iv_ 0)]) 24 info70 rfl (by decide) (by omega) z70 (ok := fun _ => True) (okp := fun _ => True) (k70_mkM _ _ _ z70 ) (fun _ hk => hk) trivial od_ (Nat.le_trans (Nat.mul_le_mul_right _ (od_ : (m.length : Int).toNat ≤ 11728124029610)) (by omega)) (Below.refl _ _) (Nat.le_refl _) ?_; intro e3 w4 G hb hg_ hnew_; clear hg_ hnew_; (first | rw [← a4.out] at G | (simp only [Int.reduceToNat] at G; rw [← a4.out] at G)); refine sh2_ (Kd.R_lower G (below_size (bl_ HB))) (below_step (bl_ HB) hb) ?_; clear HB hb G; intro d0 HB))
 go_loopg [4] k (fun kq v4 w' => ∃ (s : List S70) (l : Int), v4 = iv_ l ∧ Aside0 (laws_toSiteS.l0 kq m s l = some r) ∧ Aside0 (kq ≤ k) ∧ Aside0 (Kd.R k70 70 w' w.heap.size (fun _ => True) e3 s) ∧ Aside0 (Below w.heap.size w w'))
 case atStart => exact ⟨(e5), (0), (by first | rfl | (simp; done) | (simp [*]; done)), H', ⟨Nat.le_refl _⟩, ⟨ra_ d0⟩, ⟨bl_ HB⟩⟩
 case round =>
  clear H'
  obtain ⟨s, l, rfl, HA, a2, u, HB⟩ := hrel
  cases gk with
  | zero => exact absurd HA.out (by simp [laws_toSiteS.l0])
  | succ k1 =>
   have H := HA.out
   clear HA
   simp only [laws_toSiteS.l0] at H
   by_cases c6 : l < (m.length : Int)
   ·rw [if_pos c6] at H
    have d3 := decide_eq_true c6
    clear c6
    replace H := ifn_ H
    obtain ⟨c7, H⟩ := H
    have f6 := decide_eq_true c7
    clear c7
    replace H := bs_ H
    obtain ⟨⟨z, B, D⟩, A8, H⟩ := H
    dsimp only at H
    replace H := ifn_ H
    obtain ⟨c9, H⟩ := H
    have f7 := decide_eq_true c9
    clear c9
    replace H : ∃ y_ : List S70, Aside0 (y_ = (s.set (l : Int).toNat (⟨z, B, D⟩ : S70))) ∧ (laws_toSiteS.l0 k1 m y_ (wrap64 (l + 1))) = some r := ⟨_, ⟨rfl⟩, yh_ H⟩
    obtain ⟨b9, d2, H⟩ := H
    have H' := Aside0.mk H
    clear H
    have U : 0 ≤ (l : Int) := od_
    have Y : l < (m.length : Int) := od_
    obtain ⟨e8, d4, b4, b5, b6⟩ := at_T84 d1.out l U Y
    cases d4
    replace b4 := hbc_ HB b4
    replace b5 := hbc_ HB b5
    replace b6 := hbc_ HB b6
    replace U := eq_true U
    replace Y := eq_true Y
    go_wp2_with (first | ((with_reducible refine gate_callee (f := 49) rfl ?_); refine gl_ 20 Tryz.func49 (laws_toSite.calls ((rd_T84 m l).f0) ((rd_T84 m l).f1) ((rd_T84 m l).f2) z B D _ A8.out) ?_; rintro e y ⟨rfl, hb⟩; refine ⟨_, rfl, sh2_ (Kd.R_below (ra_ u) hb) (below_step (bl_ HB) hb) ?_⟩; clear u HB hb; intro u HB; have T : 0 ≤ (l : Int) := od_; have X : (l : Int) < ((s.length : Int) : Int) := od_; obtain ⟨x, a6, a7, a8, d5, g0, a1⟩ := Kd.R_form u.out (by omega); (first | cases a7 | (injection a7 with ea_ en_ ec_; (first | subst ea_ | (injection ea_ with ea_; subst ea_)); subst ec_; clear en_)); have M := Aside0.mk a8; have e6 := Aside0.mk a1; clear a8 d5 a1; obtain ⟨f8, d6, a9, I, J⟩ := Kd.R_elem u.out z70 (l : Int) T X; obtain rfl := k70_openM a9; have g6 : y.cell? ⟨x, (l : Int).toNat * 3, none⟩ = some (iv_ ((rd_T70 s l).f0)) := I 0 _ rfl; have g7 : y.cell? ⟨x, (l : Int).toNat * 3 + 1, none⟩ = some (iv_ ((rd_T70 s l).f1)) := I 1 _ rfl; have g8 : y.cell? ⟨x, (l : Int).toNat * 3 + 2, none⟩ = some (iv_ ((rd_T70 s l).f2)) := I 2 _ rfl; have g1 : y.frozen? ⟨x, (l : Int).toNat * 3, none⟩ = false := J 0; have g2 : y.frozen? ⟨x, (l : Int).toNat * 3 + 1, none⟩ = false := J 1; have g3 : y.frozen? ⟨x, (l : Int).toNat * 3 + 2, none⟩ = false := J 2; clear d6 I J a9; replace T := eq_true T; replace X := eq_true X; have a3 := Aside0.mk (show Kd.R k70 70 y w.heap.size (fun _ => True) (.slice (some ⟨x, 0, none⟩) s.length a6) s from (ra_ u)); obtain ⟨f9, b2, b0, E, L⟩ := Kd.R_elem a3.out z70 (l : Int) od_ (by have h_ : (l : Int) < ((s.length : Int) : Int) := od_; first | exact h_ | (have e_ := (Kd.R_reads' u.out).1; omega) | simpa using h_); obtain rfl := k70_openM b0; have O := Kd.R_seg a3.out (l : Int) od_ (by have h_ : (l : Int) < ((s.length : Int) : Int) := od_; first | exact h_ | (have e_ := (Kd.R_reads' u.out).1; omega) | simpa using h_) (seg := [iv_ z, iv_ B, iv_ D]) (j := 0) b2 E (show 3 ≤ 3 from by decide) (x' := (⟨z, B, D⟩ : S70)) (k70_mkM _ _ _ (⟨z, B, D⟩ : S70) ) (fun _ hk => hk); have e0 := E 0 _ rfl; (try simp only [show (k70).sz = 3 from rfl, Nat.mul_one, Nat.add_zero] at e0); have d7 := L 0; (try simp only [show (k70).sz = 3 from rfl, Nat.mul_one, Nat.add_zero] at d7); have e1 := E 1 _ rfl; (try simp only [show (k70).sz = 3 from rfl, Nat.mul_one, Nat.add_zero] at e1); have d8 := L 1; (try simp only [show (k70).sz = 3 from rfl, Nat.mul_one, Nat.add_zero] at d8); have e2 := E 2 _ rfl; (try simp only [show (k70).sz = 3 from rfl, Nat.mul_one, Nat.add_zero] at e2); have d9 := L 2; (try simp only [show (k70).sz = 3 from rfl, Nat.mul_one, Nat.add_zero] at d9); clear b2 E L b0) | ((with_reducible refine gate_store (t := 70) (p := 21) rfl ?_); refine store_event (t := 70) (p := 21) (v := ?vo_w13) (w1 := (((y.setCell ⟨x, (l : Int).toNat * 3, none⟩ (iv_ z)).setCell ⟨x, (l : Int).toNat * 3 + 1, none⟩ (iv_ B)).setCell ⟨x, (l : Int).toNat * 3 + 2, none⟩ (iv_ D))) ?hg ?ho ?hn ?hr ?_; (case ho => rfl); (case hg => rfl); (case hn => rfl); (case hr => first | (go_simp; done) | (go_simp; rfl)); intro Z hw; have hg : y.grownBy Z (some x) := (by rw [hw]; exact O.2); have hp_ : Kd.R k70 70 Z w.heap.size (fun _ => True) (.slice (some ⟨x, 0, none⟩) s.length a6) b9 := (by rw [hw, d2.out]; exact O.1); clear O; refine sh2_ hp_ ((by rw [hw]; exact below_set (below_set (below_set (HB.out) M.out) M.out) M.out : Below w.heap.size w Z)) ?_; clear u HB; intro u HB; clear hg hw hp_))
    go_roundg k1
    case measure => have := a2.out; omega
    case rel => exact ⟨(b9), (wrap64 (l + 1)), (by first | rfl | (simp; done) | (simp [*]; done)), H', ⟨by have := a2.out; omega⟩, ⟨ra_ u⟩, ⟨bl_ HB⟩⟩
   ·rw [if_neg c6] at H
    have d3 := decide_eq_false c6
    clear c6
    obtain rfl := Option.some.inj H
    go_wp2
    go_ret
    exact ⟨_, er_, ra_ u, bl_ HB⟩

/-! ### laws_toArc: function 68 -/
def laws_toArc.f (j l : Int) : Option (Int × Int) := some (j, l)
theorem laws_toArc.calls (s u y z : Int) (w : World) (h : laws_toArc.f s u = some (y, z)) :
  Calls Tryz.prog 68 #[.agg #[iv_ s, iv_ u]] w fun e w' => e = .returned (.agg #[iv_ y, iv_ z]) ∧ Below w.heap.size w w' := by
 have a7 := Tryz.underlying86
 have a6 := Tryz.underlying74
 have HB := Aside0.mk (Below.refl w.heap.size w)
 have H := h
 clear h
 unfold laws_toArc.f at H
 simp only [Option.some.injEq, Prod.mk.injEq] at H
 obtain ⟨rfl, rfl⟩ := H
 go_enter Tryz.func68, Tryz.ntmps68
 go_wp2_with (first | ((with_reducible refine gd_ 1 ?_); refine bx_ 1 86 #[iv_ s, iv_ u] ?_; intro T hg w2 hbox hb; refine sh3_ (below_step (bl_ HB) hb) hbox (ge_ hg (bl_ HB)) ?_; clear HB hb hbox hg; intro HB j m) | ((with_reducible refine gd_ 2 ?_); refine bx_ 2 74 #[iv_ 0, iv_ 0] ?_; intro O hg w3 hbox hb; refine sh6_ (blk_below (bk_ j) hb) (below_step (bl1_ HB m) hb) hbox (ge_ hg (bl1_ HB m)) (nl_ hg (bk_ j)) (ng_ hg (bk_ j)) ?_; clear j HB hb hbox hg; intro j HB l x E I) | ((with_reducible refine gd_ 3 ?_); refine bx_ 3 74 #[iv_ 0, iv_ 0] ?_; intro U hg w4 hbox hb; refine sh9_ (blk_below (bk_ j) hb) (blk_below (bk_ l) hb) (below_step (bl2_ HB m x) hb) hbox (ge_ hg (bl2_ HB m x)) (nl_ hg (bk_ j)) (ng_ hg (bk_ j)) (nl_ hg (bk_ l)) (ng_ hg (bk_ l)) ?_; clear j l HB hb hbox hg; intro j l HB B D G L J M; have a0 := E.out; have a3 := I.out; have a1 := G.out; have a4 := L.out; have Y := cf2_ j; have a2 := M.out; have a5 := J.out; have Z := cf2_ B; have X := cf2_ l))
 refine bodyPost_ret (results_cell_row rfl _ _ O 74 #[iv_ s, iv_ u] (0, 0) _ rfl (bp_ l) Tryz.underlying74 rfl (by kernel_rfl)) rfl ?_
 exact ⟨er_, bl3_ HB m x D⟩

/-! ### laws_toZone: function 50 -/
def laws_toZone.f (l m s : Int) : Option (Int × Int × Int) := (laws_toArc.f m s).bind fun j => (some (l, j.1, j.2))
theorem laws_toZone.calls (s x y E G I : Int) (w : World) (h : laws_toZone.f s x y = some (E, G, I)) :
  Calls Tryz.prog 50 #[.agg #[iv_ s, iv_ x, iv_ y]] w fun e w' => e = .returned (.agg #[iv_ E, iv_ G, iv_ I]) ∧ Below w.heap.size w w' := by
 have b5 := Tryz.underlying88
 have b3 := Tryz.underlying76
 have b4 := Tryz.underlying86
 have b2 := Tryz.underlying74
 have HB := Aside0.mk (Below.refl w.heap.size w)
 have H := h
 clear h
 unfold laws_toZone.f at H
 replace H := bs_ H
 obtain ⟨⟨J, L⟩, M, H⟩ := H
 dsimp only at H
 simp only [Option.some.injEq, Prod.mk.injEq] at H
 obtain ⟨rfl, rfl, rfl⟩ := H
 go_enter Tryz.func50, Tryz.ntmps50
 go_wp2_with (first | ((with_reducible refine gd_ 1 ?_); refine bx_ 1 88 #[iv_ s, iv_ x, iv_ y] ?_; intro a0 hg w3 hbox hb; refine sh3_ (below_step (bl_ HB) hb) hbox (ge_ hg (bl_ HB)) ?_; clear HB hb hbox hg; intro HB j m) | ((with_reducible refine gd_ 2 ?_); refine bx_ 2 76 #[iv_ 0, iv_ 0, iv_ 0] ?_; intro D hg w4 hbox hb; refine sh6_ (blk_below (bk_ j) hb) (below_step (bl1_ HB m) hb) hbox (ge_ hg (bl1_ HB m)) (nl_ hg (bk_ j)) (ng_ hg (bk_ j)) ?_; clear j HB hb hbox hg; intro j HB l z O U) | ((with_reducible refine gd_ 3 ?_); refine bx_ 3 76 #[iv_ 0, iv_ 0, iv_ 0] ?_; intro a1 hg w5 hbox hb; refine sh9_ (blk_below (bk_ j) hb) (blk_below (bk_ l) hb) (below_step (bl2_ HB m z) hb) hbox (ge_ hg (bl2_ HB m z)) (nl_ hg (bk_ j)) (ng_ hg (bk_ j)) (nl_ hg (bk_ l)) (ng_ hg (bk_ l)) ?_; clear j l HB hb hbox hg; intro j l HB u B T Y X Z; have a6 := O.out; have a9 := U.out; have a7 := T.out; have b0 := Y.out; have a5 := cf3_ j; have a8 := Z.out; have b1 := X.out; have a2 := cf3_ u) | ((with_reducible refine gate_callee (f := 68) rfl ?_); refine gl_ 9 Tryz.func68 (laws_toArc.calls x y J L _ M.out) ?_; rintro e b6 ⟨rfl, hb⟩; refine ⟨_, rfl, sh4_ (blk_below (g := a0) (o := .cells #[iv_ s, iv_ x, iv_ y] 88 (0, 0)) (bp_ j) hb) (blk_below (g := D) (o := .cells #[iv_ 0, iv_ 0, iv_ 0] 76 (0, 0)) (bp_ l) hb) (blk_below (g := a1) (o := .cells #[iv_ s, iv_ 0, iv_ 0] 76 (0, 0)) (bp_ u) hb) (below_step (bl3_ HB m z B) hb) ?_⟩; clear j l u HB hb; intro j l u HB; have a3 := cf3_ u; have a4 := cf3_ l))
 refine bodyPost_ret (results_cell_row rfl _ _ D 76 #[iv_ s, iv_ J, iv_ L] (0, 0) _ rfl (bp_ l) Tryz.underlying76 rfl (by kernel_rfl)) rfl ?_
 exact ⟨er_, bl3_ HB m z B⟩

/-! ### laws_toZoneS: function 26 -/
def laws_toZoneS.l0 : Nat → List S88 → List S76 → Int → Option (List S76)
 | 0, _, _, _ => none
 | k + 1, l, s, j => if j < (l.length : Int) then (if 0 ≤ j then ((laws_toZone.f ((rd_T88 l j).f0) ((rd_T88 l j).f1.f0) ((rd_T88 l j).f1.f1)).bind fun m => (if j < (s.length : Int) then (laws_toZoneS.l0 k l (s.set (j : Int).toNat (⟨m.1, (⟨m.2.1, m.2.2⟩ : S74)⟩ : S76)) (wrap64 (j + 1))) else (none))) else (none)) else (some s)
def laws_toZoneS.f (k : Nat) (j : List S88) : Option (List S76) := if 0 ≤ (j.length : Int) then (if ((j.length : Int) : Int).toNat ≤ 11728124029610 then (laws_toZoneS.l0 k j (List.replicate ((j.length : Int) : Int).toNat z76) 0) else (none)) else (none)
theorem laws_toZoneS.calls (k : Nat) (A0 : Option Addr) (c0 : Nat) (m : List S88) (r : List S76) (w : World) (b3 : Kd.C k88 w A0 m.length m) (b1 : m.length ≤ c0) (h : laws_toZoneS.f k m = some r) :
  Calls Tryz.prog 26 #[.slice A0 m.length c0] w fun e w' => ∃ b8 : Value, e = .returned (b8) ∧ Kd.R k76 76 w' w.heap.size (fun _ => True) b8 r ∧ Below w.heap.size w w' := by
 have g4 := Tryz.underlying88
 have g3 := Tryz.underlying76
 have d1 := Aside0.mk b3
 have e7 := Aside0.mk b1
 clear b3 b1
 have HB := Aside0.mk (Below.refl w.heap.size w)
 have H := h
 clear h
 unfold laws_toZoneS.f at H
 replace H := ifn_ H
 obtain ⟨c2, H⟩ := H
 have e9 := eq_true c2
 have f2 := decide_eq_true c2
 clear c2
 replace H := ifn_ H
 obtain ⟨c3, H⟩ := H
 have f3 := eq_true c3
 have f4 := decide_eq_true c3
 clear c3
 replace H : ∃ y_ : List S76, Aside0 (y_ = (List.replicate ((m.length : Int) : Int).toNat z76)) ∧ (laws_toZoneS.l0 k m y_ 0) = some r := ⟨_, ⟨rfl⟩, yh_ H⟩
 obtain ⟨e5, a4, H⟩ := H
 have H' := Aside0.mk H
 clear H
 go_enter Tryz.func26, Tryz.ntmps26
 go_wp2_with (first | ((with_reducible refine gate_dst (N := 7) rfl ?_); refine Kd.R_make k76 _ 76 rfl (N := 7) rfl 32 _ _ rfl (m.length : Int) rfl rfl Tryz.underlying32 (.agg #[(iv_ 0), (iv_ 0), (iv_ 0)]) 24 info76 rfl (by decide) (by omega) z76 (ok := fun _ => True) (okp := fun _ => True) (k76_mkM _ _ _ z76 ) (fun _ hk => hk) trivial od_ (Nat.le_trans (Nat.mul_le_mul_right _ (od_ : (m.length : Int).toNat ≤ 11728124029610)) (by omega)) (Below.refl _ _) (Nat.le_refl _) ?_; intro e3 w4 G hb hg_ hnew_; clear hg_ hnew_; (first | rw [← a4.out] at G | (simp only [Int.reduceToNat] at G; rw [← a4.out] at G)); refine sh2_ (Kd.R_lower G (below_size (bl_ HB))) (below_step (bl_ HB) hb) ?_; clear HB hb G; intro d0 HB))
 go_loopg [4] k (fun kq v4 w' => ∃ (s : List S76) (l : Int), v4 = iv_ l ∧ Aside0 (laws_toZoneS.l0 kq m s l = some r) ∧ Aside0 (kq ≤ k) ∧ Aside0 (Kd.R k76 76 w' w.heap.size (fun _ => True) e3 s) ∧ Aside0 (Below w.heap.size w w'))
 case atStart => exact ⟨(e5), (0), (by first | rfl | (simp; done) | (simp [*]; done)), H', ⟨Nat.le_refl _⟩, ⟨ra_ d0⟩, ⟨bl_ HB⟩⟩
 case round =>
  clear H'
  obtain ⟨s, l, rfl, HA, a2, u, HB⟩ := hrel
  cases gk with
  | zero => exact absurd HA.out (by simp [laws_toZoneS.l0])
  | succ k1 =>
   have H := HA.out
   clear HA
   simp only [laws_toZoneS.l0] at H
   by_cases c6 : l < (m.length : Int)
   ·rw [if_pos c6] at H
    have d3 := decide_eq_true c6
    clear c6
    replace H := ifn_ H
    obtain ⟨c7, H⟩ := H
    have f5 := decide_eq_true c7
    clear c7
    replace H := bs_ H
    obtain ⟨⟨z, B, D⟩, A8, H⟩ := H
    dsimp only at H
    replace H := ifn_ H
    obtain ⟨c9, H⟩ := H
    have f6 := decide_eq_true c9
    clear c9
    replace H : ∃ y_ : List S76, Aside0 (y_ = (s.set (l : Int).toNat (⟨z, (⟨B, D⟩ : S74)⟩ : S76))) ∧ (laws_toZoneS.l0 k1 m y_ (wrap64 (l + 1))) = some r := ⟨_, ⟨rfl⟩, yh_ H⟩
    obtain ⟨b9, d2, H⟩ := H
    have H' := Aside0.mk H
    clear H
    have U : 0 ≤ (l : Int) := od_
    have Y : l < (m.length : Int) := od_
    obtain ⟨e8, d4, b4, b5, b6⟩ := at_T88 d1.out l U Y
    cases d4
    replace b4 := hbc_ HB b4
    replace b5 := hbc_ HB b5
    replace b6 := hbc_ HB b6
    replace U := eq_true U
    replace Y := eq_true Y
    go_wp2_with (first | ((with_reducible refine gate_callee (f := 50) rfl ?_); refine gl_ 20 Tryz.func50 (laws_toZone.calls ((rd_T88 m l).f0) ((rd_T88 m l).f1.f0) ((rd_T88 m l).f1.f1) z B D _ A8.out) ?_; rintro e y ⟨rfl, hb⟩; refine ⟨_, rfl, sh2_ (Kd.R_below (ra_ u) hb) (below_step (bl_ HB) hb) ?_⟩; clear u HB hb; intro u HB; have T : 0 ≤ (l : Int) := od_; have X : (l : Int) < ((s.length : Int) : Int) := od_; obtain ⟨x, a6, a7, a8, d5, f9, a1⟩ := Kd.R_form u.out (by omega); (first | cases a7 | (injection a7 with ea_ en_ ec_; (first | subst ea_ | (injection ea_ with ea_; subst ea_)); subst ec_; clear en_)); have M := Aside0.mk a8; have e6 := Aside0.mk a1; clear a8 d5 a1; obtain ⟨f7, d6, a9, I, J⟩ := Kd.R_elem u.out z76 (l : Int) T X; obtain rfl := k76_openM a9; have g5 : y.cell? ⟨x, (l : Int).toNat * 3, none⟩ = some (iv_ ((rd_T76 s l).f0)) := I 0 _ rfl; have g6 : y.cell? ⟨x, (l : Int).toNat * 3 + 1, none⟩ = some (iv_ ((rd_T76 s l).f1.f0)) := I 1 _ rfl; have g7 : y.cell? ⟨x, (l : Int).toNat * 3 + 2, none⟩ = some (iv_ ((rd_T76 s l).f1.f1)) := I 2 _ rfl; have g0 : y.frozen? ⟨x, (l : Int).toNat * 3, none⟩ = false := J 0; have g1 : y.frozen? ⟨x, (l : Int).toNat * 3 + 1, none⟩ = false := J 1; have g2 : y.frozen? ⟨x, (l : Int).toNat * 3 + 2, none⟩ = false := J 2; clear d6 I J a9; replace T := eq_true T; replace X := eq_true X; have a3 := Aside0.mk (show Kd.R k76 76 y w.heap.size (fun _ => True) (.slice (some ⟨x, 0, none⟩) s.length a6) s from (ra_ u)); obtain ⟨f8, b2, b0, E, L⟩ := Kd.R_elem a3.out z76 (l : Int) od_ (by have h_ : (l : Int) < ((s.length : Int) : Int) := od_; first | exact h_ | (have e_ := (Kd.R_reads' u.out).1; omega) | simpa using h_); obtain rfl := k76_openM b0; have O := Kd.R_seg a3.out (l : Int) od_ (by have h_ : (l : Int) < ((s.length : Int) : Int) := od_; first | exact h_ | (have e_ := (Kd.R_reads' u.out).1; omega) | simpa using h_) (seg := [iv_ z, iv_ B, iv_ D]) (j := 0) b2 E (show 3 ≤ 3 from by decide) (x' := (⟨z, (⟨B, D⟩ : S74)⟩ : S76)) (k76_mkM _ _ _ (⟨z, (⟨B, D⟩ : S74)⟩ : S76) ) (fun _ hk => hk); have e0 := E 0 _ rfl; (try simp only [show (k76).sz = 3 from rfl, Nat.mul_one, Nat.add_zero] at e0); have d7 := L 0; (try simp only [show (k76).sz = 3 from rfl, Nat.mul_one, Nat.add_zero] at d7); have e1 := E 1 _ rfl; (try simp only [show (k76).sz = 3 from rfl, Nat.mul_one, Nat.add_zero] at e1); have d8 := L 1; (try simp only [show (k76).sz = 3 from rfl, Nat.mul_one, Nat.add_zero] at d8); have e2 := E 2 _ rfl; (try simp only [show (k76).sz = 3 from rfl, Nat.mul_one, Nat.add_zero] at e2); have d9 := L 2; (try simp only [show (k76).sz = 3 from rfl, Nat.mul_one, Nat.add_zero] at d9); clear b2 E L b0) | ((with_reducible refine gate_store (t := 76) (p := 21) rfl ?_); refine store_event (t := 76) (p := 21) (v := ?vo_w13) (w1 := (((y.setCell ⟨x, (l : Int).toNat * 3, none⟩ (iv_ z)).setCell ⟨x, (l : Int).toNat * 3 + 1, none⟩ (iv_ B)).setCell ⟨x, (l : Int).toNat * 3 + 2, none⟩ (iv_ D))) ?hg ?ho ?hn ?hr ?_; (case ho => rfl); (case hg => rfl); (case hn => rfl); (case hr => first | (go_simp; done) | (go_simp; rfl)); intro Z hw; have hg : y.grownBy Z (some x) := (by rw [hw]; exact O.2); have hp_ : Kd.R k76 76 Z w.heap.size (fun _ => True) (.slice (some ⟨x, 0, none⟩) s.length a6) b9 := (by rw [hw, d2.out]; exact O.1); clear O; refine sh2_ hp_ ((by rw [hw]; exact below_set (below_set (below_set (HB.out) M.out) M.out) M.out : Below w.heap.size w Z)) ?_; clear u HB; intro u HB; clear hg hw hp_))
    go_roundg k1
    case measure => have := a2.out; omega
    case rel => exact ⟨(b9), (wrap64 (l + 1)), (by first | rfl | (simp; done) | (simp [*]; done)), H', ⟨by have := a2.out; omega⟩, ⟨ra_ u⟩, ⟨bl_ HB⟩⟩
   ·rw [if_neg c6] at H
    have d3 := decide_eq_false c6
    clear c6
    obtain rfl := Option.some.inj H
    go_wp2
    go_ret
    exact ⟨_, er_, ra_ u, bl_ HB⟩

/-! ### laws_toSky: function 7 -/
def laws_toSky.f (k : Nat) (j : Int) (z : List S82) (B : List S84) (l m s u x : Int) (D : List S88) (y : Int) : Option (Int × List S68 × List S70 × Int × Int × Int × Int × Int × List S76 × Int) := (laws_toSatS.f k z).bind fun E => ((laws_toSiteS.f k B).bind fun G => ((laws_toZoneS.f k D).bind fun I => (some (j, E, G, l, m, s, u, x, I, y))))
theorem laws_toSky.calls (k : Nat) (y : Int) (a1 : Option Addr) (a7 : Nat) (L : List S82) (a2 : Option Addr) (a8 : Nat) (M : List S84) (z B D E G : Int) (a3 : Option Addr) (a9 : Nat) (O : List S88) (I r1 : Int) (r2 : List S68) (r3 : List S70) (r4 r5 r6 r7 r8 : Int) (r9 : List S76) (d1 : Int) (w : World) (b9 : Kd.C k82 w a1 L.length L) (b6 : L.length ≤ a7) (c0 : Kd.C k84 w a2 M.length M) (b7 : M.length ≤ a8) (c1 : Kd.C k88 w a3 O.length O) (b8 : O.length ≤ a9) (h : laws_toSky.f k y L M z B D E G O I = some (r1, r2, r3, r4, r5, r6, r7, r8, r9, d1)) :
  Calls Tryz.prog 7 #[.agg #[iv_ y, .slice a1 L.length a7, .slice a2 M.length a8, iv_ z, iv_ B, iv_ D, iv_ E, iv_ G, .slice a3 O.length a9, iv_ I]] w fun e w' => ∃ e0 e1 e2 : Value, e = .returned (.agg #[iv_ r1, e0, e1, iv_ r4, iv_ r5, iv_ r6, iv_ r7, iv_ r8, e2, iv_ d1]) ∧ Kd.R k68 68 w' w.heap.size (fun _ => True) e0 r2 ∧ Kd.R k70 70 w' w.heap.size (fun _ => True) e1 r3 ∧ Kd.R k76 76 w' w.heap.size (fun _ => True) e2 r9 ∧ Below w.heap.size w w' := by
 have h6 := Tryz.underlying26
 have h7 := Tryz.underlying34
 have e9 := Aside0.mk b9
 have e6 := Aside0.mk b6
 clear b9 b6
 have f0 := Aside0.mk c0
 have e7 := Aside0.mk b7
 clear c0 b7
 have f1 := Aside0.mk c1
 have e8 := Aside0.mk b8
 clear c1 b8
 have HB := Aside0.mk (Below.refl w.heap.size w)
 have H := h
 clear h
 unfold laws_toSky.f at H
 replace H := bs_ H
 obtain ⟨Y, A2, H⟩ := H
 replace H := bs_ H
 obtain ⟨Z, A3, H⟩ := H
 replace H := bs_ H
 obtain ⟨a0, A4, H⟩ := H
 simp only [Option.some.injEq, Prod.mk.injEq] at H
 obtain ⟨rfl, rfl, rfl, rfl, rfl, rfl, rfl, rfl, rfl, rfl⟩ := H
 go_enter Tryz.func7, Tryz.ntmps7
 go_wp2_with (first | ((with_reducible refine gd_ 1 ?_); refine bx_ 1 26 #[iv_ y, .slice a1 L.length a7, .slice a2 M.length a8, iv_ z, iv_ B, iv_ D, iv_ E, iv_ G, .slice a3 O.length a9, iv_ I] ?_; intro b4 hg w5 hbox hb; refine sh3_ (below_step (bl_ HB) hb) hbox (ge_ hg (bl_ HB)) ?_; clear HB hb hbox hg; intro HB l x) | ((with_reducible refine gd_ 2 ?_); refine bx_ 2 34 #[iv_ 0, .slice none 0 0, .slice none 0 0, iv_ 0, iv_ 0, iv_ 0, iv_ 0, iv_ 0, .slice none 0 0, iv_ 0] ?_; intro j hg w6 hbox hb; refine sh6_ (blk_below (bk_ l) hb) (below_step (bl1_ HB x) hb) hbox (ge_ hg (bl1_ HB x)) (nl_ hg (bk_ l)) (ng_ hg (bk_ l)) ?_; clear l HB hb hbox hg; intro l HB s J f2 f4) | ((with_reducible refine gd_ 3 ?_); refine bx_ 3 34 #[iv_ 0, .slice none 0 0, .slice none 0 0, iv_ 0, iv_ 0, iv_ 0, iv_ 0, iv_ 0, .slice none 0 0, iv_ 0] ?_; intro m hg w7 hbox hb; refine sh9_ (blk_below (bk_ l) hb) (blk_below (bk_ s) hb) (below_step (bl2_ HB x J) hb) hbox (ge_ hg (bl2_ HB x J)) (nl_ hg (bk_ l)) (ng_ hg (bk_ l)) (nl_ hg (bk_ s)) (ng_ hg (bk_ s)) ?_; clear l s HB hb hbox hg; intro l s HB u T f3 f6 f5 f7; have h1 := f2.out; have h4 := f4.out; have h2 := f3.out; have h5 := f6.out; have g1 := cf10_ l; have h0 := f7.out; have h3 := f5.out; have g2 := cf10_ u) | ((with_reducible refine gate_callee (f := 24) rfl ?_); refine goesL_ (some 9) rfl rfl Tryz.func24 (by kernel_rfl) rfl #[.slice a1 L.length a7] rfl mp_ ?_; (with_reducible refine (laws_toSatS.calls k _ _ L Y _ ?side1 ?side2 A2.out).mono ?_); (case side1 => exact Kd.C_below e9.out (bl3_ HB x J T)); (case side2 => exact e6.out); rintro e i1 ⟨h8, rfl, X, hb⟩; refine ⟨_, rfl, sh5_ (Kd.R_lower X (below_size (bl3_ HB x J T))) (blk_below (g := b4) (o := .cells #[iv_ y, .slice a1 L.length a7, .slice a2 M.length a8, iv_ z, iv_ B, iv_ D, iv_ E, iv_ G, .slice a3 O.length a9, iv_ I] 26 (0, 0)) (bp_ l) hb) (blk_below (g := j) (o := .cells #[iv_ 0, .slice none 0 0, .slice none 0 0, iv_ 0, iv_ 0, iv_ 0, iv_ 0, iv_ 0, .slice none 0 0, iv_ 0] 34 (0, 0)) (bp_ s) hb) (blk_below (g := m) (o := .cells #[iv_ y, .slice none 0 0, .slice none 0 0, iv_ 0, iv_ 0, iv_ 0, iv_ 0, iv_ 0, .slice none 0 0, iv_ 0] 34 (0, 0)) (bp_ u) hb) (below_step (bl3_ HB x J T) hb) ?_⟩; clear l s u HB hb X; intro U l s u HB; obtain ⟨a4, b0, f8⟩ := Kd.R_slice U.out; subst f8; have g3 := cf10_ u; have g4 := cf10_ l) | ((with_reducible refine gate_callee (f := 25) rfl ?_); refine goesL_ (some 13) rfl rfl Tryz.func25 (by kernel_rfl) rfl #[.slice a2 M.length a8] rfl mp_ ?_; (with_reducible refine (laws_toSiteS.calls k _ _ M Z _ ?side1 ?side2 A3.out).mono ?_); (case side1 => exact Kd.C_below f0.out (bl3_ HB x J T)); (case side2 => exact e7.out); rintro e i2 ⟨h9, rfl, X, hb⟩; refine ⟨_, rfl, sh6_ (Kd.R_below (by (with_reducible repeat (first | apply Kd.R_alloc | apply Kd.R_drewN | apply Kd.R_drew)); exact (Kd.R_mono (Kd.R_far (p := ⟨m, 1, none⟩) (Kd.R_types U.out u.out (by decide)) (fun _ hk => hk.2) (.slice a4 Y.length b0)) (fun _ h_ => h_.1))) hb) (Kd.R_lower X (below_size (bl3_ HB x J T))) (blk_below (g := b4) (o := .cells #[iv_ y, .slice a1 L.length a7, .slice a2 M.length a8, iv_ z, iv_ B, iv_ D, iv_ E, iv_ G, .slice a3 O.length a9, iv_ I] 26 (0, 0)) (bp_ l) hb) (blk_below (g := j) (o := .cells #[iv_ 0, .slice none 0 0, .slice none 0 0, iv_ 0, iv_ 0, iv_ 0, iv_ 0, iv_ 0, .slice none 0 0, iv_ 0] 34 (0, 0)) (bp_ s) hb) (blk_below (g := m) (o := .cells #[iv_ y, .slice a4 Y.length b0, .slice none 0 0, iv_ 0, iv_ 0, iv_ 0, iv_ 0, iv_ 0, .slice none 0 0, iv_ 0] 34 (0, 0)) (bp_ u) hb) (below_step (bl3_ HB x J T) hb) ?_⟩; clear U l s u HB hb X; intro U b3 l s u HB; obtain ⟨a5, b1, f9⟩ := Kd.R_slice b3.out; subst f9; have g5 := cf10_ u; have g6 := cf10_ l) | ((with_reducible refine gate_callee (f := 26) rfl ?_); refine goesL_ (some 32) rfl rfl Tryz.func26 (by kernel_rfl) rfl #[.slice a3 O.length a9] rfl mp_ ?_; (with_reducible refine (laws_toZoneS.calls k _ _ O a0 _ ?side1 ?side2 A4.out).mono ?_); (case side1 => exact Kd.C_below f1.out (bl3_ HB x J T)); (case side2 => exact e8.out); rintro e i3 ⟨i0, rfl, X, hb⟩; refine ⟨_, rfl, sh7_ (Kd.R_below (by (with_reducible repeat (first | apply Kd.R_alloc | apply Kd.R_drewN | apply Kd.R_drew)); exact (Kd.R_mono (Kd.R_far (p := ⟨m, 7, none⟩) (Kd.R_far (p := ⟨m, 6, none⟩) (Kd.R_far (p := ⟨m, 5, none⟩) (Kd.R_far (p := ⟨m, 4, none⟩) (Kd.R_far (p := ⟨m, 3, none⟩) (Kd.R_far (p := ⟨m, 2, none⟩) (Kd.R_types U.out u.out (by decide)) (fun _ hk => hk.2) (.slice a5 Z.length b1)) (fun _ hk => hk.2) (iv_ z)) (fun _ hk => hk.2) (iv_ B)) (fun _ hk => hk.2) (iv_ D)) (fun _ hk => hk.2) (iv_ E)) (fun _ hk => hk.2) (iv_ G)) (fun _ h_ => h_.1))) hb) (Kd.R_below (by (with_reducible repeat (first | apply Kd.R_alloc | apply Kd.R_drewN | apply Kd.R_drew)); exact (Kd.R_mono (Kd.R_far (p := ⟨m, 7, none⟩) (Kd.R_far (p := ⟨m, 6, none⟩) (Kd.R_far (p := ⟨m, 5, none⟩) (Kd.R_far (p := ⟨m, 4, none⟩) (Kd.R_far (p := ⟨m, 3, none⟩) (Kd.R_far (p := ⟨m, 2, none⟩) (Kd.R_types b3.out u.out (by decide)) (fun _ hk => hk.2) (.slice a5 Z.length b1)) (fun _ hk => hk.2) (iv_ z)) (fun _ hk => hk.2) (iv_ B)) (fun _ hk => hk.2) (iv_ D)) (fun _ hk => hk.2) (iv_ E)) (fun _ hk => hk.2) (iv_ G)) (fun _ h_ => h_.1))) hb) (Kd.R_lower X (below_size (bl3_ HB x J T))) (blk_below (g := b4) (o := .cells #[iv_ y, .slice a1 L.length a7, .slice a2 M.length a8, iv_ z, iv_ B, iv_ D, iv_ E, iv_ G, .slice a3 O.length a9, iv_ I] 26 (0, 0)) (bp_ l) hb) (blk_below (g := j) (o := .cells #[iv_ 0, .slice none 0 0, .slice none 0 0, iv_ 0, iv_ 0, iv_ 0, iv_ 0, iv_ 0, .slice none 0 0, iv_ 0] 34 (0, 0)) (bp_ s) hb) (blk_below (g := m) (o := .cells #[iv_ y, .slice a4 Y.length b0, .slice a5 Z.length b1, iv_ z, iv_ B, iv_ D, iv_ E, iv_ G, .slice none 0 0, iv_ 0] 34 (0, 0)) (bp_ u) hb) (below_step (bl3_ HB x J T) hb) ?_⟩; clear U b3 l s u HB hb X; intro U b3 b5 l s u HB; obtain ⟨a6, b2, g0⟩ := Kd.R_slice b5.out; subst g0; have g7 := cf10_ u; have g8 := cf10_ l; have g9 := cf10_ s))
 refine bodyPost_ret (results_cell_row rfl _ _ j 34 #[iv_ y, .slice a4 Y.length b0, .slice a5 Z.length b1, iv_ z, iv_ B, iv_ D, iv_ E, iv_ G, .slice a6 a0.length b2, iv_ I] (0, 0) _ rfl (bp_ s) Tryz.underlying34 rfl (by kernel_rfl)) rfl ?_
 exact ⟨_, _, _, er_, by (with_reducible repeat (first | apply Kd.R_alloc | apply Kd.R_drewN | apply Kd.R_drew)); exact Kd.R_mono (Kd.R_far (p := ⟨j, 9, none⟩) (Kd.R_far (p := ⟨j, 8, none⟩) (Kd.R_far (p := ⟨j, 7, none⟩) (Kd.R_far (p := ⟨j, 6, none⟩) (Kd.R_far (p := ⟨j, 5, none⟩) (Kd.R_far (p := ⟨j, 4, none⟩) (Kd.R_far (p := ⟨j, 3, none⟩) (Kd.R_far (p := ⟨j, 2, none⟩) (Kd.R_far (p := ⟨j, 1, none⟩) (Kd.R_far (p := ⟨j, 0, none⟩) (Kd.R_far (p := ⟨m, 9, none⟩) (Kd.R_far (p := ⟨m, 8, none⟩) (Kd.R_types (Kd.R_types U.out u.out (by decide)) s.out (by decide)) (fun _ hk => hk.1.2) (.slice a6 a0.length b2)) (fun _ hk => hk.1.2) (iv_ I)) (fun _ hk => hk.2) (iv_ y)) (fun _ hk => hk.2) (.slice a4 Y.length b0)) (fun _ hk => hk.2) (.slice a5 Z.length b1)) (fun _ hk => hk.2) (iv_ z)) (fun _ hk => hk.2) (iv_ B)) (fun _ hk => hk.2) (iv_ D)) (fun _ hk => hk.2) (iv_ E)) (fun _ hk => hk.2) (iv_ G)) (fun _ hk => hk.2) (.slice a6 a0.length b2)) (fun _ hk => hk.2) (iv_ I)) (fun _ hk => trivial), by (with_reducible repeat (first | apply Kd.R_alloc | apply Kd.R_drewN | apply Kd.R_drew)); exact Kd.R_mono (Kd.R_far (p := ⟨j, 9, none⟩) (Kd.R_far (p := ⟨j, 8, none⟩) (Kd.R_far (p := ⟨j, 7, none⟩) (Kd.R_far (p := ⟨j, 6, none⟩) (Kd.R_far (p := ⟨j, 5, none⟩) (Kd.R_far (p := ⟨j, 4, none⟩) (Kd.R_far (p := ⟨j, 3, none⟩) (Kd.R_far (p := ⟨j, 2, none⟩) (Kd.R_far (p := ⟨j, 1, none⟩) (Kd.R_far (p := ⟨j, 0, none⟩) (Kd.R_far (p := ⟨m, 9, none⟩) (Kd.R_far (p := ⟨m, 8, none⟩) (Kd.R_types (Kd.R_types b3.out u.out (by decide)) s.out (by decide)) (fun _ hk => hk.1.2) (.slice a6 a0.length b2)) (fun _ hk => hk.1.2) (iv_ I)) (fun _ hk => hk.2) (iv_ y)) (fun _ hk => hk.2) (.slice a4 Y.length b0)) (fun _ hk => hk.2) (.slice a5 Z.length b1)) (fun _ hk => hk.2) (iv_ z)) (fun _ hk => hk.2) (iv_ B)) (fun _ hk => hk.2) (iv_ D)) (fun _ hk => hk.2) (iv_ E)) (fun _ hk => hk.2) (iv_ G)) (fun _ hk => hk.2) (.slice a6 a0.length b2)) (fun _ hk => hk.2) (iv_ I)) (fun _ hk => trivial), by (with_reducible repeat (first | apply Kd.R_alloc | apply Kd.R_drewN | apply Kd.R_drew)); exact Kd.R_mono (Kd.R_far (p := ⟨j, 9, none⟩) (Kd.R_far (p := ⟨j, 8, none⟩) (Kd.R_far (p := ⟨j, 7, none⟩) (Kd.R_far (p := ⟨j, 6, none⟩) (Kd.R_far (p := ⟨j, 5, none⟩) (Kd.R_far (p := ⟨j, 4, none⟩) (Kd.R_far (p := ⟨j, 3, none⟩) (Kd.R_far (p := ⟨j, 2, none⟩) (Kd.R_far (p := ⟨j, 1, none⟩) (Kd.R_far (p := ⟨j, 0, none⟩) (Kd.R_far (p := ⟨m, 9, none⟩) (Kd.R_far (p := ⟨m, 8, none⟩) (Kd.R_types (Kd.R_types b5.out u.out (by decide)) s.out (by decide)) (fun _ hk => hk.1.2) (.slice a6 a0.length b2)) (fun _ hk => hk.1.2) (iv_ I)) (fun _ hk => hk.2) (iv_ y)) (fun _ hk => hk.2) (.slice a4 Y.length b0)) (fun _ hk => hk.2) (.slice a5 Z.length b1)) (fun _ hk => hk.2) (iv_ z)) (fun _ hk => hk.2) (iv_ B)) (fun _ hk => hk.2) (iv_ D)) (fun _ hk => hk.2) (iv_ E)) (fun _ hk => hk.2) (iv_ G)) (fun _ hk => hk.2) (.slice a6 a0.length b2)) (fun _ hk => hk.2) (iv_ I)) (fun _ hk => trivial), bl3_ HB x J T⟩

/-! ### impl_InRange: function 51 -/
def impl_InRange.f (j l m : Int) : Option (Bool) := if l ≤ j then (some (decide (j ≤ m))) else (some false)
theorem impl_InRange.calls (j l m : Int) (r : Bool) (w : World) (h : impl_InRange.f j l m = some r) :
  Calls Tryz.prog 51 #[iv_ j, iv_ l, iv_ m] w fun e w' => e = .returned (.bool r) ∧ Drawn0 w w' := by
 have H := h
 clear h
 unfold impl_InRange.f at H
 by_cases c4 : l ≤ j
 ·rw [if_pos c4] at H
  have s := decide_eq_true c4
  clear c4
  obtain rfl := Option.some.inj H
  go_enter Tryz.func51, Tryz.ntmps51
  go_wp2
  go_ret
  exact ⟨by first | rfl | (simp; done) | (simp [*]; done), by repeat (first | exact Drawn0.refl _ | apply Drawn0.step)⟩
 ·rw [if_neg c4] at H
  have s := decide_eq_false c4
  clear c4
  obtain rfl := Option.some.inj H
  go_enter Tryz.func51, Tryz.ntmps51
  go_wp2
  go_ret
  exact ⟨by first | rfl | (simp; done) | (simp [*]; done), by repeat (first | exact Drawn0.refl _ | apply Drawn0.step)⟩

/-! ### impl_IsSat: function 52 -/
def impl_IsSat.f (j l m s u : Int) : Option (Bool) := if j ≥ 0 then (if j < u then ((impl_InRange.f l 0 359).bind fun x => (if x = true then ((impl_InRange.f m (-60) 60).bind fun y => (if y = true then ((impl_InRange.f s 0 20).bind fun z => (some z)) else (some false))) else (some false))) else (some false)) else (some false)
theorem impl_IsSat.calls (j l u x D : Int) (r : Bool) (w : World) (h : impl_IsSat.f j l u x D = some r) :
  Calls Tryz.prog 52 #[.agg #[iv_ j, iv_ l, iv_ u, iv_ x], iv_ D] w fun e w' => e = .returned (.bool r) ∧ Below w.heap.size w w' := by
 have a0 := Tryz.underlying68
 have HB := Aside0.mk (Below.refl w.heap.size w)
 have H := h
 clear h
 unfold impl_IsSat.f at H
 by_cases c3 : j ≥ 0
 ·rw [if_pos c3] at H
  have I : decide (0 ≤ j) = true := decide_eq_true c3
  clear c3
  by_cases c4 : j < D
  ·rw [if_pos c4] at H
   have J := decide_eq_true c4
   clear c4
   replace H := bs_ H
   obtain ⟨L, B, H⟩ := H
   by_cases c6 : L = true
   ·subst c6
    rw [if_pos rfl] at H
    replace H := bs_ H
    obtain ⟨M, E, H⟩ := H
    by_cases c8 : M = true
    ·subst c8
     rw [if_pos rfl] at H
     replace H := bs_ H
     obtain ⟨O, G, H⟩ := H
     obtain rfl := Option.some.inj H
     go_enter Tryz.func52, Tryz.ntmps52
     go_wp2_with (first | ((with_reducible refine gd_ 2 ?_); refine bx_ 2 68 #[iv_ j, iv_ l, iv_ u, iv_ x] ?_; intro z hg a2 hbox hb; refine sh3_ (below_step (bl_ HB) hb) hbox (ge_ hg (bl_ HB)) ?_; clear HB hb hbox hg; intro HB m s; have T := cf4_ m) | (go_at_call 51; (with_reducible refine (impl_InRange.calls l 0 359 true _ B.out).mono ?_); rintro e w' ⟨rfl, ⟨nd, rfl⟩⟩) | (go_at_call 51; (with_reducible refine (impl_InRange.calls u (-60) 60 true _ E.out).mono ?_); rintro e w' ⟨rfl, ⟨nd, rfl⟩⟩) | (go_at_call 51; (with_reducible refine (impl_InRange.calls x 0 20 O _ G.out).mono ?_); rintro e w' ⟨rfl, ⟨nd, rfl⟩⟩))
     go_ret
     exact ⟨er_, bl1_ HB s⟩
    ·replace c8 := Bool.eq_false_iff.mpr c8
     subst c8
     have y : (some false) = some r := by rw [if_neg (show ¬ (false = true) by decide)] at H; exact H
     clear H
     have H := y
     clear y
     obtain rfl := Option.some.inj H
     go_enter Tryz.func52, Tryz.ntmps52
     go_wp2_with (first | ((with_reducible refine gd_ 2 ?_); refine bx_ 2 68 #[iv_ j, iv_ l, iv_ u, iv_ x] ?_; intro z hg a3 hbox hb; refine sh3_ (below_step (bl_ HB) hb) hbox (ge_ hg (bl_ HB)) ?_; clear HB hb hbox hg; intro HB m s; have U := cf4_ m) | (go_at_call 51; (with_reducible refine (impl_InRange.calls l 0 359 true _ B.out).mono ?_); rintro e w' ⟨rfl, ⟨nd, rfl⟩⟩) | (go_at_call 51; (with_reducible refine (impl_InRange.calls u (-60) 60 false _ E.out).mono ?_); rintro e w' ⟨rfl, ⟨nd, rfl⟩⟩))
     go_ret
     exact ⟨er_, bl1_ HB s⟩
   ·replace c6 := Bool.eq_false_iff.mpr c6
    subst c6
    have y : (some false) = some r := by rw [if_neg (show ¬ (false = true) by decide)] at H; exact H
    clear H
    have H := y
    clear y
    obtain rfl := Option.some.inj H
    go_enter Tryz.func52, Tryz.ntmps52
    go_wp2_with (first | ((with_reducible refine gd_ 2 ?_); refine bx_ 2 68 #[iv_ j, iv_ l, iv_ u, iv_ x] ?_; intro z hg a4 hbox hb; refine sh3_ (below_step (bl_ HB) hb) hbox (ge_ hg (bl_ HB)) ?_; clear HB hb hbox hg; intro HB m s; have X := cf4_ m) | (go_at_call 51; (with_reducible refine (impl_InRange.calls l 0 359 false _ B.out).mono ?_); rintro e w' ⟨rfl, ⟨nd, rfl⟩⟩))
    go_ret
    exact ⟨er_, bl1_ HB s⟩
  ·rw [if_neg c4] at H
   have J := decide_eq_false c4
   clear c4
   obtain rfl := Option.some.inj H
   go_enter Tryz.func52, Tryz.ntmps52
   go_wp2_with (first | ((with_reducible refine gd_ 2 ?_); refine bx_ 2 68 #[iv_ j, iv_ l, iv_ u, iv_ x] ?_; intro z hg a5 hbox hb; refine sh3_ (below_step (bl_ HB) hb) hbox (ge_ hg (bl_ HB)) ?_; clear HB hb hbox hg; intro HB m s; have Y := cf4_ m))
   go_ret
   exact ⟨er_, bl1_ HB s⟩
 ·rw [if_neg c3] at H
  have I : decide (0 ≤ j) = false := decide_eq_false c3
  clear c3
  obtain rfl := Option.some.inj H
  go_enter Tryz.func52, Tryz.ntmps52
  go_wp2_with (first | ((with_reducible refine gd_ 2 ?_); refine bx_ 2 68 #[iv_ j, iv_ l, iv_ u, iv_ x] ?_; intro z hg a6 hbox hb; refine sh3_ (below_step (bl_ HB) hb) hbox (ge_ hg (bl_ HB)) ?_; clear HB hb hbox hg; intro HB m s; have Z := cf4_ m))
  go_ret
  exact ⟨er_, bl1_ HB s⟩

/-! ### impl_isWidth: function 53 -/
def impl_isWidth.f (j : Int) : Option (Bool) := (impl_InRange.f j 0 359).bind fun l => (some l)
theorem impl_isWidth.calls (j : Int) (r : Bool) (w : World) (h : impl_isWidth.f j = some r) :
  Calls Tryz.prog 53 #[iv_ j] w fun e w' => e = .returned (.bool r) ∧ Drawn0 w w' := by
 have H := h
 clear h
 unfold impl_isWidth.f at H
 replace H := bs_ H
 obtain ⟨m, l, H⟩ := H
 obtain rfl := Option.some.inj H
 go_enter Tryz.func53, Tryz.ntmps53
 go_wp2_with (first | ((with_reducible refine gate_callee (f := 51) rfl ?_); refine gl_ 4 Tryz.func51 (impl_InRange.calls j 0 359 m _ l.out) ?_; rintro e w' ⟨rfl, ⟨nd, rfl⟩⟩; refine ⟨_, rfl, ?_⟩))
 go_ret
 exact ⟨by first | rfl | (simp; done) | (simp [*]; done), by repeat (first | exact Drawn0.refl _ | apply Drawn0.step)⟩

end Go.Proofs.YtpjhdehbikohmaaGreat.PFnExactContactsOf
