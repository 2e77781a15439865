-- Written by a program of this session for this claim (the kit's printer with changes).
import Derived.Test.YtpjhdehbikohmaaGreatQFnExactPlanOfx0
import Derived.Test.YtpjhdehbikohmaaGreatQFnExactPlanOfx2
namespace Go.Proofs.YtpjhdehbikohmaaGreat.PFnExactPlanOf
open Go.RowKit Go.Proofs.YtpjhdehbikohmaaGreatW.PrintWords Go.Proofs.YtpjhdehbikohmaaGreatW.PrintLast Go.Proofs.YtpjhdehbikohmaaGreatW.PrintMore
attribute [local go_sem] max2_int min2_int max_two min_two max_three min_three max_four min_four   -- for this text's walks alone
set_option linter.unusedVariables false
set_option maxHeartbeats 8000000
set_option maxRecDepth 100000
set_option linter.unusedSimpArgs false

/-! ### laws_markZoneS: function 36 -/
def laws_markZoneS.l0 : Nat → List S76 → Int → Int → Option (Int × List S76)
 | 0, _, _, _ => none
 | k + 1, l, m, j => if j < (l.length : Int) then (if 0 ≤ j then ((some (l.set (j : Int).toNat (⟨m, (⟨(rd_T76 l j).f1.f0, (rd_T76 l j).f1.f1⟩ : S74)⟩ : S76) : List S76)).bind fun s => ((some (s.set (j : Int).toNat (⟨(rd_T76 s j).f0, (⟨wrap64 (m + 1), (rd_T76 s j).f1.f1⟩ : S74)⟩ : S76) : List S76)).bind fun u => (laws_markZoneS.l0 k (u.set (j : Int).toNat (⟨(rd_T76 u j).f0, (⟨(rd_T76 u j).f1.f0, wrap64 ((wrap64 (m + 1)) + 1)⟩ : S74)⟩ : S76)) (wrap64 ((wrap64 ((wrap64 (m + 1)) + 1)) + 1)) (wrap64 (j + 1))))) else (none)) else (some (m, l))
def laws_markZoneS.f (k : Nat) (l : List S76) (j : Int) : Option (Int × List S76) := laws_markZoneS.l0 k l j 0
theorem laws_markZoneS.calls (k : Nat) (z : Nat → Prop) (M : Value) (l0 : List S76) (a1 J : Int) (L : List S76) (y w : World) (hB : Below y.heap.size y w) (g2 : Kd.R k76 76 w y.heap.size z M l0) (h : laws_markZoneS.f k l0 a1 = some (J, L)) :
  Calls Tryz.prog 36 #[M, iv_ a1] w fun e w' => e = .returned (iv_ J) ∧ Kd.R k76 76 w' y.heap.size (fun k_ => (z k_ ∨ w.heap.size ≤ k_)) M L ∧ Below y.heap.size y w' ∧ Kept w w' (fun k_ => z k_) := by
 have e6 := Aside0.mk (show Kd.R k76 76 w y.heap.size (fun k_ => (z k_ ∨ w.heap.size ≤ k_)) M l0 from Kd.R_mono g2 (fun k_ hk => (.inl hk)))
 have HK := Aside0.mk (Kept.refl w (fun k_ => z k_))
 have h2 := Aside0.mk hB.size
 have HB := Aside0.mk hB
 clear hB
 have H := h
 clear h
 unfold laws_markZoneS.f at H
 have H' := Aside0.mk H
 clear H
 go_enter Tryz.func36, Tryz.ntmps36
 go_wp2
 go_loopg [1, 5] k (fun kq v1 v5 w' => ∃ (s : List S76) (x : Int) (l : Int), v1 = iv_ x ∧ v5 = iv_ l ∧ Aside0 (laws_markZoneS.l0 kq s x l = some (J, L)) ∧ Aside0 (kq ≤ k) ∧ Aside0 (Kd.R k76 76 w' y.heap.size (fun k_ => (z k_ ∨ w.heap.size ≤ k_)) M s) ∧ Aside0 (Kept w w' (fun k_ => z k_)) ∧ Aside0 (Below y.heap.size y w'))
 case atStart => exact ⟨(l0), (a1), (0), (by first | rfl | (simp; done) | (simp [*]; done)), (by first | rfl | (simp; done) | (simp [*]; done)), H', ⟨Nat.le_refl _⟩, ⟨ra_ e6⟩, ⟨by repeat (first | (with_reducible first | exact HK.out | apply Kept.alloc | apply Kept.drewN | apply Kept.drew) | exact HK.out)⟩, ⟨bl_ HB⟩⟩
 case round =>
  clear H'
  obtain ⟨s, x, l, rfl, rfl, HA, b9, u, HK, HB⟩ := hrel
  cases gk with
  | zero => exact absurd HA.out (by simp [laws_markZoneS.l0])
  | succ k1 =>
   have H := HA.out
   clear HA
   simp only [laws_markZoneS.l0] at H
   by_cases c3 : l < (s.length : Int)
   ·rw [if_pos c3] at H
    have f2 := decide_eq_true c3
    clear c3
    replace H := ifn_ H
    obtain ⟨c4, H⟩ := H
    have h3 := decide_eq_true c4
    clear c4
    replace H : ∃ y_ : List S76, Aside0 (y_ = (s.set (l : Int).toNat (⟨x, (⟨(rd_T76 s l).f1.f0, (rd_T76 s l).f1.f1⟩ : S74)⟩ : S76))) ∧ ((some (y_.set (l : Int).toNat (⟨(rd_T76 y_ l).f0, (⟨wrap64 (x + 1), (rd_T76 y_ l).f1.f1⟩ : S74)⟩ : S76) : List S76)).bind fun B => (laws_markZoneS.l0 k1 (B.set (l : Int).toNat (⟨(rd_T76 B l).f0, (⟨(rd_T76 B l).f1.f0, wrap64 ((wrap64 (x + 1)) + 1)⟩ : S74)⟩ : S76)) (wrap64 ((wrap64 ((wrap64 (x + 1)) + 1)) + 1)) (wrap64 (l + 1)))) = some (J, L) := ⟨_, ⟨rfl⟩, yh_ H⟩
    obtain ⟨G, e7, H⟩ := H
    replace H : ∃ y_ : List S76, Aside0 (y_ = (G.set (l : Int).toNat (⟨(rd_T76 G l).f0, (⟨wrap64 (x + 1), (rd_T76 G l).f1.f1⟩ : S74)⟩ : S76))) ∧ (laws_markZoneS.l0 k1 (y_.set (l : Int).toNat (⟨(rd_T76 y_ l).f0, (⟨(rd_T76 y_ l).f1.f0, wrap64 ((wrap64 (x + 1)) + 1)⟩ : S74)⟩ : S76)) (wrap64 ((wrap64 ((wrap64 (x + 1)) + 1)) + 1)) (wrap64 (l + 1))) = some (J, L) := ⟨_, ⟨rfl⟩, yh_ H⟩
    obtain ⟨B, e8, H⟩ := H
    replace H : ∃ y_ : List S76, Aside0 (y_ = (B.set (l : Int).toNat (⟨(rd_T76 B l).f0, (⟨(rd_T76 B l).f1.f0, wrap64 ((wrap64 (x + 1)) + 1)⟩ : S74)⟩ : S76))) ∧ (laws_markZoneS.l0 k1 y_ (wrap64 ((wrap64 ((wrap64 (x + 1)) + 1)) + 1)) (wrap64 (l + 1))) = some (J, L) := ⟨_, ⟨rfl⟩, yh_ H⟩
    obtain ⟨e5, e9, H⟩ := H
    have H' := Aside0.mk H
    clear H
    obtain ⟨g9, I, f4⟩ := Kd.R_slice u.out
    subst f4
    have p5 : 0 ≤ (l : Int) := od_
    have q5 : (l : Int) < ((s.length : Int) : Int) := od_
    obtain ⟨m, i2, d1, d2, f5, i0, b8⟩ := Kd.R_form u.out (by omega)
    (first | cases d1 | (injection d1 with ea_ en_ ec_; (first | subst ea_ | (injection ea_ with ea_; subst ea_)); subst ec_; clear en_))
    have a3 := Aside0.mk d2
    have h0 := Aside0.mk b8
    clear d2 f5 b8
    have h1 := Aside0.mk (show (z m ∨ w.heap.size ≤ m) from (u.out.1 _ rfl))
    obtain ⟨h6, f6, d5, O, X⟩ := Kd.R_elem u.out z76 (l : Int) p5 q5
    obtain rfl := k76_openM d5
    have j2 : wr.cell? ⟨m, (l : Int).toNat * 3, none⟩ = some (iv_ ((rd_T76 s l).f0)) := O 0 _ rfl
    have j3 : wr.cell? ⟨m, (l : Int).toNat * 3 + 1, none⟩ = some (iv_ ((rd_T76 s l).f1.f0)) := O 1 _ rfl
    have j4 : wr.cell? ⟨m, (l : Int).toNat * 3 + 2, none⟩ = some (iv_ ((rd_T76 s l).f1.f1)) := O 2 _ rfl
    have i3 : wr.frozen? ⟨m, (l : Int).toNat * 3, none⟩ = false := X 0
    have i4 : wr.frozen? ⟨m, (l : Int).toNat * 3 + 1, none⟩ = false := X 1
    have i5 : wr.frozen? ⟨m, (l : Int).toNat * 3 + 2, none⟩ = false := X 2
    clear f6 O X d5
    replace p5 := eq_true p5
    replace q5 := eq_true q5
    have d0 := Aside0.mk (show Kd.R k76 76 wr y.heap.size (fun k_ => (z k_ ∨ w.heap.size ≤ k_)) (.slice (some ⟨m, 0, none⟩) s.length I) s from (ra_ u))
    obtain ⟨h9, e1, d8, b0, e4⟩ := Kd.R_elem d0.out z76 (l : Int) od_ (by have h_ : (l : Int) < ((s.length : Int) : Int) := od_; first | exact h_ | (have e_ := (Kd.R_reads' u.out).1; omega) | simpa using h_)
    obtain rfl := k76_openM d8
    have a6 := Kd.R_seg d0.out (l : Int) od_ (by have h_ : (l : Int) < ((s.length : Int) : Int) := od_; first | exact h_ | (have e_ := (Kd.R_reads' u.out).1; omega) | simpa using h_) (seg := [iv_ x]) (j := 0) e1 b0 (show 1 ≤ 3 from by decide) (x' := (⟨x, (⟨(rd_T76 s l).f1.f0, (rd_T76 s l).f1.f1⟩ : S74)⟩ : S76)) (k76_mkM _ _ _ (⟨x, (⟨(rd_T76 s l).f1.f0, (rd_T76 s l).f1.f1⟩ : S74)⟩ : S76) ) (fun _ hk => hk)
    have g5 := b0 0 _ rfl
    (try simp only [show (k76).sz = 3 from rfl, Nat.mul_one, Nat.add_zero] at g5)
    have g1 := e4 0
    (try simp only [show (k76).sz = 3 from rfl, Nat.mul_one, Nat.add_zero] at g1)
    clear e1 b0 e4 d8
    go_wp2_with (first | ((with_reducible refine gate_store (t := 3) (p := 16) rfl ?_); refine store_event (t := 3) (p := 16) (v := ?vo_w10) (w1 := (wr.setCell ⟨m, (l : Int).toNat * 3, none⟩ (iv_ x))) ?hg ?ho ?hn ?hr ?_; (case ho => rfl); (case hg => rfl); (case hn => rfl); (case hr => first | (go_simp; done) | (go_simp; rfl)); intro D hw; have hg : wr.grownBy D (some m) := (by rw [hw]; exact a6.2); have hp_ : Kd.R k76 76 D y.heap.size (fun k_ => (z k_ ∨ w.heap.size ≤ k_)) (.slice (some ⟨m, 0, none⟩) s.length I) G := (by rw [hw, e7.out]; exact a6.1); clear a6; refine sh3_ hp_ ((by rw [hw]; exact below_set (HB.out) a3.out : Below y.heap.size y D)) (Kept.of_grown (S := (fun k_ => z k_)) hg (by repeat (first | (with_reducible first | exact HK.out | apply Kept.alloc | apply Kept.drewN | apply Kept.drew) | exact HK.out)) (fun k_ e_ => (u.out.1 k_ e_))) ?_; clear u HB HK; intro u HB HK; clear hg hw hp_; have p6 : 0 ≤ (l : Int) := od_; have q6 : (l : Int) < ((s.length : Int) : Int) := od_; obtain ⟨h7, f7, d6, T, Y⟩ := Kd.R_elem u.out z76 (l : Int) p6 q6; obtain rfl := k76_openM d6; have j5 : D.cell? ⟨m, (l : Int).toNat * 3, none⟩ = some (iv_ ((rd_T76 G l).f0)) := T 0 _ rfl; have j6 : D.cell? ⟨m, (l : Int).toNat * 3 + 1, none⟩ = some (iv_ ((rd_T76 G l).f1.f0)) := T 1 _ rfl; have j7 : D.cell? ⟨m, (l : Int).toNat * 3 + 2, none⟩ = some (iv_ ((rd_T76 G l).f1.f1)) := T 2 _ rfl; have i6 : D.frozen? ⟨m, (l : Int).toNat * 3, none⟩ = false := Y 0; have i7 : D.frozen? ⟨m, (l : Int).toNat * 3 + 1, none⟩ = false := Y 1; have i8 : D.frozen? ⟨m, (l : Int).toNat * 3 + 2, none⟩ = false := Y 2; clear f7 T Y d6; replace p6 := eq_true p6; replace q6 := eq_true q6; have c0 := Aside0.mk (show Kd.R k76 76 D y.heap.size (fun k_ => (z k_ ∨ w.heap.size ≤ k_)) (.slice (some ⟨m, 0, none⟩) s.length I) G from (ra_ u)); obtain ⟨h4, d9, d3, a8, e2⟩ := Kd.R_elem c0.out z76 (l : Int) od_ (by have h_ : (l : Int) < ((s.length : Int) : Int) := od_; first | exact h_ | (have e_ := (Kd.R_reads' u.out).1; omega) | simpa using h_); obtain rfl := k76_openM d3; have a4 := Kd.R_seg c0.out (l : Int) od_ (by have h_ : (l : Int) < ((s.length : Int) : Int) := od_; first | exact h_ | (have e_ := (Kd.R_reads' u.out).1; omega) | simpa using h_) (seg := [iv_ (wrap64 (x + 1))]) (j := 1) d9 a8 (show 2 ≤ 3 from by decide) (x' := (⟨(rd_T76 G l).f0, (⟨wrap64 (x + 1), (rd_T76 G l).f1.f1⟩ : S74)⟩ : S76)) (k76_mkM _ _ _ (⟨(rd_T76 G l).f0, (⟨wrap64 (x + 1), (rd_T76 G l).f1.f1⟩ : S74)⟩ : S76) ) (fun _ hk => hk); have g3 := a8 1 _ rfl; (try simp only [show (k76).sz = 3 from rfl, Nat.mul_one, Nat.add_zero] at g3); have f9 := e2 1; (try simp only [show (k76).sz = 3 from rfl, Nat.mul_one, Nat.add_zero] at f9); clear d9 a8 e2 d3) | ((with_reducible refine gate_store (t := 3) (p := 24) rfl ?_); refine store_event (t := 3) (p := 24) (v := ?vo_w12) (w1 := (D.setCell ⟨m, (l : Int).toNat * 3 + 1, none⟩ (iv_ (wrap64 (x + 1))))) ?hg ?ho ?hn ?hr ?_; (case ho => rfl); (case hg => rfl); (case hn => rfl); (case hr => first | (go_simp; done) | (go_simp; rfl)); intro E hw; have hg : D.grownBy E (some m) := (by rw [hw]; exact a4.2); have hp_ : Kd.R k76 76 E y.heap.size (fun k_ => (z k_ ∨ w.heap.size ≤ k_)) (.slice (some ⟨m, 0, none⟩) s.length I) B := (by rw [hw, e8.out]; exact a4.1); clear a4; refine sh3_ hp_ ((by rw [hw]; exact below_set (HB.out) a3.out : Below y.heap.size y E)) (Kept.of_grown (S := (fun k_ => z k_)) hg (by repeat (first | (with_reducible first | exact HK.out | apply Kept.alloc | apply Kept.drewN | apply Kept.drew) | exact HK.out)) (fun k_ e_ => (u.out.1 k_ e_))) ?_; clear u HB HK; intro u HB HK; clear hg hw hp_; have p7 : 0 ≤ (l : Int) := od_; have q7 : (l : Int) < ((s.length : Int) : Int) := od_; obtain ⟨h8, f8, d7, U, Z⟩ := Kd.R_elem u.out z76 (l : Int) p7 q7; obtain rfl := k76_openM d7; have j8 : E.cell? ⟨m, (l : Int).toNat * 3, none⟩ = some (iv_ ((rd_T76 B l).f0)) := U 0 _ rfl; have j9 : E.cell? ⟨m, (l : Int).toNat * 3 + 1, none⟩ = some (iv_ ((rd_T76 B l).f1.f0)) := U 1 _ rfl; have k0 : E.cell? ⟨m, (l : Int).toNat * 3 + 2, none⟩ = some (iv_ ((rd_T76 B l).f1.f1)) := U 2 _ rfl; have i9 : E.frozen? ⟨m, (l : Int).toNat * 3, none⟩ = false := Z 0; have j0 : E.frozen? ⟨m, (l : Int).toNat * 3 + 1, none⟩ = false := Z 1; have j1 : E.frozen? ⟨m, (l : Int).toNat * 3 + 2, none⟩ = false := Z 2; clear f8 U Z d7; replace p7 := eq_true p7; replace q7 := eq_true q7; have c1 := Aside0.mk (show Kd.R k76 76 E y.heap.size (fun k_ => (z k_ ∨ w.heap.size ≤ k_)) (.slice (some ⟨m, 0, none⟩) s.length I) B from (ra_ u)); obtain ⟨h5, e0, d4, a9, e3⟩ := Kd.R_elem c1.out z76 (l : Int) od_ (by have h_ : (l : Int) < ((s.length : Int) : Int) := od_; first | exact h_ | (have e_ := (Kd.R_reads' u.out).1; omega) | simpa using h_); obtain rfl := k76_openM d4; have a5 := Kd.R_seg c1.out (l : Int) od_ (by have h_ : (l : Int) < ((s.length : Int) : Int) := od_; first | exact h_ | (have e_ := (Kd.R_reads' u.out).1; omega) | simpa using h_) (seg := [iv_ (wrap64 ((wrap64 (x + 1)) + 1))]) (j := 2) e0 a9 (show 3 ≤ 3 from by decide) (x' := (⟨(rd_T76 B l).f0, (⟨(rd_T76 B l).f1.f0, wrap64 ((wrap64 (x + 1)) + 1)⟩ : S74)⟩ : S76)) (k76_mkM _ _ _ (⟨(rd_T76 B l).f0, (⟨(rd_T76 B l).f1.f0, wrap64 ((wrap64 (x + 1)) + 1)⟩ : S74)⟩ : S76) ) (fun _ hk => hk); have g4 := a9 2 _ rfl; (try simp only [show (k76).sz = 3 from rfl, Nat.mul_one, Nat.add_zero] at g4); have g0 := e3 2; (try simp only [show (k76).sz = 3 from rfl, Nat.mul_one, Nat.add_zero] at g0); clear e0 a9 e3 d4) | ((with_reducible refine gate_store (t := 3) (p := 32) rfl ?_); refine store_event (t := 3) (p := 32) (v := ?vo_w14) (w1 := (E.setCell ⟨m, (l : Int).toNat * 3 + 2, none⟩ (iv_ (wrap64 ((wrap64 (x + 1)) + 1))))) ?hg ?ho ?hn ?hr ?_; (case ho => rfl); (case hg => rfl); (case hn => rfl); (case hr => first | (go_simp; done) | (go_simp; rfl)); intro b7 hw; have hg : E.grownBy b7 (some m) := (by rw [hw]; exact a5.2); have hp_ : Kd.R k76 76 b7 y.heap.size (fun k_ => (z k_ ∨ w.heap.size ≤ k_)) (.slice (some ⟨m, 0, none⟩) s.length I) e5 := (by rw [hw, e9.out]; exact a5.1); clear a5; refine sh3_ hp_ ((by rw [hw]; exact below_set (HB.out) a3.out : Below y.heap.size y b7)) (Kept.of_grown (S := (fun k_ => z k_)) hg (by repeat (first | (with_reducible first | exact HK.out | apply Kept.alloc | apply Kept.drewN | apply Kept.drew) | exact HK.out)) (fun k_ e_ => (u.out.1 k_ e_))) ?_; clear u HB HK; intro u HB HK; clear hg hw hp_))
    go_roundg k1
    case measure => have := b9.out; omega
    case rel => exact ⟨(e5), (wrap64 ((wrap64 ((wrap64 (x + 1)) + 1)) + 1)), (wrap64 (l + 1)), (by first | rfl | (simp; done) | (simp [*]; done)), (by first | rfl | (simp; done) | (simp [*]; done)), H', ⟨by have := b9.out; omega⟩, ⟨ra_ u⟩, ⟨by repeat (first | (with_reducible first | exact HK.out | apply Kept.alloc | apply Kept.drewN | apply Kept.drew) | exact HK.out)⟩, ⟨bl_ HB⟩⟩
   ·rw [if_neg c3] at H
    have f2 := decide_eq_false c3
    clear c3
    simp only [Option.some.injEq, Prod.mk.injEq] at H
    obtain ⟨rfl, rfl⟩ := H
    obtain ⟨g8, i1, f3⟩ := Kd.R_slice u.out
    subst f3
    go_wp2
    go_ret
    exact ⟨er_, ra_ u, bl_ HB, by repeat (first | (with_reducible first | exact HK.out | apply Kept.alloc | apply Kept.drewN | apply Kept.drew) | exact HK.out)⟩

/-! ### laws_markSky: function 11 -/
def laws_markSky.f (k : Nat) (z : Int) (u : List S68) (x : List S70) (B D E G I : Int) (y : List S76) (J s : Int) : Option (Int × List S68 × List S70 × List S76) := (laws_markSatS.f k u s).bind fun j => ((laws_markSiteS.f k x j.1).bind fun l => ((laws_markZoneS.f k y l.1).bind fun m => (some (m.1, j.2, l.2, m.2))))
theorem laws_markSky.calls (k : Nat) (a3 : Int) (j : Nat → Prop) (Z : Value) (D : List S68) (l : Nat → Prop) (a0 : Value) (E : List S70) (a4 a5 a6 a7 a8 : Int) (m : Nat → Prop) (a2 : Value) (G : List S76) (a9 T r1 : Int) (r2 : List S68) (r3 : List S70) (r4 : List S76) (y w : World) (hB : Below y.heap.size y w) (d1 : Kd.R k68 68 w y.heap.size j Z D) (d2 : Kd.R k70 70 w y.heap.size l a0 E) (d3 : Kd.R k76 76 w y.heap.size m a2 G) (h : laws_markSky.f k a3 D E a4 a5 a6 a7 a8 G a9 T = some (r1, r2, r3, r4)) :
  Calls Tryz.prog 11 #[.agg #[iv_ a3, Z, a0, iv_ a4, iv_ a5, iv_ a6, iv_ a7, iv_ a8, a2, iv_ a9], iv_ T] w fun e w' => e = .returned (iv_ r1) ∧ Kd.R k68 68 w' y.heap.size (fun k_ => ((j k_ ∨ l k_ ∨ m k_) ∨ w.heap.size ≤ k_)) Z r2 ∧ Kd.R k70 70 w' y.heap.size (fun k_ => ((j k_ ∨ l k_ ∨ m k_) ∨ w.heap.size ≤ k_)) a0 r3 ∧ Kd.R k76 76 w' y.heap.size (fun k_ => ((j k_ ∨ l k_ ∨ m k_) ∨ w.heap.size ≤ k_)) a2 r4 ∧ Below y.heap.size y w' ∧ Kept w w' (fun k_ => j k_ ∨ l k_ ∨ m k_) := by
 have e2 := Tryz.underlying34
 have s := Aside0.mk (show Kd.R k68 68 w y.heap.size (fun k_ => ((j k_ ∨ l k_ ∨ m k_) ∨ w.heap.size ≤ k_)) Z D from Kd.R_mono d1 (fun k_ hk => (.inl (.inl hk))))
 have u := Aside0.mk (show Kd.R k70 70 w y.heap.size (fun k_ => ((j k_ ∨ l k_ ∨ m k_) ∨ w.heap.size ≤ k_)) a0 E from Kd.R_mono d2 (fun k_ hk => (.inl (.inr (.inl hk)))))
 have x := Aside0.mk (show Kd.R k76 76 w y.heap.size (fun k_ => ((j k_ ∨ l k_ ∨ m k_) ∨ w.heap.size ≤ k_)) a2 G from Kd.R_mono d3 (fun k_ hk => (.inl (.inr (.inr hk)))))
 have HK := Aside0.mk (Kept.refl w (fun k_ => j k_ ∨ l k_ ∨ m k_))
 have d8 := Aside0.mk hB.size
 have HB := Aside0.mk hB
 clear hB
 have H := h
 clear h
 unfold laws_markSky.f at H
 replace H := bs_ H
 obtain ⟨⟨b0, d4⟩, A3, H⟩ := H
 dsimp only at H
 replace H := bs_ H
 obtain ⟨⟨b1, d5⟩, A4, H⟩ := H
 dsimp only at H
 replace H := bs_ H
 obtain ⟨⟨d6, d7⟩, A5, H⟩ := H
 dsimp only at H
 simp only [Option.some.injEq, Prod.mk.injEq] at H
 obtain ⟨rfl, rfl, rfl, rfl⟩ := H
 obtain ⟨I, U, b9⟩ := Kd.R_slice s.out
 subst b9
 obtain ⟨J, X, c0⟩ := Kd.R_slice u.out
 subst c0
 obtain ⟨L, Y, c1⟩ := Kd.R_slice x.out
 subst c1
 go_enter Tryz.func11, Tryz.ntmps11
 go_wp2_with (first | ((with_reducible refine gd_ 2 ?_); refine bx_ 2 34 #[iv_ a3, .slice I D.length U, .slice J E.length X, iv_ a4, iv_ a5, iv_ a6, iv_ a7, iv_ a8, .slice L G.length Y, iv_ a9] ?_; intro d0 hg w9 hbox hb; refine sh8_ (Kd.R_below (ra_ s) hb) (Kd.R_below (ra_ u) hb) (Kd.R_below (ra_ x) hb) (Kept.below (S := (fun k_ => j k_ ∨ l k_ ∨ m k_)) (by repeat (first | (with_reducible first | exact HK.out | apply Kept.alloc | apply Kept.drewN | apply Kept.drew) | exact HK.out)) hb) (below_step (bl_ HB) hb) hbox ((by rw [hg]; exact (by first | exact HK.out.1 | exact (show Kept w _ (fun k_ => j k_ ∨ l k_ ∨ m k_) from by repeat (first | (with_reducible first | exact HK.out | apply Kept.alloc | apply Kept.drewN | apply Kept.drew) | exact HK.out)).1) : w.heap.size ≤ d0)) (ge_ hg (bl_ HB)) ?_; clear s u x HK HB hb hbox hg; intro s u x HK HB z O M; have d9 := cf10_ z) | ((with_reducible refine gate_callee (f := 34) rfl ?_); refine goesL_ (some 8) rfl rfl Tryz.func34 (by kernel_rfl) rfl #[.slice I D.length U, iv_ T] rfl mp_ ?_; (with_reducible refine (laws_markSatS.calls k (fun k_ => some k_ = (.slice I D.length U : Value).ownBlock) (.slice I D.length U) D T b0 d4 y _ ?side1 ?side2 A3.out).mono ?_); (case side1 => repeat (first | (with_reducible first | exact HB.out | apply below_alloc | apply pw_below_drewN | apply below_drew1 | refine below_set ?_ M.out) | exact HB.out)); (case side2 => exact Kd.R_tight rfl s.out); rintro e e3 ⟨rfl, B, hb, hkp⟩; refine ⟨_, rfl, sh6_ (Kd.R_reok rfl B (fun k_ e_ => s.out.1 k_ e_)) (Kd.R_mono (ok' := fun k_ => ((j k_ ∨ l k_ ∨ m k_) ∨ w.heap.size ≤ k_)) (Kd.R_keptB ((Kd.R_apart' u.out (Kd.R_typed s.out) (by decide))) hkp (fun k_ hk_ hs_ => (hk_.2) hs_)) (fun k_ hk_ => hx_ hk_)) (Kd.R_mono (ok' := fun k_ => ((j k_ ∨ l k_ ∨ m k_) ∨ w.heap.size ≤ k_)) (Kd.R_keptB ((Kd.R_apart' x.out (Kd.R_typed s.out) (by decide))) hkp (fun k_ hk_ hs_ => (hk_.2) hs_)) (fun k_ hk_ => hx_ hk_)) (blk_kept (bk_ z) hkp (fun hs_ => (fun e_ => (Kd.R_ne s.out z.out (by decide)) e_) hs_)) (Kept.then_ (S := (fun k_ => j k_ ∨ l k_ ∨ m k_)) (by repeat (first | (with_reducible first | exact HK.out | apply Kept.alloc | apply Kept.drewN | apply Kept.drew | refine Kept.setCell ?_ (.inr O.out) _) | exact HK.out)) hkp (fun k_ hs_ => (fun e_ => (s.out.1 k_ e_.symm)) hs_)) hb ?_⟩; clear s u x z HK HB hb hkp B; intro s u x z HK HB; have e0 := cf10_ z) | ((with_reducible refine gate_callee (f := 35) rfl ?_); refine goesL_ (some 12) rfl rfl Tryz.func35 (by kernel_rfl) rfl #[.slice J E.length X, iv_ b0] rfl mp_ ?_; (with_reducible refine (laws_markSiteS.calls k (fun k_ => some k_ = (.slice J E.length X : Value).ownBlock) (.slice J E.length X) E b0 b1 d5 y _ ?side1 ?side2 A4.out).mono ?_); (case side1 => repeat (first | (with_reducible first | exact HB.out | apply below_alloc | apply pw_below_drewN | apply below_drew1 | refine below_set ?_ M.out) | exact HB.out)); (case side2 => exact Kd.R_tight rfl u.out); rintro e e4 ⟨rfl, B, hb, hkp⟩; refine ⟨_, rfl, sh6_ (Kd.R_mono (ok' := fun k_ => ((j k_ ∨ l k_ ∨ m k_) ∨ w.heap.size ≤ k_)) (Kd.R_keptB ((Kd.R_apart' s.out (Kd.R_typed u.out) (by decide))) hkp (fun k_ hk_ hs_ => (hk_.2) hs_)) (fun k_ hk_ => hx_ hk_)) (Kd.R_reok rfl B (fun k_ e_ => u.out.1 k_ e_)) (Kd.R_mono (ok' := fun k_ => ((j k_ ∨ l k_ ∨ m k_) ∨ w.heap.size ≤ k_)) (Kd.R_keptB ((Kd.R_apart' x.out (Kd.R_typed u.out) (by decide))) hkp (fun k_ hk_ hs_ => (hk_.2) hs_)) (fun k_ hk_ => hx_ hk_)) (blk_kept (bk_ z) hkp (fun hs_ => (fun e_ => (Kd.R_ne u.out z.out (by decide)) e_) hs_)) (Kept.then_ (S := (fun k_ => j k_ ∨ l k_ ∨ m k_)) (by repeat (first | (with_reducible first | exact HK.out | apply Kept.alloc | apply Kept.drewN | apply Kept.drew | refine Kept.setCell ?_ (.inr O.out) _) | exact HK.out)) hkp (fun k_ hs_ => (fun e_ => (u.out.1 k_ e_.symm)) hs_)) hb ?_⟩; clear s u x z HK HB hb hkp B; intro s u x z HK HB; have e1 := cf10_ z) | ((with_reducible refine gate_callee (f := 36) rfl ?_); refine goesL_ (some 16) rfl rfl Tryz.func36 (by kernel_rfl) rfl #[.slice L G.length Y, iv_ b1] rfl mp_ ?_; (with_reducible refine (laws_markZoneS.calls k (fun k_ => some k_ = (.slice L G.length Y : Value).ownBlock) (.slice L G.length Y) G b1 d6 d7 y _ ?side1 ?side2 A5.out).mono ?_); (case side1 => repeat (first | (with_reducible first | exact HB.out | apply below_alloc | apply pw_below_drewN | apply below_drew1 | refine below_set ?_ M.out) | exact HB.out)); (case side2 => exact Kd.R_tight rfl x.out); rintro e e5 ⟨rfl, B, hb, hkp⟩; refine ⟨_, rfl, sh6_ (Kd.R_mono (ok' := fun k_ => ((j k_ ∨ l k_ ∨ m k_) ∨ w.heap.size ≤ k_)) (Kd.R_keptB ((Kd.R_apart' s.out (Kd.R_typed x.out) (by decide))) hkp (fun k_ hk_ hs_ => (hk_.2) hs_)) (fun k_ hk_ => hx_ hk_)) (Kd.R_mono (ok' := fun k_ => ((j k_ ∨ l k_ ∨ m k_) ∨ w.heap.size ≤ k_)) (Kd.R_keptB ((Kd.R_apart' u.out (Kd.R_typed x.out) (by decide))) hkp (fun k_ hk_ hs_ => (hk_.2) hs_)) (fun k_ hk_ => hx_ hk_)) (Kd.R_reok rfl B (fun k_ e_ => x.out.1 k_ e_)) (blk_kept (bk_ z) hkp (fun hs_ => (fun e_ => (Kd.R_ne x.out z.out (by decide)) e_) hs_)) (Kept.then_ (S := (fun k_ => j k_ ∨ l k_ ∨ m k_)) (by repeat (first | (with_reducible first | exact HK.out | apply Kept.alloc | apply Kept.drewN | apply Kept.drew | refine Kept.setCell ?_ (.inr O.out) _) | exact HK.out)) hkp (fun k_ hs_ => (fun e_ => (x.out.1 k_ e_.symm)) hs_)) hb ?_⟩; clear s u x z HK HB hb hkp B; intro s u x z HK HB))
 go_ret
 exact ⟨er_, ra_ s, ra_ u, ra_ x, bl1_ HB M, by repeat (first | (with_reducible first | exact HK.out | apply Kept.alloc | apply Kept.drewN | apply Kept.drew | refine Kept.setCell ?_ (.inr O.out) _) | exact HK.out)⟩

/-! ### laws_markContactS: function 12 -/
def laws_markContactS.l0 : Nat → List S54 → Int → Int → Option (Int × List S54)
 | 0, _, _, _ => none
 | k + 1, l, m, j => if j < (l.length : Int) then (if 0 ≤ j then ((some (l.set (j : Int).toNat (⟨m, (rd_T54 l j).f1, (rd_T54 l j).f2, (rd_T54 l j).f3⟩ : S54) : List S54)).bind fun s => ((some (s.set (j : Int).toNat (⟨(rd_T54 s j).f0, wrap64 (m + 1), (rd_T54 s j).f2, (rd_T54 s j).f3⟩ : S54) : List S54)).bind fun u => ((some (u.set (j : Int).toNat (⟨(rd_T54 u j).f0, (rd_T54 u j).f1, wrap64 ((wrap64 (m + 1)) + 1), (rd_T54 u j).f3⟩ : S54) : List S54)).bind fun x => (laws_markContactS.l0 k (x.set (j : Int).toNat (⟨(rd_T54 x j).f0, (rd_T54 x j).f1, (rd_T54 x j).f2, wrap64 ((wrap64 ((wrap64 (m + 1)) + 1)) + 1)⟩ : S54)) (wrap64 ((wrap64 ((wrap64 ((wrap64 (m + 1)) + 1)) + 1)) + 1)) (wrap64 (j + 1)))))) else (none)) else (some (m, l))
def laws_markContactS.f (k : Nat) (l : List S54) (j : Int) : Option (Int × List S54) := laws_markContactS.l0 k l j 0
theorem laws_markContactS.calls (k : Nat) (D : Nat → Prop) (a5 : Value) (l0 : List S54) (a1 M : Int) (O : List S54) (y w : World) (hB : Below y.heap.size y w) (i0 : Kd.R k54 54 w y.heap.size D a5 l0) (h : laws_markContactS.f k l0 a1 = some (M, O)) :
  Calls Tryz.prog 12 #[a5, iv_ a1] w fun e w' => e = .returned (iv_ M) ∧ Kd.R k54 54 w' y.heap.size (fun k_ => (D k_ ∨ w.heap.size ≤ k_)) a5 O ∧ Below y.heap.size y w' ∧ Kept w w' (fun k_ => D k_) := by
 have g3 := Aside0.mk (show Kd.R k54 54 w y.heap.size (fun k_ => (D k_ ∨ w.heap.size ≤ k_)) a5 l0 from Kd.R_mono i0 (fun k_ hk => (.inl hk)))
 have HK := Aside0.mk (Kept.refl w (fun k_ => D k_))
 have j1 := Aside0.mk hB.size
 have HB := Aside0.mk hB
 clear hB
 have H := h
 clear h
 unfold laws_markContactS.f at H
 have H' := Aside0.mk H
 clear H
 go_enter Tryz.func12, Tryz.ntmps12
 go_wp2
 go_loopg [1, 5] k (fun kq v1 v5 w' => ∃ (s : List S54) (x : Int) (l : Int), v1 = iv_ x ∧ v5 = iv_ l ∧ Aside0 (laws_markContactS.l0 kq s x l = some (M, O)) ∧ Aside0 (kq ≤ k) ∧ Aside0 (Kd.R k54 54 w' y.heap.size (fun k_ => (D k_ ∨ w.heap.size ≤ k_)) a5 s) ∧ Aside0 (Kept w w' (fun k_ => D k_)) ∧ Aside0 (Below y.heap.size y w'))
 case atStart => exact ⟨(l0), (a1), (0), (by first | rfl | (simp; done) | (simp [*]; done)), (by first | rfl | (simp; done) | (simp [*]; done)), H', ⟨Nat.le_refl _⟩, ⟨ra_ g3⟩, ⟨by repeat (first | (with_reducible first | exact HK.out | apply Kept.alloc | apply Kept.drewN | apply Kept.drew) | exact HK.out)⟩, ⟨bl_ HB⟩⟩
 case round =>
  clear H'
  obtain ⟨s, x, l, rfl, rfl, HA, d5, u, HK, HB⟩ := hrel
  cases gk with
  | zero => exact absurd HA.out (by simp [laws_markContactS.l0])
  | succ k1 =>
   have H := HA.out
   clear HA
   simp only [laws_markContactS.l0] at H
   by_cases c3 : l < (s.length : Int)
   ·rw [if_pos c3] at H
    have g8 := decide_eq_true c3
    clear c3
    replace H := ifn_ H
    obtain ⟨c4, H⟩ := H
    have j2 := decide_eq_true c4
    clear c4
    replace H : ∃ y_ : List S54, Aside0 (y_ = (s.set (l : Int).toNat (⟨x, (rd_T54 s l).f1, (rd_T54 s l).f2, (rd_T54 s l).f3⟩ : S54))) ∧ ((some (y_.set (l : Int).toNat (⟨(rd_T54 y_ l).f0, wrap64 (x + 1), (rd_T54 y_ l).f2, (rd_T54 y_ l).f3⟩ : S54) : List S54)).bind fun B => ((some (B.set (l : Int).toNat (⟨(rd_T54 B l).f0, (rd_T54 B l).f1, wrap64 ((wrap64 (x + 1)) + 1), (rd_T54 B l).f3⟩ : S54) : List S54)).bind fun z => (laws_markContactS.l0 k1 (z.set (l : Int).toNat (⟨(rd_T54 z l).f0, (rd_T54 z l).f1, (rd_T54 z l).f2, wrap64 ((wrap64 ((wrap64 (x + 1)) + 1)) + 1)⟩ : S54)) (wrap64 ((wrap64 ((wrap64 ((wrap64 (x + 1)) + 1)) + 1)) + 1)) (wrap64 (l + 1))))) = some (M, O) := ⟨_, ⟨rfl⟩, yh_ H⟩
    obtain ⟨E, g4, H⟩ := H
    replace H : ∃ y_ : List S54, Aside0 (y_ = (E.set (l : Int).toNat (⟨(rd_T54 E l).f0, wrap64 (x + 1), (rd_T54 E l).f2, (rd_T54 E l).f3⟩ : S54))) ∧ ((some (y_.set (l : Int).toNat (⟨(rd_T54 y_ l).f0, (rd_T54 y_ l).f1, wrap64 ((wrap64 (x + 1)) + 1), (rd_T54 y_ l).f3⟩ : S54) : List S54)).bind fun z => (laws_markContactS.l0 k1 (z.set (l : Int).toNat (⟨(rd_T54 z l).f0, (rd_T54 z l).f1, (rd_T54 z l).f2, wrap64 ((wrap64 ((wrap64 (x + 1)) + 1)) + 1)⟩ : S54)) (wrap64 ((wrap64 ((wrap64 ((wrap64 (x + 1)) + 1)) + 1)) + 1)) (wrap64 (l + 1)))) = some (M, O) := ⟨_, ⟨rfl⟩, yh_ H⟩
    obtain ⟨B, g5, H⟩ := H
    replace H : ∃ y_ : List S54, Aside0 (y_ = (B.set (l : Int).toNat (⟨(rd_T54 B l).f0, (rd_T54 B l).f1, wrap64 ((wrap64 (x + 1)) + 1), (rd_T54 B l).f3⟩ : S54))) ∧ (laws_markContactS.l0 k1 (y_.set (l : Int).toNat (⟨(rd_T54 y_ l).f0, (rd_T54 y_ l).f1, (rd_T54 y_ l).f2, wrap64 ((wrap64 ((wrap64 (x + 1)) + 1)) + 1)⟩ : S54)) (wrap64 ((wrap64 ((wrap64 ((wrap64 (x + 1)) + 1)) + 1)) + 1)) (wrap64 (l + 1))) = some (M, O) := ⟨_, ⟨rfl⟩, yh_ H⟩
    obtain ⟨z, g6, H⟩ := H
    replace H : ∃ y_ : List S54, Aside0 (y_ = (z.set (l : Int).toNat (⟨(rd_T54 z l).f0, (rd_T54 z l).f1, (rd_T54 z l).f2, wrap64 ((wrap64 ((wrap64 (x + 1)) + 1)) + 1)⟩ : S54))) ∧ (laws_markContactS.l0 k1 y_ (wrap64 ((wrap64 ((wrap64 ((wrap64 (x + 1)) + 1)) + 1)) + 1)) (wrap64 (l + 1))) = some (M, O) := ⟨_, ⟨rfl⟩, yh_ H⟩
    obtain ⟨g2, g7, H⟩ := H
    have H' := Aside0.mk H
    clear H
    obtain ⟨i8, L, h0⟩ := Kd.R_slice u.out
    subst h0
    have p5 : 0 ≤ (l : Int) := od_
    have q5 : (l : Int) < ((s.length : Int) : Int) := od_
    obtain ⟨m, k4, e0, e1, h1, k2, d4⟩ := Kd.R_form u.out (by omega)
    (first | cases e0 | (injection e0 with ea_ en_ ec_; (first | subst ea_ | (injection ea_ with ea_; subst ea_)); subst ec_; clear en_))
    have a6 := Aside0.mk e1
    have i9 := Aside0.mk d4
    clear e1 h1 d4
    have j0 := Aside0.mk (show (D m ∨ w.heap.size ≤ m) from (u.out.1 _ rfl))
    obtain ⟨j7, h2, e6, T, Z⟩ := Kd.R_elem u.out z54 (l : Int) p5 q5
    obtain rfl := k54_openM e6
    have m2 : wr.cell? ⟨m, (l : Int).toNat * 4, none⟩ = some (iv_ ((rd_T54 s l).f0)) := T 0 _ rfl
    have m3 : wr.cell? ⟨m, (l : Int).toNat * 4 + 1, none⟩ = some (iv_ ((rd_T54 s l).f1)) := T 1 _ rfl
    have m4 : wr.cell? ⟨m, (l : Int).toNat * 4 + 2, none⟩ = some (iv_ ((rd_T54 s l).f2)) := T 2 _ rfl
    have m5 : wr.cell? ⟨m, (l : Int).toNat * 4 + 3, none⟩ = some (iv_ ((rd_T54 s l).f3)) := T 3 _ rfl
    have k5 : wr.frozen? ⟨m, (l : Int).toNat * 4, none⟩ = false := Z 0
    have k6 : wr.frozen? ⟨m, (l : Int).toNat * 4 + 1, none⟩ = false := Z 1
    have k7 : wr.frozen? ⟨m, (l : Int).toNat * 4 + 2, none⟩ = false := Z 2
    have k8 : wr.frozen? ⟨m, (l : Int).toNat * 4 + 3, none⟩ = false := Z 3
    clear h2 T Z e6
    replace p5 := eq_true p5
    replace q5 := eq_true q5
    have d6 := Aside0.mk (show Kd.R k54 54 wr y.heap.size (fun k_ => (D k_ ∨ w.heap.size ≤ k_)) (.slice (some ⟨m, 0, none⟩) s.length L) s from (ra_ u))
    obtain ⟨j3, f4, e2, b3, f8⟩ := Kd.R_elem d6.out z54 (l : Int) od_ (by have h_ : (l : Int) < ((s.length : Int) : Int) := od_; first | exact h_ | (have e_ := (Kd.R_reads' u.out).1; omega) | simpa using h_)
    obtain rfl := k54_openM e2
    have a8 := Kd.R_seg d6.out (l : Int) od_ (by have h_ : (l : Int) < ((s.length : Int) : Int) := od_; first | exact h_ | (have e_ := (Kd.R_reads' u.out).1; omega) | simpa using h_) (seg := [iv_ x]) (j := 0) f4 b3 (show 1 ≤ 4 from by decide) (x' := (⟨x, (rd_T54 s l).f1, (rd_T54 s l).f2, (rd_T54 s l).f3⟩ : S54)) (k54_mkM _ _ _ (⟨x, (rd_T54 s l).f1, (rd_T54 s l).f2, (rd_T54 s l).f3⟩ : S54) ) (fun _ hk => hk)
    have i1 := b3 0 _ rfl
    (try simp only [show (k54).sz = 4 from rfl, Nat.mul_one, Nat.add_zero] at i1)
    have h6 := f8 0
    (try simp only [show (k54).sz = 4 from rfl, Nat.mul_one, Nat.add_zero] at h6)
    clear f4 b3 f8 e2
    go_wp2_with (first | ((with_reducible refine gate_store (t := 3) (p := 16) rfl ?_); refine store_event (t := 3) (p := 16) (v := ?vo_w11) (w1 := (wr.setCell ⟨m, (l : Int).toNat * 4, none⟩ (iv_ x))) ?hg ?ho ?hn ?hr ?_; (case ho => rfl); (case hg => rfl); (case hn => rfl); (case hr => first | (go_simp; done) | (go_simp; rfl)); intro G hw; have hg : wr.grownBy G (some m) := (by rw [hw]; exact a8.2); have hp_ : Kd.R k54 54 G y.heap.size (fun k_ => (D k_ ∨ w.heap.size ≤ k_)) (.slice (some ⟨m, 0, none⟩) s.length L) E := (by rw [hw, g4.out]; exact a8.1); clear a8; refine sh3_ hp_ ((by rw [hw]; exact below_set (HB.out) a6.out : Below y.heap.size y G)) (Kept.of_grown (S := (fun k_ => D k_)) hg (by repeat (first | (with_reducible first | exact HK.out | apply Kept.alloc | apply Kept.drewN | apply Kept.drew) | exact HK.out)) (fun k_ e_ => (u.out.1 k_ e_))) ?_; clear u HB HK; intro u HB HK; clear hg hw hp_; have p6 : 0 ≤ (l : Int) := od_; have q6 : (l : Int) < ((s.length : Int) : Int) := od_; obtain ⟨j8, h3, e7, U, a0⟩ := Kd.R_elem u.out z54 (l : Int) p6 q6; obtain rfl := k54_openM e7; have m6 : G.cell? ⟨m, (l : Int).toNat * 4, none⟩ = some (iv_ ((rd_T54 E l).f0)) := U 0 _ rfl; have m7 : G.cell? ⟨m, (l : Int).toNat * 4 + 1, none⟩ = some (iv_ ((rd_T54 E l).f1)) := U 1 _ rfl; have m8 : G.cell? ⟨m, (l : Int).toNat * 4 + 2, none⟩ = some (iv_ ((rd_T54 E l).f2)) := U 2 _ rfl; have m9 : G.cell? ⟨m, (l : Int).toNat * 4 + 3, none⟩ = some (iv_ ((rd_T54 E l).f3)) := U 3 _ rfl; have k9 : G.frozen? ⟨m, (l : Int).toNat * 4, none⟩ = false := a0 0; have l1 : G.frozen? ⟨m, (l : Int).toNat * 4 + 1, none⟩ = false := a0 1; have l2 : G.frozen? ⟨m, (l : Int).toNat * 4 + 2, none⟩ = false := a0 2; have l3 : G.frozen? ⟨m, (l : Int).toNat * 4 + 3, none⟩ = false := a0 3; clear h3 U a0 e7; replace p6 := eq_true p6; replace q6 := eq_true q6; have d7 := Aside0.mk (show Kd.R k54 54 G y.heap.size (fun k_ => (D k_ ∨ w.heap.size ≤ k_)) (.slice (some ⟨m, 0, none⟩) s.length L) E from (ra_ u)); obtain ⟨j4, f5, e3, b4, f9⟩ := Kd.R_elem d7.out z54 (l : Int) od_ (by have h_ : (l : Int) < ((s.length : Int) : Int) := od_; first | exact h_ | (have e_ := (Kd.R_reads' u.out).1; omega) | simpa using h_); obtain rfl := k54_openM e3; have a9 := Kd.R_seg d7.out (l : Int) od_ (by have h_ : (l : Int) < ((s.length : Int) : Int) := od_; first | exact h_ | (have e_ := (Kd.R_reads' u.out).1; omega) | simpa using h_) (seg := [iv_ (wrap64 (x + 1))]) (j := 1) f5 b4 (show 2 ≤ 4 from by decide) (x' := (⟨(rd_T54 E l).f0, wrap64 (x + 1), (rd_T54 E l).f2, (rd_T54 E l).f3⟩ : S54)) (k54_mkM _ _ _ (⟨(rd_T54 E l).f0, wrap64 (x + 1), (rd_T54 E l).f2, (rd_T54 E l).f3⟩ : S54) ) (fun _ hk => hk); have i2 := b4 1 _ rfl; (try simp only [show (k54).sz = 4 from rfl, Nat.mul_one, Nat.add_zero] at i2); have h7 := f9 1; (try simp only [show (k54).sz = 4 from rfl, Nat.mul_one, Nat.add_zero] at h7); clear f5 b4 f9 e3) | ((with_reducible refine gate_store (t := 3) (p := 23) rfl ?_); refine store_event (t := 3) (p := 23) (v := ?vo_w13) (w1 := (G.setCell ⟨m, (l : Int).toNat * 4 + 1, none⟩ (iv_ (wrap64 (x + 1))))) ?hg ?ho ?hn ?hr ?_; (case ho => rfl); (case hg => rfl); (case hn => rfl); (case hr => first | (go_simp; done) | (go_simp; rfl)); intro I hw; have hg : G.grownBy I (some m) := (by rw [hw]; exact a9.2); have hp_ : Kd.R k54 54 I y.heap.size (fun k_ => (D k_ ∨ w.heap.size ≤ k_)) (.slice (some ⟨m, 0, none⟩) s.length L) B := (by rw [hw, g5.out]; exact a9.1); clear a9; refine sh3_ hp_ ((by rw [hw]; exact below_set (HB.out) a6.out : Below y.heap.size y I)) (Kept.of_grown (S := (fun k_ => D k_)) hg (by repeat (first | (with_reducible first | exact HK.out | apply Kept.alloc | apply Kept.drewN | apply Kept.drew) | exact HK.out)) (fun k_ e_ => (u.out.1 k_ e_))) ?_; clear u HB HK; intro u HB HK; clear hg hw hp_; have p7 : 0 ≤ (l : Int) := od_; have q7 : (l : Int) < ((s.length : Int) : Int) := od_; obtain ⟨j9, h4, e8, X, a2⟩ := Kd.R_elem u.out z54 (l : Int) p7 q7; obtain rfl := k54_openM e8; have n0 : I.cell? ⟨m, (l : Int).toNat * 4, none⟩ = some (iv_ ((rd_T54 B l).f0)) := X 0 _ rfl; have n1 : I.cell? ⟨m, (l : Int).toNat * 4 + 1, none⟩ = some (iv_ ((rd_T54 B l).f1)) := X 1 _ rfl; have n2 : I.cell? ⟨m, (l : Int).toNat * 4 + 2, none⟩ = some (iv_ ((rd_T54 B l).f2)) := X 2 _ rfl; have n3 : I.cell? ⟨m, (l : Int).toNat * 4 + 3, none⟩ = some (iv_ ((rd_T54 B l).f3)) := X 3 _ rfl; have l4 : I.frozen? ⟨m, (l : Int).toNat * 4, none⟩ = false := a2 0; have l5 : I.frozen? ⟨m, (l : Int).toNat * 4 + 1, none⟩ = false := a2 1; have l6 : I.frozen? ⟨m, (l : Int).toNat * 4 + 2, none⟩ = false := a2 2; have l7 : I.frozen? ⟨m, (l : Int).toNat * 4 + 3, none⟩ = false := a2 3; clear h4 X a2 e8; replace p7 := eq_true p7; replace q7 := eq_true q7; have d8 := Aside0.mk (show Kd.R k54 54 I y.heap.size (fun k_ => (D k_ ∨ w.heap.size ≤ k_)) (.slice (some ⟨m, 0, none⟩) s.length L) B from (ra_ u)); obtain ⟨j5, f6, e4, b5, g0⟩ := Kd.R_elem d8.out z54 (l : Int) od_ (by have h_ : (l : Int) < ((s.length : Int) : Int) := od_; first | exact h_ | (have e_ := (Kd.R_reads' u.out).1; omega) | simpa using h_); obtain rfl := k54_openM e4; have b0 := Kd.R_seg d8.out (l : Int) od_ (by have h_ : (l : Int) < ((s.length : Int) : Int) := od_; first | exact h_ | (have e_ := (Kd.R_reads' u.out).1; omega) | simpa using h_) (seg := [iv_ (wrap64 ((wrap64 (x + 1)) + 1))]) (j := 2) f6 b5 (show 3 ≤ 4 from by decide) (x' := (⟨(rd_T54 B l).f0, (rd_T54 B l).f1, wrap64 ((wrap64 (x + 1)) + 1), (rd_T54 B l).f3⟩ : S54)) (k54_mkM _ _ _ (⟨(rd_T54 B l).f0, (rd_T54 B l).f1, wrap64 ((wrap64 (x + 1)) + 1), (rd_T54 B l).f3⟩ : S54) ) (fun _ hk => hk); have i3 := b5 2 _ rfl; (try simp only [show (k54).sz = 4 from rfl, Nat.mul_one, Nat.add_zero] at i3); have h8 := g0 2; (try simp only [show (k54).sz = 4 from rfl, Nat.mul_one, Nat.add_zero] at h8); clear f6 b5 g0 e4) | ((with_reducible refine gate_store (t := 3) (p := 30) rfl ?_); refine store_event (t := 3) (p := 30) (v := ?vo_w15) (w1 := (I.setCell ⟨m, (l : Int).toNat * 4 + 2, none⟩ (iv_ (wrap64 ((wrap64 (x + 1)) + 1))))) ?hg ?ho ?hn ?hr ?_; (case ho => rfl); (case hg => rfl); (case hn => rfl); (case hr => first | (go_simp; done) | (go_simp; rfl)); intro J hw; have hg : I.grownBy J (some m) := (by rw [hw]; exact b0.2); have hp_ : Kd.R k54 54 J y.heap.size (fun k_ => (D k_ ∨ w.heap.size ≤ k_)) (.slice (some ⟨m, 0, none⟩) s.length L) z := (by rw [hw, g6.out]; exact b0.1); clear b0; refine sh3_ hp_ ((by rw [hw]; exact below_set (HB.out) a6.out : Below y.heap.size y J)) (Kept.of_grown (S := (fun k_ => D k_)) hg (by repeat (first | (with_reducible first | exact HK.out | apply Kept.alloc | apply Kept.drewN | apply Kept.drew) | exact HK.out)) (fun k_ e_ => (u.out.1 k_ e_))) ?_; clear u HB HK; intro u HB HK; clear hg hw hp_; have p8 : 0 ≤ (l : Int) := od_; have q8 : (l : Int) < ((s.length : Int) : Int) := od_; obtain ⟨k0, h5, e9, Y, a3⟩ := Kd.R_elem u.out z54 (l : Int) p8 q8; obtain rfl := k54_openM e9; have n4 : J.cell? ⟨m, (l : Int).toNat * 4, none⟩ = some (iv_ ((rd_T54 z l).f0)) := Y 0 _ rfl; have n5 : J.cell? ⟨m, (l : Int).toNat * 4 + 1, none⟩ = some (iv_ ((rd_T54 z l).f1)) := Y 1 _ rfl; have n6 : J.cell? ⟨m, (l : Int).toNat * 4 + 2, none⟩ = some (iv_ ((rd_T54 z l).f2)) := Y 2 _ rfl; have n7 : J.cell? ⟨m, (l : Int).toNat * 4 + 3, none⟩ = some (iv_ ((rd_T54 z l).f3)) := Y 3 _ rfl; have l8 : J.frozen? ⟨m, (l : Int).toNat * 4, none⟩ = false := a3 0; have l9 : J.frozen? ⟨m, (l : Int).toNat * 4 + 1, none⟩ = false := a3 1; have m0 : J.frozen? ⟨m, (l : Int).toNat * 4 + 2, none⟩ = false := a3 2; have m1 : J.frozen? ⟨m, (l : Int).toNat * 4 + 3, none⟩ = false := a3 3; clear h5 Y a3 e9; replace p8 := eq_true p8; replace q8 := eq_true q8; have d9 := Aside0.mk (show Kd.R k54 54 J y.heap.size (fun k_ => (D k_ ∨ w.heap.size ≤ k_)) (.slice (some ⟨m, 0, none⟩) s.length L) z from (ra_ u)); obtain ⟨j6, f7, e5, b6, g1⟩ := Kd.R_elem d9.out z54 (l : Int) od_ (by have h_ : (l : Int) < ((s.length : Int) : Int) := od_; first | exact h_ | (have e_ := (Kd.R_reads' u.out).1; omega) | simpa using h_); obtain rfl := k54_openM e5; have b1 := Kd.R_seg d9.out (l : Int) od_ (by have h_ : (l : Int) < ((s.length : Int) : Int) := od_; first | exact h_ | (have e_ := (Kd.R_reads' u.out).1; omega) | simpa using h_) (seg := [iv_ (wrap64 ((wrap64 ((wrap64 (x + 1)) + 1)) + 1))]) (j := 3) f7 b6 (show 4 ≤ 4 from by decide) (x' := (⟨(rd_T54 z l).f0, (rd_T54 z l).f1, (rd_T54 z l).f2, wrap64 ((wrap64 ((wrap64 (x + 1)) + 1)) + 1)⟩ : S54)) (k54_mkM _ _ _ (⟨(rd_T54 z l).f0, (rd_T54 z l).f1, (rd_T54 z l).f2, wrap64 ((wrap64 ((wrap64 (x + 1)) + 1)) + 1)⟩ : S54) ) (fun _ hk => hk); have i4 := b6 3 _ rfl; (try simp only [show (k54).sz = 4 from rfl, Nat.mul_one, Nat.add_zero] at i4); have h9 := g1 3; (try simp only [show (k54).sz = 4 from rfl, Nat.mul_one, Nat.add_zero] at h9); clear f7 b6 g1 e5) | ((with_reducible refine gate_store (t := 3) (p := 37) rfl ?_); refine store_event (t := 3) (p := 37) (v := ?vo_w17) (w1 := (J.setCell ⟨m, (l : Int).toNat * 4 + 3, none⟩ (iv_ (wrap64 ((wrap64 ((wrap64 (x + 1)) + 1)) + 1))))) ?hg ?ho ?hn ?hr ?_; (case ho => rfl); (case hg => rfl); (case hn => rfl); (case hr => first | (go_simp; done) | (go_simp; rfl)); intro d3 hw; have hg : J.grownBy d3 (some m) := (by rw [hw]; exact b1.2); have hp_ : Kd.R k54 54 d3 y.heap.size (fun k_ => (D k_ ∨ w.heap.size ≤ k_)) (.slice (some ⟨m, 0, none⟩) s.length L) g2 := (by rw [hw, g7.out]; exact b1.1); clear b1; refine sh3_ hp_ ((by rw [hw]; exact below_set (HB.out) a6.out : Below y.heap.size y d3)) (Kept.of_grown (S := (fun k_ => D k_)) hg (by repeat (first | (with_reducible first | exact HK.out | apply Kept.alloc | apply Kept.drewN | apply Kept.drew) | exact HK.out)) (fun k_ e_ => (u.out.1 k_ e_))) ?_; clear u HB HK; intro u HB HK; clear hg hw hp_))
    go_roundg k1
    case measure => have := d5.out; omega
    case rel => exact ⟨(g2), (wrap64 ((wrap64 ((wrap64 ((wrap64 (x + 1)) + 1)) + 1)) + 1)), (wrap64 (l + 1)), (by first | rfl | (simp; done) | (simp [*]; done)), (by first | rfl | (simp; done) | (simp [*]; done)), H', ⟨by have := d5.out; omega⟩, ⟨ra_ u⟩, ⟨by repeat (first | (with_reducible first | exact HK.out | apply Kept.alloc | apply Kept.drewN | apply Kept.drew) | exact HK.out)⟩, ⟨bl_ HB⟩⟩
   ·rw [if_neg c3] at H
    have g8 : decide (l < (s.length : Int)) = false := decide_eq_false c3
    clear c3
    simp only [Option.some.injEq, Prod.mk.injEq] at H
    obtain ⟨rfl, rfl⟩ := H
    obtain ⟨i7, k3, g9⟩ := Kd.R_slice u.out
    subst g9
    go_wp2
    go_ret
    exact ⟨er_, ra_ u, bl_ HB, by repeat (first | (with_reducible first | exact HK.out | apply Kept.alloc | apply Kept.drewN | apply Kept.drew) | exact HK.out)⟩

/-! ### laws_heldContactS: function 13 -/
def laws_heldContactS.l0 : Nat → List S54 → Int → Int → Option (Int)
 | 0, _, _, _ => none
 | k + 1, l, m, j => if j < (l.length : Int) then (if 0 ≤ j then (if ((rd_T54 l j).f0) = m then (if ((rd_T54 l j).f1) = (wrap64 (m + 1)) then (if ((rd_T54 l j).f2) = (wrap64 ((wrap64 (m + 1)) + 1)) then (if ((rd_T54 l j).f3) = (wrap64 ((wrap64 ((wrap64 (m + 1)) + 1)) + 1)) then (laws_heldContactS.l0 k l (wrap64 ((wrap64 ((wrap64 ((wrap64 (m + 1)) + 1)) + 1)) + 1)) (wrap64 (j + 1))) else (some (-1))) else (some (-1))) else (some (-1))) else (some (-1))) else (none)) else (some m)
def laws_heldContactS.f (k : Nat) (l : List S54) (j : Int) : Option (Int) := laws_heldContactS.l0 k l j 0
theorem laws_heldContactS.calls (k : Nat) (A0 : Option Addr) (c0 : Nat) (l : List S54) (a1 r : Int) (w : World) (b2 : Kd.C k54 w A0 l.length l) (b1 : l.length ≤ c0) (h : laws_heldContactS.f k l a1 = some r) :
  Calls Tryz.prog 13 #[.slice A0 l.length c0, iv_ a1] w fun e w' => e = .returned (iv_ r) ∧ Drawn0 w w' := by
 have y := Aside0.mk b2
 have e2 := Aside0.mk b1
 clear b2 b1
 have H := h
 clear h
 unfold laws_heldContactS.f at H
 have H' := Aside0.mk H
 clear H
 go_enter Tryz.func13, Tryz.ntmps13
 go_wp2
 go_loopg [1, 5] k (fun kq v1 v5 w' => ∃ (G : Int) (j : Int), v1 = iv_ G ∧ v5 = iv_ j ∧ Aside0 (laws_heldContactS.l0 kq l G j = some r) ∧ Aside0 (kq ≤ k) ∧ Drawn0 w w')
 case atStart => exact ⟨(a1), (0), (by first | rfl | (simp; done) | (simp [*]; done)), (by first | rfl | (simp; done) | (simp [*]; done)), H', ⟨Nat.le_refl _⟩, by repeat (first | exact Drawn0.refl _ | apply Drawn0.step)⟩
 case round =>
  clear H'
  obtain ⟨G, j, rfl, rfl, HA, a9, ⟨m1, rfl⟩⟩ := hrel
  cases gk with
  | zero => exact absurd HA.out (by simp [laws_heldContactS.l0])
  | succ k1 =>
   have H := HA.out
   clear HA
   simp only [laws_heldContactS.l0] at H
   by_cases c3 : j < (l.length : Int)
   ·rw [if_pos c3] at H
    have b7 := decide_eq_true c3
    clear c3
    replace H := ifn_ H
    obtain ⟨c4, H⟩ := H
    have e3 := decide_eq_true c4
    clear c4
    by_cases c5 : ((rd_T54 l j).f0) = G
    ·rw [if_pos c5] at H
     obtain ⟨b8, b9⟩ := bt_ c5
     clear c5
     by_cases c6 : ((rd_T54 l j).f1) = (wrap64 (G + 1))
     ·rw [if_pos c6] at H
      obtain ⟨c1, d0⟩ := bt_ c6
      clear c6
      by_cases c7 : ((rd_T54 l j).f2) = (wrap64 ((wrap64 (G + 1)) + 1))
      ·rw [if_pos c7] at H
       obtain ⟨d1, d2⟩ := bt_ c7
       clear c7
       by_cases c8 : ((rd_T54 l j).f3) = (wrap64 ((wrap64 ((wrap64 (G + 1)) + 1)) + 1))
       ·rw [if_pos c8] at H
        obtain ⟨d3, d4⟩ := bt_ c8
        clear c8
        have H' := Aside0.mk H
        clear H
        have m : 0 ≤ (j : Int) := od_
        have s : j < (l.length : Int) := od_
        obtain ⟨z, E, U, X, Y, Z⟩ := at_T54 y.out j m s
        cases E
        replace m := eq_true m
        replace s := eq_true s
        have u : 0 ≤ (j : Int) := od_
        have x : j < (l.length : Int) := od_
        obtain ⟨I, J, a4, a5, a6, a7⟩ := at_T54 y.out j u x
        obtain rfl : z = I := (by injection J)
        replace u := eq_true u
        replace x := eq_true x
        have B : 0 ≤ (j : Int) := od_
        have D : j < (l.length : Int) := od_
        obtain ⟨O, T, b3, b4, b5, b6⟩ := at_T54 y.out j B D
        obtain rfl : z = O := (by injection T)
        replace B := eq_true B
        replace D := eq_true D
        have L : 0 ≤ (j : Int) := od_
        have M : j < (l.length : Int) := od_
        obtain ⟨a2, a3, d5, d6, d7, d8⟩ := at_T54 y.out j L M
        obtain rfl : z = a2 := (by injection a3)
        replace L := eq_true L
        replace M := eq_true M
        go_wp2
        go_roundg k1
        case measure => have := a9.out; omega
        case rel => exact ⟨(wrap64 ((wrap64 ((wrap64 ((wrap64 (G + 1)) + 1)) + 1)) + 1)), (wrap64 (j + 1)), (by first | rfl | (simp; done) | (simp [*]; done)), (by first | rfl | (simp; done) | (simp [*]; done)), H', ⟨by have := a9.out; omega⟩, by repeat (first | exact Drawn0.refl _ | apply Drawn0.step)⟩
       ·rw [if_neg c8] at H
        obtain ⟨d3, d4⟩ := bn_ c8
        obtain rfl := Option.some.inj H
        have m : 0 ≤ (j : Int) := od_
        have s : j < (l.length : Int) := od_
        obtain ⟨z, E, U, X, Y, Z⟩ := at_T54 y.out j m s
        cases E
        replace m := eq_true m
        replace s := eq_true s
        have u : 0 ≤ (j : Int) := od_
        have x : j < (l.length : Int) := od_
        obtain ⟨I, J, a4, a5, a6, a7⟩ := at_T54 y.out j u x
        obtain rfl : z = I := (by injection J)
        replace u := eq_true u
        replace x := eq_true x
        have B : 0 ≤ (j : Int) := od_
        have D : j < (l.length : Int) := od_
        obtain ⟨O, T, b3, b4, b5, b6⟩ := at_T54 y.out j B D
        obtain rfl : z = O := (by injection T)
        replace B := eq_true B
        replace D := eq_true D
        have L : 0 ≤ (j : Int) := od_
        have M : j < (l.length : Int) := od_
        obtain ⟨a2, a3, d5, d6, d7, d8⟩ := at_T54 y.out j L M
        obtain rfl : z = a2 := (by injection a3)
        replace L := eq_true L
        replace M := eq_true M
        go_wp2
        go_ret
        exact ⟨by first | rfl | (simp; done) | (simp [*]; done), by repeat (first | exact Drawn0.refl _ | apply Drawn0.step)⟩
      ·rw [if_neg c7] at H
       obtain ⟨d1, d2⟩ := bn_ c7
       obtain rfl := Option.some.inj H
       have m : 0 ≤ (j : Int) := od_
       have s : j < (l.length : Int) := od_
       obtain ⟨z, E, U, X, Y, Z⟩ := at_T54 y.out j m s
       cases E
       replace m := eq_true m
       replace s := eq_true s
       have u : 0 ≤ (j : Int) := od_
       have x : j < (l.length : Int) := od_
       obtain ⟨I, J, a4, a5, a6, a7⟩ := at_T54 y.out j u x
       obtain rfl : z = I := (by injection J)
       replace u := eq_true u
       replace x := eq_true x
       have B : 0 ≤ (j : Int) := od_
       have D : j < (l.length : Int) := od_
       obtain ⟨O, T, b3, b4, b5, b6⟩ := at_T54 y.out j B D
       obtain rfl : z = O := (by injection T)
       replace B := eq_true B
       replace D := eq_true D
       go_wp2
       go_ret
       exact ⟨by first | rfl | (simp; done) | (simp [*]; done), by repeat (first | exact Drawn0.refl _ | apply Drawn0.step)⟩
     ·rw [if_neg c6] at H
      obtain ⟨c1, d0⟩ := bn_ c6
      obtain rfl := Option.some.inj H
      have m : 0 ≤ (j : Int) := od_
      have s : j < (l.length : Int) := od_
      obtain ⟨z, E, U, X, Y, Z⟩ := at_T54 y.out j m s
      cases E
      replace m := eq_true m
      replace s := eq_true s
      have u : 0 ≤ (j : Int) := od_
      have x : j < (l.length : Int) := od_
      obtain ⟨I, J, a4, a5, a6, a7⟩ := at_T54 y.out j u x
      obtain rfl : z = I := (by injection J)
      replace u := eq_true u
      replace x := eq_true x
      go_wp2
      go_ret
      exact ⟨by first | rfl | (simp; done) | (simp [*]; done), by repeat (first | exact Drawn0.refl _ | apply Drawn0.step)⟩
    ·rw [if_neg c5] at H
     obtain ⟨b8, b9⟩ := bn_ c5
     obtain rfl := Option.some.inj H
     have m : 0 ≤ (j : Int) := od_
     have s : j < (l.length : Int) := od_
     obtain ⟨z, E, U, X, Y, Z⟩ := at_T54 y.out j m s
     cases E
     replace m := eq_true m
     replace s := eq_true s
     go_wp2
     go_ret
     exact ⟨by first | rfl | (simp; done) | (simp [*]; done), by repeat (first | exact Drawn0.refl _ | apply Drawn0.step)⟩
   ·rw [if_neg c3] at H
    have b7 : decide (j < (l.length : Int)) = false := decide_eq_false c3
    clear c3
    obtain rfl := Option.some.inj H
    go_wp2
    go_ret
    exact ⟨by first | rfl | (simp; done) | (simp [*]; done), by repeat (first | exact Drawn0.refl _ | apply Drawn0.step)⟩

/-! ### spec_l1In: function 40 -/
def spec_l1In.f (j l m : Int) : Option (Bool) := if j ≥ l then (some (decide (j ≤ m))) else (some false)
theorem spec_l1In.calls (j l m : Int) (r : Bool) (w : World) (h : spec_l1In.f j l m = some r) :
  Calls Tryz.prog 40 #[iv_ j, iv_ l, iv_ m] w fun e w' => e = .returned (.bool r) ∧ Drawn0 w w' := by
 have H := h
 clear h
 unfold spec_l1In.f at H
 by_cases c4 : j ≥ l
 ·rw [if_pos c4] at H
  have s : decide (l ≤ j) = true := decide_eq_true c4
  clear c4
  obtain rfl := Option.some.inj H
  go_enter Tryz.func40, Tryz.ntmps40
  go_wp2
  go_ret
  exact ⟨by first | rfl | (simp; done) | (simp [*]; done), by repeat (first | exact Drawn0.refl _ | apply Drawn0.step)⟩
 ·rw [if_neg c4] at H
  have s : decide (l ≤ j) = false := decide_eq_false c4
  clear c4
  obtain rfl := Option.some.inj H
  go_enter Tryz.func40, Tryz.ntmps40
  go_wp2
  go_ret
  exact ⟨by first | rfl | (simp; done) | (simp [*]; done), by repeat (first | exact Drawn0.refl _ | apply Drawn0.step)⟩

/-! ### spec_IsSat: function 39 -/
def spec_IsSat.f (j l m s u : Int) : Option (Bool) := if j ≥ 0 then (if j < u then ((spec_l1In.f l 0 359).bind fun x => (if x = true then ((spec_l1In.f m (-60) 60).bind fun y => (if y = true then ((spec_l1In.f s 0 20).bind fun z => (some z)) else (some false))) else (some false))) else (some false)) else (some false)
theorem spec_IsSat.calls (j l u x D : Int) (r : Bool) (w : World) (h : spec_IsSat.f j l u x D = some r) :
  Calls Tryz.prog 39 #[.agg #[iv_ j, iv_ l, iv_ u, iv_ x], iv_ D] w fun e w' => e = .returned (.bool r) ∧ Below w.heap.size w w' := by
 have a0 := Tryz.underlying68
 have HB := Aside0.mk (Below.refl w.heap.size w)
 have H := h
 clear h
 unfold spec_IsSat.f at H
 by_cases c3 : j ≥ 0
 ·rw [if_pos c3] at H
  have I : decide (0 ≤ j) = true := decide_eq_true c3
  clear c3
  by_cases c4 : j < D
  ·rw [if_pos c4] at H
   have J := decide_eq_true c4
   clear c4
   replace H := bs_ H
   obtain ⟨L, B, H⟩ := H
   by_cases c6 : L = true
   ·subst c6
    rw [if_pos rfl] at H
    replace H := bs_ H
    obtain ⟨M, E, H⟩ := H
    by_cases c8 : M = true
    ·subst c8
     rw [if_pos rfl] at H
     replace H := bs_ H
     obtain ⟨O, G, H⟩ := H
     obtain rfl := Option.some.inj H
     go_enter Tryz.func39, Tryz.ntmps39
     go_wp2_with (first | ((with_reducible refine gd_ 2 ?_); refine bx_ 2 68 #[iv_ j, iv_ l, iv_ u, iv_ x] ?_; intro z hg a2 hbox hb; refine sh3_ (below_step (bl_ HB) hb) hbox (ge_ hg (bl_ HB)) ?_; clear HB hb hbox hg; intro HB m s; have T := cf4_ m) | (go_at_call 40; (with_reducible refine (spec_l1In.calls l 0 359 true _ B.out).mono ?_); rintro e w' ⟨rfl, ⟨nd, rfl⟩⟩) | (go_at_call 40; (with_reducible refine (spec_l1In.calls u (-60) 60 true _ E.out).mono ?_); rintro e w' ⟨rfl, ⟨nd, rfl⟩⟩) | (go_at_call 40; (with_reducible refine (spec_l1In.calls x 0 20 O _ G.out).mono ?_); rintro e w' ⟨rfl, ⟨nd, rfl⟩⟩))
     go_ret
     exact ⟨er_, bl1_ HB s⟩
    ·replace c8 := Bool.eq_false_iff.mpr c8
     subst c8
     have y : (some false) = some r := by rw [if_neg (show ¬ (false = true) by decide)] at H; exact H
     clear H
     have H := y
     clear y
     obtain rfl := Option.some.inj H
     go_enter Tryz.func39, Tryz.ntmps39
     go_wp2_with (first | ((with_reducible refine gd_ 2 ?_); refine bx_ 2 68 #[iv_ j, iv_ l, iv_ u, iv_ x] ?_; intro z hg a3 hbox hb; refine sh3_ (below_step (bl_ HB) hb) hbox (ge_ hg (bl_ HB)) ?_; clear HB hb hbox hg; intro HB m s; have U := cf4_ m) | (go_at_call 40; (with_reducible refine (spec_l1In.calls l 0 359 true _ B.out).mono ?_); rintro e w' ⟨rfl, ⟨nd, rfl⟩⟩) | (go_at_call 40; (with_reducible refine (spec_l1In.calls u (-60) 60 false _ E.out).mono ?_); rintro e w' ⟨rfl, ⟨nd, rfl⟩⟩))
     go_ret
     exact ⟨er_, bl1_ HB s⟩
   ·replace c6 := Bool.eq_false_iff.mpr c6
    subst c6
    have y : (some false) = some r := by rw [if_neg (show ¬ (false = true) by decide)] at H; exact H
    clear H
    have H := y
    clear y
    obtain rfl := Option.some.inj H
    go_enter Tryz.func39, Tryz.ntmps39
    go_wp2_with (first | ((with_reducible refine gd_ 2 ?_); refine bx_ 2 68 #[iv_ j, iv_ l, iv_ u, iv_ x] ?_; intro z hg a4 hbox hb; refine sh3_ (below_step (bl_ HB) hb) hbox (ge_ hg (bl_ HB)) ?_; clear HB hb hbox hg; intro HB m s; have X := cf4_ m) | (go_at_call 40; (with_reducible refine (spec_l1In.calls l 0 359 false _ B.out).mono ?_); rintro e w' ⟨rfl, ⟨nd, rfl⟩⟩))
    go_ret
    exact ⟨er_, bl1_ HB s⟩
  ·rw [if_neg c4] at H
   have J := decide_eq_false c4
   clear c4
   obtain rfl := Option.some.inj H
   go_enter Tryz.func39, Tryz.ntmps39
   go_wp2_with (first | ((with_reducible refine gd_ 2 ?_); refine bx_ 2 68 #[iv_ j, iv_ l, iv_ u, iv_ x] ?_; intro z hg a5 hbox hb; refine sh3_ (below_step (bl_ HB) hb) hbox (ge_ hg (bl_ HB)) ?_; clear HB hb hbox hg; intro HB m s; have Y := cf4_ m))
   go_ret
   exact ⟨er_, bl1_ HB s⟩
 ·rw [if_neg c3] at H
  have I : decide (0 ≤ j) = false := decide_eq_false c3
  clear c3
  obtain rfl := Option.some.inj H
  go_enter Tryz.func39, Tryz.ntmps39
  go_wp2_with (first | ((with_reducible refine gd_ 2 ?_); refine bx_ 2 68 #[iv_ j, iv_ l, iv_ u, iv_ x] ?_; intro z hg a6 hbox hb; refine sh3_ (below_step (bl_ HB) hb) hbox (ge_ hg (bl_ HB)) ?_; clear HB hb hbox hg; intro HB m s; have Z := cf4_ m))
  go_ret
  exact ⟨er_, bl1_ HB s⟩

/-! ### spec_l7Turn: function 41 -/
def spec_l7Turn.f (j : Int) : Option (Bool) := (spec_l1In.f j (-60) 60).bind fun l => (some l)
theorem spec_l7Turn.calls (j : Int) (r : Bool) (w : World) (h : spec_l7Turn.f j = some r) :
  Calls Tryz.prog 41 #[iv_ j] w fun e w' => e = .returned (.bool r) ∧ Drawn0 w w' := by
 have H := h
 clear h
 unfold spec_l7Turn.f at H
 replace H := bs_ H
 obtain ⟨m, l, H⟩ := H
 obtain rfl := Option.some.inj H
 go_enter Tryz.func41, Tryz.ntmps41
 go_wp2_with (first | ((with_reducible refine gate_callee (f := 40) rfl ?_); refine gl_ 4 Tryz.func40 (spec_l1In.calls j (-60) 60 m _ l.out) ?_; rintro e w' ⟨rfl, ⟨nd, rfl⟩⟩; refine ⟨_, rfl, ?_⟩))
 go_ret
 exact ⟨by first | rfl | (simp; done) | (simp [*]; done), by repeat (first | exact Drawn0.refl _ | apply Drawn0.step)⟩

/-! ### spec_l7Half: function 42 -/
def spec_l7Half.f (j : Int) : Option (Bool) := (spec_l1In.f j 0 180).bind fun l => (some l)
theorem spec_l7Half.calls (j : Int) (r : Bool) (w : World) (h : spec_l7Half.f j = some r) :
  Calls Tryz.prog 42 #[iv_ j] w fun e w' => e = .returned (.bool r) ∧ Drawn0 w w' := by
 have H := h
 clear h
 unfold spec_l7Half.f at H
 replace H := bs_ H
 obtain ⟨m, l, H⟩ := H
 obtain rfl := Option.some.inj H
 go_enter Tryz.func42, Tryz.ntmps42
 go_wp2_with (first | ((with_reducible refine gate_callee (f := 40) rfl ?_); refine gl_ 4 Tryz.func40 (spec_l1In.calls j 0 180 m _ l.out) ?_; rintro e w' ⟨rfl, ⟨nd, rfl⟩⟩; refine ⟨_, rfl, ?_⟩))
 go_ret
 exact ⟨by first | rfl | (simp; done) | (simp [*]; done), by repeat (first | exact Drawn0.refl _ | apply Drawn0.step)⟩

end Go.Proofs.YtpjhdehbikohmaaGreat.PFnExactPlanOf
