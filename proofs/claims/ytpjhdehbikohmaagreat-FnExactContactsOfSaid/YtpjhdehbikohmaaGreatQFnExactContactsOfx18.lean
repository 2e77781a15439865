-- Written by a program of this session for this claim (the kit's printer with changes).
import Derived.Test.YtpjhdehbikohmaaGreatQFnExactContactsOfx0
import Derived.Test.YtpjhdehbikohmaaGreatQFnExactContactsOfx1
import Derived.Test.YtpjhdehbikohmaaGreatQFnExactContactsOfx8
import Derived.Test.YtpjhdehbikohmaaGreatQFnExactContactsOfx9
import Derived.Test.YtpjhdehbikohmaaGreatQFnExactContactsOfx16
import Derived.Test.YtpjhdehbikohmaaGreatQFnExactContactsOfx17
namespace Go.Proofs.YtpjhdehbikohmaaGreat.PFnExactContactsOf
open Go.RowKit Go.Proofs.YtpjhdehbikohmaaGreatW.PrintWords Go.Proofs.YtpjhdehbikohmaaGreatW.PrintLast Go.Proofs.YtpjhdehbikohmaaGreatW.PrintMore
attribute [local go_sem] max2_int min2_int max_two min_two max_three min_three max_four min_four   -- for this text's walks alone
set_option linter.unusedVariables false
set_option maxHeartbeats 8000000
set_option maxRecDepth 100000
set_option linter.unusedSimpArgs false

/-! ### laws_markZoneS: function 36 -/
def laws_markZoneS.l0 : Nat → List S76 → Int → Int → Option (Int × List S76)
 | 0, _, _, _ => none
 | k + 1, l, m, j => if j < (l.length : Int) then (if 0 ≤ j then ((some (l.set (j : Int).toNat (⟨m, (⟨(rd_T76 l j).f1.f0, (rd_T76 l j).f1.f1⟩ : S74)⟩ : S76) : List S76)).bind fun s => ((some (s.set (j : Int).toNat (⟨(rd_T76 s j).f0, (⟨wrap64 (m + 1), (rd_T76 s j).f1.f1⟩ : S74)⟩ : S76) : List S76)).bind fun u => (laws_markZoneS.l0 k (u.set (j : Int).toNat (⟨(rd_T76 u j).f0, (⟨(rd_T76 u j).f1.f0, wrap64 ((wrap64 (m + 1)) + 1)⟩ : S74)⟩ : S76)) (wrap64 ((wrap64 ((wrap64 (m + 1)) + 1)) + 1)) (wrap64 (j + 1))))) else (none)) else (some (m, l))
def laws_markZoneS.f (k : Nat) (l : List S76) (j : Int) : Option (Int × List S76) := laws_markZoneS.l0 k l j 0
theorem laws_markZoneS.calls (k : Nat) (z : Nat → Prop) (M : Value) (l0 : List S76) (a1 J : Int) (L : List S76) (y w : World) (hB : Below y.heap.size y w) (g2 : Kd.R k76 76 w y.heap.size z M l0) (h : laws_markZoneS.f k l0 a1 = some (J, L)) :
  Calls Tryz.prog 36 #[M, iv_ a1] w fun e w' => e = .returned (iv_ J) ∧ Kd.R k76 76 w' y.heap.size (fun k_ => (z k_ ∨ w.heap.size ≤ k_)) M L ∧ Below y.heap.size y w' ∧ Kept w w' (fun k_ => z k_) := by
 have e6 := Aside0.mk (show Kd.R k76 76 w y.heap.size (fun k_ => (z k_ ∨ w.heap.size ≤ k_)) M l0 from Kd.R_mono g2 (fun k_ hk => (.inl hk)))
 have HK := Aside0.mk (Kept.refl w (fun k_ => z k_))
 have h2 := Aside0.mk hB.size
 have HB := Aside0.mk hB
 clear hB
 have H := h
 clear h
 unfold laws_markZoneS.f at H
 have H' := Aside0.mk H
 clear H
 go_enter Tryz.func36, Tryz.ntmps36
 go_wp2
 go_loopg [1, 5] k (fun kq v1 v5 w' => ∃ (s : List S76) (x : Int) (l : Int), v1 = iv_ x ∧ v5 = iv_ l ∧ Aside0 (laws_markZoneS.l0 kq s x l = some (J, L)) ∧ Aside0 (kq ≤ k) ∧ Aside0 (Kd.R k76 76 w' y.heap.size (fun k_ => (z k_ ∨ w.heap.size ≤ k_)) M s) ∧ Aside0 (Kept w w' (fun k_ => z k_)) ∧ Aside0 (Below y.heap.size y w'))
 case atStart => exact ⟨(l0), (a1), (0), (by first | rfl | (simp; done) | (simp [*]; done)), (by first | rfl | (simp; done) | (simp [*]; done)), H', ⟨Nat.le_refl _⟩, ⟨ra_ e6⟩, ⟨by repeat (first | (with_reducible first | exact HK.out | apply Kept.alloc | apply Kept.drewN | apply Kept.drew) | exact HK.out)⟩, ⟨bl_ HB⟩⟩
 case round =>
  clear H'
  obtain ⟨s, x, l, rfl, rfl, HA, b9, u, HK, HB⟩ := hrel
  cases gk with
  | zero => exact absurd HA.out (by simp [laws_markZoneS.l0])
  | succ k1 =>
   have H := HA.out
   clear HA
   simp only [laws_markZoneS.l0] at H
   by_cases c3 : l < (s.length : Int)
   ·rw [if_pos c3] at H
    have f2 := decide_eq_true c3
    clear c3
    replace H := ifn_ H
    obtain ⟨c4, H⟩ := H
    have h3 := decide_eq_true c4
    clear c4
    replace H : ∃ y_ : List S76, Aside0 (y_ = (s.set (l : Int).toNat (⟨x, (⟨(rd_T76 s l).f1.f0, (rd_T76 s l).f1.f1⟩ : S74)⟩ : S76))) ∧ ((some (y_.set (l : Int).toNat (⟨(rd_T76 y_ l).f0, (⟨wrap64 (x + 1), (rd_T76 y_ l).f1.f1⟩ : S74)⟩ : S76) : List S76)).bind fun B => (laws_markZoneS.l0 k1 (B.set (l : Int).toNat (⟨(rd_T76 B l).f0, (⟨(rd_T76 B l).f1.f0, wrap64 ((wrap64 (x + 1)) + 1)⟩ : S74)⟩ : S76)) (wrap64 ((wrap64 ((wrap64 (x + 1)) + 1)) + 1)) (wrap64 (l + 1)))) = some (J, L) := ⟨_, ⟨rfl⟩, yh_ H⟩
    obtain ⟨G, e7, H⟩ := H
    replace H : ∃ y_ : List S76, Aside0 (y_ = (G.set (l : Int).toNat (⟨(rd_T76 G l).f0, (⟨wrap64 (x + 1), (rd_T76 G l).f1.f1⟩ : S74)⟩ : S76))) ∧ (laws_markZoneS.l0 k1 (y_.set (l : Int).toNat (⟨(rd_T76 y_ l).f0, (⟨(rd_T76 y_ l).f1.f0, wrap64 ((wrap64 (x + 1)) + 1)⟩ : S74)⟩ : S76)) (wrap64 ((wrap64 ((wrap64 (x + 1)) + 1)) + 1)) (wrap64 (l + 1))) = some (J, L) := ⟨_, ⟨rfl⟩, yh_ H⟩
    obtain ⟨B, e8, H⟩ := H
    replace H : ∃ y_ : List S76, Aside0 (y_ = (B.set (l : Int).toNat (⟨(rd_T76 B l).f0, (⟨(rd_T76 B l).f1.f0, wrap64 ((wrap64 (x + 1)) + 1)⟩ : S74)⟩ : S76))) ∧ (laws_markZoneS.l0 k1 y_ (wrap64 ((wrap64 ((wrap64 (x + 1)) + 1)) + 1)) (wrap64 (l + 1))) = some (J, L) := ⟨_, ⟨rfl⟩, yh_ H⟩
    obtain ⟨e5, e9, H⟩ := H
    have H' := Aside0.mk H
    clear H
    obtain ⟨g9, I, f4⟩ := Kd.R_slice u.out
    subst f4
    have p5 : 0 ≤ (l : Int) := od_
    have q5 : (l : Int) < ((s.length : Int) : Int) := od_
    obtain ⟨m, i2, d1, d2, f5, i0, b8⟩ := Kd.R_form u.out (by omega)
    (first | cases d1 | (injection d1 with ea_ en_ ec_; (first | subst ea_ | (injection ea_ with ea_; subst ea_)); subst ec_; clear en_))
    have a3 := Aside0.mk d2
    have h0 := Aside0.mk b8
    clear d2 f5 b8
    have h1 := Aside0.mk (show (z m ∨ w.heap.size ≤ m) from (u.out.1 _ rfl))
    obtain ⟨h6, f6, d5, O, X⟩ := Kd.R_elem u.out z76 (l : Int) p5 q5
    obtain rfl := k76_openM d5
    have j2 : wr.cell? ⟨m, (l : Int).toNat * 3, none⟩ = some (iv_ ((rd_T76 s l).f0)) := O 0 _ rfl
    have j3 : wr.cell? ⟨m, (l : Int).toNat * 3 + 1, none⟩ = some (iv_ ((rd_T76 s l).f1.f0)) := O 1 _ rfl
    have j4 : wr.cell? ⟨m, (l : Int).toNat * 3 + 2, none⟩ = some (iv_ ((rd_T76 s l).f1.f1)) := O 2 _ rfl
    have i3 : wr.frozen? ⟨m, (l : Int).toNat * 3, none⟩ = false := X 0
    have i4 : wr.frozen? ⟨m, (l : Int).toNat * 3 + 1, none⟩ = false := X 1
    have i5 : wr.frozen? ⟨m, (l : Int).toNat * 3 + 2, none⟩ = false := X 2
    clear f6 O X d5
    replace p5 := eq_true p5
    replace q5 := eq_true q5
    have d0 := Aside0.mk (show Kd.R k76 76 wr y.heap.size (fun k_ => (z k_ ∨ w.heap.size ≤ k_)) (.slice (some ⟨m, 0, none⟩) s.length I) s from (ra_ u))
    obtain ⟨h9, e1, d8, b0, e4⟩ := Kd.R_elem d0.out z76 (l : Int) od_ (by have h_ : (l : Int) < ((s.length : Int) : Int) := od_; first | exact h_ | (have e_ := (Kd.R_reads' u.out).1; omega) | simpa using h_)
    obtain rfl := k76_openM d8
    have a6 := Kd.R_seg d0.out (l : Int) od_ (by have h_ : (l : Int) < ((s.length : Int) : Int) := od_; first | exact h_ | (have e_ := (Kd.R_reads' u.out).1; omega) | simpa using h_) (seg := [iv_ x]) (j := 0) e1 b0 (show 1 ≤ 3 from by decide) (x' := (⟨x, (⟨(rd_T76 s l).f1.f0, (rd_T76 s l).f1.f1⟩ : S74)⟩ : S76)) (k76_mkM _ _ _ (⟨x, (⟨(rd_T76 s l).f1.f0, (rd_T76 s l).f1.f1⟩ : S74)⟩ : S76) ) (fun _ hk => hk)
    have g5 := b0 0 _ rfl
    (try simp only [show (k76).sz = 3 from rfl, Nat.mul_one, Nat.add_zero] at g5)
    have g1 := e4 0
    (try simp only [show (k76).sz = 3 from rfl, Nat.mul_one, Nat.add_zero] at g1)
    clear e1 b0 e4 d8
    go_wp2_with (first | ((with_reducible refine gate_store (t := 3) (p := 16) rfl ?_); refine store_event (t := 3) (p := 16) (v := ?vo_w10) (w1 := (wr.setCell ⟨m, (l : Int).toNat * 3, none⟩ (iv_ x))) ?hg ?ho ?hn ?hr ?_; (case ho => rfl); (case hg => rfl); (case hn => rfl); (case hr => first | (go_simp; done) | (go_simp; rfl)); intro D hw; have hg : wr.grownBy D (some m) := (by rw [hw]; exact a6.2); have hp_ : Kd.R k76 76 D y.heap.size (fun k_ => (z k_ ∨ w.heap.size ≤ k_)) (.slice (some ⟨m, 0, none⟩) s.length I) G := (by rw [hw, e7.out]; exact a6.1); clear a6; refine sh3_ hp_ ((by rw [hw]; exact below_set (HB.out) a3.out : Below y.heap.size y D)) (Kept.of_grown (S := (fun k_ => z k_)) hg (by repeat (first | (with_reducible first | exact HK.out | apply Kept.alloc | apply Kept.drewN | apply Kept.drew) | exact HK.out)) (fun k_ e_ => (u.out.1 k_ e_))) ?_; clear u HB HK; intro u HB HK; clear hg hw hp_; have p6 : 0 ≤ (l : Int) := od_; have q6 : (l : Int) < ((s.length : Int) : Int) := od_; obtain ⟨h7, f7, d6, T, Y⟩ := Kd.R_elem u.out z76 (l : Int) p6 q6; obtain rfl := k76_openM d6; have j5 : D.cell? ⟨m, (l : Int).toNat * 3, none⟩ = some (iv_ ((rd_T76 G l).f0)) := T 0 _ rfl; have j6 : D.cell? ⟨m, (l : Int).toNat * 3 + 1, none⟩ = some (iv_ ((rd_T76 G l).f1.f0)) := T 1 _ rfl; have j7 : D.cell? ⟨m, (l : Int).toNat * 3 + 2, none⟩ = some (iv_ ((rd_T76 G l).f1.f1)) := T 2 _ rfl; have i6 : D.frozen? ⟨m, (l : Int).toNat * 3, none⟩ = false := Y 0; have i7 : D.frozen? ⟨m, (l : Int).toNat * 3 + 1, none⟩ = false := Y 1; have i8 : D.frozen? ⟨m, (l : Int).toNat * 3 + 2, none⟩ = false := Y 2; clear f7 T Y d6; replace p6 := eq_true p6; replace q6 := eq_true q6; have c0 := Aside0.mk (show Kd.R k76 76 D y.heap.size (fun k_ => (z k_ ∨ w.heap.size ≤ k_)) (.slice (some ⟨m, 0, none⟩) s.length I) G from (ra_ u)); obtain ⟨h4, d9, d3, a8, e2⟩ := Kd.R_elem c0.out z76 (l : Int) od_ (by have h_ : (l : Int) < ((s.length : Int) : Int) := od_; first | exact h_ | (have e_ := (Kd.R_reads' u.out).1; omega) | simpa using h_); obtain rfl := k76_openM d3; have a4 := Kd.R_seg c0.out (l : Int) od_ (by have h_ : (l : Int) < ((s.length : Int) : Int) := od_; first | exact h_ | (have e_ := (Kd.R_reads' u.out).1; omega) | simpa using h_) (seg := [iv_ (wrap64 (x + 1))]) (j := 1) d9 a8 (show 2 ≤ 3 from by decide) (x' := (⟨(rd_T76 G l).f0, (⟨wrap64 (x + 1), (rd_T76 G l).f1.f1⟩ : S74)⟩ : S76)) (k76_mkM _ _ _ (⟨(rd_T76 G l).f0, (⟨wrap64 (x + 1), (rd_T76 G l).f1.f1⟩ : S74)⟩ : S76) ) (fun _ hk => hk); have g3 := a8 1 _ rfl; (try simp only [show (k76).sz = 3 from rfl, Nat.mul_one, Nat.add_zero] at g3); have f9 := e2 1; (try simp only [show (k76).sz = 3 from rfl, Nat.mul_one, Nat.add_zero] at f9); clear d9 a8 e2 d3) | ((with_reducible refine gate_store (t := 3) (p := 24) rfl ?_); refine store_event (t := 3) (p := 24) (v := ?vo_w12) (w1 := (D.setCell ⟨m, (l : Int).toNat * 3 + 1, none⟩ (iv_ (wrap64 (x + 1))))) ?hg ?ho ?hn ?hr ?_; (case ho => rfl); (case hg => rfl); (case hn => rfl); (case hr => first | (go_simp; done) | (go_simp; rfl)); intro E hw; have hg : D.grownBy E (some m) := (by rw [hw]; exact a4.2); have hp_ : Kd.R k76 76 E y.heap.size (fun k_ => (z k_ ∨ w.heap.size ≤ k_)) (.slice (some ⟨m, 0, none⟩) s.length I) B := (by rw [hw, e8.out]; exact a4.1); clear a4; refine sh3_ hp_ ((by rw [hw]; exact below_set (HB.out) a3.out : Below y.heap.size y E)) (Kept.of_grown (S := (fun k_ => z k_)) hg (by repeat (first | (with_reducible first | exact HK.out | apply Kept.alloc | apply Kept.drewN | apply Kept.drew) | exact HK.out)) (fun k_ e_ => (u.out.1 k_ e_))) ?_; clear u HB HK; intro u HB HK; clear hg hw hp_; have p7 : 0 ≤ (l : Int) := od_; have q7 : (l : Int) < ((s.length : Int) : Int) := od_; obtain ⟨h8, f8, d7, U, Z⟩ := Kd.R_elem u.out z76 (l : Int) p7 q7; obtain rfl := k76_openM d7; have j8 : E.cell? ⟨m, (l : Int).toNat * 3, none⟩ = some (iv_ ((rd_T76 B l).f0)) := U 0 _ rfl; have j9 : E.cell? ⟨m, (l : Int).toNat * 3 + 1, none⟩ = some (iv_ ((rd_T76 B l).f1.f0)) := U 1 _ rfl; have k0 : E.cell? ⟨m, (l : Int).toNat * 3 + 2, none⟩ = some (iv_ ((rd_T76 B l).f1.f1)) := U 2 _ rfl; have i9 : E.frozen? ⟨m, (l : Int).toNat * 3, none⟩ = false := Z 0; have j0 : E.frozen? ⟨m, (l : Int).toNat * 3 + 1, none⟩ = false := Z 1; have j1 : E.frozen? ⟨m, (l : Int).toNat * 3 + 2, none⟩ = false := Z 2; clear f8 U Z d7; replace p7 := eq_true p7; replace q7 := eq_true q7; have c1 := Aside0.mk (show Kd.R k76 76 E y.heap.size (fun k_ => (z k_ ∨ w.heap.size ≤ k_)) (.slice (some ⟨m, 0, none⟩) s.length I) B from (ra_ u)); obtain ⟨h5, e0, d4, a9, e3⟩ := Kd.R_elem c1.out z76 (l : Int) od_ (by have h_ : (l : Int) < ((s.length : Int) : Int) := od_; first | exact h_ | (have e_ := (Kd.R_reads' u.out).1; omega) | simpa using h_); obtain rfl := k76_openM d4; have a5 := Kd.R_seg c1.out (l : Int) od_ (by have h_ : (l : Int) < ((s.length : Int) : Int) := od_; first | exact h_ | (have e_ := (Kd.R_reads' u.out).1; omega) | simpa using h_) (seg := [iv_ (wrap64 ((wrap64 (x + 1)) + 1))]) (j := 2) e0 a9 (show 3 ≤ 3 from by decide) (x' := (⟨(rd_T76 B l).f0, (⟨(rd_T76 B l).f1.f0, wrap64 ((wrap64 (x + 1)) + 1)⟩ : S74)⟩ : S76)) (k76_mkM _ _ _ (⟨(rd_T76 B l).f0, (⟨(rd_T76 B l).f1.f0, wrap64 ((wrap64 (x + 1)) + 1)⟩ : S74)⟩ : S76) ) (fun _ hk => hk); have g4 := a9 2 _ rfl; (try simp only [show (k76).sz = 3 from rfl, Nat.mul_one, Nat.add_zero] at g4); have g0 := e3 2; (try simp only [show (k76).sz = 3 from rfl, Nat.mul_one, Nat.add_zero] at g0); clear e0 a9 e3 d4) | ((with_reducible refine gate_store (t := 3) (p := 32) rfl ?_); refine store_event (t := 3) (p := 32) (v := ?vo_w14) (w1 := (E.setCell ⟨m, (l : Int).toNat * 3 + 2, none⟩ (iv_ (wrap64 ((wrap64 (x + 1)) + 1))))) ?hg ?ho ?hn ?hr ?_; (case ho => rfl); (case hg => rfl); (case hn => rfl); (case hr => first | (go_simp; done) | (go_simp; rfl)); intro b7 hw; have hg : E.grownBy b7 (some m) := (by rw [hw]; exact a5.2); have hp_ : Kd.R k76 76 b7 y.heap.size (fun k_ => (z k_ ∨ w.heap.size ≤ k_)) (.slice (some ⟨m, 0, none⟩) s.length I) e5 := (by rw [hw, e9.out]; exact a5.1); clear a5; refine sh3_ hp_ ((by rw [hw]; exact below_set (HB.out) a3.out : Below y.heap.size y b7)) (Kept.of_grown (S := (fun k_ => z k_)) hg (by repeat (first | (with_reducible first | exact HK.out | apply Kept.alloc | apply Kept.drewN | apply Kept.drew) | exact HK.out)) (fun k_ e_ => (u.out.1 k_ e_))) ?_; clear u HB HK; intro u HB HK; clear hg hw hp_))
    go_roundg k1
    case measure => have := b9.out; omega
    case rel => exact ⟨(e5), (wrap64 ((wrap64 ((wrap64 (x + 1)) + 1)) + 1)), (wrap64 (l + 1)), (by first | rfl | (simp; done) | (simp [*]; done)), (by first | rfl | (simp; done) | (simp [*]; done)), H', ⟨by have := b9.out; omega⟩, ⟨ra_ u⟩, ⟨by repeat (first | (with_reducible first | exact HK.out | apply Kept.alloc | apply Kept.drewN | apply Kept.drew) | exact HK.out)⟩, ⟨bl_ HB⟩⟩
   ·rw [if_neg c3] at H
    have f2 := decide_eq_false c3
    clear c3
    simp only [Option.some.injEq, Prod.mk.injEq] at H
    obtain ⟨rfl, rfl⟩ := H
    obtain ⟨g8, i1, f3⟩ := Kd.R_slice u.out
    subst f3
    go_wp2
    go_ret
    exact ⟨er_, ra_ u, bl_ HB, by repeat (first | (with_reducible first | exact HK.out | apply Kept.alloc | apply Kept.drewN | apply Kept.drew) | exact HK.out)⟩

/-! ### laws_markSky: function 11 -/
def laws_markSky.f (k : Nat) (z : Int) (u : List S68) (x : List S70) (B D E G I : Int) (y : List S76) (J s : Int) : Option (Int × List S68 × List S70 × List S76) := (laws_markSatS.f k u s).bind fun j => ((laws_markSiteS.f k x j.1).bind fun l => ((laws_markZoneS.f k y l.1).bind fun m => (some (m.1, j.2, l.2, m.2))))
theorem laws_markSky.calls (k : Nat) (a3 : Int) (j : Nat → Prop) (Z : Value) (D : List S68) (l : Nat → Prop) (a0 : Value) (E : List S70) (a4 a5 a6 a7 a8 : Int) (m : Nat → Prop) (a2 : Value) (G : List S76) (a9 T r1 : Int) (r2 : List S68) (r3 : List S70) (r4 : List S76) (y w : World) (hB : Below y.heap.size y w) (d1 : Kd.R k68 68 w y.heap.size j Z D) (d2 : Kd.R k70 70 w y.heap.size l a0 E) (d3 : Kd.R k76 76 w y.heap.size m a2 G) (h : laws_markSky.f k a3 D E a4 a5 a6 a7 a8 G a9 T = some (r1, r2, r3, r4)) :
  Calls Tryz.prog 11 #[.agg #[iv_ a3, Z, a0, iv_ a4, iv_ a5, iv_ a6, iv_ a7, iv_ a8, a2, iv_ a9], iv_ T] w fun e w' => e = .returned (iv_ r1) ∧ Kd.R k68 68 w' y.heap.size (fun k_ => ((j k_ ∨ l k_ ∨ m k_) ∨ w.heap.size ≤ k_)) Z r2 ∧ Kd.R k70 70 w' y.heap.size (fun k_ => ((j k_ ∨ l k_ ∨ m k_) ∨ w.heap.size ≤ k_)) a0 r3 ∧ Kd.R k76 76 w' y.heap.size (fun k_ => ((j k_ ∨ l k_ ∨ m k_) ∨ w.heap.size ≤ k_)) a2 r4 ∧ Below y.heap.size y w' ∧ Kept w w' (fun k_ => j k_ ∨ l k_ ∨ m k_) := by
 have e2 := Tryz.underlying34
 have s := Aside0.mk (show Kd.R k68 68 w y.heap.size (fun k_ => ((j k_ ∨ l k_ ∨ m k_) ∨ w.heap.size ≤ k_)) Z D from Kd.R_mono d1 (fun k_ hk => (.inl (.inl hk))))
 have u := Aside0.mk (show Kd.R k70 70 w y.heap.size (fun k_ => ((j k_ ∨ l k_ ∨ m k_) ∨ w.heap.size ≤ k_)) a0 E from Kd.R_mono d2 (fun k_ hk => (.inl (.inr (.inl hk)))))
 have x := Aside0.mk (show Kd.R k76 76 w y.heap.size (fun k_ => ((j k_ ∨ l k_ ∨ m k_) ∨ w.heap.size ≤ k_)) a2 G from Kd.R_mono d3 (fun k_ hk => (.inl (.inr (.inr hk)))))
 have HK := Aside0.mk (Kept.refl w (fun k_ => j k_ ∨ l k_ ∨ m k_))
 have d8 := Aside0.mk hB.size
 have HB := Aside0.mk hB
 clear hB
 have H := h
 clear h
 unfold laws_markSky.f at H
 replace H := bs_ H
 obtain ⟨⟨b0, d4⟩, A3, H⟩ := H
 dsimp only at H
 replace H := bs_ H
 obtain ⟨⟨b1, d5⟩, A4, H⟩ := H
 dsimp only at H
 replace H := bs_ H
 obtain ⟨⟨d6, d7⟩, A5, H⟩ := H
 dsimp only at H
 simp only [Option.some.injEq, Prod.mk.injEq] at H
 obtain ⟨rfl, rfl, rfl, rfl⟩ := H
 obtain ⟨I, U, b9⟩ := Kd.R_slice s.out
 subst b9
 obtain ⟨J, X, c0⟩ := Kd.R_slice u.out
 subst c0
 obtain ⟨L, Y, c1⟩ := Kd.R_slice x.out
 subst c1
 go_enter Tryz.func11, Tryz.ntmps11
 go_wp2_with (first | ((with_reducible refine gd_ 2 ?_); refine bx_ 2 34 #[iv_ a3, .slice I D.length U, .slice J E.length X, iv_ a4, iv_ a5, iv_ a6, iv_ a7, iv_ a8, .slice L G.length Y, iv_ a9] ?_; intro d0 hg w9 hbox hb; refine sh8_ (Kd.R_below (ra_ s) hb) (Kd.R_below (ra_ u) hb) (Kd.R_below (ra_ x) hb) (Kept.below (S := (fun k_ => j k_ ∨ l k_ ∨ m k_)) (by repeat (first | (with_reducible first | exact HK.out | apply Kept.alloc | apply Kept.drewN | apply Kept.drew) | exact HK.out)) hb) (below_step (bl_ HB) hb) hbox ((by rw [hg]; exact (by first | exact HK.out.1 | exact (show Kept w _ (fun k_ => j k_ ∨ l k_ ∨ m k_) from by repeat (first | (with_reducible first | exact HK.out | apply Kept.alloc | apply Kept.drewN | apply Kept.drew) | exact HK.out)).1) : w.heap.size ≤ d0)) (ge_ hg (bl_ HB)) ?_; clear s u x HK HB hb hbox hg; intro s u x HK HB z O M; have d9 := cf10_ z) | ((with_reducible refine gate_callee (f := 34) rfl ?_); refine goesL_ (some 8) rfl rfl Tryz.func34 (by kernel_rfl) rfl #[.slice I D.length U, iv_ T] rfl mp_ ?_; (with_reducible refine (laws_markSatS.calls k (fun k_ => some k_ = (.slice I D.length U : Value).ownBlock) (.slice I D.length U) D T b0 d4 y _ ?side1 ?side2 A3.out).mono ?_); (case side1 => repeat (first | (with_reducible first | exact HB.out | apply below_alloc | apply pw_below_drewN | apply below_drew1 | refine below_set ?_ M.out) | exact HB.out)); (case side2 => exact Kd.R_tight rfl s.out); rintro e e3 ⟨rfl, B, hb, hkp⟩; refine ⟨_, rfl, sh6_ (Kd.R_reok rfl B (fun k_ e_ => s.out.1 k_ e_)) (Kd.R_mono (ok' := fun k_ => ((j k_ ∨ l k_ ∨ m k_) ∨ w.heap.size ≤ k_)) (Kd.R_keptB ((Kd.R_apart' u.out (Kd.R_typed s.out) (by decide))) hkp (fun k_ hk_ hs_ => (hk_.2) hs_)) (fun k_ hk_ => hx_ hk_)) (Kd.R_mono (ok' := fun k_ => ((j k_ ∨ l k_ ∨ m k_) ∨ w.heap.size ≤ k_)) (Kd.R_keptB ((Kd.R_apart' x.out (Kd.R_typed s.out) (by decide))) hkp (fun k_ hk_ hs_ => (hk_.2) hs_)) (fun k_ hk_ => hx_ hk_)) (blk_kept (bk_ z) hkp (fun hs_ => (fun e_ => (Kd.R_ne s.out z.out (by decide)) e_) hs_)) (Kept.then_ (S := (fun k_ => j k_ ∨ l k_ ∨ m k_)) (by repeat (first | (with_reducible first | exact HK.out | apply Kept.alloc | apply Kept.drewN | apply Kept.drew | refine Kept.setCell ?_ (.inr O.out) _) | exact HK.out)) hkp (fun k_ hs_ => (fun e_ => (s.out.1 k_ e_.symm)) hs_)) hb ?_⟩; clear s u x z HK HB hb hkp B; intro s u x z HK HB; have e0 := cf10_ z) | ((with_reducible refine gate_callee (f := 35) rfl ?_); refine goesL_ (some 12) rfl rfl Tryz.func35 (by kernel_rfl) rfl #[.slice J E.length X, iv_ b0] rfl mp_ ?_; (with_reducible refine (laws_markSiteS.calls k (fun k_ => some k_ = (.slice J E.length X : Value).ownBlock) (.slice J E.length X) E b0 b1 d5 y _ ?side1 ?side2 A4.out).mono ?_); (case side1 => repeat (first | (with_reducible first | exact HB.out | apply below_alloc | apply pw_below_drewN | apply below_drew1 | refine below_set ?_ M.out) | exact HB.out)); (case side2 => exact Kd.R_tight rfl u.out); rintro e e4 ⟨rfl, B, hb, hkp⟩; refine ⟨_, rfl, sh6_ (Kd.R_mono (ok' := fun k_ => ((j k_ ∨ l k_ ∨ m k_) ∨ w.heap.size ≤ k_)) (Kd.R_keptB ((Kd.R_apart' s.out (Kd.R_typed u.out) (by decide))) hkp (fun k_ hk_ hs_ => (hk_.2) hs_)) (fun k_ hk_ => hx_ hk_)) (Kd.R_reok rfl B (fun k_ e_ => u.out.1 k_ e_)) (Kd.R_mono (ok' := fun k_ => ((j k_ ∨ l k_ ∨ m k_) ∨ w.heap.size ≤ k_)) (Kd.R_keptB ((Kd.R_apart' x.out (Kd.R_typed u.out) (by decide))) hkp (fun k_ hk_ hs_ => (hk_.2) hs_)) (fun k_ hk_ => hx_ hk_)) (blk_kept (bk_ z) hkp (fun hs_ => (fun e_ => (Kd.R_ne u.out z.out (by decide)) e_) hs_)) (Kept.then_ (S := (fun k_ => j k_ ∨ l k_ ∨ m k_)) (by repeat (first | (with_reducible first | exact HK.out | apply Kept.alloc | apply Kept.drewN | apply Kept.drew | refine Kept.setCell ?_ (.inr O.out) _) | exact HK.out)) hkp (fun k_ hs_ => (fun e_ => (u.out.1 k_ e_.symm)) hs_)) hb ?_⟩; clear s u x z HK HB hb hkp B; intro s u x z HK HB; have e1 := cf10_ z) | ((with_reducible refine gate_callee (f := 36) rfl ?_); refine goesL_ (some 16) rfl rfl Tryz.func36 (by kernel_rfl) rfl #[.slice L G.length Y, iv_ b1] rfl mp_ ?_; (with_reducible refine (laws_markZoneS.calls k (fun k_ => some k_ = (.slice L G.length Y : Value).ownBlock) (.slice L G.length Y) G b1 d6 d7 y _ ?side1 ?side2 A5.out).mono ?_); (case side1 => repeat (first | (with_reducible first | exact HB.out | apply below_alloc | apply pw_below_drewN | apply below_drew1 | refine below_set ?_ M.out) | exact HB.out)); (case side2 => exact Kd.R_tight rfl x.out); rintro e e5 ⟨rfl, B, hb, hkp⟩; refine ⟨_, rfl, sh6_ (Kd.R_mono (ok' := fun k_ => ((j k_ ∨ l k_ ∨ m k_) ∨ w.heap.size ≤ k_)) (Kd.R_keptB ((Kd.R_apart' s.out (Kd.R_typed x.out) (by decide))) hkp (fun k_ hk_ hs_ => (hk_.2) hs_)) (fun k_ hk_ => hx_ hk_)) (Kd.R_mono (ok' := fun k_ => ((j k_ ∨ l k_ ∨ m k_) ∨ w.heap.size ≤ k_)) (Kd.R_keptB ((Kd.R_apart' u.out (Kd.R_typed x.out) (by decide))) hkp (fun k_ hk_ hs_ => (hk_.2) hs_)) (fun k_ hk_ => hx_ hk_)) (Kd.R_reok rfl B (fun k_ e_ => x.out.1 k_ e_)) (blk_kept (bk_ z) hkp (fun hs_ => (fun e_ => (Kd.R_ne x.out z.out (by decide)) e_) hs_)) (Kept.then_ (S := (fun k_ => j k_ ∨ l k_ ∨ m k_)) (by repeat (first | (with_reducible first | exact HK.out | apply Kept.alloc | apply Kept.drewN | apply Kept.drew | refine Kept.setCell ?_ (.inr O.out) _) | exact HK.out)) hkp (fun k_ hs_ => (fun e_ => (x.out.1 k_ e_.symm)) hs_)) hb ?_⟩; clear s u x z HK HB hb hkp B; intro s u x z HK HB))
 go_ret
 exact ⟨er_, ra_ s, ra_ u, ra_ x, bl1_ HB M, by repeat (first | (with_reducible first | exact HK.out | apply Kept.alloc | apply Kept.drewN | apply Kept.drew | refine Kept.setCell ?_ (.inr O.out) _) | exact HK.out)⟩

/-! ### laws_markContactS: function 12 -/
def laws_markContactS.l0 : Nat → List S54 → Int → Int → Option (Int × List S54)
 | 0, _, _, _ => none
 | k + 1, l, m, j => if j < (l.length : Int) then (if 0 ≤ j then ((some (l.set (j : Int).toNat (⟨m, (rd_T54 l j).f1, (rd_T54 l j).f2, (rd_T54 l j).f3⟩ : S54) : List S54)).bind fun s => ((some (s.set (j : Int).toNat (⟨(rd_T54 s j).f0, wrap64 (m + 1), (rd_T54 s j).f2, (rd_T54 s j).f3⟩ : S54) : List S54)).bind fun u => ((some (u.set (j : Int).toNat (⟨(rd_T54 u j).f0, (rd_T54 u j).f1, wrap64 ((wrap64 (m + 1)) + 1), (rd_T54 u j).f3⟩ : S54) : List S54)).bind fun x => (laws_markContactS.l0 k (x.set (j : Int).toNat (⟨(rd_T54 x j).f0, (rd_T54 x j).f1, (rd_T54 x j).f2, wrap64 ((wrap64 ((wrap64 (m + 1)) + 1)) + 1)⟩ : S54)) (wrap64 ((wrap64 ((wrap64 ((wrap64 (m + 1)) + 1)) + 1)) + 1)) (wrap64 (j + 1)))))) else (none)) else (some (m, l))
def laws_markContactS.f (k : Nat) (l : List S54) (j : Int) : Option (Int × List S54) := laws_markContactS.l0 k l j 0
theorem laws_markContactS.calls (k : Nat) (D : Nat → Prop) (a5 : Value) (l0 : List S54) (a1 M : Int) (O : List S54) (y w : World) (hB : Below y.heap.size y w) (i0 : Kd.R k54 54 w y.heap.size D a5 l0) (h : laws_markContactS.f k l0 a1 = some (M, O)) :
  Calls Tryz.prog 12 #[a5, iv_ a1] w fun e w' => e = .returned (iv_ M) ∧ Kd.R k54 54 w' y.heap.size (fun k_ => (D k_ ∨ w.heap.size ≤ k_)) a5 O ∧ Below y.heap.size y w' ∧ Kept w w' (fun k_ => D k_) := by
 have g3 := Aside0.mk (show Kd.R k54 54 w y.heap.size (fun k_ => (D k_ ∨ w.heap.size ≤ k_)) a5 l0 from Kd.R_mono i0 (fun k_ hk => (.inl hk)))
 have HK := Aside0.mk (Kept.refl w (fun k_ => D k_))
 have j1 := Aside0.mk hB.size
 have HB := Aside0.mk hB
 clear hB
 have H := h
 clear h
 unfold laws_markContactS.f at H
 have H' := Aside0.mk H
 clear H
 go_enter Tryz.func12, Tryz.ntmps12
 go_wp2
 go_loopg [1, 5] k (fun kq v1 v5 w' => ∃ (s : List S54) (x : Int) (l : Int), v1 = iv_ x ∧ v5 = iv_ l ∧ Aside0 (laws_markContactS.l0 kq s x l = some (M, O)) ∧ Aside0 (kq ≤ k) ∧ Aside0 (Kd.R k54 54 w' y.heap.size (fun k_ => (D k_ ∨ w.heap.size ≤ k_)) a5 s) ∧ Aside0 (Kept w w' (fun k_ => D k_)) ∧ Aside0 (Below y.heap.size y w'))
 case atStart => exact ⟨(l0), (a1), (0), (by first | rfl | (simp; done) | (simp [*]; done)), (by first | rfl | (simp; done) | (simp [*]; done)), H', ⟨Nat.le_refl _⟩, ⟨ra_ g3⟩, ⟨by repeat (first | (with_reducible first | exact HK.out | apply Kept.alloc | apply Kept.drewN | apply Kept.drew) | exact HK.out)⟩, ⟨bl_ HB⟩⟩
 case round =>
  clear H'
  obtain ⟨s, x, l, rfl, rfl, HA, d5, u, HK, HB⟩ := hrel
  cases gk with
  | zero => exact absurd HA.out (by simp [laws_markContactS.l0])
  | succ k1 =>
   have H := HA.out
   clear HA
   simp only [laws_markContactS.l0] at H
   by_cases c3 : l < (s.length : Int)
   ·rw [if_pos c3] at H
    have g8 := decide_eq_true c3
    clear c3
    replace H := ifn_ H
    obtain ⟨c4, H⟩ := H
    have j2 := decide_eq_true c4
    clear c4
    replace H : ∃ y_ : List S54, Aside0 (y_ = (s.set (l : Int).toNat (⟨x, (rd_T54 s l).f1, (rd_T54 s l).f2, (rd_T54 s l).f3⟩ : S54))) ∧ ((some (y_.set (l : Int).toNat (⟨(rd_T54 y_ l).f0, wrap64 (x + 1), (rd_T54 y_ l).f2, (rd_T54 y_ l).f3⟩ : S54) : List S54)).bind fun B => ((some (B.set (l : Int).toNat (⟨(rd_T54 B l).f0, (rd_T54 B l).f1, wrap64 ((wrap64 (x + 1)) + 1), (rd_T54 B l).f3⟩ : S54) : List S54)).bind fun z => (laws_markContactS.l0 k1 (z.set (l : Int).toNat (⟨(rd_T54 z l).f0, (rd_T54 z l).f1, (rd_T54 z l).f2, wrap64 ((wrap64 ((wrap64 (x + 1)) + 1)) + 1)⟩ : S54)) (wrap64 ((wrap64 ((wrap64 ((wrap64 (x + 1)) + 1)) + 1)) + 1)) (wrap64 (l + 1))))) = some (M, O) := ⟨_, ⟨rfl⟩, yh_ H⟩
    obtain ⟨E, g4, H⟩ := H
    replace H : ∃ y_ : List S54, Aside0 (y_ = (E.set (l : Int).toNat (⟨(rd_T54 E l).f0, wrap64 (x + 1), (rd_T54 E l).f2, (rd_T54 E l).f3⟩ : S54))) ∧ ((some (y_.set (l : Int).toNat (⟨(rd_T54 y_ l).f0, (rd_T54 y_ l).f1, wrap64 ((wrap64 (x + 1)) + 1), (rd_T54 y_ l).f3⟩ : S54) : List S54)).bind fun z => (laws_markContactS.l0 k1 (z.set (l : Int).toNat (⟨(rd_T54 z l).f0, (rd_T54 z l).f1, (rd_T54 z l).f2, wrap64 ((wrap64 ((wrap64 (x + 1)) + 1)) + 1)⟩ : S54)) (wrap64 ((wrap64 ((wrap64 ((wrap64 (x + 1)) + 1)) + 1)) + 1)) (wrap64 (l + 1)))) = some (M, O) := ⟨_, ⟨rfl⟩, yh_ H⟩
    obtain ⟨B, g5, H⟩ := H
    replace H : ∃ y_ : List S54, Aside0 (y_ = (B.set (l : Int).toNat (⟨(rd_T54 B l).f0, (rd_T54 B l).f1, wrap64 ((wrap64 (x + 1)) + 1), (rd_T54 B l).f3⟩ : S54))) ∧ (laws_markContactS.l0 k1 (y_.set (l : Int).toNat (⟨(rd_T54 y_ l).f0, (rd_T54 y_ l).f1, (rd_T54 y_ l).f2, wrap64 ((wrap64 ((wrap64 (x + 1)) + 1)) + 1)⟩ : S54)) (wrap64 ((wrap64 ((wrap64 ((wrap64 (x + 1)) + 1)) + 1)) + 1)) (wrap64 (l + 1))) = some (M, O) := ⟨_, ⟨rfl⟩, yh_ H⟩
    obtain ⟨z, g6, H⟩ := H
    replace H : ∃ y_ : List S54, Aside0 (y_ = (z.set (l : Int).toNat (⟨(rd_T54 z l).f0, (rd_T54 z l).f1, (rd_T54 z l).f2, wrap64 ((wrap64 ((wrap64 (x + 1)) + 1)) + 1)⟩ : S54))) ∧ (laws_markContactS.l0 k1 y_ (wrap64 ((wrap64 ((wrap64 ((wrap64 (x + 1)) + 1)) + 1)) + 1)) (wrap64 (l + 1))) = some (M, O) := ⟨_, ⟨rfl⟩, yh_ H⟩
    obtain ⟨g2, g7, H⟩ := H
    have H' := Aside0.mk H
    clear H
    obtain ⟨i8, L, h0⟩ := Kd.R_slice u.out
    subst h0
    have p5 : 0 ≤ (l : Int) := od_
    have q5 : (l : Int) < ((s.length : Int) : Int) := od_
    obtain ⟨m, k4, e0, e1, h1, k2, d4⟩ := Kd.R_form u.out (by omega)
    (first | cases e0 | (injection e0 with ea_ en_ ec_; (first | subst ea_ | (injection ea_ with ea_; subst ea_)); subst ec_; clear en_))
    have a6 := Aside0.mk e1
    have i9 := Aside0.mk d4
    clear e1 h1 d4
    have j0 := Aside0.mk (show (D m ∨ w.heap.size ≤ m) from (u.out.1 _ rfl))
    obtain ⟨j7, h2, e6, T, Z⟩ := Kd.R_elem u.out z54 (l : Int) p5 q5
    obtain rfl := k54_openM e6
    have m2 : wr.cell? ⟨m, (l : Int).toNat * 4, none⟩ = some (iv_ ((rd_T54 s l).f0)) := T 0 _ rfl
    have m3 : wr.cell? ⟨m, (l : Int).toNat * 4 + 1, none⟩ = some (iv_ ((rd_T54 s l).f1)) := T 1 _ rfl
    have m4 : wr.cell? ⟨m, (l : Int).toNat * 4 + 2, none⟩ = some (iv_ ((rd_T54 s l).f2)) := T 2 _ rfl
    have m5 : wr.cell? ⟨m, (l : Int).toNat * 4 + 3, none⟩ = some (iv_ ((rd_T54 s l).f3)) := T 3 _ rfl
    have k5 : wr.frozen? ⟨m, (l : Int).toNat * 4, none⟩ = false := Z 0
    have k6 : wr.frozen? ⟨m, (l : Int).toNat * 4 + 1, none⟩ = false := Z 1
    have k7 : wr.frozen? ⟨m, (l : Int).toNat * 4 + 2, none⟩ = false := Z 2
    have k8 : wr.frozen? ⟨m, (l : Int).toNat * 4 + 3, none⟩ = false := Z 3
    clear h2 T Z e6
    replace p5 := eq_true p5
    replace q5 := eq_true q5
    have d6 := Aside0.mk (show Kd.R k54 54 wr y.heap.size (fun k_ => (D k_ ∨ w.heap.size ≤ k_)) (.slice (some ⟨m, 0, none⟩) s.length L) s from (ra_ u))
    obtain ⟨j3, f4, e2, b3, f8⟩ := Kd.R_elem d6.out z54 (l : Int) od_ (by have h_ : (l : Int) < ((s.length : Int) : Int) := od_; first | exact h_ | (have e_ := (Kd.R_reads' u.out).1; omega) | simpa using h_)
    obtain rfl := k54_openM e2
    have a8 := Kd.R_seg d6.out (l : Int) od_ (by have h_ : (l : Int) < ((s.length : Int) : Int) := od_; first | exact h_ | (have e_ := (Kd.R_reads' u.out).1; omega) | simpa using h_) (seg := [iv_ x]) (j := 0) f4 b3 (show 1 ≤ 4 from by decide) (x' := (⟨x, (rd_T54 s l).f1, (rd_T54 s l).f2, (rd_T54 s l).f3⟩ : S54)) (k54_mkM _ _ _ (⟨x, (rd_T54 s l).f1, (rd_T54 s l).f2, (rd_T54 s l).f3⟩ : S54) ) (fun _ hk => hk)
    have i1 := b3 0 _ rfl
    (try simp only [show (k54).sz = 4 from rfl, Nat.mul_one, Nat.add_zero] at i1)
    have h6 := f8 0
    (try simp only [show (k54).sz = 4 from rfl, Nat.mul_one, Nat.add_zero] at h6)
    clear f4 b3 f8 e2
    go_wp2_with (first | ((with_reducible refine gate_store (t := 3) (p := 16) rfl ?_); refine store_event (t := 3) (p := 16) (v := ?vo_w11) (w1 := (wr.setCell ⟨m, (l : Int).toNat * 4, none⟩ (iv_ x))) ?hg ?ho ?hn ?hr ?_; (case ho => rfl); (case hg => rfl); (case hn => rfl); (case hr => first | (go_simp; done) | (go_simp; rfl)); intro G hw; have hg : wr.grownBy G (some m) := (by rw [hw]; exact a8.2); have hp_ : Kd.R k54 54 G y.heap.size (fun k_ => (D k_ ∨ w.heap.size ≤ k_)) (.slice (some ⟨m, 0, none⟩) s.length L) E := (by rw [hw, g4.out]; exact a8.1); clear a8; refine sh3_ hp_ ((by rw [hw]; exact below_set (HB.out) a6.out : Below y.heap.size y G)) (Kept.of_grown (S := (fun k_ => D k_)) hg (by repeat (first | (with_reducible first | exact HK.out | apply Kept.alloc | apply Kept.drewN | apply Kept.drew) | exact HK.out)) (fun k_ e_ => (u.out.1 k_ e_))) ?_; clear u HB HK; intro u HB HK; clear hg hw hp_; have p6 : 0 ≤ (l : Int) := od_; have q6 : (l : Int) < ((s.length : Int) : Int) := od_; obtain ⟨j8, h3, e7, U, a0⟩ := Kd.R_elem u.out z54 (l : Int) p6 q6; obtain rfl := k54_openM e7; have m6 : G.cell? ⟨m, (l : Int).toNat * 4, none⟩ = some (iv_ ((rd_T54 E l).f0)) := U 0 _ rfl; have m7 : G.cell? ⟨m, (l : Int).toNat * 4 + 1, none⟩ = some (iv_ ((rd_T54 E l).f1)) := U 1 _ rfl; have m8 : G.cell? ⟨m, (l : Int).toNat * 4 + 2, none⟩ = some (iv_ ((rd_T54 E l).f2)) := U 2 _ rfl; have m9 : G.cell? ⟨m, (l : Int).toNat * 4 + 3, none⟩ = some (iv_ ((rd_T54 E l).f3)) := U 3 _ rfl; have k9 : G.frozen? ⟨m, (l : Int).toNat * 4, none⟩ = false := a0 0; have l1 : G.frozen? ⟨m, (l : Int).toNat * 4 + 1, none⟩ = false := a0 1; have l2 : G.frozen? ⟨m, (l : Int).toNat * 4 + 2, none⟩ = false := a0 2; have l3 : G.frozen? ⟨m, (l : Int).toNat * 4 + 3, none⟩ = false := a0 3; clear h3 U a0 e7; replace p6 := eq_true p6; replace q6 := eq_true q6; have d7 := Aside0.mk (show Kd.R k54 54 G y.heap.size (fun k_ => (D k_ ∨ w.heap.size ≤ k_)) (.slice (some ⟨m, 0, none⟩) s.length L) E from (ra_ u)); obtain ⟨j4, f5, e3, b4, f9⟩ := Kd.R_elem d7.out z54 (l : Int) od_ (by have h_ : (l : Int) < ((s.length : Int) : Int) := od_; first | exact h_ | (have e_ := (Kd.R_reads' u.out).1; omega) | simpa using h_); obtain rfl := k54_openM e3; have a9 := Kd.R_seg d7.out (l : Int) od_ (by have h_ : (l : Int) < ((s.length : Int) : Int) := od_; first | exact h_ | (have e_ := (Kd.R_reads' u.out).1; omega) | simpa using h_) (seg := [iv_ (wrap64 (x + 1))]) (j := 1) f5 b4 (show 2 ≤ 4 from by decide) (x' := (⟨(rd_T54 E l).f0, wrap64 (x + 1), (rd_T54 E l).f2, (rd_T54 E l).f3⟩ : S54)) (k54_mkM _ _ _ (⟨(rd_T54 E l).f0, wrap64 (x + 1), (rd_T54 E l).f2, (rd_T54 E l).f3⟩ : S54) ) (fun _ hk => hk); have i2 := b4 1 _ rfl; (try simp only [show (k54).sz = 4 from rfl, Nat.mul_one, Nat.add_zero] at i2); have h7 := f9 1; (try simp only [show (k54).sz = 4 from rfl, Nat.mul_one, Nat.add_zero] at h7); clear f5 b4 f9 e3) | ((with_reducible refine gate_store (t := 3) (p := 23) rfl ?_); refine store_event (t := 3) (p := 23) (v := ?vo_w13) (w1 := (G.setCell ⟨m, (l : Int).toNat * 4 + 1, none⟩ (iv_ (wrap64 (x + 1))))) ?hg ?ho ?hn ?hr ?_; (case ho => rfl); (case hg => rfl); (case hn => rfl); (case hr => first | (go_simp; done) | (go_simp; rfl)); intro I hw; have hg : G.grownBy I (some m) := (by rw [hw]; exact a9.2); have hp_ : Kd.R k54 54 I y.heap.size (fun k_ => (D k_ ∨ w.heap.size ≤ k_)) (.slice (some ⟨m, 0, none⟩) s.length L) B := (by rw [hw, g5.out]; exact a9.1); clear a9; refine sh3_ hp_ ((by rw [hw]; exact below_set (HB.out) a6.out : Below y.heap.size y I)) (Kept.of_grown (S := (fun k_ => D k_)) hg (by repeat (first | (with_reducible first | exact HK.out | apply Kept.alloc | apply Kept.drewN | apply Kept.drew) | exact HK.out)) (fun k_ e_ => (u.out.1 k_ e_))) ?_; clear u HB HK; intro u HB HK; clear hg hw hp_; have p7 : 0 ≤ (l : Int) := od_; have q7 : (l : Int) < ((s.length : Int) : Int) := od_; obtain ⟨j9, h4, e8, X, a2⟩ := Kd.R_elem u.out z54 (l : Int) p7 q7; obtain rfl := k54_openM e8; have n0 : I.cell? ⟨m, (l : Int).toNat * 4, none⟩ = some (iv_ ((rd_T54 B l).f0)) := X 0 _ rfl; have n1 : I.cell? ⟨m, (l : Int).toNat * 4 + 1, none⟩ = some (iv_ ((rd_T54 B l).f1)) := X 1 _ rfl; have n2 : I.cell? ⟨m, (l : Int).toNat * 4 + 2, none⟩ = some (iv_ ((rd_T54 B l).f2)) := X 2 _ rfl; have n3 : I.cell? ⟨m, (l : Int).toNat * 4 + 3, none⟩ = some (iv_ ((rd_T54 B l).f3)) := X 3 _ rfl; have l4 : I.frozen? ⟨m, (l : Int).toNat * 4, none⟩ = false := a2 0; have l5 : I.frozen? ⟨m, (l : Int).toNat * 4 + 1, none⟩ = false := a2 1; have l6 : I.frozen? ⟨m, (l : Int).toNat * 4 + 2, none⟩ = false := a2 2; have l7 : I.frozen? ⟨m, (l : Int).toNat * 4 + 3, none⟩ = false := a2 3; clear h4 X a2 e8; replace p7 := eq_true p7; replace q7 := eq_true q7; have d8 := Aside0.mk (show Kd.R k54 54 I y.heap.size (fun k_ => (D k_ ∨ w.heap.size ≤ k_)) (.slice (some ⟨m, 0, none⟩) s.length L) B from (ra_ u)); obtain ⟨j5, f6, e4, b5, g0⟩ := Kd.R_elem d8.out z54 (l : Int) od_ (by have h_ : (l : Int) < ((s.length : Int) : Int) := od_; first | exact h_ | (have e_ := (Kd.R_reads' u.out).1; omega) | simpa using h_); obtain rfl := k54_openM e4; have b0 := Kd.R_seg d8.out (l : Int) od_ (by have h_ : (l : Int) < ((s.length : Int) : Int) := od_; first | exact h_ | (have e_ := (Kd.R_reads' u.out).1; omega) | simpa using h_) (seg := [iv_ (wrap64 ((wrap64 (x + 1)) + 1))]) (j := 2) f6 b5 (show 3 ≤ 4 from by decide) (x' := (⟨(rd_T54 B l).f0, (rd_T54 B l).f1, wrap64 ((wrap64 (x + 1)) + 1), (rd_T54 B l).f3⟩ : S54)) (k54_mkM _ _ _ (⟨(rd_T54 B l).f0, (rd_T54 B l).f1, wrap64 ((wrap64 (x + 1)) + 1), (rd_T54 B l).f3⟩ : S54) ) (fun _ hk => hk); have i3 := b5 2 _ rfl; (try simp only [show (k54).sz = 4 from rfl, Nat.mul_one, Nat.add_zero] at i3); have h8 := g0 2; (try simp only [show (k54).sz = 4 from rfl, Nat.mul_one, Nat.add_zero] at h8); clear f6 b5 g0 e4) | ((with_reducible refine gate_store (t := 3) (p := 30) rfl ?_); refine store_event (t := 3) (p := 30) (v := ?vo_w15) (w1 := (I.setCell ⟨m, (l : Int).toNat * 4 + 2, none⟩ (iv_ (wrap64 ((wrap64 (x + 1)) + 1))))) ?hg ?ho ?hn ?hr ?_; (case ho => rfl); (case hg => rfl); (case hn => rfl); (case hr => first | (go_simp; done) | (go_simp; rfl)); intro J hw; have hg : I.grownBy J (some m) := (by rw [hw]; exact b0.2); have hp_ : Kd.R k54 54 J y.heap.size (fun k_ => (D k_ ∨ w.heap.size ≤ k_)) (.slice (some ⟨m, 0, none⟩) s.length L) z := (by rw [hw, g6.out]; exact b0.1); clear b0; refine sh3_ hp_ ((by rw [hw]; exact below_set (HB.out) a6.out : Below y.heap.size y J)) (Kept.of_grown (S := (fun k_ => D k_)) hg (by repeat (first | (with_reducible first | exact HK.out | apply Kept.alloc | apply Kept.drewN | apply Kept.drew) | exact HK.out)) (fun k_ e_ => (u.out.1 k_ e_))) ?_; clear u HB HK; intro u HB HK; clear hg hw hp_; have p8 : 0 ≤ (l : Int) := od_; have q8 : (l : Int) < ((s.length : Int) : Int) := od_; obtain ⟨k0, h5, e9, Y, a3⟩ := Kd.R_elem u.out z54 (l : Int) p8 q8; obtain rfl := k54_openM e9; have n4 : J.cell? ⟨m, (l : Int).toNat * 4, none⟩ = some (iv_ ((rd_T54 z l).f0)) := Y 0 _ rfl; have n5 : J.cell? ⟨m, (l : Int).toNat * 4 + 1, none⟩ = some (iv_ ((rd_T54 z l).f1)) := Y 1 _ rfl; have n6 : J.cell? ⟨m, (l : Int).toNat * 4 + 2, none⟩ = some (iv_ ((rd_T54 z l).f2)) := Y 2 _ rfl; have n7 : J.cell? ⟨m, (l : Int).toNat * 4 + 3, none⟩ = some (iv_ ((rd_T54 z l).f3)) := Y 3 _ rfl; have l8 : J.frozen? ⟨m, (l : Int).toNat * 4, none⟩ = false := a3 0; have l9 : J.frozen? ⟨m, (l : Int).toNat * 4 + 1, none⟩ = false := a3 1; have m0 : J.frozen? ⟨m, (l : Int).toNat * 4 + 2, none⟩ = false := a3 2; have m1 : J.frozen? ⟨m, (l : Int).toNat * 4 + 3, none⟩ = false := a3 3; clear h5 Y a3 e9; replace p8 := eq_true p8; replace q8 := eq_true q8; have d9 := Aside0.mk (show Kd.R k54 54 J y.heap.size (fun k_ => (D k_ ∨ w.heap.size ≤ k_)) (.slice (some ⟨m, 0, none⟩) s.length L) z from (ra_ u)); obtain ⟨j6, f7, e5, b6, g1⟩ := Kd.R_elem d9.out z54 (l : Int) od_ (by have h_ : (l : Int) < ((s.length : Int) : Int) := od_; first | exact h_ | (have e_ := (Kd.R_reads' u.out).1; omega) | simpa using h_); obtain rfl := k54_openM e5; have b1 := Kd.R_seg d9.out (l : Int) od_ (by have h_ : (l : Int) < ((s.length : Int) : Int) := od_; first | exact h_ | (have e_ := (Kd.R_reads' u.out).1; omega) | simpa using h_) (seg := [iv_ (wrap64 ((wrap64 ((wrap64 (x + 1)) + 1)) + 1))]) (j := 3) f7 b6 (show 4 ≤ 4 from by decide) (x' := (⟨(rd_T54 z l).f0, (rd_T54 z l).f1, (rd_T54 z l).f2, wrap64 ((wrap64 ((wrap64 (x + 1)) + 1)) + 1)⟩ : S54)) (k54_mkM _ _ _ (⟨(rd_T54 z l).f0, (rd_T54 z l).f1, (rd_T54 z l).f2, wrap64 ((wrap64 ((wrap64 (x + 1)) + 1)) + 1)⟩ : S54) ) (fun _ hk => hk); have i4 := b6 3 _ rfl; (try simp only [show (k54).sz = 4 from rfl, Nat.mul_one, Nat.add_zero] at i4); have h9 := g1 3; (try simp only [show (k54).sz = 4 from rfl, Nat.mul_one, Nat.add_zero] at h9); clear f7 b6 g1 e5) | ((with_reducible refine gate_store (t := 3) (p := 37) rfl ?_); refine store_event (t := 3) (p := 37) (v := ?vo_w17) (w1 := (J.setCell ⟨m, (l : Int).toNat * 4 + 3, none⟩ (iv_ (wrap64 ((wrap64 ((wrap64 (x + 1)) + 1)) + 1))))) ?hg ?ho ?hn ?hr ?_; (case ho => rfl); (case hg => rfl); (case hn => rfl); (case hr => first | (go_simp; done) | (go_simp; rfl)); intro d3 hw; have hg : J.grownBy d3 (some m) := (by rw [hw]; exact b1.2); have hp_ : Kd.R k54 54 d3 y.heap.size (fun k_ => (D k_ ∨ w.heap.size ≤ k_)) (.slice (some ⟨m, 0, none⟩) s.length L) g2 := (by rw [hw, g7.out]; exact b1.1); clear b1; refine sh3_ hp_ ((by rw [hw]; exact below_set (HB.out) a6.out : Below y.heap.size y d3)) (Kept.of_grown (S := (fun k_ => D k_)) hg (by repeat (first | (with_reducible first | exact HK.out | apply Kept.alloc | apply Kept.drewN | apply Kept.drew) | exact HK.out)) (fun k_ e_ => (u.out.1 k_ e_))) ?_; clear u HB HK; intro u HB HK; clear hg hw hp_))
    go_roundg k1
    case measure => have := d5.out; omega
    case rel => exact ⟨(g2), (wrap64 ((wrap64 ((wrap64 ((wrap64 (x + 1)) + 1)) + 1)) + 1)), (wrap64 (l + 1)), (by first | rfl | (simp; done) | (simp [*]; done)), (by first | rfl | (simp; done) | (simp [*]; done)), H', ⟨by have := d5.out; omega⟩, ⟨ra_ u⟩, ⟨by repeat (first | (with_reducible first | exact HK.out | apply Kept.alloc | apply Kept.drewN | apply Kept.drew) | exact HK.out)⟩, ⟨bl_ HB⟩⟩
   ·rw [if_neg c3] at H
    have g8 : decide (l < (s.length : Int)) = false := decide_eq_false c3
    clear c3
    simp only [Option.some.injEq, Prod.mk.injEq] at H
    obtain ⟨rfl, rfl⟩ := H
    obtain ⟨i7, k3, g9⟩ := Kd.R_slice u.out
    subst g9
    go_wp2
    go_ret
    exact ⟨er_, ra_ u, bl_ HB, by repeat (first | (with_reducible first | exact HK.out | apply Kept.alloc | apply Kept.drewN | apply Kept.drew) | exact HK.out)⟩

/-! ### laws_heldContactS: function 13 -/
def laws_heldContactS.l0 : Nat → List S54 → Int → Int → Option (Int)
 | 0, _, _, _ => none
 | k + 1, l, m, j => if j < (l.length : Int) then (if 0 ≤ j then (if ((rd_T54 l j).f0) = m then (if ((rd_T54 l j).f1) = (wrap64 (m + 1)) then (if ((rd_T54 l j).f2) = (wrap64 ((wrap64 (m + 1)) + 1)) then (if ((rd_T54 l j).f3) = (wrap64 ((wrap64 ((wrap64 (m + 1)) + 1)) + 1)) then (laws_heldContactS.l0 k l (wrap64 ((wrap64 ((wrap64 ((wrap64 (m + 1)) + 1)) + 1)) + 1)) (wrap64 (j + 1))) else (some (-1))) else (some (-1))) else (some (-1))) else (some (-1))) else (none)) else (some m)
def laws_heldContactS.f (k : Nat) (l : List S54) (j : Int) : Option (Int) := laws_heldContactS.l0 k l j 0
theorem laws_heldContactS.calls (k : Nat) (A0 : Option Addr) (c0 : Nat) (l : List S54) (a1 r : Int) (w : World) (b2 : Kd.C k54 w A0 l.length l) (b1 : l.length ≤ c0) (h : laws_heldContactS.f k l a1 = some r) :
  Calls Tryz.prog 13 #[.slice A0 l.length c0, iv_ a1] w fun e w' => e = .returned (iv_ r) ∧ Drawn0 w w' := by
 have y := Aside0.mk b2
 have e2 := Aside0.mk b1
 clear b2 b1
 have H := h
 clear h
 unfold laws_heldContactS.f at H
 have H' := Aside0.mk H
 clear H
 go_enter Tryz.func13, Tryz.ntmps13
 go_wp2
 go_loopg [1, 5] k (fun kq v1 v5 w' => ∃ (G : Int) (j : Int), v1 = iv_ G ∧ v5 = iv_ j ∧ Aside0 (laws_heldContactS.l0 kq l G j = some r) ∧ Aside0 (kq ≤ k) ∧ Drawn0 w w')
 case atStart => exact ⟨(a1), (0), (by first | rfl | (simp; done) | (simp [*]; done)), (by first | rfl | (simp; done) | (simp [*]; done)), H', ⟨Nat.le_refl _⟩, by repeat (first | exact Drawn0.refl _ | apply Drawn0.step)⟩
 case round =>
  clear H'
  obtain ⟨G, j, rfl, rfl, HA, a9, ⟨m1, rfl⟩⟩ := hrel
  cases gk with
  | zero => exact absurd HA.out (by simp [laws_heldContactS.l0])
  | succ k1 =>
   have H := HA.out
   clear HA
   simp only [laws_heldContactS.l0] at H
   by_cases c3 : j < (l.length : Int)
   ·rw [if_pos c3] at H
    have b7 := decide_eq_true c3
    clear c3
    replace H := ifn_ H
    obtain ⟨c4, H⟩ := H
    have e3 := decide_eq_true c4
    clear c4
    by_cases c5 : ((rd_T54 l j).f0) = G
    ·rw [if_pos c5] at H
     obtain ⟨b8, b9⟩ := bt_ c5
     clear c5
     by_cases c6 : ((rd_T54 l j).f1) = (wrap64 (G + 1))
     ·rw [if_pos c6] at H
      obtain ⟨c1, d0⟩ := bt_ c6
      clear c6
      by_cases c7 : ((rd_T54 l j).f2) = (wrap64 ((wrap64 (G + 1)) + 1))
      ·rw [if_pos c7] at H
       obtain ⟨d1, d2⟩ := bt_ c7
       clear c7
       by_cases c8 : ((rd_T54 l j).f3) = (wrap64 ((wrap64 ((wrap64 (G + 1)) + 1)) + 1))
       ·rw [if_pos c8] at H
        obtain ⟨d3, d4⟩ := bt_ c8
        clear c8
        have H' := Aside0.mk H
        clear H
        have m : 0 ≤ (j : Int) := od_
        have s : j < (l.length : Int) := od_
        obtain ⟨z, E, U, X, Y, Z⟩ := at_T54 y.out j m s
        cases E
        replace m := eq_true m
        replace s := eq_true s
        have u : 0 ≤ (j : Int) := od_
        have x : j < (l.length : Int) := od_
        obtain ⟨I, J, a4, a5, a6, a7⟩ := at_T54 y.out j u x
        obtain rfl : z = I := (by injection J)
        replace u := eq_true u
        replace x := eq_true x
        have B : 0 ≤ (j : Int) := od_
        have D : j < (l.length : Int) := od_
        obtain ⟨O, T, b3, b4, b5, b6⟩ := at_T54 y.out j B D
        obtain rfl : z = O := (by injection T)
        replace B := eq_true B
        replace D := eq_true D
        have L : 0 ≤ (j : Int) := od_
        have M : j < (l.length : Int) := od_
        obtain ⟨a2, a3, d5, d6, d7, d8⟩ := at_T54 y.out j L M
        obtain rfl : z = a2 := (by injection a3)
        replace L := eq_true L
        replace M := eq_true M
        go_wp2
        go_roundg k1
        case measure => have := a9.out; omega
        case rel => exact ⟨(wrap64 ((wrap64 ((wrap64 ((wrap64 (G + 1)) + 1)) + 1)) + 1)), (wrap64 (j + 1)), (by first | rfl | (simp; done) | (simp [*]; done)), (by first | rfl | (simp; done) | (simp [*]; done)), H', ⟨by have := a9.out; omega⟩, by repeat (first | exact Drawn0.refl _ | apply Drawn0.step)⟩
       ·rw [if_neg c8] at H
        obtain ⟨d3, d4⟩ := bn_ c8
        obtain rfl := Option.some.inj H
        have m : 0 ≤ (j : Int) := od_
        have s : j < (l.length : Int) := od_
        obtain ⟨z, E, U, X, Y, Z⟩ := at_T54 y.out j m s
        cases E
        replace m := eq_true m
        replace s := eq_true s
        have u : 0 ≤ (j : Int) := od_
        have x : j < (l.length : Int) := od_
        obtain ⟨I, J, a4, a5, a6, a7⟩ := at_T54 y.out j u x
        obtain rfl : z = I := (by injection J)
        replace u := eq_true u
        replace x := eq_true x
        have B : 0 ≤ (j : Int) := od_
        have D : j < (l.length : Int) := od_
        obtain ⟨O, T, b3, b4, b5, b6⟩ := at_T54 y.out j B D
        obtain rfl : z = O := (by injection T)
        replace B := eq_true B
        replace D := eq_true D
        have L : 0 ≤ (j : Int) := od_
        have M : j < (l.length : Int) := od_
        obtain ⟨a2, a3, d5, d6, d7, d8⟩ := at_T54 y.out j L M
        obtain rfl : z = a2 := (by injection a3)
        replace L := eq_true L
        replace M := eq_true M
        go_wp2
        go_ret
        exact ⟨by first | rfl | (simp; done) | (simp [*]; done), by repeat (first | exact Drawn0.refl _ | apply Drawn0.step)⟩
      ·rw [if_neg c7] at H
       obtain ⟨d1, d2⟩ := bn_ c7
       obtain rfl := Option.some.inj H
       have m : 0 ≤ (j : Int) := od_
       have s : j < (l.length : Int) := od_
       obtain ⟨z, E, U, X, Y, Z⟩ := at_T54 y.out j m s
       cases E
       replace m := eq_true m
       replace s := eq_true s
       have u : 0 ≤ (j : Int) := od_
       have x : j < (l.length : Int) := od_
       obtain ⟨I, J, a4, a5, a6, a7⟩ := at_T54 y.out j u x
       obtain rfl : z = I := (by injection J)
       replace u := eq_true u
       replace x := eq_true x
       have B : 0 ≤ (j : Int) := od_
       have D : j < (l.length : Int) := od_
       obtain ⟨O, T, b3, b4, b5, b6⟩ := at_T54 y.out j B D
       obtain rfl : z = O := (by injection T)
       replace B := eq_true B
       replace D := eq_true D
       go_wp2
       go_ret
       exact ⟨by first | rfl | (simp; done) | (simp [*]; done), by repeat (first | exact Drawn0.refl _ | apply Drawn0.step)⟩
     ·rw [if_neg c6] at H
      obtain ⟨c1, d0⟩ := bn_ c6
      obtain rfl := Option.some.inj H
      have m : 0 ≤ (j : Int) := od_
      have s : j < (l.length : Int) := od_
      obtain ⟨z, E, U, X, Y, Z⟩ := at_T54 y.out j m s
      cases E
      replace m := eq_true m
      replace s := eq_true s
      have u : 0 ≤ (j : Int) := od_
      have x : j < (l.length : Int) := od_
      obtain ⟨I, J, a4, a5, a6, a7⟩ := at_T54 y.out j u x
      obtain rfl : z = I := (by injection J)
      replace u := eq_true u
      replace x := eq_true x
      go_wp2
      go_ret
      exact ⟨by first | rfl | (simp; done) | (simp [*]; done), by repeat (first | exact Drawn0.refl _ | apply Drawn0.step)⟩
    ·rw [if_neg c5] at H
     obtain ⟨b8, b9⟩ := bn_ c5
     obtain rfl := Option.some.inj H
     have m : 0 ≤ (j : Int) := od_
     have s : j < (l.length : Int) := od_
     obtain ⟨z, E, U, X, Y, Z⟩ := at_T54 y.out j m s
     cases E
     replace m := eq_true m
     replace s := eq_true s
     go_wp2
     go_ret
     exact ⟨by first | rfl | (simp; done) | (simp [*]; done), by repeat (first | exact Drawn0.refl _ | apply Drawn0.step)⟩
   ·rw [if_neg c3] at H
    have b7 : decide (j < (l.length : Int)) = false := decide_eq_false c3
    clear c3
    obtain rfl := Option.some.inj H
    go_wp2
    go_ret
    exact ⟨by first | rfl | (simp; done) | (simp [*]; done), by repeat (first | exact Drawn0.refl _ | apply Drawn0.step)⟩

/-! ### laws_FnExactContactsOf: function 3 -/
def laws_FnExactContactsOf.j0 : Nat → Int → Int → Int → Int → List S54 → List S54 → Bool → Int → List S82 → List S84 → Int → Int → Int → Int → Int → List S88 → Int → Option (Bool)
 | 0, _, _, _, _, _, _, _, _, _, _, _, _, _, _, _, _, _ => none
 | k + 1, y, D, E, G, z, B, I, J, L, M, O, T, U, X, Y, Z, a0 => if I = true then (some false) else ((laws_markContactS.f k B 1).bind fun l => ((laws_heldContactS.f k l.2 1).bind fun m => (if m < 0 then (some false) else (if m = l.1 then ((laws_toSky.f k J L M O T U X Y Z a0).bind fun j => ((impl_ContactsOf.f k j.1 j.2.1 j.2.2.1 j.2.2.2.1 j.2.2.2.2.1 j.2.2.2.2.2.1 j.2.2.2.2.2.2.1 j.2.2.2.2.2.2.2.1 j.2.2.2.2.2.2.2.2.1 j.2.2.2.2.2.2.2.2.2 y D E G).bind fun u => ((laws_eqContactS.f k u z).bind fun x => (if x = true then ((laws_heldContactS.f k l.2 1).bind fun s => (if s < 0 then (some false) else (if s = l.1 then (some true) else (some false)))) else (some false))))) else (some false)))))
def laws_FnExactContactsOf.f (k : Nat) (s : Int) (E : List S82) (G : List S84) (u x y z B : Int) (I : List S88) (D J L M O : Int) : Option (Bool) := (laws_szSky.f s E G u x y z B I D 1048576).bind fun Y => (if Y < 0 then (some true) else ((laws_toSky.f k s E G u x y z B I D).bind fun l => ((spec_ContactsOf.f k l.1 l.2.1 l.2.2.1 l.2.2.2.1 l.2.2.2.2.1 l.2.2.2.2.2.1 l.2.2.2.2.2.2.1 l.2.2.2.2.2.2.2.1 l.2.2.2.2.2.2.2.2.1 l.2.2.2.2.2.2.2.2.2 J L M O).bind fun T => ((laws_toSky.f k s E G u x y z B I D).bind fun j => ((impl_ContactsOf.f k j.1 j.2.1 j.2.2.1 j.2.2.2.1 j.2.2.2.2.1 j.2.2.2.2.2.1 j.2.2.2.2.2.2.1 j.2.2.2.2.2.2.2.1 j.2.2.2.2.2.2.2.2.1 j.2.2.2.2.2.2.2.2.2 J L M O).bind fun U => ((laws_eqContactS.f k U T).bind fun Z => (if Z = true then ((laws_toSky.f k s E G u x y z B I D).bind fun m => ((laws_eqSky.f k j.1 j.2.1 j.2.2.1 j.2.2.2.1 j.2.2.2.2.1 j.2.2.2.2.2.1 j.2.2.2.2.2.2.1 j.2.2.2.2.2.2.2.1 j.2.2.2.2.2.2.2.2.1 j.2.2.2.2.2.2.2.2.2 m.1 m.2.1 m.2.2.1 m.2.2.2.1 m.2.2.2.2.1 m.2.2.2.2.2.1 m.2.2.2.2.2.2.1 m.2.2.2.2.2.2.2.1 m.2.2.2.2.2.2.2.2.1 m.2.2.2.2.2.2.2.2.2).bind fun a0 => (if a0 = true then ((laws_markSky.f k j.1 j.2.1 j.2.2.1 j.2.2.2.1 j.2.2.2.2.1 j.2.2.2.2.2.1 j.2.2.2.2.2.2.1 j.2.2.2.2.2.2.2.1 j.2.2.2.2.2.2.2.2.1 j.2.2.2.2.2.2.2.2.2 1).bind fun X => (if X.1 < 0 then (laws_FnExactContactsOf.j0 k J L M O T U true s E G u x y z B I D) else ((laws_eqContactS.f k U T).bind fun a5 => (laws_FnExactContactsOf.j0 k J L M O T U (!a5) s E G u x y z B I D)))) else (some false)))) else (some false))))))))
theorem laws_FnExactContactsOf.calls (k : Nat) (c1 : Int) (e5 : Option Addr) (f2 : Nat) (b3 : List S82) (e6 : Option Addr) (f3 : Nat) (b4 : List S84) (d0 : Int) (d1 : Int) (d2 : Int) (d3 : Int) (d4 : Int) (e7 : Option Addr) (f4 : Nat) (b5 : List S88) (d5 : Int) (a1 : Int) (a2 : Int) (a3 : Int) (a4 : Int) (r : Bool) (w : World) (n1 : Kd.C k82 w e5 b3.length b3) (m8 : b3.length ≤ f2) (n2 : Kd.C k84 w e6 b4.length b4) (m9 : b4.length ≤ f3) (n3 : Kd.C k88 w e7 b5.length b5) (n0 : b5.length ≤ f4) (h : laws_FnExactContactsOf.f k c1 b3 b4 d0 d1 d2 d3 d4 b5 d5 a1 a2 a3 a4 = some r) (hT_ : r = true := by rfl) :
  Calls Tryz.prog 3 #[.agg #[iv_ c1, .slice e5 b3.length f2, .slice e6 b4.length f3, iv_ d0, iv_ d1, iv_ d2, iv_ d3, iv_ d4, .slice e7 b5.length f4, iv_ d5], iv_ a1, iv_ a2, iv_ a3, iv_ a4] w fun e w' => e = .returned (.bool r) ∧ Below w.heap.size w w' := by
 have y8 := Tryz.underlying26
 have y9 := Tryz.underlying34
 have g8 := Aside0.mk n1
 have g4 := Aside0.mk m8
 clear n1 m8
 have g9 := Aside0.mk n2
 have g5 := Aside0.mk m9
 clear n2 m9
 have h0 := Aside0.mk n3
 have g6 := Aside0.mk n0
 clear n3 n0
 have HB := Aside0.mk (Below.refl w.heap.size w)
 subst hT_
 have H := h
 clear h
 unfold laws_FnExactContactsOf.f at H
 replace H := bs_ H
 obtain ⟨k0, A6, H⟩ := H
 by_cases c7 : k0 < 0
 ·rw [if_pos c7] at H
  have r9 := decide_eq_true c7
  clear c7
  clear H
  go_enter Tryz.func3, Tryz.ntmps3
  go_wp2_with (first | ((with_reducible refine gd_ 5 ?_); refine bx_ 5 26 #[iv_ c1, .slice e5 b3.length f2, .slice e6 b4.length f3, iv_ d0, iv_ d1, iv_ d2, iv_ d3, iv_ d4, .slice e7 b5.length f4, iv_ d5] ?_; intro i7 hg w8 hbox hb; refine sh3_ (below_step (bl_ HB) hb) hbox (ge_ hg (bl_ HB)) ?_; clear HB hb hbox hg; intro HB m y; have y3 := cf10_ m) | ((with_reducible refine gate_callee (f := 5) rfl ?_); refine gl_ 21 Tryz.func5 (laws_szSky.calls c1 _ _ b3 _ _ b4 d0 d1 d2 d3 d4 _ _ b5 d5 1048576 k0 _ (ck_ g8 HB) g4.out (ck_ g9 HB) g5.out (ck_ h0 HB) g6.out A6.out) ?_; rintro e A5 ⟨rfl, hb⟩; refine ⟨_, rfl, sh2_ (blk_below (bk_ m) hb) (below_step (bl1_ HB y) hb) ?_⟩; clear m HB hb; intro m HB))
  go_ret
  exact ⟨er_, bl1_ HB y⟩
 ·rw [if_neg c7] at H
  have r9 := decide_eq_false c7
  clear c7
  replace H := bs_ H
  obtain ⟨⟨n6, i8, i9, n7, n8, n9, o0, o1, j1, o2⟩, p8, H⟩ := H
  dsimp only at H
  replace H := bs_ H
  obtain ⟨e4, p9, H⟩ := H
  replace H := bs_ H
  obtain ⟨⟨a6, J, L, a7, a8, a9, b0, b1, M, b2⟩, q0, H⟩ := H
  dsimp only at H
  replace H := bs_ H
  obtain ⟨b7, q1, H⟩ := H
  replace H := bs_ H
  obtain ⟨w3, q2, H⟩ := H
  by_cases i3 : w3 = true
  ·subst i3
   try rw [if_pos rfl] at H
   replace H := bs_ H
   obtain ⟨⟨k1, j2, j3, k2, k3, k4, k5, k6, j4, k7⟩, q3, H⟩ := H
   dsimp only at H
   replace H := bs_ H
   obtain ⟨w4, q4, H⟩ := H
   by_cases i4 : w4 = true
   ·subst i4
    try rw [if_pos rfl] at H
    replace H := bs_ H
    obtain ⟨⟨o3, o4, o5, o6⟩, q5, H⟩ := H
    dsimp only at H
    have j8 := Aside0.mk H
    clear H
    go_enter Tryz.func3, Tryz.ntmps3
    try go_wp2_with (first | ((with_reducible refine gd_ 5 ?_); refine bx_ 5 26 #[iv_ c1, .slice e5 b3.length f2, .slice e6 b4.length f3, iv_ d0, iv_ d1, iv_ d2, iv_ d3, iv_ d4, .slice e7 b5.length f4, iv_ d5] ?_; intro i7 hg A7 hbox hb; refine sh3_ (below_step (bl_ HB) hb) hbox (ge_ hg (bl_ HB)) ?_; clear HB hb hbox hg; intro HB m y; have x7 := cf10_ m) | ((with_reducible refine gate_callee (f := 5) rfl ?_); refine gl_ 21 Tryz.func5 (laws_szSky.calls c1 _ _ b3 _ _ b4 d0 d1 d2 d3 d4 _ _ b5 d5 1048576 k0 _ (ck_ g8 HB) g4.out (ck_ g9 HB) g5.out (ck_ h0 HB) g6.out A6.out) ?_; rintro e A8 ⟨rfl, hb⟩; refine ⟨_, rfl, sh2_ (blk_below (bk_ m) hb) (below_step (bl1_ HB y) hb) ?_⟩; clear m HB hb; intro m HB; have x8 := cf10_ m) | ((with_reducible refine gate_callee (f := 7) rfl ?_); refine gl_ 25 Tryz.func7 (laws_toSky.calls k c1 _ _ b3 _ _ b4 d0 d1 d2 d3 d4 _ _ b5 d5 n6 i8 i9 n7 n8 n9 o0 o1 j1 o2 _ (ck_ g8 HB) g4.out (ck_ g9 HB) g5.out (ck_ h0 HB) g6.out p8.out) ?_; rintro e A9 ⟨z0, z1, z2, rfl, I, d6, d7, hb⟩; refine ⟨_, rfl, sh5_ (Kd.R_lower I (below_size (bl1_ HB y))) (Kd.R_lower d6 (below_size (bl1_ HB y))) (Kd.R_lower d7 (below_size (bl1_ HB y))) (blk_below (bk_ m) hb) (below_step (bl1_ HB y) hb) ?_⟩; clear m HB hb I d6 d7; intro z B D m HB; obtain ⟨l1, l9, t0⟩ := Kd.R_slice z.out; subst t0; obtain ⟨l2, m0, t1⟩ := Kd.R_slice B.out; subst t1; obtain ⟨l3, m1, t2⟩ := Kd.R_slice D.out; subst t2) | ((with_reducible refine gate_callee (f := 6) rfl ?_); refine gl_ 30 Tryz.func6 (spec_ContactsOf.calls k n6 _ _ i8 _ _ i9 n7 n8 n9 o0 o1 _ _ j1 o2 a1 a2 a3 a4 e4 _ (cr_ z) (rl_ z) (cr_ B) (rl_ B) (cr_ D) (rl_ D) p9.out) ?_; rintro e B0 ⟨z3, rfl, I, hb⟩; refine ⟨_, rfl, sh6_ (Kd.R_below (ra_ z) hb) (Kd.R_below (ra_ B) hb) (Kd.R_below (ra_ D) hb) (Kd.R_lower I (below_size (bl1_ HB y))) (blk_below (bk_ m) hb) (below_step (bl1_ HB y) hb) ?_⟩; clear z B D m HB hb I; intro z B D E m HB; have x9 := cf10_ m) | ((with_reducible refine gate_callee (f := 7) rfl ?_); refine gl_ 32 Tryz.func7 (laws_toSky.calls k c1 _ _ b3 _ _ b4 d0 d1 d2 d3 d4 _ _ b5 d5 a6 J L a7 a8 a9 b0 b1 M b2 _ (ck_ g8 HB) g4.out (ck_ g9 HB) g5.out (ck_ h0 HB) g6.out q0.out) ?_; rintro e B1 ⟨z4, z5, z6, rfl, I, d6, d7, hb⟩; refine ⟨_, rfl, sh9_ (Kd.R_elder' (ra_ z) (Kd.R_base I) hb) (Kd.R_elder' (ra_ B) (Kd.R_base d6) hb) (Kd.R_elder' (ra_ D) (Kd.R_base d7) hb) (Kd.R_below (ra_ E) hb) (Kd.R_lower (Kd.R_new' I (Kd.R_lt (ra_ z))) (below_size (bl1_ HB y))) (Kd.R_lower (Kd.R_new' d6 (Kd.R_lt (ra_ B))) (below_size (bl1_ HB y))) (Kd.R_lower (Kd.R_new' d7 (Kd.R_lt (ra_ D))) (below_size (bl1_ HB y))) (blk_below (bk_ m) hb) (below_step (bl1_ HB y) hb) ?_⟩; clear z B D E m HB hb I d6 d7; intro z B D E s u x m HB) | ((with_reducible refine gd_ 13 ?_); refine bx_ 13 34 #[iv_ 0, .slice none 0 0, .slice none 0 0, iv_ 0, iv_ 0, iv_ 0, iv_ 0, iv_ 0, .slice none 0 0, iv_ 0] ?_; intro j hg B2 hbox hb; refine sh13_ (Kd.R_below (ra_ z) hb) (Kd.R_below (ra_ B) hb) (Kd.R_below (ra_ D) hb) (Kd.R_below (ra_ E) hb) (Kd.R_below (ra_ s) hb) (Kd.R_below (ra_ u) hb) (Kd.R_below (ra_ x) hb) (blk_below (bk_ m) hb) (below_step (bl1_ HB y) hb) hbox (ge_ hg (bl1_ HB y)) (nl_ hg (bk_ m)) (ng_ hg (bk_ m)) ?_; clear z B D E s u x m HB hb hbox hg; intro z B D E s u x m HB l T l7 l8; have y4 := l8.out; have y6 := l7.out; have y0 := cf10_ l; obtain ⟨Z, U, t3⟩ := Kd.R_slice s.out; subst t3; obtain ⟨a0, X, t4⟩ := Kd.R_slice u.out; subst t4; obtain ⟨a5, Y, t5⟩ := Kd.R_slice x.out; subst t5) | ((with_reducible refine gate_callee (f := 8) rfl ?_); refine goesL_ (some 38) rfl rfl Tryz.func8 (by kernel_rfl) rfl #[.agg #[iv_ a6, .slice Z J.length U, .slice a0 L.length X, iv_ a7, iv_ a8, iv_ a9, iv_ b0, iv_ b1, .slice a5 M.length Y, iv_ b2], iv_ a1, iv_ a2, iv_ a3, iv_ a4] rfl mp_ ?_; (with_reducible refine (impl_ContactsOf.calls k a6 _ _ J _ _ L a7 a8 a9 b0 b1 _ _ M b2 a1 a2 a3 a4 b7 _ ?side1 ?side2 ?side3 ?side4 ?side5 ?side6 q1.out).mono ?_); (case side1 => refine (Kd.R_reads' (e := 68) (base := w.heap.size) (ok := fun k_ => (True ∧ some k_ ≠ (.slice l1 i8.length l9 : Value).ownBlock)) (n := J.length) (c := U) ?_).2.2; exact (by (with_reducible repeat (first | apply Kd.R_alloc | apply Kd.R_drewN | apply Kd.R_drew)); exact (Kd.R_mono (Kd.R_far (p := ⟨j, 9, none⟩) (Kd.R_far (p := ⟨j, 8, none⟩) (Kd.R_far (p := ⟨j, 7, none⟩) (Kd.R_far (p := ⟨j, 6, none⟩) (Kd.R_far (p := ⟨j, 5, none⟩) (Kd.R_far (p := ⟨j, 4, none⟩) (Kd.R_far (p := ⟨j, 3, none⟩) (Kd.R_far (p := ⟨j, 2, none⟩) (Kd.R_far (p := ⟨j, 1, none⟩) (Kd.R_far (p := ⟨j, 0, none⟩) (Kd.R_types s.out l.out (by decide)) (fun _ hk => hk.2) (iv_ a6)) (fun _ hk => hk.2) (.slice Z J.length U)) (fun _ hk => hk.2) (.slice a0 L.length X)) (fun _ hk => hk.2) (iv_ a7)) (fun _ hk => hk.2) (iv_ a8)) (fun _ hk => hk.2) (iv_ a9)) (fun _ hk => hk.2) (iv_ b0)) (fun _ hk => hk.2) (iv_ b1)) (fun _ hk => hk.2) (.slice a5 M.length Y)) (fun _ hk => hk.2) (iv_ b2)) (fun _ h_ => h_.1)))); (case side2 => exact (Kd.R_reads' s.out).2.1); (case side3 => refine (Kd.R_reads' (e := 70) (base := w.heap.size) (ok := fun k_ => (True ∧ some k_ ≠ (.slice l2 i9.length m0 : Value).ownBlock)) (n := L.length) (c := X) ?_).2.2; exact (by (with_reducible repeat (first | apply Kd.R_alloc | apply Kd.R_drewN | apply Kd.R_drew)); exact (Kd.R_mono (Kd.R_far (p := ⟨j, 9, none⟩) (Kd.R_far (p := ⟨j, 8, none⟩) (Kd.R_far (p := ⟨j, 7, none⟩) (Kd.R_far (p := ⟨j, 6, none⟩) (Kd.R_far (p := ⟨j, 5, none⟩) (Kd.R_far (p := ⟨j, 4, none⟩) (Kd.R_far (p := ⟨j, 3, none⟩) (Kd.R_far (p := ⟨j, 2, none⟩) (Kd.R_far (p := ⟨j, 1, none⟩) (Kd.R_far (p := ⟨j, 0, none⟩) (Kd.R_types u.out l.out (by decide)) (fun _ hk => hk.2) (iv_ a6)) (fun _ hk => hk.2) (.slice Z J.length U)) (fun _ hk => hk.2) (.slice a0 L.length X)) (fun _ hk => hk.2) (iv_ a7)) (fun _ hk => hk.2) (iv_ a8)) (fun _ hk => hk.2) (iv_ a9)) (fun _ hk => hk.2) (iv_ b0)) (fun _ hk => hk.2) (iv_ b1)) (fun _ hk => hk.2) (.slice a5 M.length Y)) (fun _ hk => hk.2) (iv_ b2)) (fun _ h_ => h_.1)))); (case side4 => exact (Kd.R_reads' u.out).2.1); (case side5 => refine (Kd.R_reads' (e := 76) (base := w.heap.size) (ok := fun k_ => (True ∧ some k_ ≠ (.slice l3 j1.length m1 : Value).ownBlock)) (n := M.length) (c := Y) ?_).2.2; exact (by (with_reducible repeat (first | apply Kd.R_alloc | apply Kd.R_drewN | apply Kd.R_drew)); exact (Kd.R_mono (Kd.R_far (p := ⟨j, 9, none⟩) (Kd.R_far (p := ⟨j, 8, none⟩) (Kd.R_far (p := ⟨j, 7, none⟩) (Kd.R_far (p := ⟨j, 6, none⟩) (Kd.R_far (p := ⟨j, 5, none⟩) (Kd.R_far (p := ⟨j, 4, none⟩) (Kd.R_far (p := ⟨j, 3, none⟩) (Kd.R_far (p := ⟨j, 2, none⟩) (Kd.R_far (p := ⟨j, 1, none⟩) (Kd.R_far (p := ⟨j, 0, none⟩) (Kd.R_types x.out l.out (by decide)) (fun _ hk => hk.2) (iv_ a6)) (fun _ hk => hk.2) (.slice Z J.length U)) (fun _ hk => hk.2) (.slice a0 L.length X)) (fun _ hk => hk.2) (iv_ a7)) (fun _ hk => hk.2) (iv_ a8)) (fun _ hk => hk.2) (iv_ a9)) (fun _ hk => hk.2) (iv_ b0)) (fun _ hk => hk.2) (iv_ b1)) (fun _ hk => hk.2) (.slice a5 M.length Y)) (fun _ hk => hk.2) (iv_ b2)) (fun _ h_ => h_.1)))); (case side6 => exact (Kd.R_reads' x.out).2.1); rintro e B3 ⟨z7, rfl, I, hb⟩; refine ⟨_, rfl, sh11_ (Kd.R_below (by (with_reducible repeat (first | apply Kd.R_alloc | apply Kd.R_drewN | apply Kd.R_drew)); exact (Kd.R_mono (Kd.R_far (p := ⟨j, 9, none⟩) (Kd.R_far (p := ⟨j, 8, none⟩) (Kd.R_far (p := ⟨j, 7, none⟩) (Kd.R_far (p := ⟨j, 6, none⟩) (Kd.R_far (p := ⟨j, 5, none⟩) (Kd.R_far (p := ⟨j, 4, none⟩) (Kd.R_far (p := ⟨j, 3, none⟩) (Kd.R_far (p := ⟨j, 2, none⟩) (Kd.R_far (p := ⟨j, 1, none⟩) (Kd.R_far (p := ⟨j, 0, none⟩) (Kd.R_types z.out l.out (by decide)) (fun _ hk => hk.2) (iv_ a6)) (fun _ hk => hk.2) (.slice Z J.length U)) (fun _ hk => hk.2) (.slice a0 L.length X)) (fun _ hk => hk.2) (iv_ a7)) (fun _ hk => hk.2) (iv_ a8)) (fun _ hk => hk.2) (iv_ a9)) (fun _ hk => hk.2) (iv_ b0)) (fun _ hk => hk.2) (iv_ b1)) (fun _ hk => hk.2) (.slice a5 M.length Y)) (fun _ hk => hk.2) (iv_ b2)) (fun _ h_ => h_.1))) hb) (Kd.R_below (by (with_reducible repeat (first | apply Kd.R_alloc | apply Kd.R_drewN | apply Kd.R_drew)); exact (Kd.R_mono (Kd.R_far (p := ⟨j, 9, none⟩) (Kd.R_far (p := ⟨j, 8, none⟩) (Kd.R_far (p := ⟨j, 7, none⟩) (Kd.R_far (p := ⟨j, 6, none⟩) (Kd.R_far (p := ⟨j, 5, none⟩) (Kd.R_far (p := ⟨j, 4, none⟩) (Kd.R_far (p := ⟨j, 3, none⟩) (Kd.R_far (p := ⟨j, 2, none⟩) (Kd.R_far (p := ⟨j, 1, none⟩) (Kd.R_far (p := ⟨j, 0, none⟩) (Kd.R_types B.out l.out (by decide)) (fun _ hk => hk.2) (iv_ a6)) (fun _ hk => hk.2) (.slice Z J.length U)) (fun _ hk => hk.2) (.slice a0 L.length X)) (fun _ hk => hk.2) (iv_ a7)) (fun _ hk => hk.2) (iv_ a8)) (fun _ hk => hk.2) (iv_ a9)) (fun _ hk => hk.2) (iv_ b0)) (fun _ hk => hk.2) (iv_ b1)) (fun _ hk => hk.2) (.slice a5 M.length Y)) (fun _ hk => hk.2) (iv_ b2)) (fun _ h_ => h_.1))) hb) (Kd.R_below (by (with_reducible repeat (first | apply Kd.R_alloc | apply Kd.R_drewN | apply Kd.R_drew)); exact (Kd.R_mono (Kd.R_far (p := ⟨j, 9, none⟩) (Kd.R_far (p := ⟨j, 8, none⟩) (Kd.R_far (p := ⟨j, 7, none⟩) (Kd.R_far (p := ⟨j, 6, none⟩) (Kd.R_far (p := ⟨j, 5, none⟩) (Kd.R_far (p := ⟨j, 4, none⟩) (Kd.R_far (p := ⟨j, 3, none⟩) (Kd.R_far (p := ⟨j, 2, none⟩) (Kd.R_far (p := ⟨j, 1, none⟩) (Kd.R_far (p := ⟨j, 0, none⟩) (Kd.R_types D.out l.out (by decide)) (fun _ hk => hk.2) (iv_ a6)) (fun _ hk => hk.2) (.slice Z J.length U)) (fun _ hk => hk.2) (.slice a0 L.length X)) (fun _ hk => hk.2) (iv_ a7)) (fun _ hk => hk.2) (iv_ a8)) (fun _ hk => hk.2) (iv_ a9)) (fun _ hk => hk.2) (iv_ b0)) (fun _ hk => hk.2) (iv_ b1)) (fun _ hk => hk.2) (.slice a5 M.length Y)) (fun _ hk => hk.2) (iv_ b2)) (fun _ h_ => h_.1))) hb) (Kd.R_elder' (by (with_reducible repeat (first | apply Kd.R_alloc | apply Kd.R_drewN | apply Kd.R_drew)); exact (Kd.R_mono (Kd.R_far (p := ⟨j, 9, none⟩) (Kd.R_far (p := ⟨j, 8, none⟩) (Kd.R_far (p := ⟨j, 7, none⟩) (Kd.R_far (p := ⟨j, 6, none⟩) (Kd.R_far (p := ⟨j, 5, none⟩) (Kd.R_far (p := ⟨j, 4, none⟩) (Kd.R_far (p := ⟨j, 3, none⟩) (Kd.R_far (p := ⟨j, 2, none⟩) (Kd.R_far (p := ⟨j, 1, none⟩) (Kd.R_far (p := ⟨j, 0, none⟩) (Kd.R_types E.out l.out (by decide)) (fun _ hk => hk.2) (iv_ a6)) (fun _ hk => hk.2) (.slice Z J.length U)) (fun _ hk => hk.2) (.slice a0 L.length X)) (fun _ hk => hk.2) (iv_ a7)) (fun _ hk => hk.2) (iv_ a8)) (fun _ hk => hk.2) (iv_ a9)) (fun _ hk => hk.2) (iv_ b0)) (fun _ hk => hk.2) (iv_ b1)) (fun _ hk => hk.2) (.slice a5 M.length Y)) (fun _ hk => hk.2) (iv_ b2)) (fun _ h_ => h_.1))) (Kd.R_base I) hb) (Kd.R_below (by (with_reducible repeat (first | apply Kd.R_alloc | apply Kd.R_drewN | apply Kd.R_drew)); exact (Kd.R_mono (Kd.R_far (p := ⟨j, 9, none⟩) (Kd.R_far (p := ⟨j, 8, none⟩) (Kd.R_far (p := ⟨j, 7, none⟩) (Kd.R_far (p := ⟨j, 6, none⟩) (Kd.R_far (p := ⟨j, 5, none⟩) (Kd.R_far (p := ⟨j, 4, none⟩) (Kd.R_far (p := ⟨j, 3, none⟩) (Kd.R_far (p := ⟨j, 2, none⟩) (Kd.R_far (p := ⟨j, 1, none⟩) (Kd.R_far (p := ⟨j, 0, none⟩) (Kd.R_types s.out l.out (by decide)) (fun _ hk => hk.2) (iv_ a6)) (fun _ hk => hk.2) (.slice Z J.length U)) (fun _ hk => hk.2) (.slice a0 L.length X)) (fun _ hk => hk.2) (iv_ a7)) (fun _ hk => hk.2) (iv_ a8)) (fun _ hk => hk.2) (iv_ a9)) (fun _ hk => hk.2) (iv_ b0)) (fun _ hk => hk.2) (iv_ b1)) (fun _ hk => hk.2) (.slice a5 M.length Y)) (fun _ hk => hk.2) (iv_ b2)) (fun _ h_ => h_.1))) hb) (Kd.R_below (by (with_reducible repeat (first | apply Kd.R_alloc | apply Kd.R_drewN | apply Kd.R_drew)); exact (Kd.R_mono (Kd.R_far (p := ⟨j, 9, none⟩) (Kd.R_far (p := ⟨j, 8, none⟩) (Kd.R_far (p := ⟨j, 7, none⟩) (Kd.R_far (p := ⟨j, 6, none⟩) (Kd.R_far (p := ⟨j, 5, none⟩) (Kd.R_far (p := ⟨j, 4, none⟩) (Kd.R_far (p := ⟨j, 3, none⟩) (Kd.R_far (p := ⟨j, 2, none⟩) (Kd.R_far (p := ⟨j, 1, none⟩) (Kd.R_far (p := ⟨j, 0, none⟩) (Kd.R_types u.out l.out (by decide)) (fun _ hk => hk.2) (iv_ a6)) (fun _ hk => hk.2) (.slice Z J.length U)) (fun _ hk => hk.2) (.slice a0 L.length X)) (fun _ hk => hk.2) (iv_ a7)) (fun _ hk => hk.2) (iv_ a8)) (fun _ hk => hk.2) (iv_ a9)) (fun _ hk => hk.2) (iv_ b0)) (fun _ hk => hk.2) (iv_ b1)) (fun _ hk => hk.2) (.slice a5 M.length Y)) (fun _ hk => hk.2) (iv_ b2)) (fun _ h_ => h_.1))) hb) (Kd.R_below (by (with_reducible repeat (first | apply Kd.R_alloc | apply Kd.R_drewN | apply Kd.R_drew)); exact (Kd.R_mono (Kd.R_far (p := ⟨j, 9, none⟩) (Kd.R_far (p := ⟨j, 8, none⟩) (Kd.R_far (p := ⟨j, 7, none⟩) (Kd.R_far (p := ⟨j, 6, none⟩) (Kd.R_far (p := ⟨j, 5, none⟩) (Kd.R_far (p := ⟨j, 4, none⟩) (Kd.R_far (p := ⟨j, 3, none⟩) (Kd.R_far (p := ⟨j, 2, none⟩) (Kd.R_far (p := ⟨j, 1, none⟩) (Kd.R_far (p := ⟨j, 0, none⟩) (Kd.R_types x.out l.out (by decide)) (fun _ hk => hk.2) (iv_ a6)) (fun _ hk => hk.2) (.slice Z J.length U)) (fun _ hk => hk.2) (.slice a0 L.length X)) (fun _ hk => hk.2) (iv_ a7)) (fun _ hk => hk.2) (iv_ a8)) (fun _ hk => hk.2) (iv_ a9)) (fun _ hk => hk.2) (iv_ b0)) (fun _ hk => hk.2) (iv_ b1)) (fun _ hk => hk.2) (.slice a5 M.length Y)) (fun _ hk => hk.2) (iv_ b2)) (fun _ h_ => h_.1))) hb) (Kd.R_lower (Kd.R_new' I (Kd.R_lt (by (with_reducible repeat (first | apply Kd.R_alloc | apply Kd.R_drewN | apply Kd.R_drew)); exact (Kd.R_mono (Kd.R_far (p := ⟨j, 9, none⟩) (Kd.R_far (p := ⟨j, 8, none⟩) (Kd.R_far (p := ⟨j, 7, none⟩) (Kd.R_far (p := ⟨j, 6, none⟩) (Kd.R_far (p := ⟨j, 5, none⟩) (Kd.R_far (p := ⟨j, 4, none⟩) (Kd.R_far (p := ⟨j, 3, none⟩) (Kd.R_far (p := ⟨j, 2, none⟩) (Kd.R_far (p := ⟨j, 1, none⟩) (Kd.R_far (p := ⟨j, 0, none⟩) (Kd.R_types E.out l.out (by decide)) (fun _ hk => hk.2) (iv_ a6)) (fun _ hk => hk.2) (.slice Z J.length U)) (fun _ hk => hk.2) (.slice a0 L.length X)) (fun _ hk => hk.2) (iv_ a7)) (fun _ hk => hk.2) (iv_ a8)) (fun _ hk => hk.2) (iv_ a9)) (fun _ hk => hk.2) (iv_ b0)) (fun _ hk => hk.2) (iv_ b1)) (fun _ hk => hk.2) (.slice a5 M.length Y)) (fun _ hk => hk.2) (iv_ b2)) (fun _ h_ => h_.1))))) (below_size (bl2_ HB y T))) (blk_below (g := i7) (o := .cells #[iv_ c1, .slice e5 b3.length f2, .slice e6 b4.length f3, iv_ d0, iv_ d1, iv_ d2, iv_ d3, iv_ d4, .slice e7 b5.length f4, iv_ d5] 26 (0, 0)) (bp_ m) hb) (blk_below (g := j) (o := .cells #[iv_ a6, .slice Z J.length U, .slice a0 L.length X, iv_ a7, iv_ a8, iv_ a9, iv_ b0, iv_ b1, .slice a5 M.length Y, iv_ b2] 34 (0, 0)) (bp_ l) hb) (below_step (bl2_ HB y T) hb) ?_⟩; clear z B D E s u x m l HB hb I; intro z B D E s u x O m l HB; obtain ⟨e8, f5, t6⟩ := Kd.R_slice O.out; subst t6; obtain ⟨j7, j9, t7⟩ := Kd.R_slice E.out; subst t7) | ((with_reducible refine gate_callee (f := 9) rfl ?_); refine gl_ 41 Tryz.func9 (laws_eqContactS.calls k _ _ b7 _ _ e4 true _ (cr_ O) (rl_ O) (cr_ E) (rl_ E) q2.out) ?_; rintro e w6 ⟨rfl, hb⟩; refine ⟨_, rfl, sh11_ (Kd.R_below (ra_ z) hb) (Kd.R_below (ra_ B) hb) (Kd.R_below (ra_ D) hb) (Kd.R_below (ra_ E) hb) (Kd.R_below (ra_ s) hb) (Kd.R_below (ra_ u) hb) (Kd.R_below (ra_ x) hb) (Kd.R_below (ra_ O) hb) (blk_below (bk_ m) hb) (blk_below (bk_ l) hb) (below_step (bl2_ HB y T) hb) ?_⟩; clear z B D E s u x O m l HB hb; intro z B D E s u x O m l HB))
    refine sh11_ (Kd.R_drew z.out) (Kd.R_drew B.out) (Kd.R_drew D.out) (Kd.R_drew E.out) (Kd.R_drew s.out) (Kd.R_drew u.out) (Kd.R_drew x.out) (Kd.R_drew O.out) (blk_drew m.out) (blk_drew l.out) (below_drew1 HB.out) ?_
    clear z B D E s u x O m l HB
    intro z B D E s u x O m l HB
    refine start_ (n := 5) (S := fun w' => Ck10 w' j (iv_ a6) (.slice Z J.length U) (.slice a0 L.length X) (iv_ a7) (iv_ a8) (iv_ a9) (iv_ b0) (iv_ b1) (.slice a5 M.length Y) (iv_ b2) (Cz10 w' i7 (iv_ c1) (.slice e5 b3.length f2) (.slice e6 b4.length f3) (iv_ d0) (iv_ d1) (iv_ d2) (iv_ d3) (iv_ d4) (.slice e7 b5.length f4) (iv_ d5))) (ds := []) (bo_ 5 0) (by kernel_rfl) rfl rfl ⟨(bc_ l 0 rfl), (bc_ l 1 rfl), (bc_ l 2 rfl), (bc_ l 3 rfl), (bc_ l 4 rfl), (bc_ l 5 rfl), (bc_ l 6 rfl), (bc_ l 7 rfl), (bc_ l 8 rfl), (bc_ l 9 rfl), cz10_ m⟩ (fun hHeld => ?_)
    generalize w6.drew = B4 at z B D E s u x O m l HB hHeld ⊢
    refine take_ (i := 0) (N := some 43) (v := ?_) (a' := ?_) (bo_ 5 1) rfl rfl (by kernel_rfl) (fun _ _ _ h => h) (Or.inl ⟨by rfl, ?_⟩) hHeld ?_ ?_
    rotate_left
    ·rintro w' ⟨s0, s1, s2, s3, s4, s5, s6, s7, s8, s9, u4, u5, u6, u7, u8, u9, v0, v1, v2, v3⟩
     go_simp
     with_reducible rfl
    rotate_left
    ·simp only [Act.put, List.setIfInBounds_toArray, List.set_cons_zero, List.set_cons_succ, i64_w, i32_w]
     rfl
    refine take_ (i := 1) (N := some 44) (v := ?_) (a' := ?_) (bo_ 5 3) rfl rfl (by kernel_rfl) (fun _ _ _ h => h) (Or.inl ⟨by rfl, ?_⟩) hHeld ?_ ?_
    rotate_left
    ·rintro w' ⟨s0, s1, s2, s3, s4, s5, s6, s7, s8, s9, u4, u5, u6, u7, u8, u9, v0, v1, v2, v3⟩
     go_simp
     with_reducible rfl
    rotate_left
    ·simp only [Act.put, List.setIfInBounds_toArray, List.set_cons_zero, List.set_cons_succ, i64_w, i32_w]
     rfl
    refine one_ (i := 2) (N := some 45) (bo_ 5 7) rfl rfl (by kernel_rfl) (by decide) (fun K hK => ?_)
    refine goes_ Tryz.func7 (by kernel_rfl) rfl #[.agg #[iv_ c1, .slice e5 b3.length f2, .slice e6 b4.length f3, iv_ d0, iv_ d1, iv_ d2, iv_ d3, iv_ d4, .slice e7 b5.length f4, iv_ d5]] (by rfl) rfl rfl mp_ ?_
    with_reducible refine (laws_toSky.calls k c1 _ _ b3 _ _ b4 d0 d1 d2 d3 d4 _ _ b5 d5 k1 j2 j3 k2 k3 k4 k5 k6 j4 k7 _ ?side1 ?side2 ?side3 ?side4 ?side5 ?side6 q3.out).mono ?_
    (case side1 => exact ck_ g8 HB)
    (case side2 => exact g4.out)
    (case side3 => exact ck_ g9 HB)
    (case side4 => exact g5.out)
    (case side5 => exact ck_ h0 HB)
    (case side6 => exact g6.out)
    rintro e B5 ⟨z8, z9, A0, rfl, I, d6, d7, hb⟩
    refine ⟨_, rfl, sh14_ (Kd.R_elder' (ra_ z) (Kd.R_base I) hb) (Kd.R_elder' (ra_ B) (Kd.R_base d6) hb) (Kd.R_elder' (ra_ D) (Kd.R_base d7) hb) (Kd.R_below (ra_ E) hb) (Kd.R_elder' (ra_ s) (Kd.R_base I) hb) (Kd.R_elder' (ra_ u) (Kd.R_base d6) hb) (Kd.R_elder' (ra_ x) (Kd.R_base d7) hb) (Kd.R_below (ra_ O) hb) (Kd.R_lower (Kd.R_new' (Kd.R_new' I (Kd.R_lt (ra_ z))) (Kd.R_lt (ra_ s))) (below_size (bl2_ HB y T))) (Kd.R_lower (Kd.R_new' (Kd.R_new' d6 (Kd.R_lt (ra_ B))) (Kd.R_lt (ra_ u))) (below_size (bl2_ HB y T))) (Kd.R_lower (Kd.R_new' (Kd.R_new' d7 (Kd.R_lt (ra_ D))) (Kd.R_lt (ra_ x))) (below_size (bl2_ HB y T))) (blk_below (bk_ m) hb) (blk_below (bk_ l) hb) (below_step (bl2_ HB y T) hb) ?_⟩
    clear z B D E s u x O m l HB hb I d6 d7
    intro z B D E s u x O d8 d9 e0 m l HB
    obtain ⟨l4, m2, m5⟩ := Kd.R_slice d8.out
    (first | subst m5 | (injection m5 with f1_ f2_ f3_; have h9 := f1_.symm; have i0 := f3_.symm; clear f1_ f2_ f3_; subst h9; subst i0))
    obtain ⟨l5, m3, m6⟩ := Kd.R_slice d9.out
    (first | subst m6 | (injection m6 with f1_ f2_ f3_; have h9 := f1_.symm; have i0 := f3_.symm; clear f1_ f2_ f3_; subst h9; subst i0))
    obtain ⟨l6, m4, m7⟩ := Kd.R_slice e0.out
    (first | subst m7 | (injection m7 with f1_ f2_ f3_; have h9 := f1_.symm; have i0 := f3_.symm; clear f1_ f2_ f3_; subst h9; subst i0))
    refine hK.out _ _ ⟨(bc_ l 0 rfl), (bc_ l 1 rfl), (bc_ l 2 rfl), (bc_ l 3 rfl), (bc_ l 4 rfl), (bc_ l 5 rfl), (bc_ l 6 rfl), (bc_ l 7 rfl), (bc_ l 8 rfl), (bc_ l 9 rfl), cz10_ m⟩ (fun hHeld => ?_)
    clear hK K
    refine norm_ (show Act.put _ (some 45) _ = _ from pt_) ?_
    refine one_ (i := 3) (N := some 46) (bo_ 5 15) rfl rfl (by kernel_rfl) (by decide) (fun K hK => ?_)
    refine goes_ Tryz.func10 (by kernel_rfl) rfl #[.agg #[iv_ a6, .slice Z J.length U, .slice a0 L.length X, iv_ a7, iv_ a8, iv_ a9, iv_ b0, iv_ b1, .slice a5 M.length Y, iv_ b2], .agg #[iv_ k1, .slice l4 j2.length m2, .slice l5 j3.length m3, iv_ k2, iv_ k3, iv_ k4, iv_ k5, iv_ k6, .slice l6 j4.length m4, iv_ k7]] (by rfl) rfl rfl mp_ ?_
    with_reducible refine (laws_eqSky.calls k a6 _ _ J _ _ L a7 a8 a9 b0 b1 _ _ M b2 k1 _ _ j2 _ _ j3 k2 k3 k4 k5 k6 _ _ j4 k7 true _ ?side1 ?side2 ?side3 ?side4 ?side5 ?side6 ?side7 ?side8 ?side9 ?side10 ?side11 ?side12 q4.out).mono ?_
    (case side1 => repeat (first | exact (Kd.R_reads' s.out).2.2 | (with_reducible refine Kd.C_alloc ?_ _) | (with_reducible refine Kd.C_drewN ?_ _) | (with_reducible refine Kd.C_drew ?_)))
    (case side2 => exact (Kd.R_reads' s.out).2.1)
    (case side3 => repeat (first | exact (Kd.R_reads' u.out).2.2 | (with_reducible refine Kd.C_alloc ?_ _) | (with_reducible refine Kd.C_drewN ?_ _) | (with_reducible refine Kd.C_drew ?_)))
    (case side4 => exact (Kd.R_reads' u.out).2.1)
    (case side5 => repeat (first | exact (Kd.R_reads' x.out).2.2 | (with_reducible refine Kd.C_alloc ?_ _) | (with_reducible refine Kd.C_drewN ?_ _) | (with_reducible refine Kd.C_drew ?_)))
    (case side6 => exact (Kd.R_reads' x.out).2.1)
    (case side7 => repeat (first | exact (Kd.R_reads' d8.out).2.2 | (with_reducible refine Kd.C_alloc ?_ _) | (with_reducible refine Kd.C_drewN ?_ _) | (with_reducible refine Kd.C_drew ?_)))
    (case side8 => exact (Kd.R_reads' d8.out).2.1)
    (case side9 => repeat (first | exact (Kd.R_reads' d9.out).2.2 | (with_reducible refine Kd.C_alloc ?_ _) | (with_reducible refine Kd.C_drewN ?_ _) | (with_reducible refine Kd.C_drew ?_)))
    (case side10 => exact (Kd.R_reads' d9.out).2.1)
    (case side11 => repeat (first | exact (Kd.R_reads' e0.out).2.2 | (with_reducible refine Kd.C_alloc ?_ _) | (with_reducible refine Kd.C_drewN ?_ _) | (with_reducible refine Kd.C_drew ?_)))
    (case side12 => exact (Kd.R_reads' e0.out).2.1)
    rintro e B6 ⟨rfl, hb⟩
    refine ⟨_, rfl, sh14_ (Kd.R_below (ra_ z) hb) (Kd.R_below (ra_ B) hb) (Kd.R_below (ra_ D) hb) (Kd.R_below (ra_ E) hb) (Kd.R_below (ra_ s) hb) (Kd.R_below (ra_ u) hb) (Kd.R_below (ra_ x) hb) (Kd.R_below (ra_ O) hb) (Kd.R_below (ra_ d8) hb) (Kd.R_below (ra_ d9) hb) (Kd.R_below (ra_ e0) hb) (blk_below (bk_ m) hb) (blk_below (bk_ l) hb) (below_step (bl2_ HB y T) hb) ?_⟩
    clear z B D E s u x O d8 d9 e0 m l HB hb
    intro z B D E s u x O d8 d9 e0 m l HB
    refine hK.out _ _ ⟨(bc_ l 0 rfl), (bc_ l 1 rfl), (bc_ l 2 rfl), (bc_ l 3 rfl), (bc_ l 4 rfl), (bc_ l 5 rfl), (bc_ l 6 rfl), (bc_ l 7 rfl), (bc_ l 8 rfl), (bc_ l 9 rfl), cz10_ m⟩ (fun hHeld => ?_)
    clear hK K
    refine norm_ (show Act.put _ (some 46) _ = _ from pt_) ?_
    refine pu0_ 4 (bo_ 5 31) (some 47) ?_
    refine done_ (by kernel_rfl) ?_
    have y1 := cf10_ l
    go_upto_region 14 with (first | ((with_reducible refine gate_callee (f := 11) rfl ?_); refine goesL_ (some 50) rfl rfl Tryz.func11 (by kernel_rfl) rfl #[.agg #[iv_ a6, .slice Z J.length U, .slice a0 L.length X, iv_ a7, iv_ a8, iv_ a9, iv_ b0, iv_ b1, .slice a5 M.length Y, iv_ b2], iv_ 1] rfl mp_ ?_; (with_reducible refine (laws_markSky.calls k a6 (fun k_ => some k_ = (.slice Z J.length U : Value).ownBlock) (.slice Z J.length U) J (fun k_ => some k_ = (.slice a0 L.length X : Value).ownBlock) (.slice a0 L.length X) L a7 a8 a9 b0 b1 (fun k_ => some k_ = (.slice a5 M.length Y : Value).ownBlock) (.slice a5 M.length Y) M b2 1 o3 o4 o5 o6 w _ ?side1 ?side2 ?side3 ?side4 q5.out).mono ?_); (case side1 => repeat (first | (with_reducible first | exact HB.out | apply below_alloc | apply pw_below_drewN | apply below_drew1 | refine below_set ?_ y.out | refine below_set ?_ T.out) | exact HB.out)); (case side2 => exact Kd.R_tight rfl s.out); (case side3 => exact Kd.R_tight rfl u.out); (case side4 => exact Kd.R_tight rfl x.out); rintro e B7 ⟨rfl, i1, n4, n5, hb, hkp⟩; refine ⟨_, rfl, sh14_ (blk_kept (bk_ m) hkp (fun hs_ => Or.elim hs_ (fun e_ => (fun e_ => (Kd.R_ne s.out m.out (by decide)) e_) e_) (fun e_ => Or.elim e_ (fun e_ => (fun e_ => (Kd.R_ne u.out m.out (by decide)) e_) e_) (fun e_ => (fun e_ => (Kd.R_ne x.out m.out (by decide)) e_) e_)))) (Kd.R_mono (ok' := fun k_ => some k_ ≠ (.slice Z J.length U : Value).ownBlock ∧ some k_ ≠ (.slice l4 j2.length m2 : Value).ownBlock) (Kd.R_keptB ((Kd.R_apart' (Kd.R_apart' z.out (Kd.R_typed u.out) (by decide)) (Kd.R_typed x.out) (by decide))) hkp (fun k_ hk_ hs_ => Or.elim hs_ (fun e_ => absurd e_ (hx_ hk_)) (fun e_ => Or.elim e_ (fun e_ => absurd e_ (hx_ hk_)) (fun e_ => absurd e_ (hx_ hk_))))) (fun k_ hk_ => ⟨hx_ hk_, hx_ hk_⟩)) (Kd.R_mono (ok' := fun k_ => some k_ ≠ (.slice a0 L.length X : Value).ownBlock ∧ some k_ ≠ (.slice l5 j3.length m3 : Value).ownBlock) (Kd.R_keptB ((Kd.R_apart' (Kd.R_apart' B.out (Kd.R_typed s.out) (by decide)) (Kd.R_typed x.out) (by decide))) hkp (fun k_ hk_ hs_ => Or.elim hs_ (fun e_ => absurd e_ (hx_ hk_)) (fun e_ => Or.elim e_ (fun e_ => absurd e_ (hx_ hk_)) (fun e_ => absurd e_ (hx_ hk_))))) (fun k_ hk_ => ⟨hx_ hk_, hx_ hk_⟩)) (Kd.R_mono (ok' := fun k_ => some k_ ≠ (.slice a5 M.length Y : Value).ownBlock ∧ some k_ ≠ (.slice l6 j4.length m4 : Value).ownBlock) (Kd.R_keptB ((Kd.R_apart' (Kd.R_apart' D.out (Kd.R_typed s.out) (by decide)) (Kd.R_typed u.out) (by decide))) hkp (fun k_ hk_ hs_ => Or.elim hs_ (fun e_ => absurd e_ (hx_ hk_)) (fun e_ => Or.elim e_ (fun e_ => absurd e_ (hx_ hk_)) (fun e_ => absurd e_ (hx_ hk_))))) (fun k_ hk_ => ⟨hx_ hk_, hx_ hk_⟩)) (Kd.R_mono (ok' := fun k_ => some k_ ≠ (.slice e8 b7.length f5 : Value).ownBlock) (Kd.R_keptB ((Kd.R_apart' (Kd.R_apart' (Kd.R_apart' E.out (Kd.R_typed s.out) (by decide)) (Kd.R_typed u.out) (by decide)) (Kd.R_typed x.out) (by decide))) hkp (fun k_ hk_ hs_ => Or.elim hs_ (fun e_ => absurd e_ (hx_ hk_)) (fun e_ => Or.elim e_ (fun e_ => absurd e_ (hx_ hk_)) (fun e_ => absurd e_ (hx_ hk_))))) (fun k_ hk_ => hx_ hk_)) (Kd.R_reok rfl i1 (fun k_ e_ => s.out.1 k_ e_)) (Kd.R_reok rfl n4 (fun k_ e_ => u.out.1 k_ e_)) (Kd.R_reok rfl n5 (fun k_ e_ => x.out.1 k_ e_)) (blk_kept (bk_ l) hkp (fun hs_ => Or.elim hs_ (fun e_ => (fun e_ => (Kd.R_ne s.out l.out (by decide)) e_) e_) (fun e_ => Or.elim e_ (fun e_ => (fun e_ => (Kd.R_ne u.out l.out (by decide)) e_) e_) (fun e_ => (fun e_ => (Kd.R_ne x.out l.out (by decide)) e_) e_)))) (Kd.R_mono (ok' := fun k_ => some k_ ≠ (.slice j7 e4.length j9 : Value).ownBlock) (Kd.R_keptB ((Kd.R_apart' (Kd.R_apart' (Kd.R_apart' O.out (Kd.R_typed s.out) (by decide)) (Kd.R_typed u.out) (by decide)) (Kd.R_typed x.out) (by decide))) hkp (fun k_ hk_ hs_ => Or.elim hs_ (fun e_ => absurd e_ (hx_ hk_)) (fun e_ => Or.elim e_ (fun e_ => absurd e_ (hx_ hk_)) (fun e_ => absurd e_ (hx_ hk_))))) (fun k_ hk_ => hx_ hk_)) (Kd.R_mono (ok' := fun k_ => some k_ ≠ (.slice l1 i8.length l9 : Value).ownBlock ∧ some k_ ≠ (.slice Z J.length U : Value).ownBlock) (Kd.R_keptB ((Kd.R_apart' (Kd.R_apart' d8.out (Kd.R_typed u.out) (by decide)) (Kd.R_typed x.out) (by decide))) hkp (fun k_ hk_ hs_ => Or.elim hs_ (fun e_ => absurd e_ (hx_ hk_)) (fun e_ => Or.elim e_ (fun e_ => absurd e_ (hx_ hk_)) (fun e_ => absurd e_ (hx_ hk_))))) (fun k_ hk_ => ⟨hx_ hk_, hx_ hk_⟩)) (Kd.R_mono (ok' := fun k_ => some k_ ≠ (.slice l2 i9.length m0 : Value).ownBlock ∧ some k_ ≠ (.slice a0 L.length X : Value).ownBlock) (Kd.R_keptB ((Kd.R_apart' (Kd.R_apart' d9.out (Kd.R_typed s.out) (by decide)) (Kd.R_typed x.out) (by decide))) hkp (fun k_ hk_ hs_ => Or.elim hs_ (fun e_ => absurd e_ (hx_ hk_)) (fun e_ => Or.elim e_ (fun e_ => absurd e_ (hx_ hk_)) (fun e_ => absurd e_ (hx_ hk_))))) (fun k_ hk_ => ⟨hx_ hk_, hx_ hk_⟩)) (Kd.R_mono (ok' := fun k_ => some k_ ≠ (.slice l3 j1.length m1 : Value).ownBlock ∧ some k_ ≠ (.slice a5 M.length Y : Value).ownBlock) (Kd.R_keptB ((Kd.R_apart' (Kd.R_apart' e0.out (Kd.R_typed s.out) (by decide)) (Kd.R_typed u.out) (by decide))) hkp (fun k_ hk_ hs_ => Or.elim hs_ (fun e_ => absurd e_ (hx_ hk_)) (fun e_ => Or.elim e_ (fun e_ => absurd e_ (hx_ hk_)) (fun e_ => absurd e_ (hx_ hk_))))) (fun k_ hk_ => ⟨hx_ hk_, hx_ hk_⟩)) hb ?_⟩; clear m z B D E s u x l O d8 d9 e0 HB hb hkp i1 n4 n5; intro m z B D E s u x l O d8 d9 e0 HB))
    (try simp only [Act.put, List.setIfInBounds_toArray, List.set_cons_zero, List.set_cons_succ])
    go_cut [58] (fun w5 wc => ∃ (kq : Nat) (j6 : Bool), w5 = .bool j6 ∧ Aside0 (laws_FnExactContactsOf.j0 kq a1 a2 a3 a4 e4 b7 j6 c1 b3 b4 d0 d1 d2 d3 d4 b5 d5 = some true) ∧ Aside0 (kq ≤ k) ∧ Aside0 (Kd.R k54 54 wc w.heap.size (fun k_ => some k_ ≠ ((.slice e8 b7.length f5) : Value).ownBlock) (.slice j7 e4.length j9) e4) ∧ Aside0 (Kd.R k54 54 wc w.heap.size (fun k_ => some k_ ≠ ((.slice j7 e4.length j9) : Value).ownBlock) (.slice e8 b7.length f5) b7) ∧ Aside0 (Kd.R k68 68 wc w.heap.size (fun _ => True) (.slice Z J.length U) o4) ∧ Aside0 (Kd.R k70 70 wc w.heap.size (fun _ => True) (.slice a0 L.length X) o5) ∧ Aside0 (Kd.R k76 76 wc w.heap.size (fun _ => True) (.slice a5 M.length Y) o6) ∧ Aside0 (wc.heap[i7]? = some (.cells #[iv_ c1, (.slice e5 b3.length f2), (.slice e6 b4.length f3), iv_ d0, iv_ d1, iv_ d2, iv_ d3, iv_ d4, (.slice e7 b5.length f4), iv_ d5] 26 (0, 0))) ∧ Aside0 (wc.heap[j]? = some (.cells #[iv_ a6, (.slice Z J.length U), (.slice a0 L.length X), iv_ a7, iv_ a8, iv_ a9, iv_ b0, iv_ b1, (.slice a5 M.length Y), iv_ b2] 34 (0, 0))) ∧ Aside0 (Below w.heap.size w wc))
    case first =>
     have H := j8.out
     clear j8
     by_cases h1 : o3 < 0
     ·rw [if_pos h1] at H
      have h6 := decide_eq_true h1
      clear h1
      (first | rw [h6] | (simp only [i64_w, i32_w]; rw [h6]) | skip)
      have H' := Aside0.mk H
      clear H
      go_wp2
      go_meet
      case rel => exact ⟨_, (true), (by first | rfl | (simp; done) | (simp [*]; done)), H', ⟨by first | omega | exact Nat.le_refl _⟩, ⟨ra_ E⟩, ⟨ra_ O⟩, ⟨by (with_reducible repeat (first | apply Kd.R_alloc | apply Kd.R_drewN | apply Kd.R_drew)); exact Kd.R_mono s.out (fun _ hk => trivial)⟩, ⟨by (with_reducible repeat (first | apply Kd.R_alloc | apply Kd.R_drewN | apply Kd.R_drew)); exact Kd.R_mono u.out (fun _ hk => trivial)⟩, ⟨by (with_reducible repeat (first | apply Kd.R_alloc | apply Kd.R_drewN | apply Kd.R_drew)); exact Kd.R_mono x.out (fun _ hk => trivial)⟩, ⟨by (with_reducible repeat (first | refine blk_drewN ?_ _ | refine blk_drew ?_ | refine blk_alloc ?_ _)); exact m.out⟩, ⟨by (with_reducible repeat (first | refine blk_drewN ?_ _ | refine blk_drew ?_ | refine blk_alloc ?_ _)); exact l.out⟩, ⟨bl2_ HB y T⟩⟩
     ·rw [if_neg h1] at H
      have h6 := decide_eq_false h1
      clear h1
      (first | rw [h6] | (simp only [i64_w, i32_w]; rw [h6]) | skip)
      replace H := bs_ H
      obtain ⟨o7, q6, H⟩ := H
      have H' := Aside0.mk H
      clear H
      go_wp2_with (first | (go_at_call 9; (with_reducible refine (laws_eqContactS.calls k _ _ b7 _ _ e4 o7 _ ?side1 ?side2 ?side3 ?side4 q6.out).mono ?_); (case side1 => repeat (first | exact (Kd.R_reads' O.out).2.2 | (with_reducible refine Kd.C_alloc ?_ _) | (with_reducible refine Kd.C_drewN ?_ _) | (with_reducible refine Kd.C_drew ?_))); (case side2 => exact (Kd.R_reads' O.out).2.1); (case side3 => repeat (first | exact (Kd.R_reads' E.out).2.2 | (with_reducible refine Kd.C_alloc ?_ _) | (with_reducible refine Kd.C_drewN ?_ _) | (with_reducible refine Kd.C_drew ?_))); (case side4 => exact (Kd.R_reads' E.out).2.1); rintro e B8 ⟨rfl, hb⟩; refine sh14_ (Kd.R_below (ra_ z) hb) (Kd.R_below (ra_ B) hb) (Kd.R_below (ra_ D) hb) (Kd.R_below (ra_ E) hb) (Kd.R_below (ra_ s) hb) (Kd.R_below (ra_ u) hb) (Kd.R_below (ra_ x) hb) (Kd.R_below (ra_ O) hb) (Kd.R_below (ra_ d8) hb) (Kd.R_below (ra_ d9) hb) (Kd.R_below (ra_ e0) hb) (blk_below (bk_ m) hb) (blk_below (bk_ l) hb) (below_step (bl2_ HB y T) hb) ?_; clear z B D E s u x O d8 d9 e0 m l HB hb; intro z B D E s u x O d8 d9 e0 m l HB))
      go_meet
      case rel => exact ⟨_, (!o7), (by first | rfl | (simp; done) | (simp [*]; done)), H', ⟨by first | omega | exact Nat.le_refl _⟩, ⟨ra_ E⟩, ⟨ra_ O⟩, ⟨by (with_reducible repeat (first | apply Kd.R_alloc | apply Kd.R_drewN | apply Kd.R_drew)); exact Kd.R_mono s.out (fun _ hk => trivial)⟩, ⟨by (with_reducible repeat (first | apply Kd.R_alloc | apply Kd.R_drewN | apply Kd.R_drew)); exact Kd.R_mono u.out (fun _ hk => trivial)⟩, ⟨by (with_reducible repeat (first | apply Kd.R_alloc | apply Kd.R_drewN | apply Kd.R_drew)); exact Kd.R_mono x.out (fun _ hk => trivial)⟩, ⟨by (with_reducible repeat (first | refine blk_drewN ?_ _ | refine blk_drew ?_ | refine blk_alloc ?_ _)); exact m.out⟩, ⟨by (with_reducible repeat (first | refine blk_drewN ?_ _ | refine blk_drew ?_ | refine blk_alloc ?_ _)); exact l.out⟩, ⟨bl2_ HB y T⟩⟩
    case rest =>
     clear j8
     obtain ⟨kq, j6, rfl, HA, x2, b6, G, b8, b9, c0, m, l, HB⟩ := hcut
     have g1 := (Kd.R_reads' b8.out).1
     rw [g1] at b8
     (try simp only [g1])
     (try simp only [g1] at m)
     (try simp only [g1] at l)
     (try simp only [g1] at b6)
     (try simp only [g1] at G)
     (try simp only [g1] at b9)
     (try simp only [g1] at c0)
     have g2 := (Kd.R_reads' b9.out).1
     rw [g2] at b9
     (try simp only [g2])
     (try simp only [g2] at m)
     (try simp only [g2] at l)
     (try simp only [g2] at b6)
     (try simp only [g2] at G)
     (try simp only [g2] at b8)
     (try simp only [g2] at c0)
     have g3 := (Kd.R_reads' c0.out).1
     rw [g3] at c0
     (try simp only [g3])
     (try simp only [g3] at m)
     (try simp only [g3] at l)
     (try simp only [g3] at b6)
     (try simp only [g3] at G)
     (try simp only [g3] at b8)
     (try simp only [g3] at b9)
     cases kq with
     | zero => exact absurd HA.out (by simp [laws_FnExactContactsOf.j0])
     | succ e1 =>
      have H := HA.out
      clear HA
      simp only [laws_FnExactContactsOf.j0] at H
      by_cases i5 : j6 = true
      ·subst i5
       try rw [if_pos rfl] at H
       exact absurd H (by simp)
      ·replace i5 := Bool.eq_false_iff.mpr i5
       subst i5
       have H1 : ((laws_markContactS.f e1 b7 1).bind fun i2 => ((laws_heldContactS.f e1 i2.2 1).bind fun h4 => (if h4 < 0 then (some false) else (if h4 = i2.1 then ((laws_toSky.f e1 c1 b3 b4 d0 d1 d2 d3 d4 b5 d5).bind fun e3 => ((impl_ContactsOf.f e1 e3.1 e3.2.1 e3.2.2.1 e3.2.2.2.1 e3.2.2.2.2.1 e3.2.2.2.2.2.1 e3.2.2.2.2.2.2.1 e3.2.2.2.2.2.2.2.1 e3.2.2.2.2.2.2.2.2.1 e3.2.2.2.2.2.2.2.2.2 a1 a2 a3 a4).bind fun j5 => ((laws_eqContactS.f e1 j5 e4).bind fun k9 => (if k9 = true then ((laws_heldContactS.f e1 i2.2 1).bind fun h5 => (if h5 < 0 then (some false) else (if h5 = i2.1 then (some true) else (some false)))) else (some false))))) else (some false))))) = some true := by first | (rw [if_neg (show ¬ (false = true) by decide)] at H; exact H) | rfl
       clear H
       have H := H1
       clear H1
       replace H := bs_ H
       obtain ⟨⟨k8, f6⟩, q7, H⟩ := H
       dsimp only at H
       replace H := bs_ H
       obtain ⟨h4, q8, H⟩ := H
       by_cases h2 : h4 < 0
       ·rw [if_pos h2] at H
        have r3 := decide_eq_true h2
        clear h2
        exact absurd H (by simp)
       ·rw [if_neg h2] at H
        have r3 := decide_eq_false h2
        clear h2
        by_cases h7 : h4 = k8
        ·rw [if_pos h7] at H
         obtain ⟨r4, r5⟩ := bt_ h7
         clear h7
         replace H := bs_ H
         obtain ⟨⟨o8, o9, p0, p1, p2, p3, p4, p5, p6, p7⟩, q9, H⟩ := H
         dsimp only at H
         replace H := bs_ H
         obtain ⟨j5, r0, H⟩ := H
         replace H := bs_ H
         obtain ⟨k9, r1, H⟩ := H
         by_cases i6 : k9 = true
         ·subst i6
          try rw [if_pos rfl] at H
          replace H := bs_ H
          obtain ⟨h5, r2, H⟩ := H
          by_cases h3 : h5 < 0
          ·rw [if_pos h3] at H
           have r6 := decide_eq_true h3
           clear h3
           exact absurd H (by simp)
          ·rw [if_neg h3] at H
           have r6 := decide_eq_false h3
           clear h3
           by_cases h8 : h5 = k8
           ·rw [if_pos h8] at H
            obtain ⟨r7, r8⟩ := bt_ h8
            clear h8
            clear H
            go_wp2_with (first | ((with_reducible refine gate_callee (f := 12) rfl ?_); refine goesL_ (some 61) rfl rfl Tryz.func12 (by kernel_rfl) rfl #[.slice e8 b7.length f5, iv_ 1] rfl mp_ ?_; (with_reducible refine (laws_markContactS.calls e1 (fun k_ => some k_ = (.slice e8 b7.length f5 : Value).ownBlock) (.slice e8 b7.length f5) b7 1 k8 f6 w _ ?side1 ?side2 q7.out).mono ?_); (case side1 => repeat (first | (with_reducible first | exact HB.out | apply below_alloc | apply pw_below_drewN | apply below_drew1 | refine below_set ?_ y.out | refine below_set ?_ T.out) | exact HB.out)); (case side2 => exact Kd.R_tight rfl G.out); rintro e B9 ⟨rfl, i1, hb, hkp⟩; refine ⟨_, rfl, sh8_ (Kd.R_mono (ok' := fun k_ => some k_ ≠ (.slice e8 b7.length f5 : Value).ownBlock) (Kd.R_keptB (b6.out) hkp (fun k_ hk_ hs_ => (hk_) hs_)) (fun k_ hk_ => hx_ hk_)) (Kd.R_reok rfl i1 (fun k_ e_ => G.out.1 k_ e_)) (Kd.R_mono (ok' := fun k_ => True) (Kd.R_keptB ((Kd.R_apart' b8.out (Kd.R_typed G.out) (by decide))) hkp (fun k_ hk_ hs_ => (hk_.2) hs_)) (fun k_ hk_ => trivial)) (Kd.R_mono (ok' := fun k_ => True) (Kd.R_keptB ((Kd.R_apart' b9.out (Kd.R_typed G.out) (by decide))) hkp (fun k_ hk_ hs_ => (hk_.2) hs_)) (fun k_ hk_ => trivial)) (Kd.R_mono (ok' := fun k_ => True) (Kd.R_keptB ((Kd.R_apart' c0.out (Kd.R_typed G.out) (by decide))) hkp (fun k_ hk_ hs_ => (hk_.2) hs_)) (fun k_ hk_ => trivial)) (blk_kept (bk_ m) hkp (fun hs_ => (fun e_ => (Kd.R_ne G.out m.out (by decide)) e_) hs_)) (blk_kept (bk_ l) hkp (fun hs_ => (fun e_ => (Kd.R_ne G.out l.out (by decide)) e_) hs_)) hb ?_⟩; clear b6 G b8 b9 c0 m l HB hb hkp i1; intro b6 G b8 b9 c0 m l HB) | ((with_reducible refine gate_callee (f := 13) rfl ?_); refine goesL_ (some 64) rfl rfl Tryz.func13 (by kernel_rfl) rfl #[.slice e8 f6.length f5, iv_ 1] rfl (by (try simp only [List.map_toArray, List.map_cons, List.map_nil]); first | done | (rw [show f6.length = b7.length from (Kd.R_reads' G.out).1.symm] <;> rfl) | rfl | (simp only [List.length_drop, List.length_take]; rfl)) ?_; (with_reducible refine (laws_heldContactS.calls e1 _ _ f6 1 h4 _ ?side1 ?side2 q8.out).mono ?_); (case side1 => repeat (first | exact (Kd.R_reads' G.out).2.2 | (with_reducible refine Kd.C_alloc ?_ _) | (with_reducible refine Kd.C_drewN ?_ _) | (with_reducible refine Kd.C_drew ?_))); (case side2 => rw [show f6.length = b7.length from (Kd.R_reads' G.out).1.symm]; exact (Kd.R_reads' G.out).2.1); rintro e w' ⟨rfl, ⟨nd, rfl⟩⟩; refine ⟨_, rfl, ?_⟩; have y5 := l7.out; have y7 := l8.out; have y2 := cf10_ m) | ((with_reducible refine gate_callee (f := 7) rfl ?_); refine goesL_ (some 71) rfl rfl Tryz.func7 (by kernel_rfl) rfl #[.agg #[iv_ c1, .slice e5 b3.length f2, .slice e6 b4.length f3, iv_ d0, iv_ d1, iv_ d2, iv_ d3, iv_ d4, .slice e7 b5.length f4, iv_ d5]] rfl mp_ ?_; (with_reducible refine (laws_toSky.calls e1 c1 _ _ b3 _ _ b4 d0 d1 d2 d3 d4 _ _ b5 d5 o8 o9 p0 p1 p2 p3 p4 p5 p6 p7 _ ?side1 ?side2 ?side3 ?side4 ?side5 ?side6 q9.out).mono ?_); (case side1 => repeat (first | exact (Kd.C_below g8.out (bl2_ HB y T)) | (with_reducible refine Kd.C_alloc ?_ _) | (with_reducible refine Kd.C_drewN ?_ _) | (with_reducible refine Kd.C_drew ?_))); (case side2 => exact g4.out); (case side3 => repeat (first | exact (Kd.C_below g9.out (bl2_ HB y T)) | (with_reducible refine Kd.C_alloc ?_ _) | (with_reducible refine Kd.C_drewN ?_ _) | (with_reducible refine Kd.C_drew ?_))); (case side4 => exact g5.out); (case side5 => repeat (first | exact (Kd.C_below h0.out (bl2_ HB y T)) | (with_reducible refine Kd.C_alloc ?_ _) | (with_reducible refine Kd.C_drewN ?_ _) | (with_reducible refine Kd.C_drew ?_))); (case side6 => exact g6.out); rintro e C0 ⟨A1, A2, A3, rfl, I, d6, d7, hb⟩; refine ⟨_, rfl, sh11_ (Kd.R_below (ra_ b6) hb) (Kd.R_below (ra_ G) hb) (Kd.R_elder' (ra_ b8) (Kd.R_base I) hb) (Kd.R_elder' (ra_ b9) (Kd.R_base d6) hb) (Kd.R_elder' (ra_ c0) (Kd.R_base d7) hb) (Kd.R_lower (Kd.R_new' I (Kd.R_lt (ra_ b8))) (below_size (bl2_ HB y T))) (Kd.R_lower (Kd.R_new' d6 (Kd.R_lt (ra_ b9))) (below_size (bl2_ HB y T))) (Kd.R_lower (Kd.R_new' d7 (Kd.R_lt (ra_ c0))) (below_size (bl2_ HB y T))) (blk_below (bk_ m) hb) (blk_below (bk_ l) hb) (below_step (bl2_ HB y T) hb) ?_⟩; clear b6 G b8 b9 c0 m l HB hb I d6 d7; intro b6 G b8 b9 c0 e9 f0 f1 m l HB; obtain ⟨w7, x3, t8⟩ := Kd.R_slice e9.out; subst t8; obtain ⟨w9, x4, t9⟩ := Kd.R_slice f0.out; subst t9; obtain ⟨x0, x5, u0⟩ := Kd.R_slice f1.out; subst u0) | ((with_reducible refine gate_callee (f := 8) rfl ?_); refine gl_ 76 Tryz.func8 (impl_ContactsOf.calls e1 o8 _ _ o9 _ _ p0 p1 p2 p3 p4 p5 _ _ p6 p7 a1 a2 a3 a4 j5 _ (cr_ e9) (rl_ e9) (cr_ f0) (rl_ f0) (cr_ f1) (rl_ f1) r0.out) ?_; rintro e C1 ⟨A4, rfl, I, hb⟩; refine ⟨_, rfl, sh12_ (Kd.R_elder' (ra_ b6) (Kd.R_base I) hb) (Kd.R_elder' (ra_ G) (Kd.R_base I) hb) (Kd.R_below (ra_ b8) hb) (Kd.R_below (ra_ b9) hb) (Kd.R_below (ra_ c0) hb) (Kd.R_below (ra_ e9) hb) (Kd.R_below (ra_ f0) hb) (Kd.R_below (ra_ f1) hb) (Kd.R_lower (Kd.R_new' (Kd.R_new' I (Kd.R_lt (ra_ b6))) (Kd.R_lt (ra_ G))) (below_size (bl2_ HB y T))) (blk_below (bk_ m) hb) (blk_below (bk_ l) hb) (below_step (bl2_ HB y T) hb) ?_⟩; clear b6 G b8 b9 c0 e9 f0 f1 m l HB hb I; intro b6 G b8 b9 c0 e9 f0 f1 g7 m l HB; obtain ⟨x1, x6, u1⟩ := Kd.R_slice g7.out; subst u1) | ((with_reducible refine gate_callee (f := 9) rfl ?_); refine gl_ 79 Tryz.func9 (laws_eqContactS.calls e1 _ _ j5 _ _ e4 true _ (cr_ g7) (rl_ g7) (cr_ b6) (rl_ b6) r1.out) ?_; rintro e C2 ⟨rfl, hb⟩; refine ⟨_, rfl, sh12_ (Kd.R_below (ra_ b6) hb) (Kd.R_below (ra_ G) hb) (Kd.R_below (ra_ b8) hb) (Kd.R_below (ra_ b9) hb) (Kd.R_below (ra_ c0) hb) (Kd.R_below (ra_ e9) hb) (Kd.R_below (ra_ f0) hb) (Kd.R_below (ra_ f1) hb) (Kd.R_below (ra_ g7) hb) (blk_below (bk_ m) hb) (blk_below (bk_ l) hb) (below_step (bl2_ HB y T) hb) ?_⟩; clear b6 G b8 b9 c0 e9 f0 f1 g7 m l HB hb; intro b6 G b8 b9 c0 e9 f0 f1 g7 m l HB) | ((with_reducible refine gate_callee (f := 13) rfl ?_); refine goesL_ (some 83) rfl rfl Tryz.func13 (by kernel_rfl) rfl #[.slice e8 f6.length f5, iv_ 1] rfl (by (try simp only [List.map_toArray, List.map_cons, List.map_nil]); first | done | (rw [show f6.length = b7.length from (Kd.R_reads' G.out).1.symm] <;> rfl) | rfl | (simp only [List.length_drop, List.length_take]; rfl)) ?_; (with_reducible refine (laws_heldContactS.calls e1 _ _ f6 1 h5 _ ?side1 ?side2 r2.out).mono ?_); (case side1 => repeat (first | exact (Kd.R_reads' G.out).2.2 | (with_reducible refine Kd.C_alloc ?_ _) | (with_reducible refine Kd.C_drewN ?_ _) | (with_reducible refine Kd.C_drew ?_))); (case side2 => rw [show f6.length = b7.length from (Kd.R_reads' G.out).1.symm]; exact (Kd.R_reads' G.out).2.1); rintro e w' ⟨rfl, ⟨nd, rfl⟩⟩; refine ⟨_, rfl, ?_⟩))
            go_ret
            exact ⟨er_, bl2_ HB y T⟩
           ·rw [if_neg h8] at H
            obtain ⟨r7, r8⟩ := bn_ h8
            exact absurd H (by simp)
         ·replace i6 := Bool.eq_false_iff.mpr i6
          subst i6
          have H1 : (some false) = some true := by first | (rw [if_neg (show ¬ (false = true) by decide)] at H; exact H) | rfl
          clear H
          have H := H1
          clear H1
          exact absurd H (by simp)
        ·rw [if_neg h7] at H
         obtain ⟨r4, r5⟩ := bn_ h7
         exact absurd H (by simp)
   ·replace i4 := Bool.eq_false_iff.mpr i4
    subst i4
    have H1 : (some false) = some true := by first | (rw [if_neg (show ¬ (false = true) by decide)] at H; exact H) | rfl
    clear H
    have H := H1
    clear H1
    exact absurd H (by simp)
  ·replace i3 := Bool.eq_false_iff.mpr i3
   subst i3
   have H1 : (some false) = some true := by first | (rw [if_neg (show ¬ (false = true) by decide)] at H; exact H) | rfl
   clear H
   have H := H1
   clear H1
   exact absurd H (by simp)

end Go.Proofs.YtpjhdehbikohmaaGreat.PFnExactContactsOf
