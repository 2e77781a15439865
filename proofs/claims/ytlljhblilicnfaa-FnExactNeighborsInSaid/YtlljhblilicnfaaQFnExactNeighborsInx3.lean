-- Written by a program of this session for this claim (the kit's printer with changes).
import Derived.Shelf.SortM.Plain
import Derived.Shelf.SortM.SortNone
import Derived.Ground.SlgmProg
import Derived.Shelf.SlicesG.CompactI
import Derived.Ground.SlgnProg
import Derived.Test.YtlljhblilicnfaaQFnExactNeighborsInx0
import Derived.Test.YtlljhblilicnfaaQFnExactNeighborsInx1
import Derived.Test.YtlljhblilicnfaaQFnExactNeighborsInx2
namespace Go.Proofs.Ytlljhblilicnfaa.PFnExactNeighborsIn
open Go.RowKit Go.Proofs.YtlljhblilicnfaaW.PrintWords Go.Proofs.YtlljhblilicnfaaW.PrintLast Go.Proofs.YtlljhblilicnfaaW.PrintMore
attribute [local go_sem] max2_int min2_int max_two min_two max_three min_three max_four min_four   -- for this text's walks alone
set_option linter.unusedVariables false
set_option linter.unusedSimpArgs false

/-! ### laws_toLink: function 106 -/
def laws_toLink.f (a0_0 : Int) (a0_1 : Int) : Option (Int × Int) := some (a0_0, a0_1)
set_option maxHeartbeats 8000000 in
set_option maxRecDepth 100000 in
theorem laws_toLink.calls (a0_0 : Int) (a0_1 : Int) (r1 : Int) (r2 : Int) (w : World) (h : laws_toLink.f a0_0 a0_1 = some (r1, r2)) :
  Calls Try.prog 106 #[.agg #[.int .i64 a0_0, .int .i64 a0_1]] w fun e w' => e = .returned (.agg #[.int .i64 r1, .int .i64 r2]) ∧ Below w.heap.size w w' := by
 have hu117 := Try.underlying117
 have hu103 := Try.underlying103
 have HB := Aside0.mk (Below.refl w.heap.size w)
 have H := h
 clear h
 unfold laws_toLink.f at H
 simp only [Option.some.injEq, Prod.mk.injEq] at H
 obtain ⟨rfl, rfl⟩ := H
 go_enter Try.func106, Try.ntmps106
 go_wp2_with (first | ((with_reducible refine gd_ 1 ?_); refine bx_ 1 117 #[.int .i64 a0_0, .int .i64 a0_1] ?_; intro gb190 hg w2 hbox hb; refine sh4_ (below_step (bl_ HB) hb) hbox (ge_ hg (bl_ HB)) (ge_ hg (bl_ HB)) ?_; clear HB hb hbox hg; intro HB BK190 GW190 GE190) | ((with_reducible refine gd_ 2 ?_); refine bx_ 2 103 #[.int .i64 0, .int .i64 0] ?_; intro gb191 hg w3 hbox hb; refine sh7_ (blk_below (bk_ BK190) hb) (below_step (bl1_ HB GE190) hb) hbox (ge_ hg (bl1_ HB GE190)) (ge_ hg (bl1_ HB GE190)) (nl_ hg (bk_ BK190)) (ng_ hg (bk_ BK190)) ?_; clear BK190 HB hb hbox hg; intro BK190 HB BK191 GW191 GE191 NB190_191 NB191_190) | ((with_reducible refine gd_ 3 ?_); refine bx_ 3 103 #[.int .i64 0, .int .i64 0] ?_; intro gb192 hg w4 hbox hb; refine sh10_ (blk_below (bk_ BK190) hb) (blk_below (bk_ BK191) hb) (below_step (bl2_ HB GE190 GE191) hb) hbox (ge_ hg (bl2_ HB GE190 GE191)) (ge_ hg (bl2_ HB GE190 GE191)) (nl_ hg (bk_ BK190)) (ng_ hg (bk_ BK190)) (nl_ hg (bk_ BK191)) (ng_ hg (bk_ BK191)) ?_; clear BK190 BK191 HB hb hbox hg; intro BK190 BK191 HB BK192 GW192 GE192 NB190_192 NB192_190 NB191_192 NB192_191; have hnb5 := NB190_191.out; have hnc5 := NB191_190.out; have hnb6 := NB190_192.out; have hnc6 := NB192_190.out; have hcz7 := cf2_ BK190; have hnb8 := NB192_191.out; have hnc8 := NB191_192.out; have hcz9 := cf2_ BK192; have hcz10 := cf2_ BK191))
 refine bodyPost_ret (results_cell_row rfl _ _ gb191 103 #[.int .i64 a0_0, .int .i64 a0_1] (0, 0) _ rfl (by (with_reducible repeat (first | refine blk_drewN ?_ _ | refine blk_drew ?_ | refine blk_alloc ?_ _)); refine blk_put (cs := #[.int .i64 a0_0, .int .i64 0]) ?_ 1 _ rfl; (with_reducible repeat (first | refine blk_drewN ?_ _ | refine blk_drew ?_ | refine blk_alloc ?_ _)); refine blk_put (cs := #[.int .i64 0, .int .i64 0]) ?_ 0 _ rfl; (with_reducible repeat (first | refine blk_drewN ?_ _ | refine blk_drew ?_ | refine blk_alloc ?_ _)); refine blk_far ?_ NB191_192.out _; (with_reducible repeat (first | refine blk_drewN ?_ _ | refine blk_drew ?_ | refine blk_alloc ?_ _)); refine blk_far ?_ NB191_192.out _; (with_reducible repeat (first | refine blk_drewN ?_ _ | refine blk_drew ?_ | refine blk_alloc ?_ _)); exact BK191.out) Try.underlying103 rfl (by kernel_rfl)) rfl ?_
 exact ⟨er_, bl3_ HB GE190 GE191 GE192⟩

/-! ### laws_toLinkS: function 56 -/
def laws_toLinkS.l0 : Nat → List (S117) → List (S103) → Int → Option ((List (S103)))
 | 0, _, _, _ => none
 | k + 1, x0, x3, x4 => if x4 < (x0.length : Int) then (if 0 ≤ x4 then ((laws_toLink.f ((rd_T117 x0 x4).f0) ((rd_T117 x0 x4).f1)).bind fun bt197 => (if x4 < (x3.length : Int) then (laws_toLinkS.l0 k x0 (x3.set (x4 : Int).toNat (⟨bt197.1, bt197.2⟩ : S103)) (wrap64 (x4 + 1))) else (none))) else (none)) else (some x3)
def laws_toLinkS.f (k : Nat) (l0 : List (S117)) : Option ((List (S103))) := if 0 ≤ (l0.length : Int) then (if ((l0.length : Int) : Int).toNat ≤ 17592186044416 then (laws_toLinkS.l0 k l0 (List.replicate ((l0.length : Int) : Int).toNat z103) 0) else (none)) else (none)
theorem laws_toLinkS.mono_l : ∀ k, (∀ y0 y1 y2, LeO (laws_toLinkS.l0 k y0 y1 y2) (laws_toLinkS.l0 (k + 1) y0 y1 y2))
 | 0 => fun _ _ _ r h => by simp [laws_toLinkS.l0] at h
 | k + 1 => by
  have ih0 := laws_toLinkS.mono_l k
  ·intro y0 y1 y2
   unfold laws_toLinkS.l0
   repeat' first | (with_reducible first | exact ih0 _ _ _ | exact LeO.refl _ | exact LeO.none _ | refine LeO.ite ?_ ?_ | refine LeO.bind ?_ (fun _ => ?_)) | exact LeO.none _ | refine LeO.ite ?_ ?_ | refine LeO.bind ?_ (fun _ => ?_)
theorem laws_toLinkS.mono : ∀ a0 k, LeO (laws_toLinkS.f k a0) (laws_toLinkS.f (k + 1) a0) := by
 intro a0 k
 have ih0 := laws_toLinkS.mono_l k
 unfold laws_toLinkS.f
 repeat' first | (with_reducible first | exact ih0 _ _ _ | exact LeO.refl _ | exact LeO.none _ | refine LeO.ite ?_ ?_ | refine LeO.bind ?_ (fun _ => ?_)) | exact LeO.none _ | refine LeO.ite ?_ ?_ | refine LeO.bind ?_ (fun _ => ?_)
set_option maxHeartbeats 8000000 in
set_option maxRecDepth 100000 in
theorem laws_toLinkS.calls (k : Nat) (A0 : Option Addr) (c0 : Nat) (l0 : List (S117)) (r : List (S103)) (w : World) (hr0 : Kd.C k117 w A0 l0.length l0) (hc0 : l0.length ≤ c0) (h : laws_toLinkS.f k l0 = some r) :
  Calls Try.prog 56 #[.slice A0 l0.length c0] w fun e w' => ∃ v0_ : Value, e = .returned (v0_) ∧ Kd.R k103 103 w' w.heap.size (fun _ => True) v0_ r ∧ Below w.heap.size w w' := by
 have hu117 := Try.underlying117
 have hu103 := Try.underlying103
 have HR0 := Aside0.mk hr0
 have HC0 := Aside0.mk hc0
 clear hr0 hc0
 have HB := Aside0.mk (Below.refl w.heap.size w)
 have H := h
 clear h
 unfold laws_toLinkS.f at H
 replace H := ifn_ H
 obtain ⟨c2, H⟩ := H
 have c2b0 := eq_true c2
 have c2b1 := decide_eq_true c2
 clear c2
 replace H := ifn_ H
 obtain ⟨c3, H⟩ := H
 have c3b0 := eq_true c3
 have c3b1 := decide_eq_true c3
 clear c3
 replace H : ∃ y_ : List (S103), Aside0 (y_ = (List.replicate ((l0.length : Int) : Int).toNat z103)) ∧ (laws_toLinkS.l0 k l0 y_ 0) = some r := ⟨_, ⟨rfl⟩, yh_ H⟩
 obtain ⟨y193, Ny193, H⟩ := H
 have H' := Aside0.mk H
 clear H
 go_enter Try.func56, Try.ntmps56
 go_wp2_with (first | ((with_reducible refine gate_dst (N := 7) rfl ?_); refine Kd.R_make k103 _ 103 rfl (N := 7) rfl 49 _ _ rfl (l0.length : Int) rfl rfl Try.underlying49 (.agg #[(.int .i64 0), (.int .i64 0)]) 16 info103 rfl (by decide) (by omega) z103 (ok := fun _ => True) (okp := fun _ => True) (k103_mkM _ _ _ z103 ) (fun _ hk => hk) trivial od_ (Nat.le_trans (Nat.mul_le_mul_right _ (od_ : (l0.length : Int).toNat ≤ 17592186044416)) (by omega)) (Below.refl _ _) (Nat.le_refl _) ?_; intro v194 w4 ho5 hb hg_ hnew_; clear hg_ hnew_; (first | rw [← Ny193.out] at ho5 | (simp only [Int.reduceToNat] at ho5; rw [← Ny193.out] at ho5)); refine sh2_ (Kd.R_lower ho5 (below_size (bl_ HB))) (below_step (bl_ HB) hb) ?_; clear HB hb ho5; intro HO195 HB))
 go_loopg [4] k (fun kq v4 w' => ∃ (x3_1 : List (S103)) (x4_1 : Int), v4 = .int .i64 x4_1 ∧ Aside0 (laws_toLinkS.l0 kq l0 x3_1 x4_1 = some r) ∧ Aside0 (kq ≤ k) ∧ Aside0 (Kd.R k103 103 w' w.heap.size (fun _ => True) v194 x3_1) ∧ Aside0 (Below w.heap.size w w'))
 case atStart => exact ⟨(y193), (0), (by first | rfl | (simp; done) | (simp [*]; done)), H', ⟨Nat.le_refl _⟩, ⟨ra_ HO195⟩, ⟨bl_ HB⟩⟩
 case round =>
  clear H'
  try clear c2
  try clear c2b0
  try clear c2b1
  try clear p2
  try clear c3
  try clear c3b0
  try clear c3b1
  try clear c5
  obtain ⟨x3_1, x4_1, rfl, HA, HK1, HO_3, HB⟩ := hrel
  cases gk with
  | zero => exact absurd HA.out (by simp [laws_toLinkS.l0])
  | succ k1 =>
   have H := HA.out
   clear HA
   simp only [laws_toLinkS.l0] at H
   by_cases c6 : x4_1 < (l0.length : Int)
   ·rw [if_pos c6] at H
    have c6b0 := decide_eq_true c6
    clear c6
    replace H := ifn_ H
    obtain ⟨c7, H⟩ := H
    have c7b0 := decide_eq_true c7
    clear c7
    replace H := bs_ H
    obtain ⟨⟨t197, t198⟩, A8, H⟩ := H
    dsimp only at H
    replace H := ifn_ H
    obtain ⟨c9, H⟩ := H
    have c9b0 := decide_eq_true c9
    clear c9
    replace H : ∃ y_ : List (S103), Aside0 (y_ = (x3_1.set (x4_1 : Int).toNat (⟨t197, t198⟩ : S103))) ∧ (laws_toLinkS.l0 k1 l0 y_ (wrap64 (x4_1 + 1))) = some r := ⟨_, ⟨rfl⟩, yh_ H⟩
    obtain ⟨y199, Ny199, H⟩ := H
    have H' := Aside0.mk H
    clear H
    have p196 : 0 ≤ (x4_1 : Int) := od_
    have q196 : x4_1 < (l0.length : Int) := od_
    obtain ⟨ad196, e196, hx196_0, hx196_1⟩ := at_T117 HR0.out x4_1 p196 q196
    cases e196
    replace hx196_0 := hbc_ HB hx196_0
    replace hx196_1 := hbc_ HB hx196_1
    replace p196 := eq_true p196
    replace q196 := eq_true q196
    go_wp2_with (first | ((with_reducible refine gate_callee (f := 106) rfl ?_); refine gl_ 20 Try.func106 (laws_toLink.calls ((rd_T117 l0 x4_1).f0) ((rd_T117 l0 x4_1).f1) t197 t198 _ A8.out) ?_; rintro e w11 ⟨rfl, hb⟩; refine ⟨_, rfl, sh2_ (Kd.R_below (ra_ HO_3) hb) (below_step (bl_ HB) hb) ?_⟩; clear HO_3 HB hb; intro HO_3 HB; have p10 : 0 ≤ (x4_1 : Int) := od_; have q10 : (x4_1 : Int) < ((x3_1.length : Int) : Int) := od_; obtain ⟨go10, co10, eo10, gb10, gl10, cl10, HG10⟩ := Kd.R_form HO_3.out (by omega); (first | cases eo10 | (injection eo10 with ea_ en_ ec_; (first | subst ea_ | (injection ea_ with ea_; subst ea_)); subst ec_; clear en_)); have GB10 := Aside0.mk gb10; have GG10 := Aside0.mk HG10; clear gb10 gl10 HG10; obtain ⟨ce10, hcl10, hM10, hcc10, hfr10⟩ := Kd.R_elem HO_3.out z103 (x4_1 : Int) p10 q10; obtain rfl := k103_openM hM10; have hx10_0 : w11.cell? ⟨go10, (x4_1 : Int).toNat * 2, none⟩ = some (.int .i64 ((rd_T103 x3_1 x4_1).f0)) := hcc10 0 _ rfl; have hx10_1 : w11.cell? ⟨go10, (x4_1 : Int).toNat * 2 + 1, none⟩ = some (.int .i64 ((rd_T103 x3_1 x4_1).f1)) := hcc10 1 _ rfl; have hf10_0 : w11.frozen? ⟨go10, (x4_1 : Int).toNat * 2, none⟩ = false := hfr10 0; have hf10_1 : w11.frozen? ⟨go10, (x4_1 : Int).toNat * 2 + 1, none⟩ = false := hfr10 1; clear hcl10 hcc10 hfr10 hM10; replace p10 := eq_true p10; replace q10 := eq_true q10; have HX12 := Aside0.mk (show Kd.R k103 103 w11 w.heap.size (fun _ => True) (.slice (some ⟨go10, 0, none⟩) x3_1.length co10) x3_1 from (ra_ HO_3)); obtain ⟨ce12, hcl12, hM12, hcc12, hfr12⟩ := Kd.R_elem HX12.out z103 (x4_1 : Int) od_ (by have h_ : (x4_1 : Int) < ((x3_1.length : Int) : Int) := od_; first | exact h_ | (have e_ := (Kd.R_reads' HO_3.out).1; omega) | simpa using h_); obtain rfl := k103_openM hM12; have HP12 := Kd.R_seg HX12.out (x4_1 : Int) od_ (by have h_ : (x4_1 : Int) < ((x3_1.length : Int) : Int) := od_; first | exact h_ | (have e_ := (Kd.R_reads' HO_3.out).1; omega) | simpa using h_) (seg := [.int .i64 t197, .int .i64 t198]) (j := 0) hcl12 hcc12 (show 2 ≤ 2 from by decide) (x' := (⟨t197, t198⟩ : S103)) (k103_mkM _ _ _ (⟨t197, t198⟩ : S103) ) (fun _ hk => hk); have hx12_0 := hcc12 0 _ rfl; (try simp only [show (k103).sz = 2 from rfl, Nat.mul_one, Nat.add_zero] at hx12_0); have hf12_0 := hfr12 0; (try simp only [show (k103).sz = 2 from rfl, Nat.mul_one, Nat.add_zero] at hf12_0); have hx12_1 := hcc12 1 _ rfl; (try simp only [show (k103).sz = 2 from rfl, Nat.mul_one, Nat.add_zero] at hx12_1); have hf12_1 := hfr12 1; (try simp only [show (k103).sz = 2 from rfl, Nat.mul_one, Nat.add_zero] at hf12_1); clear hcl12 hcc12 hfr12 hM12) | ((with_reducible refine gate_store (t := 103) (p := 21) rfl ?_); refine store_event (t := 103) (p := 21) (v := ?vo_w13) (w1 := ((w11.setCell ⟨go10, (x4_1 : Int).toNat * 2, none⟩ (.int .i64 t197)).setCell ⟨go10, (x4_1 : Int).toNat * 2 + 1, none⟩ (.int .i64 t198))) ?hg ?ho ?hn ?hr ?_; (case ho => rfl); (case hg => rfl); (case hn => rfl); (case hr => first | (go_simp; done) | (go_simp; rfl)); intro w13 hw; have hg : w11.grownBy w13 (some go10) := (by rw [hw]; exact HP12.2); have hp_ : Kd.R k103 103 w13 w.heap.size (fun _ => True) (.slice (some ⟨go10, 0, none⟩) x3_1.length co10) y199 := (by rw [hw, Ny199.out]; exact HP12.1); clear HP12; refine sh2_ hp_ ((by rw [hw]; exact below_set (below_set (HB.out) GB10.out) GB10.out : Below w.heap.size w w13)) ?_; clear HO_3 HB; intro HO_3 HB; clear hg hw hp_))
    go_roundg k1
    case measure => have := HK1.out; omega
    case rel => exact ⟨(y199), (wrap64 (x4_1 + 1)), (by first | rfl | (simp; done) | (simp [*]; done)), H', ⟨by have := HK1.out; omega⟩, ⟨ra_ HO_3⟩, ⟨bl_ HB⟩⟩
   ·rw [if_neg c6] at H
    have c6b0 := decide_eq_false c6
    clear c6
    obtain rfl := Option.some.inj H
    go_wp2
    go_ret
    exact ⟨_, er_, ra_ HO_3, bl_ HB⟩

/-! ### sc108: slices.Sort, then slices.Compact, by the kit's contracts -/
def sc108.f (l : List Int) : Option (List Int) := if l.length < 4611686018427387904 then some (Go.Lib.compact (l.mergeSort fun x y => decide (x ≤ y))) else none
open Go.Shelf in
def sortL107_ren : Go.Shelf.Ren := ⟨fun | 5 => 107 | 8 => 126 | 7 => 125 | 19 => 142 | 20 => 143 | 10 => 133 | 11 => 134 | 12 => 135 | 13 => 136 | 14 => 137 | 15 => 138 | 16 => 139 | 17 => 140 | 18 => 141 | 30 => 146 | 31 => 147 | 32 => 148 | 33 => 149 | 34 => 150 | 35 => 121 | 40 => 151 | n => n, fun | 23 => 24 | 25 => 3 | 3 => 3 | 32 => 131 | 22 => 24 | 0 => 0 | 44 => 147 | 46 => 149 | 4 => 4 | 36 => 140 | 35 => 139 | 41 => 144 | 5 => 5 | 9 => 9 | 53 => 151 | 57 => 155 | 63 => 157 | 64 => 158 | n => n, fun | n => n⟩
theorem sortL107 : Go.Proofs.SlLaysM.n5 Try.prog sortL107_ren := {
 mixed := by kernel_rfl
 f5 := ⟨Try.f107.name, by decide, Try.func107.trans (congrArg some (by kernel_rfl))⟩
 f7 := ⟨Try.f125.name, by decide, Try.func125.trans (congrArg some (by kernel_rfl))⟩
 f8 := Try.func126.trans (congrArg some (by kernel_rfl))
 f10 := ⟨Try.f133.name, by decide, Try.func133.trans (congrArg some (by kernel_rfl))⟩
 f11 := ⟨Try.f134.name, by decide, Try.func134.trans (congrArg some (by kernel_rfl))⟩
 f12 := ⟨Try.f135.name, by decide, Try.func135.trans (congrArg some (by kernel_rfl))⟩
 f13 := ⟨Try.f136.name, by decide, Try.func136.trans (congrArg some (by kernel_rfl))⟩
 f14 := ⟨Try.f137.name, by decide, Try.func137.trans (congrArg some (by kernel_rfl))⟩
 f15 := ⟨Try.f138.name, by decide, Try.func138.trans (congrArg some (by kernel_rfl))⟩
 f16 := ⟨Try.f139.name, by decide, Try.func139.trans (congrArg some (by kernel_rfl))⟩
 f17 := ⟨Try.f140.name, by decide, Try.func140.trans (congrArg some (by kernel_rfl))⟩
 f18 := ⟨Try.f141.name, by decide, Try.func141.trans (congrArg some (by kernel_rfl))⟩
 f19 := Try.func142.trans (congrArg some (by kernel_rfl))
 f20 := Try.func143.trans (congrArg some (by kernel_rfl))
 f30 := ⟨Try.f146.name, by decide, Try.func146.trans (congrArg some (by kernel_rfl))⟩
 f31 := Try.func147.trans (congrArg some (by kernel_rfl))
 f32 := Try.func148.trans (congrArg some (by kernel_rfl))
 f33 := ⟨Try.f149.name, by decide, Try.func149.trans (congrArg some (by kernel_rfl))⟩
 f34 := ⟨Try.f150.name, by decide, Try.func150.trans (congrArg some (by kernel_rfl))⟩
 f35 := ⟨Try.f121.name, by decide, Try.func121.trans (congrArg some (by kernel_rfl))⟩
 f40 := ⟨Try.f151.name, by decide, Try.func151.trans (congrArg some (by kernel_rfl))⟩
 t0 := Try.underlying0
 a0 := Try.isAgg0
 z0 := Try.sizeOf0
 v0 := Try.zeroValue0
 t3 := Try.underlying3
 a3 := Try.isAgg3
 z3 := Try.sizeOf3
 v3 := Try.zeroValue3
 t4 := Try.underlying4
 a4 := Try.isAgg4
 z4 := Try.sizeOf4
 v4 := Try.zeroValue4
 t5 := Try.underlying5
 a5 := Try.isAgg5
 z5 := Try.sizeOf5
 v5 := Try.zeroValue5
 t9 := Try.underlying9
 a9 := Try.isAgg9
 z9 := Try.sizeOf9
 v9 := Try.zeroValue9
 t22 := Try.underlying24
 a22 := Try.isAgg24
 z22 := Try.sizeOf24
 v22 := Try.zeroValue24
 t23 := Try.underlying24
 a23 := Try.isAgg24
 z23 := Try.sizeOf24
 v23 := Try.zeroValue24
 t25 := Try.underlying3
 a25 := Try.isAgg3
 z25 := Try.sizeOf3
 v25 := Try.zeroValue3
 t32 := Try.underlying131
 a32 := Try.isAgg131
 z32 := Try.sizeOf131
 v32 := Try.zeroValue131
 t35 := Try.underlying139
 a35 := Try.isAgg139
 z35 := Try.sizeOf139
 v35 := Try.zeroValue139
 t36 := Try.underlying140
 a36 := Try.isAgg140
 z36 := Try.sizeOf140
 v36 := Try.zeroValue140
 t41 := Try.underlying144
 a41 := Try.isAgg144
 z41 := Try.sizeOf144
 v41 := Try.zeroValue144
 t44 := Try.underlying147
 a44 := Try.isAgg147
 z44 := Try.sizeOf147
 v44 := Try.zeroValue147
 t46 := Try.underlying149
 a46 := Try.isAgg149
 z46 := Try.sizeOf149
 v46 := Try.zeroValue149
 t53 := Try.underlying151
 a53 := Try.isAgg151
 z53 := Try.sizeOf151
 v53 := Try.zeroValue151
 t57 := Try.underlying155
 a57 := Try.isAgg155
 z57 := Try.sizeOf155
 v57 := Try.zeroValue155
 t63 := Try.underlying157
 a63 := Try.isAgg157
 z63 := Try.sizeOf157
 v63 := Try.zeroValue157
 t64 := Try.underlying158
 a64 := Try.isAgg158
 z64 := Try.sizeOf158
 v64 := Try.zeroValue158 }
open Go.Shelf in
def compL108_ren : Go.Shelf.Ren := ⟨fun | 43 => 108 | n => n, fun | 22 => 24 | 23 => 3 | 3 => 3 | 4 => 4 | 0 => 0 | n => n, fun | n => n⟩
theorem compL108 : Go.Proofs.SlLaysN.n43 Try.prog compL108_ren := {
 mixed := by kernel_rfl
 f43 := ⟨Try.f108.name, by decide, Try.func108.trans (congrArg some (by kernel_rfl))⟩
 t0 := Try.underlying0
 a0 := Try.isAgg0
 z0 := Try.sizeOf0
 v0 := Try.zeroValue0
 t3 := Try.underlying3
 a3 := Try.isAgg3
 z3 := Try.sizeOf3
 v3 := Try.zeroValue3
 t4 := Try.underlying4
 a4 := Try.isAgg4
 z4 := Try.sizeOf4
 v4 := Try.zeroValue4
 t22 := Try.underlying24
 a22 := Try.isAgg24
 z22 := Try.sizeOf24
 v22 := Try.zeroValue24
 t23 := Try.underlying3
 a23 := Try.isAgg3
 z23 := Try.sizeOf3
 v23 := Try.zeroValue3
 i23 := by kernel_rfl }
theorem putOwn_ {w : World} {base g cap n : Nat} {e : TypeId} {xs : List Int} (h : w.ownsRow base e 1 (.slice (some ⟨g, 0, none⟩) n cap) n (encs (Value.int .i64) xs)) (ys : List Int) (hy : ys.length = n) (m : Nat) (hm : m ≤ n) (q : Nat) (os : Array Obj) :
  (Go.Sort.grow (Go.Sort.putRow (Value.int .i64) (Go.Sort.ahead w q) g 0 ys.toArray) os).ownsRow base e 1 (.slice (some ⟨g, 0, none⟩) m cap) m (encs (Value.int .i64) (ys.take m)) ∧ w.grownBy (Go.Sort.grow (Go.Sort.putRow (Value.int .i64) (Go.Sort.ahead w q) g 0 ys.toArray) os) (some g) := by
 obtain ⟨_, h2⟩ := h
 rcases h2 with ⟨h2, _⟩ | ⟨g', cap', cur, hv, hg, hh, hn, hc, hs, ht⟩
 ·cases h2
 injection hv with hv1 _ hv2
 injection hv1 with hv1
 injection hv1 with hv1
 subst hv1 hv2
 have hlt : g < w.heap.size := (Array.getElem?_eq_some_iff.1 hh).1
 have hw : (Go.Sort.grow (Go.Sort.putRow (Value.int .i64) (Go.Sort.ahead w q) g 0 ys.toArray) os).heap = w.heap.modify g (Go.Sort.onCells (Go.Sort.putCells (Value.int .i64) 0 ys.toArray)) ++ os := rfl
 have hg2 : (Go.Sort.grow (Go.Sort.putRow (Value.int .i64) (Go.Sort.ahead w q) g 0 ys.toArray) os).heap[g]? = some (.cells (Go.Sort.putCells (Value.int .i64) 0 ys.toArray cur) e (0, 0)) := by
  rw [hw, Array.getElem?_append_left (by simpa using hlt), Array.getElem?_modify, if_pos rfl, hh]
  rfl
 refine ⟨⟨by simp [encs]; omega, .inr ⟨g, cap, _, rfl, hg, hg2, by omega, hc, ?_, ?_⟩⟩, ⟨rfl, rfl, rfl, ?_, ?_⟩⟩
 ·simp only [Go.Sort.putCells, Array.size_mapIdx]
  exact hs
 ·apply List.ext_getElem?
  intro j
  rw [List.getElem?_take]
  by_cases hj : j < m * 1
  ·have hjn : j < n := by omega
   have hjc : j < cur.size := by omega
   rw [if_pos hj]
   simp only [Go.Sort.putCells, Array.getElem?_toList, Array.getElem?_mapIdx, Array.getElem?_eq_getElem hjc, Option.map_some, encs, List.getElem?_map]
   rw [List.getElem?_take, if_pos (show j < m by omega), List.getElem?_eq_getElem (show j < ys.length by omega), Option.map_some]
   split
   ·congr 2
    simp only [Nat.sub_zero]
    rw [getElem!_pos _ j (by simpa using (show j < ys.length by omega))]
    simp
   ·exact absurd (show j < 0 + ys.toArray.size by simp; omega) (by omega)
  ·rw [if_neg hj]
   simp only [encs, List.getElem?_map]
   rw [List.getElem?_eq_none (by simp; omega)]
   rfl
 ·rw [hw]
  simp
 ·intro k hk hne
  rw [hw, Array.getElem?_append_left (by simpa using hk), Array.getElem?_modify, if_neg (fun e_ => hne (by rw [e_]))]
theorem holds_ {w : World} {base g cap n : Nat} {e : TypeId} {xs : List Int} (h : w.ownsRow base e 1 (.slice (some ⟨g, 0, none⟩) n cap) n (encs (Value.int .i64) xs)) : Go.Sort.Holds (Value.int .i64) w g 0 xs.toArray ∧ xs.length = n ∧ g < w.heap.size ∧ n ≤ cap ∧ cap ≤ maxLen ∧ base ≤ g := by
 have hx : xs.length = n := by simpa [encs] using h.1
 obtain ⟨_, h2⟩ := h
 rcases h2 with ⟨h2, _⟩ | ⟨g', cap', cur, hv, hg, hh, hn, hc, hs, ht⟩
 ·cases h2
 injection hv with hv1 _ hv2
 injection hv1 with hv1
 injection hv1 with hv1
 subst hv1 hv2
 refine ⟨fun j hj => ?_, hx, (Array.getElem?_eq_some_iff.1 hh).1, hn, hc, hg⟩
 have hj' : j < xs.length := by simpa using hj
 have hc2 := congrArg (fun l => l[j]?) ht
 simp only [List.getElem?_take, encs, List.getElem?_map] at hc2
 rw [if_pos (by omega), List.getElem?_eq_getElem hj', Option.map_some] at hc2
 rw [Nat.zero_add]
 refine ⟨?_, blk_frozen hh j⟩
 rw [blk_cell hh j]
 rw [Array.getElem?_toList] at hc2
 rw [hc2, getElem!_pos _ j hj]
 simp
theorem sortR_ {w : World} {base : Nat} {e : TypeId} {ok : Nat → Prop} {v : Value} {xs : List Int} (h : (Kd.int .i64).R e w base ok v xs) (hl : xs.length < 4611686018427387904) :
  Calls Try.prog 107 #[v] w fun en w' => en = .returned (.tuple #[]) ∧ (Kd.int .i64).R e w' base ok v (xs.mergeSort fun x y => decide (x ≤ y)) ∧ w.grownBy w' v.ownBlock := by
 have ho := Kd.own_of_R h
 by_cases h0 : xs.length = 0
 ·obtain ⟨A, c, rfl⟩ := own_slice ho
  have hx : xs = [] := List.length_eq_zero_iff.1 h0
  subst hx
  refine (AnyM.slices_Sort_int_none sortL107 A c w).mono ?_
  rintro en w' ⟨rfl, rfl⟩
  exact ⟨rfl, by simpa using h, ⟨rfl, rfl, rfl, Nat.le_refl _, fun _ _ _ => rfl⟩⟩
 ·have ho' := ho
  rcases ho.2 with ⟨_, h2⟩ | ⟨g, cap, cur, rfl, _⟩
  ·exact absurd h2 h0
  obtain ⟨hH, _, hlt, hn, hc, hg⟩ := holds_ ho
  refine (AnyM.slices_Sort_int sortL107 g 0 cap xs w hH hlt hl).mono ?_
  rintro en w' ⟨rfl, n, os, rfl⟩
  obtain ⟨p1, p2⟩ := putOwn_ ho (xs.mergeSort fun x y => decide (x ≤ y)) (List.length_mergeSort _) xs.length (Nat.le_refl _) n os
  refine ⟨rfl, Kd.R_of_own ?_ h.1, p2⟩
  rw [List.take_of_length_le (by rw [List.length_mergeSort]; exact Nat.le_refl _)] at p1
  rw [List.length_mergeSort]
  exact p1
theorem compactR_ {w : World} {base n : Nat} {e : TypeId} {ok : Nat → Prop} {A : Option Addr} {c : Nat} {xs : List Int} (h : (Kd.int .i64).R e w base ok (.slice A n c) xs) :
  Calls Try.prog 108 #[.slice A n c] w fun en w' => ∃ v, en = .returned v ∧ (Kd.int .i64).R e w' base ok v (Go.Lib.compact xs) ∧ w.grownBy w' (Value.slice A n c).ownBlock := by
 have hle : (Go.Lib.compact xs).length ≤ xs.length := by unfold Go.Lib.compact Go.Lib.compactUpTo; rw [List.length_map]; exact Nat.le_trans (List.length_filter_le _ _) (by simp)
 have ho := Kd.own_of_R h
 have hn : n = xs.length := (Kd.R_reads' h).1
 subst hn
 by_cases h0 : xs.length = 0
 ·have hx : xs = [] := List.length_eq_zero_iff.1 h0
  subst hx
  refine (AnyG.slices_Compact_int_empty compL108 A c w).mono ?_
  rintro en w' ⟨rfl, rfl⟩
  exact ⟨_, rfl, by have e_ : Go.Lib.compact ([] : List Int) = [] := List.length_eq_zero_iff.1 (by simpa using hle); rw [e_]; exact h, ⟨rfl, rfl, rfl, Nat.le_refl _, fun _ _ _ => rfl⟩⟩
 ·rcases ho.2 with ⟨_, h2⟩ | ⟨g, cap, cur, hv, _⟩
  ·exact absurd h2 h0
  obtain ⟨rfl, rfl⟩ : A = some ⟨g, 0, none⟩ ∧ c = cap := by injection hv with h1 _ h3; exact ⟨h1, h3⟩
  obtain ⟨hH, _, hlt, hn, hc, hg⟩ := holds_ ho
  refine (AnyG.slices_Compact_int compL108 g 0 c xs w hH (by unfold maxLen at hc; omega) hn).mono ?_
  rintro en w' ⟨rfl, q, rfl⟩
  obtain ⟨p1, p2⟩ := putOwn_ ho (Go.Lib.compact xs ++ List.replicate (xs.length - (Go.Lib.compact xs).length) 0) (by simp; omega) (Go.Lib.compact xs).length hle q #[]
  have e_ : ∀ w : World, Go.Sort.grow w #[] = w := fun w => by simp [Go.Sort.grow]
  rw [e_] at p1 p2
  rw [List.take_left] at p1
  exact ⟨_, rfl, Kd.R_of_own p1 (fun k hk => h.1 k hk), p2⟩

theorem sc108.out {l r : List Int} (h : sc108.f l = some r) : l.length < 4611686018427387904 ∧ r = Go.Lib.compact (l.mergeSort fun x y => decide (x ≤ y)) := by
 unfold sc108.f at h
 split at h
 ·exact ⟨by assumption, (Option.some.inj h).symm⟩
 ·cases h
theorem sortX_ {W w : World} {e : TypeId} {ok : Nat → Prop} {v : Value} {xs : List Int} (h : (Kd.int .i64).R e w W.heap.size ok v xs) (hB : Below W.heap.size W w) (hl : xs.length < 4611686018427387904) :
  Calls Try.prog 107 #[v] w fun en w' => en = .returned (.tuple #[]) ∧ (Kd.int .i64).R e w' W.heap.size ok v (xs.mergeSort fun x y => decide (x ≤ y)) ∧ Below W.heap.size W w' := by
 refine (sortR_ h hl).mono ?_
 rintro en w' ⟨h1, h2, h3⟩
 exact ⟨h1, h2, pw_below_grown hB v.ownBlock (below_size hB) h3 (Kd.R_base h)⟩
theorem compactX_ {W w : World} {n : Nat} {e : TypeId} {ok : Nat → Prop} {A : Option Addr} {c : Nat} {xs r : List Int} (h : (Kd.int .i64).R e w W.heap.size ok (.slice A n c) (xs.mergeSort fun x y => decide (x ≤ y))) (hB : Below W.heap.size W w) (hs : sc108.f xs = some r) :
  Calls Try.prog 108 #[.slice A n c] w fun en w' => ∃ v, en = .returned v ∧ (Kd.int .i64).R e w' W.heap.size ok v r ∧ Below W.heap.size W w' := by
 refine (compactR_ h).mono ?_
 rintro en w' ⟨v, h1, h2, h3⟩
 refine ⟨v, h1, ?_, pw_below_grown hB _ (below_size hB) h3 (Kd.R_base h)⟩
 rw [(sc108.out hs).2]
 exact h2

/-! ### impl_NeighborsIn: function 57 -/
def impl_NeighborsIn.l0 : Nat → Int → List Int → List (S103) → Int → Int → Option (List Int)
 | 0, _, _, _, _, _ => none
 | k + 1, x1, x5, x9, x10, x11 => if x11 < x10 then (if 0 ≤ x11 then (if x11 < (x9.length : Int) then (if ((rd_T103 x9 x11).f0) = x1 then (if x5.length < 17592186044416 then ((some (x5 ++ [(rd_T103 x9 x11).f1] : List Int)).bind fun y208 => (if ((rd_T103 x9 x11).f1) = x1 then (if y208.length < 17592186044416 then (impl_NeighborsIn.l0 k x1 (y208 ++ [(rd_T103 x9 x11).f0]) x9 x10 (wrap64 (x11 + 1))) else (none)) else (impl_NeighborsIn.l0 k x1 y208 x9 x10 (wrap64 (x11 + 1))))) else (none)) else (if ((rd_T103 x9 x11).f1) = x1 then (if x5.length < 17592186044416 then (impl_NeighborsIn.l0 k x1 (x5 ++ [(rd_T103 x9 x11).f0]) x9 x10 (wrap64 (x11 + 1))) else (none)) else (impl_NeighborsIn.l0 k x1 x5 x9 x10 (wrap64 (x11 + 1))))) else (none)) else (none)) else ((sc108.f x5).bind fun t203 => (some t203))
def impl_NeighborsIn.f (k : Nat) (l0 : List (S103)) (a1 : Int) : Option (List Int) := impl_NeighborsIn.l0 k a1 (([] : List Int)) l0 (l0.length : Int) 0
theorem impl_NeighborsIn.mono_l : ∀ k, (∀ y0 y1 y2 y3 y4, LeO (impl_NeighborsIn.l0 k y0 y1 y2 y3 y4) (impl_NeighborsIn.l0 (k + 1) y0 y1 y2 y3 y4))
 | 0 => fun _ _ _ _ _ r h => by simp [impl_NeighborsIn.l0] at h
 | k + 1 => by
  have ih0 := impl_NeighborsIn.mono_l k
  ·intro y0 y1 y2 y3 y4
   unfold impl_NeighborsIn.l0
   repeat' first | (with_reducible first | exact ih0 _ _ _ _ _ | exact LeO.refl _ | exact LeO.none _ | refine LeO.ite ?_ ?_ | refine LeO.bind ?_ (fun _ => ?_)) | exact LeO.none _ | refine LeO.ite ?_ ?_ | refine LeO.bind ?_ (fun _ => ?_)
theorem impl_NeighborsIn.mono : ∀ a0 a1 k, LeO (impl_NeighborsIn.f k a0 a1) (impl_NeighborsIn.f (k + 1) a0 a1) := by
 intro a0 a1 k
 have ih0 := impl_NeighborsIn.mono_l k
 unfold impl_NeighborsIn.f
 repeat' first | (with_reducible first | exact ih0 _ _ _ _ _ | exact LeO.refl _ | exact LeO.none _ | refine LeO.ite ?_ ?_ | refine LeO.bind ?_ (fun _ => ?_)) | exact LeO.none _ | refine LeO.ite ?_ ?_ | refine LeO.bind ?_ (fun _ => ?_)
set_option maxHeartbeats 8000000 in
set_option maxRecDepth 100000 in
theorem impl_NeighborsIn.calls (k : Nat) (A0 : Option Addr) (c0 : Nat) (l0 : List (S103)) (a1 : Int) (r : List Int) (w : World) (hr0 : Kd.C k103 w A0 l0.length l0) (hc0 : l0.length ≤ c0) (h : impl_NeighborsIn.f k l0 a1 = some r) :
  Calls Try.prog 57 #[.slice A0 l0.length c0, .int .i64 a1] w fun e w' => ∃ v0_ : Value, e = .returned (v0_) ∧ Kd.R (Kd.int .i64) 3 w' w.heap.size (fun _ => True) v0_ r ∧ Below w.heap.size w w' := by
 have hu103 := Try.underlying103
 have HR0 := Aside0.mk hr0
 have HC0 := Aside0.mk hc0
 clear hr0 hc0
 have HB := Aside0.mk (Below.refl w.heap.size w)
 have H := h
 clear h
 unfold impl_NeighborsIn.f at H
 replace H : ∃ y_ : List Int, Aside0 (y_ = (([] : List Int))) ∧ (impl_NeighborsIn.l0 k a1 y_ l0 (l0.length : Int) 0) = some r := ⟨_, ⟨rfl⟩, yh_ H⟩
 obtain ⟨y200, Ny200, H⟩ := H
 have H' := Aside0.mk H
 clear H
 go_enter Try.func57, Try.ntmps57
 go_wp2_with (first | ((with_reducible refine gate_dst (N := 8) rfl ?_); refine Kd.R_lit (Kd.int .i64) _ 3 ?hg (N := 8) ?hd (xs := ([] : List Int)) (inner := []) (ok := fun _ => True) (okp := fun _ => True) ?hr ?hp (fun _ hk => hk) trivial (Below.refl _ _) (Nat.le_refl _) (by simp) ?_; (case hd => rfl); (case hg => rfl); (case hr => first | (go_simp; done) | (go_simp; rfl)); (case hp => exact (Reps.none _ _)); intro v201 w3 ho4 hb hg_ hnew_; clear hg_ hnew_; (first | rw [← Ny200.out] at ho4 | (simp only [Int.reduceToNat] at ho4; rw [← Ny200.out] at ho4)); refine sh2_ (Kd.R_lower ho4 (below_size (bl_ HB))) (below_step (bl_ HB) hb) ?_; clear HB hb ho4; intro HO202 HB))
 go_loopg [5, 11] k (fun kq v5 v11 w' => ∃ (x5_1 : List Int) (x11_1 : Int), v11 = .int .i64 x11_1 ∧ Aside0 (impl_NeighborsIn.l0 kq a1 x5_1 l0 (l0.length : Int) x11_1 = some r) ∧ Aside0 (kq ≤ k) ∧ Aside0 (Kd.R (Kd.int .i64) 3 w' w.heap.size (fun _ => True) v5 x5_1) ∧ Aside0 (Below w.heap.size w w'))
 case atStart => exact ⟨(y200), (0), (by first | rfl | (simp; done) | (simp [*]; done)), H', ⟨Nat.le_refl _⟩, ⟨ra_ HO202⟩, ⟨bl_ HB⟩⟩
 case round =>
  clear H'
  try clear p2
  obtain ⟨x5_1, x11_1, rfl, HA, HK1, HO_5, HB⟩ := hrel
  cases gk with
  | zero => exact absurd HA.out (by simp [impl_NeighborsIn.l0])
  | succ k1 =>
   have H := HA.out
   clear HA
   simp only [impl_NeighborsIn.l0] at H
   by_cases c5 : x11_1 < (l0.length : Int)
   ·rw [if_pos c5] at H
    have c5b0 := decide_eq_true c5
    clear c5
    replace H := ifn_ H
    obtain ⟨c6, H⟩ := H
    have c6b0 := decide_eq_true c6
    clear c6
    replace H := ifn_ H
    obtain ⟨c7, H⟩ := H
    have c7b0 := decide_eq_true c7
    clear c7
    by_cases c8 : ((rd_T103 l0 x11_1).f0) = a1
    ·rw [if_pos c8] at H
     obtain ⟨c8b0, c8b1⟩ := bt_ c8
     clear c8
     replace H := ifn_ H
     obtain ⟨c9, H⟩ := H
     have LMc9 := Aside0.mk c9
     clear c9
     replace H : ∃ y_ : List Int, Aside0 (y_ = (x5_1 ++ [(rd_T103 l0 x11_1).f1])) ∧ (if ((rd_T103 l0 x11_1).f1) = a1 then (if y_.length < 17592186044416 then (impl_NeighborsIn.l0 k1 a1 (y_ ++ [(rd_T103 l0 x11_1).f0]) l0 (l0.length : Int) (wrap64 (x11_1 + 1))) else (none)) else (impl_NeighborsIn.l0 k1 a1 y_ l0 (l0.length : Int) (wrap64 (x11_1 + 1)))) = some r := ⟨_, ⟨rfl⟩, yh_ H⟩
     obtain ⟨y208, Ny208, H⟩ := H
     by_cases c10 : ((rd_T103 l0 x11_1).f1) = a1
     ·rw [if_pos c10] at H
      obtain ⟨c10b0, c10b1⟩ := bt_ c10
      clear c10
      replace H := ifn_ H
      obtain ⟨c11, H⟩ := H
      have LMc11 := Aside0.mk c11
      clear c11
      replace H : ∃ y_ : List Int, Aside0 (y_ = (y208 ++ [(rd_T103 l0 x11_1).f0])) ∧ (impl_NeighborsIn.l0 k1 a1 y_ l0 (l0.length : Int) (wrap64 (x11_1 + 1))) = some r := ⟨_, ⟨rfl⟩, yh_ H⟩
      obtain ⟨y211, Ny211, H⟩ := H
      have H' := Aside0.mk H
      clear H
      have p206 : 0 ≤ (x11_1 : Int) := od_
      have q206 : x11_1 < (l0.length : Int) := od_
      obtain ⟨ad206, e206, hx206_0, hx206_1⟩ := at_T103 HR0.out x11_1 p206 q206
      cases e206
      replace hx206_0 := hbc_ HB hx206_0
      replace hx206_1 := hbc_ HB hx206_1
      replace p206 := eq_true p206
      replace q206 := eq_true q206
      go_wp2_with (first | ((with_reducible refine gd_ 7 ?_); refine bx_ 7 103 #[.int .i64 0, .int .i64 0] ?_; intro gb207 hg w12 hbox hb; refine sh5_ (Kd.R_below (ra_ HO_5) hb) (below_step (bl_ HB) hb) hbox (ge_ hg (bl_ HB)) (ge_ hg (bl_ HB)) ?_; clear HO_5 HB hb hbox hg; intro HO_5 HB BK207 GW207 GE207; have hcz13 := cf2_ BK207) | ((with_reducible refine gate_builtin (b := .append) (xs := #[.tmp 19, .tmp 22]) rfl ?_); at_builtin; refine Kd.R_append (Kd.int .i64) (w0 := w) w.heap.size rfl (.tmp 19) (.tmp 22) 24 3 (.int .i64 0) 8 rfl Try.underlying24 info3 rfl (by decide) (by omega) u5 x5_1 ((rd_T103 l0 x11_1).f1) [.int .i64 ((rd_T103 l0 x11_1).f1)] (fun _ => True) (fun _ => False) rfl (by first | (go_simp; done) | (go_simp; rfl)) ?aP (fun _ hk => hk.elim) ?aF ?aO ?aB ?aS ?aL ?_; (case aP => exact rfl); (case aB => exact (bl1_ HB GE207)); (case aF => exact (fun _ _ => trivial)); (case aO => exact (by (with_reducible repeat (first | apply Kd.R_alloc | apply Kd.R_drewN | apply Kd.R_drew)); exact Kd.R_mono (Kd.R_far (p := ⟨gb207, 1, none⟩) (Kd.R_far (p := ⟨gb207, 0, none⟩) (Kd.R_types HO_5.out BK207.out (by decide)) (fun _ hk => hk.2) (.int .i64 ((rd_T103 l0 x11_1).f0))) (fun _ hk => hk.2) (.int .i64 ((rd_T103 l0 x11_1).f1))) (fun _ hk => trivial))); (case aS => exact (below_size (bl1_ HB GE207))); (case aL => have := LMc9.out; omega); intro v209 w14 ho hb hg hat; rw [← Ny208.out] at ho; refine sh3_ (blk_grown (g := gb207) (o := .cells #[.int .i64 ((rd_T103 l0 x11_1).f0), .int .i64 ((rd_T103 l0 x11_1).f1)] 103 (0, 0)) (by (with_reducible repeat (first | refine blk_drewN ?_ _ | refine blk_drew ?_ | refine blk_alloc ?_ _)); refine blk_put (cs := #[.int .i64 ((rd_T103 l0 x11_1).f0), .int .i64 0]) ?_ 1 _ rfl; (with_reducible repeat (first | refine blk_drewN ?_ _ | refine blk_drew ?_ | refine blk_alloc ?_ _)); refine blk_put (cs := #[.int .i64 0, .int .i64 0]) ?_ 0 _ rfl; (with_reducible repeat (first | refine blk_drewN ?_ _ | refine blk_drew ?_ | refine blk_alloc ?_ _)); exact BK207.out) hg (Kd.R_ne HO_5.out BK207.out (by decide))) hb ho ?_; clear BK207 HB HO_5 ho hb hg hat; intro BK207 HB HO210; have hcz15 := cf2_ BK207) | ((with_reducible refine gate_builtin (b := .append) (xs := #[.tmp 28, .tmp 31]) rfl ?_); at_builtin; refine Kd.R_append (Kd.int .i64) (w0 := w) w.heap.size rfl (.tmp 28) (.tmp 31) 24 3 (.int .i64 0) 8 rfl Try.underlying24 info3 rfl (by decide) (by omega) v209 y208 ((rd_T103 l0 x11_1).f0) [.int .i64 ((rd_T103 l0 x11_1).f0)] (fun _ => True) (fun _ => False) rfl rfl ?aP (fun _ hk => hk.elim) ?aF ?aO ?aB ?aS ?aL ?_; (case aP => exact rfl); (case aB => exact (bl1_ HB GE207)); (case aF => exact (fun _ _ => trivial)); (case aO => exact (ra_ HO210)); (case aS => exact (below_size (bl1_ HB GE207))); (case aL => have := LMc11.out; omega); intro v212 w16 ho hb hg hat; rw [← Ny211.out] at ho; refine sh3_ (blk_grown (g := gb207) (o := .cells #[.int .i64 ((rd_T103 l0 x11_1).f0), .int .i64 ((rd_T103 l0 x11_1).f1)] 103 (0, 0)) (bk_ BK207) hg (Kd.R_ne HO210.out BK207.out (by decide))) hb ho ?_; clear BK207 HB HO210 ho hb hg hat; intro BK207 HB HO213))
      go_roundg k1
      case measure => have := HK1.out; omega
      case rel => exact ⟨(y211), (wrap64 (x11_1 + 1)), (by first | rfl | (simp; done) | (simp [*]; done)), H', ⟨by have := HK1.out; omega⟩, ⟨ra_ HO213⟩, ⟨bl1_ HB GE207⟩⟩
     ·rw [if_neg c10] at H
      obtain ⟨c10b0, c10b1⟩ := bn_ c10
      have H' := Aside0.mk H
      clear H
      have p206 : 0 ≤ (x11_1 : Int) := od_
      have q206 : x11_1 < (l0.length : Int) := od_
      obtain ⟨ad206, e206, hx206_0, hx206_1⟩ := at_T103 HR0.out x11_1 p206 q206
      cases e206
      replace hx206_0 := hbc_ HB hx206_0
      replace hx206_1 := hbc_ HB hx206_1
      replace p206 := eq_true p206
      replace q206 := eq_true q206
      go_wp2_with (first | ((with_reducible refine gd_ 7 ?_); refine bx_ 7 103 #[.int .i64 0, .int .i64 0] ?_; intro gb207 hg w17 hbox hb; refine sh5_ (Kd.R_below (ra_ HO_5) hb) (below_step (bl_ HB) hb) hbox (ge_ hg (bl_ HB)) (ge_ hg (bl_ HB)) ?_; clear HO_5 HB hb hbox hg; intro HO_5 HB BK207 GW207 GE207; have hcz18 := cf2_ BK207) | ((with_reducible refine gate_builtin (b := .append) (xs := #[.tmp 19, .tmp 22]) rfl ?_); at_builtin; refine Kd.R_append (Kd.int .i64) (w0 := w) w.heap.size rfl (.tmp 19) (.tmp 22) 24 3 (.int .i64 0) 8 rfl Try.underlying24 info3 rfl (by decide) (by omega) u5 x5_1 ((rd_T103 l0 x11_1).f1) [.int .i64 ((rd_T103 l0 x11_1).f1)] (fun _ => True) (fun _ => False) rfl (by first | (go_simp; done) | (go_simp; rfl)) ?aP (fun _ hk => hk.elim) ?aF ?aO ?aB ?aS ?aL ?_; (case aP => exact rfl); (case aB => exact (bl1_ HB GE207)); (case aF => exact (fun _ _ => trivial)); (case aO => exact (by (with_reducible repeat (first | apply Kd.R_alloc | apply Kd.R_drewN | apply Kd.R_drew)); exact Kd.R_mono (Kd.R_far (p := ⟨gb207, 1, none⟩) (Kd.R_far (p := ⟨gb207, 0, none⟩) (Kd.R_types HO_5.out BK207.out (by decide)) (fun _ hk => hk.2) (.int .i64 ((rd_T103 l0 x11_1).f0))) (fun _ hk => hk.2) (.int .i64 ((rd_T103 l0 x11_1).f1))) (fun _ hk => trivial))); (case aS => exact (below_size (bl1_ HB GE207))); (case aL => have := LMc9.out; omega); intro v209 w19 ho hb hg hat; rw [← Ny208.out] at ho; refine sh3_ (blk_grown (g := gb207) (o := .cells #[.int .i64 ((rd_T103 l0 x11_1).f0), .int .i64 ((rd_T103 l0 x11_1).f1)] 103 (0, 0)) (by (with_reducible repeat (first | refine blk_drewN ?_ _ | refine blk_drew ?_ | refine blk_alloc ?_ _)); refine blk_put (cs := #[.int .i64 ((rd_T103 l0 x11_1).f0), .int .i64 0]) ?_ 1 _ rfl; (with_reducible repeat (first | refine blk_drewN ?_ _ | refine blk_drew ?_ | refine blk_alloc ?_ _)); refine blk_put (cs := #[.int .i64 0, .int .i64 0]) ?_ 0 _ rfl; (with_reducible repeat (first | refine blk_drewN ?_ _ | refine blk_drew ?_ | refine blk_alloc ?_ _)); exact BK207.out) hg (Kd.R_ne HO_5.out BK207.out (by decide))) hb ho ?_; clear BK207 HB HO_5 ho hb hg hat; intro BK207 HB HO210; have hcz20 := cf2_ BK207))
      go_roundg k1
      case measure => have := HK1.out; omega
      case rel => exact ⟨(y208), (wrap64 (x11_1 + 1)), (by first | rfl | (simp; done) | (simp [*]; done)), H', ⟨by have := HK1.out; omega⟩, ⟨ra_ HO210⟩, ⟨bl1_ HB GE207⟩⟩
    ·rw [if_neg c8] at H
     obtain ⟨c8b0, c8b1⟩ := bn_ c8
     by_cases c21 : ((rd_T103 l0 x11_1).f1) = a1
     ·rw [if_pos c21] at H
      obtain ⟨c21b0, c21b1⟩ := bt_ c21
      clear c21
      replace H := ifn_ H
      obtain ⟨c22, H⟩ := H
      have LMc22 := Aside0.mk c22
      clear c22
      replace H : ∃ y_ : List Int, Aside0 (y_ = (x5_1 ++ [(rd_T103 l0 x11_1).f0])) ∧ (impl_NeighborsIn.l0 k1 a1 y_ l0 (l0.length : Int) (wrap64 (x11_1 + 1))) = some r := ⟨_, ⟨rfl⟩, yh_ H⟩
      obtain ⟨y214, Ny214, H⟩ := H
      have H' := Aside0.mk H
      clear H
      have p206 : 0 ≤ (x11_1 : Int) := od_
      have q206 : x11_1 < (l0.length : Int) := od_
      obtain ⟨ad206, e206, hx206_0, hx206_1⟩ := at_T103 HR0.out x11_1 p206 q206
      cases e206
      replace hx206_0 := hbc_ HB hx206_0
      replace hx206_1 := hbc_ HB hx206_1
      replace p206 := eq_true p206
      replace q206 := eq_true q206
      go_wp2_with (first | ((with_reducible refine gd_ 7 ?_); refine bx_ 7 103 #[.int .i64 0, .int .i64 0] ?_; intro gb207 hg w23 hbox hb; refine sh5_ (Kd.R_below (ra_ HO_5) hb) (below_step (bl_ HB) hb) hbox (ge_ hg (bl_ HB)) (ge_ hg (bl_ HB)) ?_; clear HO_5 HB hb hbox hg; intro HO_5 HB BK207 GW207 GE207; have hcz24 := cf2_ BK207) | ((with_reducible refine gate_builtin (b := .append) (xs := #[.tmp 28, .tmp 31]) rfl ?_); at_builtin; refine Kd.R_append (Kd.int .i64) (w0 := w) w.heap.size rfl (.tmp 28) (.tmp 31) 24 3 (.int .i64 0) 8 rfl Try.underlying24 info3 rfl (by decide) (by omega) u5 x5_1 ((rd_T103 l0 x11_1).f0) [.int .i64 ((rd_T103 l0 x11_1).f0)] (fun _ => True) (fun _ => False) rfl (by first | (go_simp; done) | (go_simp; rfl)) ?aP (fun _ hk => hk.elim) ?aF ?aO ?aB ?aS ?aL ?_; (case aP => exact rfl); (case aB => exact (bl1_ HB GE207)); (case aF => exact (fun _ _ => trivial)); (case aO => exact (by (with_reducible repeat (first | apply Kd.R_alloc | apply Kd.R_drewN | apply Kd.R_drew)); exact Kd.R_mono (Kd.R_far (p := ⟨gb207, 1, none⟩) (Kd.R_far (p := ⟨gb207, 0, none⟩) (Kd.R_types HO_5.out BK207.out (by decide)) (fun _ hk => hk.2) (.int .i64 ((rd_T103 l0 x11_1).f0))) (fun _ hk => hk.2) (.int .i64 ((rd_T103 l0 x11_1).f1))) (fun _ hk => trivial))); (case aS => exact (below_size (bl1_ HB GE207))); (case aL => have := LMc22.out; omega); intro v215 w25 ho hb hg hat; rw [← Ny214.out] at ho; refine sh3_ (blk_grown (g := gb207) (o := .cells #[.int .i64 ((rd_T103 l0 x11_1).f0), .int .i64 ((rd_T103 l0 x11_1).f1)] 103 (0, 0)) (by (with_reducible repeat (first | refine blk_drewN ?_ _ | refine blk_drew ?_ | refine blk_alloc ?_ _)); refine blk_put (cs := #[.int .i64 ((rd_T103 l0 x11_1).f0), .int .i64 0]) ?_ 1 _ rfl; (with_reducible repeat (first | refine blk_drewN ?_ _ | refine blk_drew ?_ | refine blk_alloc ?_ _)); refine blk_put (cs := #[.int .i64 0, .int .i64 0]) ?_ 0 _ rfl; (with_reducible repeat (first | refine blk_drewN ?_ _ | refine blk_drew ?_ | refine blk_alloc ?_ _)); exact BK207.out) hg (Kd.R_ne HO_5.out BK207.out (by decide))) hb ho ?_; clear BK207 HB HO_5 ho hb hg hat; intro BK207 HB HO216))
      go_roundg k1
      case measure => have := HK1.out; omega
      case rel => exact ⟨(y214), (wrap64 (x11_1 + 1)), (by first | rfl | (simp; done) | (simp [*]; done)), H', ⟨by have := HK1.out; omega⟩, ⟨ra_ HO216⟩, ⟨bl1_ HB GE207⟩⟩
     ·rw [if_neg c21] at H
      obtain ⟨c21b0, c21b1⟩ := bn_ c21
      have H' := Aside0.mk H
      clear H
      have p206 : 0 ≤ (x11_1 : Int) := od_
      have q206 : x11_1 < (l0.length : Int) := od_
      obtain ⟨ad206, e206, hx206_0, hx206_1⟩ := at_T103 HR0.out x11_1 p206 q206
      cases e206
      replace hx206_0 := hbc_ HB hx206_0
      replace hx206_1 := hbc_ HB hx206_1
      replace p206 := eq_true p206
      replace q206 := eq_true q206
      go_wp2_with (first | ((with_reducible refine gd_ 7 ?_); refine bx_ 7 103 #[.int .i64 0, .int .i64 0] ?_; intro gb207 hg w26 hbox hb; refine sh5_ (Kd.R_below (ra_ HO_5) hb) (below_step (bl_ HB) hb) hbox (ge_ hg (bl_ HB)) (ge_ hg (bl_ HB)) ?_; clear HO_5 HB hb hbox hg; intro HO_5 HB BK207 GW207 GE207; have hcz27 := cf2_ BK207))
      go_roundg k1
      case measure => have := HK1.out; omega
      case rel => exact ⟨(x5_1), (wrap64 (x11_1 + 1)), (by first | rfl | (simp; done) | (simp [*]; done)), H', ⟨by have := HK1.out; omega⟩, ⟨by (with_reducible repeat (first | apply Kd.R_alloc | apply Kd.R_drewN | apply Kd.R_drew)); exact Kd.R_mono (Kd.R_far (p := ⟨gb207, 1, none⟩) (Kd.R_far (p := ⟨gb207, 0, none⟩) (Kd.R_types HO_5.out BK207.out (by decide)) (fun _ hk => hk.2) (.int .i64 ((rd_T103 l0 x11_1).f0))) (fun _ hk => hk.2) (.int .i64 ((rd_T103 l0 x11_1).f1))) (fun _ hk => trivial)⟩, ⟨bl1_ HB GE207⟩⟩
   ·rw [if_neg c5] at H
    have c5b0 : decide (x11_1 < (l0.length : Int)) = false := decide_eq_false c5
    clear c5
    replace H := bs_ H
    obtain ⟨t203, A28, H⟩ := H
    obtain rfl := Option.some.inj H
    obtain ⟨Ao29, co29, eo29⟩ := Kd.R_slice HO_5.out
    subst eo29
    go_wp2_with (first | ((with_reducible refine gate_callee (f := 107) rfl ?_); refine goesL_ (some 35) rfl rfl Try.func107 (by kernel_rfl) rfl #[.slice Ao29 x5_1.length co29] rfl mp_ ?_; (with_reducible refine (sortX_ (e := 3) (W := w) (ok := fun _ => True) (v := .slice Ao29 x5_1.length co29) (xs := x5_1) ?side1 ?side2 (sc108.out A28.out).1).mono ?_); (case side1 => (with_reducible repeat (first | apply Kd.R_alloc | apply Kd.R_drewN | apply Kd.R_drew)); exact HO_5.out); (case side2 => repeat (first | (with_reducible first | exact HB.out | apply below_alloc | apply pw_below_drewN | apply below_drew1) | exact HB.out)); rintro e w930 ⟨rfl, ho0, hb⟩; refine ⟨_, rfl, ?_⟩; have n0_ := Aside0.mk ho0; have n1_ := Aside0.mk hb; clear HO_5; clear HB; have HO_5 := n0_; have HB := n1_; clear n0_ n1_ ho0 hb) | ((with_reducible refine gate_callee (f := 108) rfl ?_); refine goesL_ (some 37) rfl rfl Try.func108 (by kernel_rfl) rfl #[.slice Ao29 x5_1.length co29] rfl mp_ ?_; (with_reducible refine (compactX_ (e := 3) (W := w) (ok := fun _ => True) (xs := x5_1) ?side1 ?side2 A28.out).mono ?_); (case side1 => (with_reducible repeat (first | apply Kd.R_alloc | apply Kd.R_drewN | apply Kd.R_drew)); exact HO_5.out); (case side2 => repeat (first | (with_reducible first | exact HB.out | apply below_alloc | apply pw_below_drewN | apply below_drew1) | exact HB.out)); rintro e w30 ⟨v204, rfl, ho0, hb⟩; refine ⟨_, rfl, ?_⟩; have n0_ := Aside0.mk ho0; have n1_ := Aside0.mk hb; clear HO_5; clear HB; have HO205 := n0_; have HB := n1_; clear n0_ n1_ ho0 hb))
    go_ret
    exact ⟨_, er_, by (with_reducible repeat (first | apply Kd.R_alloc | apply Kd.R_drewN | apply Kd.R_drew)); exact Kd.R_mono HO205.out (fun _ hk => trivial), bl_ HB⟩

/-! ### laws_FnExactNeighborsIn: function 10 -/
def laws_FnExactNeighborsIn.j0 : Nat → List (S117) → Int → List Int → List Int → Bool → Option (Bool)
 | 0, _, _, _, _, _ => none
 | k + 1, x0, x1, x6, x8, x46 => if x46 = true then (some false) else ((laws_markIntS.f k x8 1).bind fun bt238 => ((laws_heldIntS.f k bt238.2 1).bind fun t240 => (if t240 < 0 then (some false) else (if t240 = bt238.1 then ((laws_toLinkS.f k x0).bind fun t241 => ((impl_NeighborsIn.f k t241 x1).bind fun t244 => ((laws_eqIntS.f k t244 x6).bind fun t247 => (if t247 = true then ((laws_heldIntS.f k bt238.2 1).bind fun t248 => (if t248 < 0 then (some false) else (if t248 = bt238.1 then (some true) else (some false)))) else (some false))))) else (some false)))))
def laws_FnExactNeighborsIn.f (k : Nat) (l0 : List (S117)) (a1 : Int) : Option (Bool) := (laws_szLinkS.f l0 1048576).bind fun t217 => (if t217 < 0 then (some true) else ((laws_toLinkS.f k l0).bind fun t218 => ((spec_NeighborsIn.f k t218 a1).bind fun t221 => ((laws_toLinkS.f k l0).bind fun t224 => ((impl_NeighborsIn.f k t224 a1).bind fun t227 => ((laws_eqIntS.f k t227 t221).bind fun t230 => (if t230 = true then ((laws_toLinkS.f k l0).bind fun t231 => ((laws_eqLinkS.f k t224 t231).bind fun t234 => (if t234 = true then ((laws_markLinkS.f k t224 1).bind fun bt235 => (if bt235.1 < 0 then (laws_FnExactNeighborsIn.j0 k l0 a1 t221 t227 true) else ((laws_eqIntS.f k t227 t221).bind fun t237 => (laws_FnExactNeighborsIn.j0 k l0 a1 t221 t227 (!t237))))) else (some false)))) else (some false))))))))
theorem laws_FnExactNeighborsIn.mono_l : ∀ k, (∀ y0 y1 y2 y3 y4, LeO (laws_FnExactNeighborsIn.j0 k y0 y1 y2 y3 y4) (laws_FnExactNeighborsIn.j0 (k + 1) y0 y1 y2 y3 y4))
 | 0 => fun _ _ _ _ _ r h => by simp [laws_FnExactNeighborsIn.j0] at h
 | k + 1 => by
  have ih0 := laws_FnExactNeighborsIn.mono_l k
  ·intro y0 y1 y2 y3 y4
   unfold laws_FnExactNeighborsIn.j0
   repeat' first | (with_reducible first | exact ih0 _ _ _ _ _ | exact impl_NeighborsIn.mono _ _ _ | exact laws_eqIntS.mono _ _ _ | exact laws_eqLinkS.mono _ _ _ | exact laws_heldIntS.mono _ _ _ | exact laws_markIntS.mono _ _ _ | exact laws_markLinkS.mono _ _ _ | exact laws_toLinkS.mono _ _ | exact spec_NeighborsIn.mono _ _ _ | exact LeO.refl _ | exact LeO.none _ | refine LeO.ite ?_ ?_ | refine LeO.bind ?_ (fun _ => ?_)) | exact LeO.none _ | refine LeO.ite ?_ ?_ | refine LeO.bind ?_ (fun _ => ?_)
theorem laws_FnExactNeighborsIn.mono : ∀ a0 a1 k, LeO (laws_FnExactNeighborsIn.f k a0 a1) (laws_FnExactNeighborsIn.f (k + 1) a0 a1) := by
 intro a0 a1 k
 have ih0 := laws_FnExactNeighborsIn.mono_l k
 unfold laws_FnExactNeighborsIn.f
 repeat' first | (with_reducible first | exact ih0 _ _ _ _ _ | exact impl_NeighborsIn.mono _ _ _ | exact laws_eqIntS.mono _ _ _ | exact laws_eqLinkS.mono _ _ _ | exact laws_heldIntS.mono _ _ _ | exact laws_markIntS.mono _ _ _ | exact laws_markLinkS.mono _ _ _ | exact laws_toLinkS.mono _ _ | exact spec_NeighborsIn.mono _ _ _ | exact LeO.refl _ | exact LeO.none _ | refine LeO.ite ?_ ?_ | refine LeO.bind ?_ (fun _ => ?_)) | exact LeO.none _ | refine LeO.ite ?_ ?_ | refine LeO.bind ?_ (fun _ => ?_)
set_option maxHeartbeats 8000000 in
set_option maxRecDepth 100000 in
theorem laws_FnExactNeighborsIn.calls (k : Nat) (A0 : Option Addr) (c0 : Nat) (l0 : List (S117)) (a1 : Int) (r : Bool) (w : World) (hr0 : Kd.C k117 w A0 l0.length l0) (hc0 : l0.length ≤ c0) (h : laws_FnExactNeighborsIn.f k l0 a1 = some r) (hT_ : r = true := by rfl) :
  Calls Try.prog 10 #[.slice A0 l0.length c0, .int .i64 a1] w fun e w' => e = .returned (.bool r) ∧ Below w.heap.size w w' := by
 have HR0 := Aside0.mk hr0
 have HC0 := Aside0.mk hc0
 clear hr0 hc0
 have HB := Aside0.mk (Below.refl w.heap.size w)
 subst hT_
 have H := h
 clear h
 unfold laws_FnExactNeighborsIn.f at H
 replace H := bs_ H
 obtain ⟨t217, A3, H⟩ := H
 by_cases c4 : t217 < 0
 ·rw [if_pos c4] at H
  have c4b0 := decide_eq_true c4
  clear c4
  clear H
  go_enter Try.func10, Try.ntmps10
  go_wp2_with (first | ((with_reducible refine gate_callee (f := 54) rfl ?_); refine gl_ 15 Try.func54 (laws_szLinkS.calls _ _ l0 1048576 t217 _ (cq_ HR0) HC0.out A3.out) ?_; rintro e w' ⟨rfl, ⟨nd, rfl⟩⟩; refine ⟨_, rfl, ?_⟩))
  go_ret
  exact ⟨er_, bl_ HB⟩
 ·rw [if_neg c4] at H
  have c4b0 := decide_eq_false c4
  clear c4
  replace H := bs_ H
  obtain ⟨t218, A5, H⟩ := H
  replace H := bs_ H
  obtain ⟨t221, A6, H⟩ := H
  replace H := bs_ H
  obtain ⟨t224, A7, H⟩ := H
  replace H := bs_ H
  obtain ⟨t227, A8, H⟩ := H
  replace H := bs_ H
  obtain ⟨t230, A9, H⟩ := H
  by_cases c10 : t230 = true
  ·subst c10
   try rw [if_pos rfl] at H
   replace H := bs_ H
   obtain ⟨t231, A11, H⟩ := H
   replace H := bs_ H
   obtain ⟨t234, A12, H⟩ := H
   by_cases c13 : t234 = true
   ·subst c13
    try rw [if_pos rfl] at H
    replace H := bs_ H
    obtain ⟨⟨t235, t236⟩, A14, H⟩ := H
    dsimp only at H
    have HC15 := Aside0.mk H
    clear H
    go_enter Try.func10, Try.ntmps10
    go_upto_region 14 with (first | ((with_reducible refine gate_callee (f := 54) rfl ?_); refine gl_ 15 Try.func54 (laws_szLinkS.calls _ _ l0 1048576 t217 _ (cq_ HR0) HC0.out A3.out) ?_; rintro e w' ⟨rfl, ⟨nd, rfl⟩⟩; refine ⟨_, rfl, ?_⟩) | ((with_reducible refine gate_callee (f := 56) rfl ?_); refine gl_ 19 Try.func56 (laws_toLinkS.calls k _ _ l0 t218 _ (cq_ HR0) HC0.out A5.out) ?_; rintro e w16 ⟨v219, rfl, ho0, hb⟩; refine ⟨_, rfl, sh2_ (Kd.R_lower ho0 (below_size (bl_ HB))) (below_step (bl_ HB) hb) ?_⟩; clear HB hb ho0; intro HO220 HB; obtain ⟨Ao17, co17, eo17⟩ := Kd.R_slice HO220.out; subst eo17) | ((with_reducible refine gate_callee (f := 55) rfl ?_); refine gl_ 21 Try.func55 (spec_NeighborsIn.calls k _ _ t218 a1 t221 _ (cr_ HO220) (rl_ HO220) A6.out) ?_; rintro e w18 ⟨v222, rfl, ho0, hb⟩; refine ⟨_, rfl, sh3_ (Kd.R_below (ra_ HO220) hb) (Kd.R_lower ho0 (below_size (bl_ HB))) (below_step (bl_ HB) hb) ?_⟩; clear HO220 HB hb ho0; intro HO220 HO223 HB) | ((with_reducible refine gate_callee (f := 56) rfl ?_); refine gl_ 23 Try.func56 (laws_toLinkS.calls k _ _ l0 t224 _ (ck_ HR0 HB) HC0.out A7.out) ?_; rintro e w19 ⟨v225, rfl, ho0, hb⟩; refine ⟨_, rfl, sh4_ (Kd.R_elder' (ra_ HO220) (Kd.R_base ho0) hb) (Kd.R_below (ra_ HO223) hb) (Kd.R_lower (Kd.R_new' ho0 (Kd.R_lt (ra_ HO220))) (below_size (bl_ HB))) (below_step (bl_ HB) hb) ?_⟩; clear HO220 HO223 HB hb ho0; intro HO220 HO223 HO226 HB; obtain ⟨Ao20, co20, eo20⟩ := Kd.R_slice HO226.out; subst eo20) | ((with_reducible refine gate_callee (f := 57) rfl ?_); refine gl_ 26 Try.func57 (impl_NeighborsIn.calls k _ _ t224 a1 t227 _ (cr_ HO226) (rl_ HO226) A8.out) ?_; rintro e w21 ⟨v228, rfl, ho0, hb⟩; refine ⟨_, rfl, sh5_ (Kd.R_below (ra_ HO220) hb) (Kd.R_elder' (ra_ HO223) (Kd.R_base ho0) hb) (Kd.R_below (ra_ HO226) hb) (Kd.R_lower (Kd.R_new' ho0 (Kd.R_lt (ra_ HO223))) (below_size (bl_ HB))) (below_step (bl_ HB) hb) ?_⟩; clear HO220 HO223 HO226 HB hb ho0; intro HO220 HO223 HO226 HO229 HB; obtain ⟨Ao22, co22, eo22⟩ := Kd.R_slice HO229.out; subst eo22; obtain ⟨Ao23, co23, eo23⟩ := Kd.R_slice HO223.out; subst eo23) | ((with_reducible refine gate_callee (f := 46) rfl ?_); refine gl_ 29 Try.func46 (laws_eqIntS.calls k _ _ t227 _ _ t221 true _ (cr_ HO229) (rl_ HO229) (cr_ HO223) (rl_ HO223) A9.out) ?_; rintro e w' ⟨rfl, ⟨nd, rfl⟩⟩; refine ⟨_, rfl, ?_⟩) | ((with_reducible refine gate_callee (f := 56) rfl ?_); refine goesL_ (some 33) rfl rfl Try.func56 (by kernel_rfl) rfl #[.slice A0 l0.length c0] rfl mp_ ?_; (with_reducible refine (laws_toLinkS.calls k _ _ l0 t231 _ ?side1 ?side2 A11.out).mono ?_); (case side1 => repeat (first | exact (Kd.C_below HR0.out (bl_ HB)) | (with_reducible refine Kd.C_alloc ?_ _) | (with_reducible refine Kd.C_drewN ?_ _) | (with_reducible refine Kd.C_drew ?_))); (case side2 => exact HC0.out); rintro e w24 ⟨v232, rfl, ho0, hb⟩; refine ⟨_, rfl, sh6_ (Kd.R_elder' (ra_ HO220) (Kd.R_base ho0) hb) (Kd.R_below (ra_ HO223) hb) (Kd.R_elder' (ra_ HO226) (Kd.R_base ho0) hb) (Kd.R_below (ra_ HO229) hb) (Kd.R_lower (Kd.R_new' (Kd.R_new' ho0 (Kd.R_lt (ra_ HO220))) (Kd.R_lt (ra_ HO226))) (below_size (bl_ HB))) (below_step (bl_ HB) hb) ?_⟩; clear HO220 HO223 HO226 HO229 HB hb ho0; intro HO220 HO223 HO226 HO229 HO233 HB; obtain ⟨Ao25, co25, eo25⟩ := Kd.R_slice HO233.out; subst eo25) | ((with_reducible refine gate_callee (f := 35) rfl ?_); refine gl_ 34 Try.func35 (laws_eqLinkS.calls k _ _ t224 _ _ t231 true _ (cr_ HO226) (rl_ HO226) (cr_ HO233) (rl_ HO233) A12.out) ?_; rintro e w26 ⟨rfl, hb⟩; refine ⟨_, rfl, sh6_ (Kd.R_below (ra_ HO220) hb) (Kd.R_below (ra_ HO223) hb) (Kd.R_below (ra_ HO226) hb) (Kd.R_below (ra_ HO229) hb) (Kd.R_below (ra_ HO233) hb) (below_step (bl_ HB) hb) ?_⟩; clear HO220 HO223 HO226 HO229 HO233 HB hb; intro HO220 HO223 HO226 HO229 HO233 HB) | ((with_reducible refine gate_callee (f := 37) rfl ?_); refine goesL_ (some 38) rfl rfl Try.func37 (by kernel_rfl) rfl #[.slice Ao20 t224.length co20, .int .i64 1] rfl mp_ ?_; (with_reducible refine (laws_markLinkS.calls k (fun k_ => some k_ = (.slice Ao20 t224.length co20 : Value).ownBlock) (.slice Ao20 t224.length co20) t224 1 t235 t236 w _ ?side1 ?side2 A14.out).mono ?_); (case side1 => repeat (first | (with_reducible first | exact HB.out | apply below_alloc | apply pw_below_drewN | apply below_drew1) | exact HB.out)); (case side2 => exact Kd.R_tight rfl HO226.out); rintro e w27 ⟨rfl, hy0, hb, hkp⟩; refine ⟨_, rfl, sh6_ (Kd.R_mono (ok' := fun k_ => some k_ ≠ (.slice Ao20 t224.length co20 : Value).ownBlock ∧ some k_ ≠ (.slice Ao25 t231.length co25 : Value).ownBlock) (Kd.R_keptB (HO220.out) hkp (fun k_ hk_ hs_ => (hk_.1.2) hs_)) (fun k_ hk_ => ⟨hx_ hk_, hx_ hk_⟩)) (Kd.R_mono (ok' := fun k_ => some k_ ≠ (.slice Ao22 t227.length co22 : Value).ownBlock) (Kd.R_keptB ((Kd.R_apart' HO223.out (Kd.R_typed HO226.out) (by decide))) hkp (fun k_ hk_ hs_ => (hk_.2) hs_)) (fun k_ hk_ => hx_ hk_)) (Kd.R_reok rfl hy0 (fun k_ e_ => HO226.out.1 k_ e_)) (Kd.R_mono (ok' := fun k_ => some k_ ≠ (.slice Ao23 t221.length co23 : Value).ownBlock) (Kd.R_keptB ((Kd.R_apart' HO229.out (Kd.R_typed HO226.out) (by decide))) hkp (fun k_ hk_ hs_ => (hk_.2) hs_)) (fun k_ hk_ => hx_ hk_)) (Kd.R_mono (ok' := fun k_ => some k_ ≠ (.slice Ao17 t218.length co17 : Value).ownBlock ∧ some k_ ≠ (.slice Ao20 t224.length co20 : Value).ownBlock) (Kd.R_keptB (HO233.out) hkp (fun k_ hk_ hs_ => (hk_.2) hs_)) (fun k_ hk_ => ⟨hx_ hk_, hx_ hk_⟩)) hb ?_⟩; clear HO220 HO223 HO226 HO229 HO233 HB hb hkp hy0; intro HO220 HO223 HO226 HO229 HO233 HB))
    (try simp only [Act.put, List.setIfInBounds_toArray, List.set_cons_zero, List.set_cons_succ])
    go_cut [46] (fun v46 wc => ∃ (kq : Nat) (x46_14 : Bool), v46 = .bool x46_14 ∧ Aside0 (laws_FnExactNeighborsIn.j0 kq l0 a1 t221 t227 x46_14 = some true) ∧ Aside0 (kq ≤ k) ∧ Aside0 (Kd.R (Kd.int .i64) 3 wc w.heap.size (fun k_ => some k_ ≠ ((.slice Ao22 t227.length co22) : Value).ownBlock) (.slice Ao23 t221.length co23) t221) ∧ Aside0 (Kd.R (Kd.int .i64) 3 wc w.heap.size (fun k_ => some k_ ≠ ((.slice Ao23 t221.length co23) : Value).ownBlock) (.slice Ao22 t227.length co22) t227) ∧ Aside0 (Below w.heap.size w wc))
    case first =>
     have H := HC15.out
     clear HC15
     by_cases c28 : t235 < 0
     ·rw [if_pos c28] at H
      have c28b0 := decide_eq_true c28
      clear c28
      (first | rw [c28b0] | (simp only [i64_w, i32_w]; rw [c28b0]) | skip)
      have H' := Aside0.mk H
      clear H
      go_wp2
      go_meet
      case rel => exact ⟨_, (true), (by first | rfl | (simp; done) | (simp [*]; done)), H', ⟨by first | omega | exact Nat.le_refl _⟩, ⟨ra_ HO223⟩, ⟨ra_ HO229⟩, ⟨bl_ HB⟩⟩
     ·rw [if_neg c28] at H
      have c28b0 := decide_eq_false c28
      clear c28
      (first | rw [c28b0] | (simp only [i64_w, i32_w]; rw [c28b0]) | skip)
      replace H := bs_ H
      obtain ⟨t237, A29, H⟩ := H
      have H' := Aside0.mk H
      clear H
      go_wp2_with (first | (go_at_call 46; (with_reducible refine (laws_eqIntS.calls k _ _ t227 _ _ t221 t237 _ ?side1 ?side2 ?side3 ?side4 A29.out).mono ?_); (case side1 => repeat (first | exact (Kd.R_reads' HO229.out).2.2 | (with_reducible refine Kd.C_alloc ?_ _) | (with_reducible refine Kd.C_drewN ?_ _) | (with_reducible refine Kd.C_drew ?_))); (case side2 => exact (Kd.R_reads' HO229.out).2.1); (case side3 => repeat (first | exact (Kd.R_reads' HO223.out).2.2 | (with_reducible refine Kd.C_alloc ?_ _) | (with_reducible refine Kd.C_drewN ?_ _) | (with_reducible refine Kd.C_drew ?_))); (case side4 => exact (Kd.R_reads' HO223.out).2.1); rintro e w' ⟨rfl, ⟨nd, rfl⟩⟩))
      go_meet
      case rel => exact ⟨_, (!t237), (by first | rfl | (simp; done) | (simp [*]; done)), H', ⟨by first | omega | exact Nat.le_refl _⟩, ⟨ra_ HO223⟩, ⟨ra_ HO229⟩, ⟨bl_ HB⟩⟩
    case rest =>
     clear HC15
     try clear c1
     try clear c2
     try clear p2
     try clear c3
     try clear c4
     try clear c4b0
     try clear c5
     try clear c10
     try clear c13
     try clear c28
     try clear c28b0
     obtain ⟨kq, x46_14, rfl, HA, HJ14, HO_6, HO_8, HB⟩ := hcut
     cases kq with
     | zero => exact absurd HA.out (by simp [laws_FnExactNeighborsIn.j0])
     | succ kj14 =>
      have H := HA.out
      clear HA
      simp only [laws_FnExactNeighborsIn.j0] at H
      by_cases c30 : x46_14 = true
      ·subst c30
       try rw [if_pos rfl] at H
       exact absurd H (by simp)
      ·replace c30 := Bool.eq_false_iff.mpr c30
       subst c30
       have H1 : ((laws_markIntS.f kj14 t227 1).bind fun bt238 => ((laws_heldIntS.f kj14 bt238.2 1).bind fun t240 => (if t240 < 0 then (some false) else (if t240 = bt238.1 then ((laws_toLinkS.f kj14 l0).bind fun t241 => ((impl_NeighborsIn.f kj14 t241 a1).bind fun t244 => ((laws_eqIntS.f kj14 t244 t221).bind fun t247 => (if t247 = true then ((laws_heldIntS.f kj14 bt238.2 1).bind fun t248 => (if t248 < 0 then (some false) else (if t248 = bt238.1 then (some true) else (some false)))) else (some false))))) else (some false))))) = some true := by first | (rw [if_neg (show ¬ (false = true) by decide)] at H; exact H) | rfl
       clear H
       have H := H1
       clear H1
       replace H := bs_ H
       obtain ⟨⟨t238, t239⟩, A31, H⟩ := H
       dsimp only at H
       replace H := bs_ H
       obtain ⟨t240, A32, H⟩ := H
       by_cases c33 : t240 < 0
       ·rw [if_pos c33] at H
        have c33b0 := decide_eq_true c33
        clear c33
        exact absurd H (by simp)
       ·rw [if_neg c33] at H
        have c33b0 := decide_eq_false c33
        clear c33
        by_cases c34 : t240 = t238
        ·rw [if_pos c34] at H
         obtain ⟨c34b0, c34b1⟩ := bt_ c34
         clear c34
         replace H := bs_ H
         obtain ⟨t241, A35, H⟩ := H
         replace H := bs_ H
         obtain ⟨t244, A36, H⟩ := H
         replace H := bs_ H
         obtain ⟨t247, A37, H⟩ := H
         by_cases c38 : t247 = true
         ·subst c38
          try rw [if_pos rfl] at H
          replace H := bs_ H
          obtain ⟨t248, A39, H⟩ := H
          by_cases c40 : t248 < 0
          ·rw [if_pos c40] at H
           have c40b0 := decide_eq_true c40
           clear c40
           exact absurd H (by simp)
          ·rw [if_neg c40] at H
           have c40b0 := decide_eq_false c40
           clear c40
           by_cases c41 : t248 = t238
           ·rw [if_pos c41] at H
            obtain ⟨c41b0, c41b1⟩ := bt_ c41
            clear c41
            clear H
            go_wp2_with (first | ((with_reducible refine gate_callee (f := 47) rfl ?_); refine goesL_ (some 49) rfl rfl Try.func47 (by kernel_rfl) rfl #[.slice Ao22 t227.length co22, .int .i64 1] rfl mp_ ?_; (with_reducible refine (laws_markIntS.calls kj14 (fun k_ => some k_ = (.slice Ao22 t227.length co22 : Value).ownBlock) (.slice Ao22 t227.length co22) t227 1 t238 t239 w _ ?side1 ?side2 A31.out).mono ?_); (case side1 => repeat (first | (with_reducible first | exact HB.out | apply below_alloc | apply pw_below_drewN | apply below_drew1) | exact HB.out)); (case side2 => exact Kd.R_tight rfl HO_8.out); rintro e w42 ⟨rfl, hy0, hb, hkp⟩; refine ⟨_, rfl, sh3_ (Kd.R_mono (ok' := fun k_ => some k_ ≠ (.slice Ao22 t227.length co22 : Value).ownBlock) (Kd.R_keptB (HO_6.out) hkp (fun k_ hk_ hs_ => (hk_) hs_)) (fun k_ hk_ => hx_ hk_)) (Kd.R_reok rfl hy0 (fun k_ e_ => HO_8.out.1 k_ e_)) hb ?_⟩; clear HO_6 HO_8 HB hb hkp hy0; intro HO_6 HO_8 HB) | ((with_reducible refine gate_callee (f := 48) rfl ?_); refine goesL_ (some 52) rfl rfl Try.func48 (by kernel_rfl) rfl #[.slice Ao22 t239.length co22, .int .i64 1] rfl (by (try simp only [List.map_toArray, List.map_cons, List.map_nil]); first | done | (rw [show t239.length = t227.length from (Kd.R_reads' HO_8.out).1.symm] <;> rfl) | rfl | (simp only [List.length_drop, List.length_take]; rfl)) ?_; (with_reducible refine (laws_heldIntS.calls kj14 _ _ t239 1 t240 _ ?side1 ?side2 A32.out).mono ?_); (case side1 => repeat (first | exact (Kd.R_reads' HO_8.out).2.2 | (with_reducible refine Kd.C_alloc ?_ _) | (with_reducible refine Kd.C_drewN ?_ _) | (with_reducible refine Kd.C_drew ?_))); (case side2 => rw [show t239.length = t227.length from (Kd.R_reads' HO_8.out).1.symm]; exact (Kd.R_reads' HO_8.out).2.1); rintro e w' ⟨rfl, ⟨nd, rfl⟩⟩; refine ⟨_, rfl, ?_⟩) | ((with_reducible refine gate_callee (f := 56) rfl ?_); refine goesL_ (some 59) rfl rfl Try.func56 (by kernel_rfl) rfl #[.slice A0 l0.length c0] rfl mp_ ?_; (with_reducible refine (laws_toLinkS.calls kj14 _ _ l0 t241 _ ?side1 ?side2 A35.out).mono ?_); (case side1 => repeat (first | exact (Kd.C_below HR0.out (bl_ HB)) | (with_reducible refine Kd.C_alloc ?_ _) | (with_reducible refine Kd.C_drewN ?_ _) | (with_reducible refine Kd.C_drew ?_))); (case side2 => exact HC0.out); rintro e w43 ⟨v242, rfl, ho0, hb⟩; refine ⟨_, rfl, sh4_ (Kd.R_below (ra_ HO_6) hb) (Kd.R_below (ra_ HO_8) hb) (Kd.R_lower ho0 (below_size (bl_ HB))) (below_step (bl_ HB) hb) ?_⟩; clear HO_6 HO_8 HB hb ho0; intro HO_6 HO_8 HO243 HB; obtain ⟨Ao44, co44, eo44⟩ := Kd.R_slice HO243.out; subst eo44) | ((with_reducible refine gate_callee (f := 57) rfl ?_); refine gl_ 61 Try.func57 (impl_NeighborsIn.calls kj14 _ _ t241 a1 t244 _ (cr_ HO243) (rl_ HO243) A36.out) ?_; rintro e w45 ⟨v245, rfl, ho0, hb⟩; refine ⟨_, rfl, sh5_ (Kd.R_elder' (ra_ HO_6) (Kd.R_base ho0) hb) (Kd.R_elder' (ra_ HO_8) (Kd.R_base ho0) hb) (Kd.R_below (ra_ HO243) hb) (Kd.R_lower (Kd.R_new' (Kd.R_new' ho0 (Kd.R_lt (ra_ HO_6))) (Kd.R_lt (ra_ HO_8))) (below_size (bl_ HB))) (below_step (bl_ HB) hb) ?_⟩; clear HO_6 HO_8 HO243 HB hb ho0; intro HO_6 HO_8 HO243 HO246 HB; obtain ⟨Ao46, co46, eo46⟩ := Kd.R_slice HO246.out; subst eo46) | ((with_reducible refine gate_callee (f := 46) rfl ?_); refine gl_ 64 Try.func46 (laws_eqIntS.calls kj14 _ _ t244 _ _ t221 true _ (cr_ HO246) (rl_ HO246) (cr_ HO_6) (rl_ HO_6) A37.out) ?_; rintro e w' ⟨rfl, ⟨nd, rfl⟩⟩; refine ⟨_, rfl, ?_⟩) | ((with_reducible refine gate_callee (f := 48) rfl ?_); refine goesL_ (some 68) rfl rfl Try.func48 (by kernel_rfl) rfl #[.slice Ao22 t239.length co22, .int .i64 1] rfl (by (try simp only [List.map_toArray, List.map_cons, List.map_nil]); first | done | (rw [show t239.length = t227.length from (Kd.R_reads' HO_8.out).1.symm] <;> rfl) | rfl | (simp only [List.length_drop, List.length_take]; rfl)) ?_; (with_reducible refine (laws_heldIntS.calls kj14 _ _ t239 1 t248 _ ?side1 ?side2 A39.out).mono ?_); (case side1 => repeat (first | exact (Kd.R_reads' HO_8.out).2.2 | (with_reducible refine Kd.C_alloc ?_ _) | (with_reducible refine Kd.C_drewN ?_ _) | (with_reducible refine Kd.C_drew ?_))); (case side2 => rw [show t239.length = t227.length from (Kd.R_reads' HO_8.out).1.symm]; exact (Kd.R_reads' HO_8.out).2.1); rintro e w' ⟨rfl, ⟨nd, rfl⟩⟩; refine ⟨_, rfl, ?_⟩))
            go_ret
            exact ⟨er_, bl_ HB⟩
           ·rw [if_neg c41] at H
            obtain ⟨c41b0, c41b1⟩ := bn_ c41
            exact absurd H (by simp)
         ·replace c38 := Bool.eq_false_iff.mpr c38
          subst c38
          have H1 : (some false) = some true := by first | (rw [if_neg (show ¬ (false = true) by decide)] at H; exact H) | rfl
          clear H
          have H := H1
          clear H1
          exact absurd H (by simp)
        ·rw [if_neg c34] at H
         obtain ⟨c34b0, c34b1⟩ := bn_ c34
         exact absurd H (by simp)
   ·replace c13 := Bool.eq_false_iff.mpr c13
    subst c13
    have H1 : (some false) = some true := by first | (rw [if_neg (show ¬ (false = true) by decide)] at H; exact H) | rfl
    clear H
    have H := H1
    clear H1
    exact absurd H (by simp)
  ·replace c10 := Bool.eq_false_iff.mpr c10
   subst c10
   have H1 : (some false) = some true := by first | (rw [if_neg (show ¬ (false = true) by decide)] at H; exact H) | rfl
   clear H
   have H := H1
   clear H1
   exact absurd H (by simp)

end Go.Proofs.Ytlljhblilicnfaa.PFnExactNeighborsIn
