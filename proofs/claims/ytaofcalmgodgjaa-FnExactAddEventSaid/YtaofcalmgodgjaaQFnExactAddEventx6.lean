/- The machine side of a law: Lean functions with the Go functions' answers and the walks that show it. No condition. -/
import Derived.Test.YtaofcalmgodgjaaQFnExactAddEventx0
namespace Go.Proofs.Ytaofcalmgodgjaa.QFnExactAddEvent
open Go.RowKit Go.Proofs.YtaofcalmgodgjaaW.PrintWords Go.Proofs.YtaofcalmgodgjaaW.PrintLast Go.Proofs.YtaofcalmgodgjaaW.PrintMore
attribute [local go_sem] max2_int min2_int max_two min_two max_three min_three max_four min_four   -- for this text's walks alone
set_option linter.unusedVariables false
set_option linter.unusedSimpArgs false

/-! ### laws_toAgg: function 61 -/
def laws_toAgg.f (a0_0 : Int) (a0_1 : Int) (a0_2 : Int) (a0_3 : Int) (a0_4 : Int) (a0_5 : Int) : Option (Int × Int × Int × Int × Int × Int) := some (a0_0, a0_1, a0_2, a0_3, a0_4, a0_5)
set_option maxHeartbeats 8000000 in
set_option maxRecDepth 100000 in
theorem laws_toAgg.calls (a0_0 : Int) (a0_1 : Int) (a0_2 : Int) (a0_3 : Int) (a0_4 : Int) (a0_5 : Int) (r1 : Int) (r2 : Int) (r3 : Int) (r4 : Int) (r5 : Int) (r6 : Int) (w : World) (h : laws_toAgg.f a0_0 a0_1 a0_2 a0_3 a0_4 a0_5 = some (r1, r2, r3, r4, r5, r6)) :
  Calls Try.prog 61 #[.agg #[.int .i64 a0_0, .int .i64 a0_1, .int .i64 a0_2, .int .i64 a0_3, .int .i64 a0_4, .int .i64 a0_5]] w fun e w' => e = .returned (.agg #[.int .i64 r1, .int .i64 r2, .int .i64 r3, .int .i64 r4, .int .i64 r5, .int .i64 r6]) ∧ Below w.heap.size w w' := by
 have hu86 := Try.underlying86
 have hu62 := Try.underlying62
 have HB := am_ (Below.refl w.heap.size w)
 have H : (some (a0_0, a0_1, a0_2, a0_3, a0_4, a0_5)) = some (r1, r2, r3, r4, r5, r6) := h
 clear h
 simp only [Option.some.injEq, Prod.mk.injEq] at H
 obtain ⟨rfl, rfl, rfl, rfl, rfl, rfl⟩ := H
 go_enter Try.func61, Try.ntmps61
 go_wp2_with (first | ((with_reducible refine gate_dst (N := 1) rfl ?_); refine bx_ (N := 1) (cs := #[.int .i64 a0_0, .int .i64 a0_1, .int .i64 a0_2, .int .i64 a0_3, .int .i64 a0_4, .int .i64 a0_5]) (t := 86) ?_; intro gb197 hg w2 hbox hb; have BK197 := am_ (hbox); have GW197 := gs_ hg HB.out; have GE197 := gs_ hg HB.out; replace HB := hs_ HB hb; clear hb hbox hg) | ((with_reducible refine gate_dst (N := 2) rfl ?_); refine bx_ (N := 2) (cs := #[.int .i64 0, .int .i64 0, .int .i64 0, .int .i64 0, .int .i64 0, .int .i64 0]) (t := 62) ?_; intro gb198 hg w3 hbox hb; have BK198 := am_ (hbox); have GW198 := gs_ hg HB.out; have GE198 := gs_ hg HB.out; replace HB := hs_ HB hb; have NB197_198 := nl_ hg BK197.out; have NB198_197 := ng_ hg BK197.out; replace BK197 := bs_ BK197 hb; clear hb hbox hg) | ((with_reducible refine gate_dst (N := 3) rfl ?_); refine bx_ (N := 3) (cs := #[.int .i64 0, .int .i64 0, .int .i64 0, .int .i64 0, .int .i64 0, .int .i64 0]) (t := 62) ?_; intro gb199 hg w4 hbox hb; have BK199 := am_ (hbox); have GW199 := gs_ hg HB.out; have GE199 := gs_ hg HB.out; replace HB := hs_ HB hb; have NB197_199 := nl_ hg BK197.out; have NB199_197 := ng_ hg BK197.out; replace BK197 := bs_ BK197 hb; have NB198_199 := nl_ hg BK198.out; have NB199_198 := ng_ hg BK198.out; replace BK198 := bs_ BK198 hb; clear hb hbox hg; have hnb5 := NB197_198.out; have hnc5 := NB198_197.out; have hnb6 := NB197_199.out; have hnc6 := NB199_197.out; obtain ⟨hcz7_0, hcz7_1, hcz7_2, hcz7_3, hcz7_4, hcz7_5⟩ := cb6_ BK197.out; obtain ⟨hfz7_0, hfz7_1, hfz7_2, hfz7_3, hfz7_4, hfz7_5⟩ := bf6_ BK197.out; have hnb8 := NB199_198.out; have hnc8 := NB198_199.out; obtain ⟨hcz9_0, hcz9_1, hcz9_2, hcz9_3, hcz9_4, hcz9_5⟩ := cb6_ BK199.out; obtain ⟨hfz9_0, hfz9_1, hfz9_2, hfz9_3, hfz9_4⟩ := bf5_ BK199.out; have hfz9_5 := blk_frozen BK199.out 5) | ((with_reducible refine gate_store (t := 3) (p := 6) rfl ?_); refine st_ (w1 := (w4.setCell ⟨gb199, 0, none⟩ (.int .i64 a0_0))) ?_; intro w10 hw; replace BK197 := uk_ hw BK197.out; replace BK198 := uk_ hw BK198.out; replace BK199 : Aside0 (w10.heap[gb199]? = some (.cells #[.int .i64 a0_0, .int .i64 0, .int .i64 0, .int .i64 0, .int .i64 0, .int .i64 0] 62 (0, 0))) := ⟨(by rw [hw]; exact (by (with_reducible repeat first|apply bn_|apply bd_|apply ba_); refine blk_put (cs := #[.int .i64 0, .int .i64 0, .int .i64 0, .int .i64 0, .int .i64 0, .int .i64 0]) ?_ 0 _ rfl; (with_reducible repeat first|apply bn_|apply bd_|apply ba_); exact BK199.out))⟩; replace HB := uh_ hw HB.out; clear hw; obtain ⟨hcz11_0, hcz11_1, hcz11_2, hcz11_3, hcz11_4, hcz11_5⟩ := cb6_ BK197.out; obtain ⟨hfz11_0, hfz11_1, hfz11_2, hfz11_3, hfz11_4, hfz11_5⟩ := bf6_ BK197.out; obtain ⟨hcz12_0, hcz12_1, hcz12_2, hcz12_3, hcz12_4, hcz12_5⟩ := cb6_ BK199.out; obtain ⟨hfz12_0, hfz12_1, hfz12_2, hfz12_3, hfz12_4⟩ := bf5_ BK199.out; have hfz12_5 := blk_frozen BK199.out 5) | ((with_reducible refine gate_store (t := 3) (p := 9) rfl ?_); refine st_ (w1 := (w10.setCell ⟨gb199, 1, none⟩ (.int .i64 a0_1))) ?_; intro w13 hw; replace BK197 := uk_ hw BK197.out; replace BK198 := uk_ hw BK198.out; replace BK199 : Aside0 (w13.heap[gb199]? = some (.cells #[.int .i64 a0_0, .int .i64 a0_1, .int .i64 0, .int .i64 0, .int .i64 0, .int .i64 0] 62 (0, 0))) := ⟨(by rw [hw]; exact (by (with_reducible repeat first|apply bn_|apply bd_|apply ba_); refine blk_put (cs := #[.int .i64 a0_0, .int .i64 0, .int .i64 0, .int .i64 0, .int .i64 0, .int .i64 0]) ?_ 1 _ rfl; (with_reducible repeat first|apply bn_|apply bd_|apply ba_); exact BK199.out))⟩; replace HB := uh_ hw HB.out; clear hw; obtain ⟨hcz14_0, hcz14_1, hcz14_2, hcz14_3, hcz14_4, hcz14_5⟩ := cb6_ BK197.out; obtain ⟨hfz14_0, hfz14_1, hfz14_2, hfz14_3, hfz14_4, hfz14_5⟩ := bf6_ BK197.out; obtain ⟨hcz15_0, hcz15_1, hcz15_2, hcz15_3, hcz15_4, hcz15_5⟩ := cb6_ BK199.out; obtain ⟨hfz15_0, hfz15_1, hfz15_2, hfz15_3, hfz15_4⟩ := bf5_ BK199.out; have hfz15_5 := blk_frozen BK199.out 5) | ((with_reducible refine gate_store (t := 3) (p := 12) rfl ?_); refine st_ (w1 := (w13.setCell ⟨gb199, 2, none⟩ (.int .i64 a0_2))) ?_; intro w16 hw; replace BK197 := uk_ hw BK197.out; replace BK198 := uk_ hw BK198.out; replace BK199 : Aside0 (w16.heap[gb199]? = some (.cells #[.int .i64 a0_0, .int .i64 a0_1, .int .i64 a0_2, .int .i64 0, .int .i64 0, .int .i64 0] 62 (0, 0))) := ⟨(by rw [hw]; exact (by (with_reducible repeat first|apply bn_|apply bd_|apply ba_); refine blk_put (cs := #[.int .i64 a0_0, .int .i64 a0_1, .int .i64 0, .int .i64 0, .int .i64 0, .int .i64 0]) ?_ 2 _ rfl; (with_reducible repeat first|apply bn_|apply bd_|apply ba_); exact BK199.out))⟩; replace HB := uh_ hw HB.out; clear hw; obtain ⟨hcz17_0, hcz17_1, hcz17_2, hcz17_3, hcz17_4, hcz17_5⟩ := cb6_ BK197.out; obtain ⟨hfz17_0, hfz17_1, hfz17_2, hfz17_3, hfz17_4, hfz17_5⟩ := bf6_ BK197.out; obtain ⟨hcz18_0, hcz18_1, hcz18_2, hcz18_3, hcz18_4, hcz18_5⟩ := cb6_ BK199.out; obtain ⟨hfz18_0, hfz18_1, hfz18_2, hfz18_3, hfz18_4⟩ := bf5_ BK199.out; have hfz18_5 := blk_frozen BK199.out 5) | ((with_reducible refine gate_store (t := 3) (p := 15) rfl ?_); refine st_ (w1 := (w16.setCell ⟨gb199, 3, none⟩ (.int .i64 a0_3))) ?_; intro w19 hw; replace BK197 := uk_ hw BK197.out; replace BK198 := uk_ hw BK198.out; replace BK199 : Aside0 (w19.heap[gb199]? = some (.cells #[.int .i64 a0_0, .int .i64 a0_1, .int .i64 a0_2, .int .i64 a0_3, .int .i64 0, .int .i64 0] 62 (0, 0))) := ⟨(by rw [hw]; exact (by (with_reducible repeat first|apply bn_|apply bd_|apply ba_); refine blk_put (cs := #[.int .i64 a0_0, .int .i64 a0_1, .int .i64 a0_2, .int .i64 0, .int .i64 0, .int .i64 0]) ?_ 3 _ rfl; (with_reducible repeat first|apply bn_|apply bd_|apply ba_); exact BK199.out))⟩; replace HB := uh_ hw HB.out; clear hw; obtain ⟨hcz20_0, hcz20_1, hcz20_2, hcz20_3, hcz20_4, hcz20_5⟩ := cb6_ BK197.out; obtain ⟨hfz20_0, hfz20_1, hfz20_2, hfz20_3, hfz20_4, hfz20_5⟩ := bf6_ BK197.out; obtain ⟨hcz21_0, hcz21_1, hcz21_2, hcz21_3, hcz21_4, hcz21_5⟩ := cb6_ BK199.out; obtain ⟨hfz21_0, hfz21_1, hfz21_2, hfz21_3, hfz21_4⟩ := bf5_ BK199.out; have hfz21_5 := blk_frozen BK199.out 5) | ((with_reducible refine gate_store (t := 3) (p := 18) rfl ?_); refine st_ (w1 := (w19.setCell ⟨gb199, 4, none⟩ (.int .i64 a0_4))) ?_; intro w22 hw; replace BK197 := uk_ hw BK197.out; replace BK198 := uk_ hw BK198.out; replace BK199 : Aside0 (w22.heap[gb199]? = some (.cells #[.int .i64 a0_0, .int .i64 a0_1, .int .i64 a0_2, .int .i64 a0_3, .int .i64 a0_4, .int .i64 0] 62 (0, 0))) := ⟨(by rw [hw]; exact (by (with_reducible repeat first|apply bn_|apply bd_|apply ba_); refine blk_put (cs := #[.int .i64 a0_0, .int .i64 a0_1, .int .i64 a0_2, .int .i64 a0_3, .int .i64 0, .int .i64 0]) ?_ 4 _ rfl; (with_reducible repeat first|apply bn_|apply bd_|apply ba_); exact BK199.out))⟩; replace HB := uh_ hw HB.out; clear hw; obtain ⟨hcz23_0, hcz23_1, hcz23_2, hcz23_3, hcz23_4, hcz23_5⟩ := cb6_ BK197.out; obtain ⟨hfz23_0, hfz23_1, hfz23_2, hfz23_3, hfz23_4, hfz23_5⟩ := bf6_ BK197.out; obtain ⟨hcz24_0, hcz24_1, hcz24_2, hcz24_3, hcz24_4, hcz24_5⟩ := cb6_ BK199.out; obtain ⟨hfz24_0, hfz24_1, hfz24_2, hfz24_3, hfz24_4⟩ := bf5_ BK199.out; have hfz24_5 := blk_frozen BK199.out 5) | ((with_reducible refine gate_store (t := 3) (p := 21) rfl ?_); refine st_ (w1 := (w22.setCell ⟨gb199, 5, none⟩ (.int .i64 a0_5))) ?_; intro w25 hw; replace BK197 := uk_ hw BK197.out; replace BK198 := uk_ hw BK198.out; replace BK199 : Aside0 (w25.heap[gb199]? = some (.cells #[.int .i64 a0_0, .int .i64 a0_1, .int .i64 a0_2, .int .i64 a0_3, .int .i64 a0_4, .int .i64 a0_5] 62 (0, 0))) := ⟨(by rw [hw]; exact (by (with_reducible repeat first|apply bn_|apply bd_|apply ba_); refine blk_put (cs := #[.int .i64 a0_0, .int .i64 a0_1, .int .i64 a0_2, .int .i64 a0_3, .int .i64 a0_4, .int .i64 0]) ?_ 5 _ rfl; (with_reducible repeat first|apply bn_|apply bd_|apply ba_); exact BK199.out))⟩; replace HB := uh_ hw HB.out; clear hw; obtain ⟨hcz26_0, hcz26_1, hcz26_2, hcz26_3, hcz26_4, hcz26_5⟩ := cb6_ BK199.out; obtain ⟨hfz26_0, hfz26_1, hfz26_2, hfz26_3, hfz26_4, hfz26_5⟩ := bf6_ BK199.out; obtain ⟨hcz27_0, hcz27_1, hcz27_2, hcz27_3, hcz27_4, hcz27_5⟩ := cb6_ BK198.out; obtain ⟨hfz27_0, hfz27_1, hfz27_2, hfz27_3, hfz27_4⟩ := bf5_ BK198.out; have hfz27_5 := blk_frozen BK198.out 5) | ((with_reducible refine gate_store (t := 62) (p := 2) rfl ?_); refine st_ (w1 := ((((((w25.setCell ⟨gb198, 0, none⟩ (.int .i64 a0_0)).setCell ⟨gb198, 1, none⟩ (.int .i64 a0_1)).setCell ⟨gb198, 2, none⟩ (.int .i64 a0_2)).setCell ⟨gb198, 3, none⟩ (.int .i64 a0_3)).setCell ⟨gb198, 4, none⟩ (.int .i64 a0_4)).setCell ⟨gb198, 5, none⟩ (.int .i64 a0_5))) ?_; intro w28 hw; replace BK197 := uk_ hw BK197.out; replace BK198 : Aside0 (w28.heap[gb198]? = some (.cells #[.int .i64 a0_0, .int .i64 a0_1, .int .i64 a0_2, .int .i64 a0_3, .int .i64 a0_4, .int .i64 a0_5] 62 (0, 0))) := ⟨(by rw [hw]; exact (by (with_reducible repeat first|apply bn_|apply bd_|apply ba_); apply bp6_; (with_reducible repeat first|apply bn_|apply bd_|apply ba_); exact BK198.out))⟩; replace BK199 := uk_ hw BK199.out; replace HB := uh_ hw HB.out; clear hw))
 refine bodyPost_ret (results_cell_row rfl _ _ gb198 62 #[.int .i64 a0_0, .int .i64 a0_1, .int .i64 a0_2, .int .i64 a0_3, .int .i64 a0_4, .int .i64 a0_5] (0, 0) _ rfl (ub_ BK198.out) Try.underlying62 rfl (by kernel_rfl)) rfl ?_
 exact ⟨ew_, ue_ HB.out⟩

/-! ### laws_toAggS: function 32 -/
def laws_toAggS.l0 : Nat → List (S86) → List (S62) → Int → Option ((List (S62)))
 | 0, _, _, _ => none
 | k + 1, x0, x3, x4 => if x4 < (x0.length : Int) then (if 0 ≤ x4 then ((laws_toAgg.f ((rd_T86 x0 x4).f0) ((rd_T86 x0 x4).f1) ((rd_T86 x0 x4).f2) ((rd_T86 x0 x4).f3) ((rd_T86 x0 x4).f4) ((rd_T86 x0 x4).f5)).bind fun bt204 => (if x4 < (x3.length : Int) then (laws_toAggS.l0 k x0 (x3.set (x4 : Int).toNat (⟨bt204.1, bt204.2.1, bt204.2.2.1, bt204.2.2.2.1, bt204.2.2.2.2.1, bt204.2.2.2.2.2⟩ : S62)) (wrap64 (x4 + 1))) else (none))) else (none)) else (some x3)
def laws_toAggS.f (k : Nat) (l0 : List (S86)) : Option ((List (S62))) := if 0 ≤ (l0.length : Int) then (if ((l0.length : Int) : Int).toNat ≤ 5864062014805 then (laws_toAggS.l0 k l0 (List.replicate ((l0.length : Int) : Int).toNat z62) 0) else (none)) else (none)
theorem laws_toAggS.mono_l : ∀ k, (∀ y0 y1 y2, LeO (laws_toAggS.l0 k y0 y1 y2) (laws_toAggS.l0 (k + 1) y0 y1 y2))
 | 0 => fun _ _ _ r h => by simp [laws_toAggS.l0] at h
 | k + 1 => by
  have ih0 := laws_toAggS.mono_l k
  intro y0 y1 y2
  unfold laws_toAggS.l0
  repeat' first
  | (with_reducible exact ih0 _ _ _)
  | (with_reducible exact LeO.refl _)
  | (with_reducible exact LeO.none _)
  | (with_reducible refine LeO.ite ?_ ?_)
  | (with_reducible refine LeO.bind ?_ (fun _ => ?_))
  | exact ih0 _ _ _
  | exact LeO.none _
  | refine LeO.ite ?_ ?_
  | refine LeO.bind ?_ (fun _ => ?_)
theorem laws_toAggS.mono : ∀ a0 k, LeO (laws_toAggS.f k a0) (laws_toAggS.f (k + 1) a0) := by
 intro a0 k
 have ih0 := laws_toAggS.mono_l k
 unfold laws_toAggS.f
 repeat' first
   | (with_reducible exact ih0 _ _ _)
   | (with_reducible exact LeO.refl _)
   | (with_reducible exact LeO.none _)
   | (with_reducible refine LeO.ite ?_ ?_)
   | (with_reducible refine LeO.bind ?_ (fun _ => ?_))
   | exact ih0 _ _ _
   | exact LeO.none _
   | refine LeO.ite ?_ ?_
   | refine LeO.bind ?_ (fun _ => ?_)
set_option maxHeartbeats 8000000 in
set_option maxRecDepth 100000 in
theorem laws_toAggS.calls (k : Nat) (A0 : Option Addr) (c0 : Nat) (l0 : List (S86)) (r : List (S62)) (w : World) (hr0 : Kd.C k86 w A0 l0.length l0) (hc0 : l0.length ≤ c0) (h : laws_toAggS.f k l0 = some r) :
  Calls Try.prog 32 #[.slice A0 l0.length c0] w fun e w' => ∃ v0_ : Value, e = .returned (v0_) ∧ Kd.R k62 62 w' w.heap.size (fun _ => True) v0_ r ∧ Below w.heap.size w w' := by
 have hu86 := Try.underlying86
 have hu62 := Try.underlying62
 have HR0 := Aside0.mk hr0
 have HC0 := Aside0.mk hc0
 clear hr0 hc0
 have HB := am_ (Below.refl w.heap.size w)
 have H : (if 0 ≤ (l0.length : Int) then (if ((l0.length : Int) : Int).toNat ≤ 5864062014805 then (laws_toAggS.l0 k l0 (List.replicate ((l0.length : Int) : Int).toNat z62) 0) else (none)) else (none)) = some r := h
 clear h
 by_cases c2 : 0 ≤ (l0.length : Int)
 ·
  rw [if_pos c2] at H
  have c2b0 := eq_true c2
  have c2b1 : decide (0 ≤ (l0.length : Int)) = true := decide_eq_true c2
  clear c2
  by_cases c3 : ((l0.length : Int) : Int).toNat ≤ 5864062014805
  ·
   rw [if_pos c3] at H
   have c3b0 := eq_true c3
   have c3b1 : decide (((l0.length : Int) : Int).toNat ≤ 5864062014805) = true := decide_eq_true c3
   clear c3
   obtain ⟨y200, hy200⟩ : ∃ y_ : List (S62), y_ = (List.replicate ((l0.length : Int) : Int).toNat z62) := ⟨_, rfl⟩
   replace H : (laws_toAggS.l0 k l0 y200 0) = some r := by first | (rw [hy200]; with_reducible exact H) | (have H2_ := (Option.bind_some _ _).symm.trans H; rw [hy200]; with_reducible exact H2_) | (have H2_ := (Option.bind_some _ _).symm.trans H; with_reducible exact H2_) | with_reducible exact H | (rw [hy200]; exact H) | exact H
   have Ny200 := Aside0.mk hy200
   clear hy200
   have H' := Aside0.mk H
   clear H
   go_enter Try.func32, Try.ntmps32
   go_wp2_with (first | ((with_reducible refine gate_dst (N := 7) rfl ?_); refine Kd.R_make k62 _ 62 rfl (N := 7) rfl 28 _ _ rfl (l0.length : Int) rfl rfl Try.underlying28 (.agg #[(.int .i64 0), (.int .i64 0), (.int .i64 0), (.int .i64 0), (.int .i64 0), (.int .i64 0)]) 48 info62 rfl (by decide) (by omega) z62 (ok := fun _ => True) (okp := fun _ => True) (k62_mkM _ _ _ z62 ) (fun _ hk => hk) trivial (of_decide_eq_true ua_) (Nat.le_trans (Nat.mul_le_mul_right _ (of_decide_eq_true ua_ : (l0.length : Int).toNat ≤ 5864062014805)) (by omega)) (Below.refl _ _) (Nat.le_refl _) ?_; intro v201 w4 ho5 hb hg_ hnew_; clear hg_ hnew_; (first | rw [← Ny200.out] at ho5 | (simp only [Int.reduceToNat] at ho5; rw [← Ny200.out] at ho5)); have HO202 := am_ (Kd.R_lower ho5 (below_size (ue_ HB.out))); replace HB := hs_ HB hb; clear hb ho5))
   (try simp only [Act.put, List.setIfInBounds_toArray, List.set_cons_zero, List.set_cons_succ])
   go_loopg [4] k (fun kq v4 w' => ∃ (x3_1 : List (S62)) (x4_1 : Int), v4 = .int .i64 x4_1 ∧ Aside0 (laws_toAggS.l0 kq l0 x3_1 x4_1 = some r) ∧ Aside0 (kq ≤ k) ∧ Aside0 (Kd.R k62 62 w' w.heap.size (fun _ => True) v201 x3_1) ∧ Aside0 (Below w.heap.size w w'))
   case atStart => exact ⟨(y200), (0), (by first | rfl | (simp; done) | (simp [*]; done)), H', ⟨Nat.le_refl _⟩, ⟨by (with_reducible repeat (first | apply Kd.R_alloc | apply Kd.R_drewN | apply Kd.R_drew)); exact HO202.out⟩, ⟨ue_ HB.out⟩⟩
   case round =>
    clear H'
    try clear c2
    try clear c2b0
    try clear c2b1
    try clear p2
    try clear c3
    try clear c3b0
    try clear c3b1
    obtain ⟨x3_1, x4_1, rfl, HA, HK1, HO_3, HB⟩ := hrel
    cases gk with
    | zero => exact absurd HA.out (by simp [laws_toAggS.l0])
    | succ k1 =>
     have H := HA.out
     clear HA
     simp only [laws_toAggS.l0] at H
     by_cases c6 : x4_1 < (l0.length : Int)
     ·
      rw [if_pos c6] at H
      have c6b0 : decide (x4_1 < (l0.length : Int)) = true := decide_eq_true c6
      clear c6
      by_cases c7 : 0 ≤ x4_1
      ·
       rw [if_pos c7] at H
       have c7b0 : decide (0 ≤ x4_1) = true := decide_eq_true c7
       clear c7
       replace H := Option.bind_eq_some_iff.mp H
       obtain ⟨⟨t204, t205, t206, t207, t208, t209⟩, A80, H⟩ := H
       replace H : (if x4_1 < (x3_1.length : Int) then (laws_toAggS.l0 k1 l0 (x3_1.set (x4_1 : Int).toNat (⟨t204, t205, t206, t207, t208, t209⟩ : S62)) (wrap64 (x4_1 + 1))) else (none)) = some r := H
       have A8 := Aside0.mk A80
       clear A80
       by_cases c9 : x4_1 < (x3_1.length : Int)
       ·
        rw [if_pos c9] at H
        have c9b0 : decide (x4_1 < (x3_1.length : Int)) = true := decide_eq_true c9
        clear c9
        obtain ⟨y210, hy210⟩ : ∃ y_ : List (S62), y_ = (x3_1.set (x4_1 : Int).toNat (⟨t204, t205, t206, t207, t208, t209⟩ : S62)) := ⟨_, rfl⟩
        replace H : (laws_toAggS.l0 k1 l0 y210 (wrap64 (x4_1 + 1))) = some r := by first | (rw [hy210]; with_reducible exact H) | (have H2_ := (Option.bind_some _ _).symm.trans H; rw [hy210]; with_reducible exact H2_) | (have H2_ := (Option.bind_some _ _).symm.trans H; with_reducible exact H2_) | with_reducible exact H | (rw [hy210]; exact H) | exact H
        have Ny210 := Aside0.mk hy210
        clear hy210
        have H' := Aside0.mk H
        clear H
        have p203 : 0 ≤ (x4_1 : Int) := of_decide_eq_true ua_
        have q203 : x4_1 < (l0.length : Int) := of_decide_eq_true ua_
        obtain ⟨ad203, e203, hx203_0, hx203_1, hx203_2, hx203_3, hx203_4, hx203_5⟩ := at_T86 HR0.out x4_1 p203 q203
        cases e203
        replace hx203_0 := bc_ HB.out hx203_0
        replace hx203_1 := bc_ HB.out hx203_1
        replace hx203_2 := bc_ HB.out hx203_2
        replace hx203_3 := bc_ HB.out hx203_3
        replace hx203_4 := bc_ HB.out hx203_4
        replace hx203_5 := bc_ HB.out hx203_5
        replace p203 := eq_true p203
        replace q203 := eq_true q203
        go_wp2_with (first | ((with_reducible refine gate_callee (f := 61) rfl ?_); refine goesL_ (some 20) rfl rfl Try.func61 (by kernel_rfl) rfl #[.agg #[.int .i64 ((rd_T86 l0 x4_1).f0), .int .i64 ((rd_T86 l0 x4_1).f1), .int .i64 ((rd_T86 l0 x4_1).f2), .int .i64 ((rd_T86 l0 x4_1).f3), .int .i64 ((rd_T86 l0 x4_1).f4), .int .i64 ((rd_T86 l0 x4_1).f5)]] rfl ul_ ?_; (with_reducible refine (laws_toAgg.calls ((rd_T86 l0 x4_1).f0) ((rd_T86 l0 x4_1).f1) ((rd_T86 l0 x4_1).f2) ((rd_T86 l0 x4_1).f3) ((rd_T86 l0 x4_1).f4) ((rd_T86 l0 x4_1).f5) t204 t205 t206 t207 t208 t209 _ A8.out).mono ?_); rintro e w11 ⟨rfl, hb⟩; refine ⟨_, rfl, ?_⟩; replace HO_3 := am_ (Kd.R_below (ur_ HO_3.out) hb); replace HB := hs_ HB hb; (try clear hb); (try clear hb2); (try clear hk); (try clear hi); have p10 : 0 ≤ (x4_1 : Int) := of_decide_eq_true ua_; have q10 : (x4_1 : Int) < ((x3_1.length : Int) : Int) := of_decide_eq_true ua_; obtain ⟨go10, co10, eo10, gb10, gl10, cl10, HG10⟩ := Kd.R_form HO_3.out (by omega); (first | cases eo10 | (injection eo10 with ea_ en_ ec_; (first | subst ea_ | (injection ea_ with ea_; subst ea_)); subst ec_; clear en_)); have GB10 := Aside0.mk gb10; have GG10 := Aside0.mk HG10; clear gb10 gl10 HG10; obtain ⟨ce10, hcl10, hM10, hcc10, hfr10⟩ := Kd.R_elem HO_3.out z62 (x4_1 : Int) p10 q10; obtain rfl := k62_openM hM10; have hx10_0 : w11.cell? ⟨go10, (x4_1 : Int).toNat * 6, none⟩ = some (.int .i64 ((rd_T62 x3_1 x4_1).f0)) := hcc10 0 _ rfl; have hx10_1 : w11.cell? ⟨go10, (x4_1 : Int).toNat * 6 + 1, none⟩ = some (.int .i64 ((rd_T62 x3_1 x4_1).f1)) := hcc10 1 _ rfl; have hx10_2 : w11.cell? ⟨go10, (x4_1 : Int).toNat * 6 + 2, none⟩ = some (.int .i64 ((rd_T62 x3_1 x4_1).f2)) := hcc10 2 _ rfl; have hx10_3 : w11.cell? ⟨go10, (x4_1 : Int).toNat * 6 + 3, none⟩ = some (.int .i64 ((rd_T62 x3_1 x4_1).f3)) := hcc10 3 _ rfl; have hx10_4 : w11.cell? ⟨go10, (x4_1 : Int).toNat * 6 + 4, none⟩ = some (.int .i64 ((rd_T62 x3_1 x4_1).f4)) := hcc10 4 _ rfl; have hx10_5 : w11.cell? ⟨go10, (x4_1 : Int).toNat * 6 + 5, none⟩ = some (.int .i64 ((rd_T62 x3_1 x4_1).f5)) := hcc10 5 _ rfl; have hf10_0 : w11.frozen? ⟨go10, (x4_1 : Int).toNat * 6, none⟩ = false := hfr10 0; have hf10_1 : w11.frozen? ⟨go10, (x4_1 : Int).toNat * 6 + 1, none⟩ = false := hfr10 1; have hf10_2 : w11.frozen? ⟨go10, (x4_1 : Int).toNat * 6 + 2, none⟩ = false := hfr10 2; have hf10_3 : w11.frozen? ⟨go10, (x4_1 : Int).toNat * 6 + 3, none⟩ = false := hfr10 3; have hf10_4 : w11.frozen? ⟨go10, (x4_1 : Int).toNat * 6 + 4, none⟩ = false := hfr10 4; have hf10_5 : w11.frozen? ⟨go10, (x4_1 : Int).toNat * 6 + 5, none⟩ = false := hfr10 5; clear hcl10 hcc10 hfr10 hM10; replace p10 := eq_true p10; replace q10 := eq_true q10; have HX12 := am_ (show Kd.R k62 62 w11 w.heap.size (fun _ => True) (.slice (some ⟨go10, 0, none⟩) x3_1.length co10) x3_1 from (ur_ HO_3.out)); obtain ⟨ce12, hcl12, hM12, hcc12, hfr12⟩ := Kd.R_elem HX12.out z62 (x4_1 : Int) (of_decide_eq_true ua_) (by have h_ : (x4_1 : Int) < ((x3_1.length : Int) : Int) := of_decide_eq_true ua_; first | exact h_ | (have e_ := (Kd.R_reads' HO_3.out).1; omega) | simpa using h_); obtain rfl := k62_openM hM12; have HP12 := Kd.R_seg HX12.out (x4_1 : Int) (of_decide_eq_true ua_) (by have h_ : (x4_1 : Int) < ((x3_1.length : Int) : Int) := of_decide_eq_true ua_; first | exact h_ | (have e_ := (Kd.R_reads' HO_3.out).1; omega) | simpa using h_) (seg := [.int .i64 t204, .int .i64 t205, .int .i64 t206, .int .i64 t207, .int .i64 t208, .int .i64 t209]) (j := 0) hcl12 hcc12 (show 6 ≤ 6 from by decide) (x' := (⟨t204, t205, t206, t207, t208, t209⟩ : S62)) (k62_mkM _ _ _ (⟨t204, t205, t206, t207, t208, t209⟩ : S62) ) (fun _ hk => hk); have hx12_0 := hcc12 0 _ rfl; (try simp only [show (k62).sz = 6 from rfl, Nat.mul_one, Nat.add_zero] at hx12_0); have hf12_0 := hfr12 0; (try simp only [show (k62).sz = 6 from rfl, Nat.mul_one, Nat.add_zero] at hf12_0); have hx12_1 := hcc12 1 _ rfl; (try simp only [show (k62).sz = 6 from rfl, Nat.mul_one, Nat.add_zero] at hx12_1); have hf12_1 := hfr12 1; (try simp only [show (k62).sz = 6 from rfl, Nat.mul_one, Nat.add_zero] at hf12_1); have hx12_2 := hcc12 2 _ rfl; (try simp only [show (k62).sz = 6 from rfl, Nat.mul_one, Nat.add_zero] at hx12_2); have hf12_2 := hfr12 2; (try simp only [show (k62).sz = 6 from rfl, Nat.mul_one, Nat.add_zero] at hf12_2); have hx12_3 := hcc12 3 _ rfl; (try simp only [show (k62).sz = 6 from rfl, Nat.mul_one, Nat.add_zero] at hx12_3); have hf12_3 := hfr12 3; (try simp only [show (k62).sz = 6 from rfl, Nat.mul_one, Nat.add_zero] at hf12_3); have hx12_4 := hcc12 4 _ rfl; (try simp only [show (k62).sz = 6 from rfl, Nat.mul_one, Nat.add_zero] at hx12_4); have hf12_4 := hfr12 4; (try simp only [show (k62).sz = 6 from rfl, Nat.mul_one, Nat.add_zero] at hf12_4); have hx12_5 := hcc12 5 _ rfl; (try simp only [show (k62).sz = 6 from rfl, Nat.mul_one, Nat.add_zero] at hx12_5); have hf12_5 := hfr12 5; (try simp only [show (k62).sz = 6 from rfl, Nat.mul_one, Nat.add_zero] at hf12_5); clear hcl12 hcc12 hfr12 hM12) | ((with_reducible refine gate_store (t := 62) (p := 21) rfl ?_); refine st_ (w1 := ((((((w11.setCell ⟨go10, (x4_1 : Int).toNat * 6, none⟩ (.int .i64 t204)).setCell ⟨go10, (x4_1 : Int).toNat * 6 + 1, none⟩ (.int .i64 t205)).setCell ⟨go10, (x4_1 : Int).toNat * 6 + 2, none⟩ (.int .i64 t206)).setCell ⟨go10, (x4_1 : Int).toNat * 6 + 3, none⟩ (.int .i64 t207)).setCell ⟨go10, (x4_1 : Int).toNat * 6 + 4, none⟩ (.int .i64 t208)).setCell ⟨go10, (x4_1 : Int).toNat * 6 + 5, none⟩ (.int .i64 t209))) ?_; intro w13 hw; have hg : w11.grownBy w13 (some go10) := (by rw [hw]; exact HP12.2); have hp_ : Kd.R k62 62 w13 w.heap.size (fun _ => True) (.slice (some ⟨go10, 0, none⟩) x3_1.length co10) y210 := (by rw [hw, Ny210.out]; exact HP12.1); clear HP12; replace HO_3 := am_ (hp_); replace HB := am_ ((by rw [hw]; exact below_set (below_set (below_set (below_set (below_set (below_set (HB.out) GB10.out) GB10.out) GB10.out) GB10.out) GB10.out) GB10.out : Below w.heap.size w w13)); clear hg hw hp_))
        go_roundg k1
        case measure => have := HK1.out; omega
        case rel => exact ⟨(y210), (wrap64 (x4_1 + 1)), (by first | rfl | (simp; done) | (simp [*]; done)), H', ⟨by have := HK1.out; omega⟩, ⟨by (with_reducible repeat (first | apply Kd.R_alloc | apply Kd.R_drewN | apply Kd.R_drew)); exact HO_3.out⟩, ⟨ue_ HB.out⟩⟩
       rw [if_neg c9] at H
       exact absurd H (by simp)
      rw [if_neg c7] at H
      exact absurd H (by simp)
     rw [if_neg c6] at H
     have c6b0 : decide (x4_1 < (l0.length : Int)) = false := decide_eq_false c6
     clear c6
     obtain rfl := Option.some.inj H
     go_wp2
     go_ret
     exact ⟨_, ew_, by (with_reducible repeat (first | apply Kd.R_alloc | apply Kd.R_drewN | apply Kd.R_drew)); exact HO_3.out, ue_ HB.out⟩
  rw [if_neg c3] at H
  exact absurd H (by simp)
 rw [if_neg c2] at H
 exact absurd H (by simp)

/-! ### laws_toShard: function 7 -/
def laws_toShard.f (k : Nat) (l0_0 : List (S86)) (a0_1 : Int) (a0_2 : Int) (a0_3 : Int) : Option ((List (S62)) × Int × Int × Int) := (laws_toAggS.f k l0_0).bind fun t214 => (some (t214, a0_1, a0_2, a0_3))
theorem laws_toShard.mono : ∀ a0 a1 a2 a3 k, LeO (laws_toShard.f k a0 a1 a2 a3) (laws_toShard.f (k + 1) a0 a1 a2 a3) := by
 intro a0 a1 a2 a3 k
 unfold laws_toShard.f
 repeat' first
   | (with_reducible exact laws_toAggS.mono _ _)
   | (with_reducible exact LeO.refl _)
   | (with_reducible exact LeO.none _)
   | (with_reducible refine LeO.ite ?_ ?_)
   | (with_reducible refine LeO.bind ?_ (fun _ => ?_))
   | exact laws_toAggS.mono _ _
   | exact LeO.none _
   | refine LeO.ite ?_ ?_
   | refine LeO.bind ?_ (fun _ => ?_)
set_option maxHeartbeats 8000000 in
set_option maxRecDepth 100000 in
theorem laws_toShard.calls (k : Nat) (A0_0 : Option Addr) (c0_0 : Nat) (l0_0 : List (S86)) (a0_1 : Int) (a0_2 : Int) (a0_3 : Int) (r1 : List (S62)) (r2 : Int) (r3 : Int) (r4 : Int) (w : World) (hr0_0 : Kd.C k86 w A0_0 l0_0.length l0_0) (hc0_0 : l0_0.length ≤ c0_0) (h : laws_toShard.f k l0_0 a0_1 a0_2 a0_3 = some (r1, r2, r3, r4)) :
  Calls Try.prog 7 #[.agg #[.slice A0_0 l0_0.length c0_0, .int .i64 a0_1, .int .i64 a0_2, .int .i64 a0_3]] w fun e w' => ∃ v0_ : Value, e = .returned (.agg #[v0_, .int .i64 r2, .int .i64 r3, .int .i64 r4]) ∧ Kd.R k62 62 w' w.heap.size (fun _ => True) v0_ r1 ∧ Below w.heap.size w w' := by
 have hu24 := Try.underlying24
 have hu30 := Try.underlying30
 have HR0_0 := Aside0.mk hr0_0
 have HC0_0 := Aside0.mk hc0_0
 clear hr0_0 hc0_0
 have HB := am_ (Below.refl w.heap.size w)
 have H : ((laws_toAggS.f k l0_0).bind fun t214 => (some (t214, a0_1, a0_2, a0_3))) = some (r1, r2, r3, r4) := h
 clear h
 replace H := Option.bind_eq_some_iff.mp H
 obtain ⟨t214, A20, H⟩ := H
 replace H : (some (t214, a0_1, a0_2, a0_3)) = some (r1, r2, r3, r4) := H
 have A2 := Aside0.mk A20
 clear A20
 simp only [Option.some.injEq, Prod.mk.injEq] at H
 obtain ⟨rfl, rfl, rfl, rfl⟩ := H
 go_enter Try.func7, Try.ntmps7
 go_wp2_with (first | ((with_reducible refine gate_dst (N := 1) rfl ?_); refine bx_ (N := 1) (cs := #[.slice A0_0 l0_0.length c0_0, .int .i64 a0_1, .int .i64 a0_2, .int .i64 a0_3]) (t := 24) ?_; intro gb211 hg w3 hbox hb; have BK211 := am_ (hbox); have GW211 := gs_ hg HB.out; have GE211 := gs_ hg HB.out; replace HB := hs_ HB hb; clear hb hbox hg) | ((with_reducible refine gate_dst (N := 2) rfl ?_); refine bx_ (N := 2) (cs := #[.slice none 0 0, .int .i64 0, .int .i64 0, .int .i64 0]) (t := 30) ?_; intro gb212 hg w4 hbox hb; have BK212 := am_ (hbox); have GW212 := gs_ hg HB.out; have GE212 := gs_ hg HB.out; replace HB := hs_ HB hb; have NB211_212 := nl_ hg BK211.out; have NB212_211 := ng_ hg BK211.out; replace BK211 := bs_ BK211 hb; clear hb hbox hg) | ((with_reducible refine gate_dst (N := 3) rfl ?_); refine bx_ (N := 3) (cs := #[.slice none 0 0, .int .i64 0, .int .i64 0, .int .i64 0]) (t := 30) ?_; intro gb213 hg w5 hbox hb; have BK213 := am_ (hbox); have GW213 := gs_ hg HB.out; have GE213 := gs_ hg HB.out; replace HB := hs_ HB hb; have NB211_213 := nl_ hg BK211.out; have NB213_211 := ng_ hg BK211.out; replace BK211 := bs_ BK211 hb; have NB212_213 := nl_ hg BK212.out; have NB213_212 := ng_ hg BK212.out; replace BK212 := bs_ BK212 hb; clear hb hbox hg; have hnb6 := NB211_212.out; have hnc6 := NB212_211.out; have hnb7 := NB211_213.out; have hnc7 := NB213_211.out; obtain ⟨hcz8_0, hcz8_1, hcz8_2, hcz8_3⟩ := cb4_ BK211.out; obtain ⟨hfz8_0, hfz8_1, hfz8_2⟩ := bf3_ BK211.out; have hfz8_3 := blk_frozen BK211.out 3) | ((with_reducible refine gate_callee (f := 32) rfl ?_); refine goesL_ (some 6) rfl rfl Try.func32 (by kernel_rfl) rfl #[.slice A0_0 l0_0.length c0_0] rfl ul_ ?_; (with_reducible refine (laws_toAggS.calls k _ _ l0_0 t214 _ ?side1 ?side2 A2.out).mono ?_); (case side1 => repeat (first | exact (Kd.C_below HR0_0.out HB.out) | (with_reducible refine Kd.C_alloc ?_ _) | (with_reducible refine Kd.C_drewN ?_ _) | (with_reducible refine Kd.C_drew ?_))); (case side2 => exact HC0_0.out); rintro e w9 ⟨v215, rfl, ho0, hb⟩; refine ⟨_, rfl, ?_⟩; have HO216 := am_ (Kd.R_lower ho0 (below_size (ue_ HB.out))); replace BK211 := bs_ BK211 hb; replace BK212 := bs_ BK212 hb; replace BK213 := bs_ BK213 hb; replace HB := hs_ HB hb; (try clear hb); (try clear hb2); (try clear hk); (try clear hi); (try clear ho0); obtain ⟨Ao10, co10, eo10⟩ := Kd.R_slice HO216.out; subst eo10; have hnb11 := NB213_212.out; have hnc11 := NB212_213.out; obtain ⟨hcz12_0, hcz12_1, hcz12_2, hcz12_3⟩ := cb4_ BK213.out; obtain ⟨hfz12_0, hfz12_1, hfz12_2⟩ := bf3_ BK213.out; have hfz12_3 := blk_frozen BK213.out 3) | ((with_reducible refine gate_store (t := 28) (p := 7) rfl ?_); refine st_ (w1 := (w9.setCell ⟨gb213, 0, none⟩ (.slice Ao10 t214.length co10))) ?_; intro w13 hw; replace HO216 : Aside0 (Kd.R k62 62 w13 w.heap.size (fun _ => True) (.slice Ao10 t214.length co10) t214) := ⟨(by rw [hw]; exact (by (with_reducible repeat (first | apply Kd.R_alloc | apply Kd.R_drewN | apply Kd.R_drew)); exact Kd.R_mono (Kd.R_far (p := ⟨gb213, 0, none⟩) (Kd.R_types HO216.out BK213.out (by decide)) h2_ (.slice Ao10 t214.length co10)) (fun _ hk => trivial)))⟩; replace BK211 := uk_ hw BK211.out; replace BK212 := uk_ hw BK212.out; replace BK213 : Aside0 (w13.heap[gb213]? = some (.cells #[.slice Ao10 t214.length co10, .int .i64 0, .int .i64 0, .int .i64 0] 30 (0, 0))) := ⟨(by rw [hw]; exact (by (with_reducible repeat first|apply bn_|apply bd_|apply ba_); refine blk_put (cs := #[.slice none 0 0, .int .i64 0, .int .i64 0, .int .i64 0]) ?_ 0 _ rfl; (with_reducible repeat first|apply bn_|apply bd_|apply ba_); exact BK213.out))⟩; replace HB := uh_ hw HB.out; clear hw; obtain ⟨hcz14_0, hcz14_1, hcz14_2, hcz14_3⟩ := cb4_ BK211.out; obtain ⟨hfz14_0, hfz14_1, hfz14_2, hfz14_3⟩ := bf4_ BK211.out; obtain ⟨hcz15_0, hcz15_1, hcz15_2, hcz15_3⟩ := cb4_ BK213.out; obtain ⟨hfz15_0, hfz15_1, hfz15_2⟩ := bf3_ BK213.out; have hfz15_3 := blk_frozen BK213.out 3) | ((with_reducible refine gate_store (t := 3) (p := 10) rfl ?_); refine st_ (w1 := (w13.setCell ⟨gb213, 1, none⟩ (.int .i64 a0_1))) ?_; intro w16 hw; replace HO216 : Aside0 (Kd.R k62 62 w16 w.heap.size (fun _ => True) (.slice Ao10 t214.length co10) t214) := ⟨(by rw [hw]; exact (by (with_reducible repeat (first | apply Kd.R_alloc | apply Kd.R_drewN | apply Kd.R_drew)); exact Kd.R_mono (Kd.R_far (p := ⟨gb213, 1, none⟩) (Kd.R_types HO216.out BK213.out (by decide)) h2_ (.int .i64 a0_1)) (fun _ hk => trivial)))⟩; replace BK211 := uk_ hw BK211.out; replace BK212 := uk_ hw BK212.out; replace BK213 : Aside0 (w16.heap[gb213]? = some (.cells #[.slice Ao10 t214.length co10, .int .i64 a0_1, .int .i64 0, .int .i64 0] 30 (0, 0))) := ⟨(by rw [hw]; exact (by (with_reducible repeat first|apply bn_|apply bd_|apply ba_); refine blk_put (cs := #[.slice Ao10 t214.length co10, .int .i64 0, .int .i64 0, .int .i64 0]) ?_ 1 _ rfl; (with_reducible repeat first|apply bn_|apply bd_|apply ba_); exact BK213.out))⟩; replace HB := uh_ hw HB.out; clear hw; obtain ⟨hcz17_0, hcz17_1, hcz17_2, hcz17_3⟩ := cb4_ BK211.out; obtain ⟨hfz17_0, hfz17_1, hfz17_2, hfz17_3⟩ := bf4_ BK211.out; obtain ⟨hcz18_0, hcz18_1, hcz18_2, hcz18_3⟩ := cb4_ BK213.out; obtain ⟨hfz18_0, hfz18_1, hfz18_2⟩ := bf3_ BK213.out; have hfz18_3 := blk_frozen BK213.out 3) | ((with_reducible refine gate_store (t := 3) (p := 13) rfl ?_); refine st_ (w1 := (w16.setCell ⟨gb213, 2, none⟩ (.int .i64 a0_2))) ?_; intro w19 hw; replace HO216 : Aside0 (Kd.R k62 62 w19 w.heap.size (fun _ => True) (.slice Ao10 t214.length co10) t214) := ⟨(by rw [hw]; exact (by (with_reducible repeat (first | apply Kd.R_alloc | apply Kd.R_drewN | apply Kd.R_drew)); exact Kd.R_mono (Kd.R_far (p := ⟨gb213, 2, none⟩) (Kd.R_types HO216.out BK213.out (by decide)) h2_ (.int .i64 a0_2)) (fun _ hk => trivial)))⟩; replace BK211 := uk_ hw BK211.out; replace BK212 := uk_ hw BK212.out; replace BK213 : Aside0 (w19.heap[gb213]? = some (.cells #[.slice Ao10 t214.length co10, .int .i64 a0_1, .int .i64 a0_2, .int .i64 0] 30 (0, 0))) := ⟨(by rw [hw]; exact (by (with_reducible repeat first|apply bn_|apply bd_|apply ba_); refine blk_put (cs := #[.slice Ao10 t214.length co10, .int .i64 a0_1, .int .i64 0, .int .i64 0]) ?_ 2 _ rfl; (with_reducible repeat first|apply bn_|apply bd_|apply ba_); exact BK213.out))⟩; replace HB := uh_ hw HB.out; clear hw; obtain ⟨hcz20_0, hcz20_1, hcz20_2, hcz20_3⟩ := cb4_ BK211.out; obtain ⟨hfz20_0, hfz20_1, hfz20_2, hfz20_3⟩ := bf4_ BK211.out; obtain ⟨hcz21_0, hcz21_1, hcz21_2, hcz21_3⟩ := cb4_ BK213.out; obtain ⟨hfz21_0, hfz21_1, hfz21_2⟩ := bf3_ BK213.out; have hfz21_3 := blk_frozen BK213.out 3) | ((with_reducible refine gate_store (t := 3) (p := 16) rfl ?_); refine st_ (w1 := (w19.setCell ⟨gb213, 3, none⟩ (.int .i64 a0_3))) ?_; intro w22 hw; replace HO216 : Aside0 (Kd.R k62 62 w22 w.heap.size (fun _ => True) (.slice Ao10 t214.length co10) t214) := ⟨(by rw [hw]; exact (by (with_reducible repeat (first | apply Kd.R_alloc | apply Kd.R_drewN | apply Kd.R_drew)); exact Kd.R_mono (Kd.R_far (p := ⟨gb213, 3, none⟩) (Kd.R_types HO216.out BK213.out (by decide)) h2_ (.int .i64 a0_3)) (fun _ hk => trivial)))⟩; replace BK211 := uk_ hw BK211.out; replace BK212 := uk_ hw BK212.out; replace BK213 : Aside0 (w22.heap[gb213]? = some (.cells #[.slice Ao10 t214.length co10, .int .i64 a0_1, .int .i64 a0_2, .int .i64 a0_3] 30 (0, 0))) := ⟨(by rw [hw]; exact (by (with_reducible repeat first|apply bn_|apply bd_|apply ba_); refine blk_put (cs := #[.slice Ao10 t214.length co10, .int .i64 a0_1, .int .i64 a0_2, .int .i64 0]) ?_ 3 _ rfl; (with_reducible repeat first|apply bn_|apply bd_|apply ba_); exact BK213.out))⟩; replace HB := uh_ hw HB.out; clear hw; obtain ⟨hcz23_0, hcz23_1, hcz23_2, hcz23_3⟩ := cb4_ BK213.out; obtain ⟨hfz23_0, hfz23_1, hfz23_2, hfz23_3⟩ := bf4_ BK213.out; obtain ⟨hcz24_0, hcz24_1, hcz24_2, hcz24_3⟩ := cb4_ BK212.out; obtain ⟨hfz24_0, hfz24_1, hfz24_2⟩ := bf3_ BK212.out; have hfz24_3 := blk_frozen BK212.out 3) | ((with_reducible refine gate_store (t := 30) (p := 2) rfl ?_); refine st_ (w1 := ((((w22.setCell ⟨gb212, 0, none⟩ (.slice Ao10 t214.length co10)).setCell ⟨gb212, 1, none⟩ (.int .i64 a0_1)).setCell ⟨gb212, 2, none⟩ (.int .i64 a0_2)).setCell ⟨gb212, 3, none⟩ (.int .i64 a0_3))) ?_; intro w25 hw; replace HO216 : Aside0 (Kd.R k62 62 w25 w.heap.size (fun _ => True) (.slice Ao10 t214.length co10) t214) := ⟨(by rw [hw]; exact (by (with_reducible repeat (first | apply Kd.R_alloc | apply Kd.R_drewN | apply Kd.R_drew)); exact Kd.R_mono (Rf4_ (g := gb212) (Kd.R_types HO216.out BK212.out (by decide))) (fun _ hk => trivial)))⟩; replace BK211 := uk_ hw BK211.out; replace BK212 : Aside0 (w25.heap[gb212]? = some (.cells #[.slice Ao10 t214.length co10, .int .i64 a0_1, .int .i64 a0_2, .int .i64 a0_3] 30 (0, 0))) := ⟨(by rw [hw]; exact (by (with_reducible repeat first|apply bn_|apply bd_|apply ba_); apply bp4_; (with_reducible repeat first|apply bn_|apply bd_|apply ba_); exact BK212.out))⟩; replace BK213 := uk_ hw BK213.out; replace HB := uh_ hw HB.out; clear hw))
 refine bodyPost_ret (results_cell_row rfl _ _ gb212 30 #[.slice Ao10 t214.length co10, .int .i64 a0_1, .int .i64 a0_2, .int .i64 a0_3] (0, 0) _ rfl (ub_ BK212.out) Try.underlying30 rfl (by kernel_rfl)) rfl ?_
 exact ⟨_, ew_, by (with_reducible repeat (first | apply Kd.R_alloc | apply Kd.R_drewN | apply Kd.R_drew)); exact HO216.out, ue_ HB.out⟩

/-! ### laws_toFrame: function 8 -/
def laws_toFrame.f (a0_0 : Int) (a0_1 : Int) (a0_2 : Int) (a0_3 : Int) : Option (Int × Int × Int × Int) := some (a0_0, a0_1, a0_2, a0_3)
set_option maxHeartbeats 8000000 in
set_option maxRecDepth 100000 in
theorem laws_toFrame.calls (a0_0 : Int) (a0_1 : Int) (a0_2 : Int) (a0_3 : Int) (r1 : Int) (r2 : Int) (r3 : Int) (r4 : Int) (w : World) (h : laws_toFrame.f a0_0 a0_1 a0_2 a0_3 = some (r1, r2, r3, r4)) :
  Calls Try.prog 8 #[.agg #[.int .i64 a0_0, .int .i64 a0_1, .int .i64 a0_2, .int .i64 a0_3]] w fun e w' => e = .returned (.agg #[.int .i64 r1, .int .i64 r2, .int .i64 r3, .int .i64 r4]) ∧ Below w.heap.size w w' := by
 have hu26 := Try.underlying26
 have hu34 := Try.underlying34
 have HB := am_ (Below.refl w.heap.size w)
 have H : (some (a0_0, a0_1, a0_2, a0_3)) = some (r1, r2, r3, r4) := h
 clear h
 simp only [Option.some.injEq, Prod.mk.injEq] at H
 obtain ⟨rfl, rfl, rfl, rfl⟩ := H
 go_enter Try.func8, Try.ntmps8
 go_wp2_with (first | ((with_reducible refine gate_dst (N := 1) rfl ?_); refine bx_ (N := 1) (cs := #[.int .i64 a0_0, .int .i64 a0_1, .int .i64 a0_2, .int .i64 a0_3]) (t := 26) ?_; intro gb217 hg w2 hbox hb; have BK217 := am_ (hbox); have GW217 := gs_ hg HB.out; have GE217 := gs_ hg HB.out; replace HB := hs_ HB hb; clear hb hbox hg) | ((with_reducible refine gate_dst (N := 2) rfl ?_); refine bx_ (N := 2) (cs := #[.int .i64 0, .int .i64 0, .int .i64 0, .int .i64 0]) (t := 34) ?_; intro gb218 hg w3 hbox hb; have BK218 := am_ (hbox); have GW218 := gs_ hg HB.out; have GE218 := gs_ hg HB.out; replace HB := hs_ HB hb; have NB217_218 := nl_ hg BK217.out; have NB218_217 := ng_ hg BK217.out; replace BK217 := bs_ BK217 hb; clear hb hbox hg) | ((with_reducible refine gate_dst (N := 3) rfl ?_); refine bx_ (N := 3) (cs := #[.int .i64 0, .int .i64 0, .int .i64 0, .int .i64 0]) (t := 34) ?_; intro gb219 hg w4 hbox hb; have BK219 := am_ (hbox); have GW219 := gs_ hg HB.out; have GE219 := gs_ hg HB.out; replace HB := hs_ HB hb; have NB217_219 := nl_ hg BK217.out; have NB219_217 := ng_ hg BK217.out; replace BK217 := bs_ BK217 hb; have NB218_219 := nl_ hg BK218.out; have NB219_218 := ng_ hg BK218.out; replace BK218 := bs_ BK218 hb; clear hb hbox hg; have hnb5 := NB217_218.out; have hnc5 := NB218_217.out; have hnb6 := NB217_219.out; have hnc6 := NB219_217.out; obtain ⟨hcz7_0, hcz7_1, hcz7_2, hcz7_3⟩ := cb4_ BK217.out; obtain ⟨hfz7_0, hfz7_1, hfz7_2, hfz7_3⟩ := bf4_ BK217.out; have hnb8 := NB219_218.out; have hnc8 := NB218_219.out; obtain ⟨hcz9_0, hcz9_1, hcz9_2, hcz9_3⟩ := cb4_ BK219.out; obtain ⟨hfz9_0, hfz9_1, hfz9_2⟩ := bf3_ BK219.out; have hfz9_3 := blk_frozen BK219.out 3) | ((with_reducible refine gate_store (t := 3) (p := 6) rfl ?_); refine st_ (w1 := (w4.setCell ⟨gb219, 0, none⟩ (.int .i64 a0_0))) ?_; intro w10 hw; replace BK217 := uk_ hw BK217.out; replace BK218 := uk_ hw BK218.out; replace BK219 : Aside0 (w10.heap[gb219]? = some (.cells #[.int .i64 a0_0, .int .i64 0, .int .i64 0, .int .i64 0] 34 (0, 0))) := ⟨(by rw [hw]; exact (by (with_reducible repeat first|apply bn_|apply bd_|apply ba_); refine blk_put (cs := #[.int .i64 0, .int .i64 0, .int .i64 0, .int .i64 0]) ?_ 0 _ rfl; (with_reducible repeat first|apply bn_|apply bd_|apply ba_); exact BK219.out))⟩; replace HB := uh_ hw HB.out; clear hw; obtain ⟨hcz11_0, hcz11_1, hcz11_2, hcz11_3⟩ := cb4_ BK217.out; obtain ⟨hfz11_0, hfz11_1, hfz11_2, hfz11_3⟩ := bf4_ BK217.out; obtain ⟨hcz12_0, hcz12_1, hcz12_2, hcz12_3⟩ := cb4_ BK219.out; obtain ⟨hfz12_0, hfz12_1, hfz12_2⟩ := bf3_ BK219.out; have hfz12_3 := blk_frozen BK219.out 3) | ((with_reducible refine gate_store (t := 3) (p := 9) rfl ?_); refine st_ (w1 := (w10.setCell ⟨gb219, 1, none⟩ (.int .i64 a0_1))) ?_; intro w13 hw; replace BK217 := uk_ hw BK217.out; replace BK218 := uk_ hw BK218.out; replace BK219 : Aside0 (w13.heap[gb219]? = some (.cells #[.int .i64 a0_0, .int .i64 a0_1, .int .i64 0, .int .i64 0] 34 (0, 0))) := ⟨(by rw [hw]; exact (by (with_reducible repeat first|apply bn_|apply bd_|apply ba_); refine blk_put (cs := #[.int .i64 a0_0, .int .i64 0, .int .i64 0, .int .i64 0]) ?_ 1 _ rfl; (with_reducible repeat first|apply bn_|apply bd_|apply ba_); exact BK219.out))⟩; replace HB := uh_ hw HB.out; clear hw; obtain ⟨hcz14_0, hcz14_1, hcz14_2, hcz14_3⟩ := cb4_ BK217.out; obtain ⟨hfz14_0, hfz14_1, hfz14_2, hfz14_3⟩ := bf4_ BK217.out; obtain ⟨hcz15_0, hcz15_1, hcz15_2, hcz15_3⟩ := cb4_ BK219.out; obtain ⟨hfz15_0, hfz15_1, hfz15_2⟩ := bf3_ BK219.out; have hfz15_3 := blk_frozen BK219.out 3) | ((with_reducible refine gate_store (t := 3) (p := 12) rfl ?_); refine st_ (w1 := (w13.setCell ⟨gb219, 2, none⟩ (.int .i64 a0_2))) ?_; intro w16 hw; replace BK217 := uk_ hw BK217.out; replace BK218 := uk_ hw BK218.out; replace BK219 : Aside0 (w16.heap[gb219]? = some (.cells #[.int .i64 a0_0, .int .i64 a0_1, .int .i64 a0_2, .int .i64 0] 34 (0, 0))) := ⟨(by rw [hw]; exact (by (with_reducible repeat first|apply bn_|apply bd_|apply ba_); refine blk_put (cs := #[.int .i64 a0_0, .int .i64 a0_1, .int .i64 0, .int .i64 0]) ?_ 2 _ rfl; (with_reducible repeat first|apply bn_|apply bd_|apply ba_); exact BK219.out))⟩; replace HB := uh_ hw HB.out; clear hw; obtain ⟨hcz17_0, hcz17_1, hcz17_2, hcz17_3⟩ := cb4_ BK217.out; obtain ⟨hfz17_0, hfz17_1, hfz17_2, hfz17_3⟩ := bf4_ BK217.out; obtain ⟨hcz18_0, hcz18_1, hcz18_2, hcz18_3⟩ := cb4_ BK219.out; obtain ⟨hfz18_0, hfz18_1, hfz18_2⟩ := bf3_ BK219.out; have hfz18_3 := blk_frozen BK219.out 3) | ((with_reducible refine gate_store (t := 3) (p := 15) rfl ?_); refine st_ (w1 := (w16.setCell ⟨gb219, 3, none⟩ (.int .i64 a0_3))) ?_; intro w19 hw; replace BK217 := uk_ hw BK217.out; replace BK218 := uk_ hw BK218.out; replace BK219 : Aside0 (w19.heap[gb219]? = some (.cells #[.int .i64 a0_0, .int .i64 a0_1, .int .i64 a0_2, .int .i64 a0_3] 34 (0, 0))) := ⟨(by rw [hw]; exact (by (with_reducible repeat first|apply bn_|apply bd_|apply ba_); refine blk_put (cs := #[.int .i64 a0_0, .int .i64 a0_1, .int .i64 a0_2, .int .i64 0]) ?_ 3 _ rfl; (with_reducible repeat first|apply bn_|apply bd_|apply ba_); exact BK219.out))⟩; replace HB := uh_ hw HB.out; clear hw; obtain ⟨hcz20_0, hcz20_1, hcz20_2, hcz20_3⟩ := cb4_ BK219.out; obtain ⟨hfz20_0, hfz20_1, hfz20_2, hfz20_3⟩ := bf4_ BK219.out; obtain ⟨hcz21_0, hcz21_1, hcz21_2, hcz21_3⟩ := cb4_ BK218.out; obtain ⟨hfz21_0, hfz21_1, hfz21_2⟩ := bf3_ BK218.out; have hfz21_3 := blk_frozen BK218.out 3) | ((with_reducible refine gate_store (t := 34) (p := 2) rfl ?_); refine st_ (w1 := ((((w19.setCell ⟨gb218, 0, none⟩ (.int .i64 a0_0)).setCell ⟨gb218, 1, none⟩ (.int .i64 a0_1)).setCell ⟨gb218, 2, none⟩ (.int .i64 a0_2)).setCell ⟨gb218, 3, none⟩ (.int .i64 a0_3))) ?_; intro w22 hw; replace BK217 := uk_ hw BK217.out; replace BK218 : Aside0 (w22.heap[gb218]? = some (.cells #[.int .i64 a0_0, .int .i64 a0_1, .int .i64 a0_2, .int .i64 a0_3] 34 (0, 0))) := ⟨(by rw [hw]; exact (by (with_reducible repeat first|apply bn_|apply bd_|apply ba_); apply bp4_; (with_reducible repeat first|apply bn_|apply bd_|apply ba_); exact BK218.out))⟩; replace BK219 := uk_ hw BK219.out; replace HB := uh_ hw HB.out; clear hw))
 refine bodyPost_ret (results_cell_row rfl _ _ gb218 34 #[.int .i64 a0_0, .int .i64 a0_1, .int .i64 a0_2, .int .i64 a0_3] (0, 0) _ rfl (ub_ BK218.out) Try.underlying34 rfl (by kernel_rfl)) rfl ?_
 exact ⟨ew_, ue_ HB.out⟩

/-! ### slices_Clone_impl_Agg_impl_Agg: function 62 -/
def slices_Clone_impl_Agg_impl_Agg.f (l0 : List (S62)) : Option ((List (S62))) := (some (([] : List (S62)) : List (S62))).bind fun y220 => (if y220.length + l0.length < 2932031007402 then (some (y220 ++ l0)) else (none))
set_option maxHeartbeats 8000000 in
set_option maxRecDepth 100000 in
theorem slices_Clone_impl_Agg_impl_Agg.calls (A0 : Option Addr) (c0 : Nat) (l0 : List (S62)) (r : List (S62)) (w : World) (hr0 : Kd.C k62 w A0 l0.length l0) (hc0 : l0.length ≤ c0) (h : slices_Clone_impl_Agg_impl_Agg.f l0 = some r) :
  Calls Try.prog 62 #[.slice A0 l0.length c0] w fun e w' => ∃ v0_ : Value, e = .returned (v0_) ∧ Kd.R k62 62 w' w.heap.size (fun _ => True) v0_ r ∧ Below w.heap.size w w' := by
 have HR0 := Aside0.mk hr0
 have HC0 := Aside0.mk hc0
 clear hr0 hc0
 have HB := am_ (Below.refl w.heap.size w)
 have H : ((some (([] : List (S62)) : List (S62))).bind fun y220 => (if y220.length + l0.length < 2932031007402 then (some (y220 ++ l0)) else (none))) = some r := h
 clear h
 obtain ⟨y220, hy220⟩ : ∃ y_ : List (S62), y_ = (([] : List (S62))) := ⟨_, rfl⟩
 replace H : (if y220.length + l0.length < 2932031007402 then (some (y220 ++ l0)) else (none)) = some r := by first | (rw [hy220]; with_reducible exact H) | (have H2_ := (Option.bind_some _ _).symm.trans H; rw [hy220]; with_reducible exact H2_) | (have H2_ := (Option.bind_some _ _).symm.trans H; with_reducible exact H2_) | with_reducible exact H | (rw [hy220]; exact H) | exact H
 have Ny220 := Aside0.mk hy220
 clear hy220
 by_cases c2 : y220.length + l0.length < 2932031007402
 ·
  rw [if_pos c2] at H
  have LMc2 := Aside0.mk c2
  clear c2
  obtain ⟨y223, hy223⟩ : ∃ y_ : List (S62), y_ = (y220 ++ l0) := ⟨_, rfl⟩
  replace H : (some y223) = some r := by first | (rw [hy223]; with_reducible exact H) | (have H2_ := (Option.bind_some _ _).symm.trans H; rw [hy223]; with_reducible exact H2_) | (have H2_ := (Option.bind_some _ _).symm.trans H; with_reducible exact H2_) | with_reducible exact H | (rw [hy223]; exact H) | exact H
  have Ny223 := Aside0.mk hy223
  clear hy223
  obtain rfl := Option.some.inj H
  have qn_ : ∀ (w : World) (a : Option Addr) (n c n' c' : Nat), (binOp .eql 28 (.slice a n c) (.slice none n' c')).run Try.prog w = .ok (.bool a.isNone) w := fun w a n c n' c' => Go.Lib.run_eql_slice_nil w _ _ a n c n' c' Try.underlying28
  cases A0 with
  | none =>
   have e0 : l0 = [] := by
    by_cases hz : 0 < l0.length
    ·
     obtain ⟨ad, e, _⟩ := HR0.out.2.2 hz
     cases e
    exact List.eq_nil_of_length_eq_zero (by omega)
   have e1 : y223 = [] := by rw [Ny223.out, Ny220.out, e0]; rfl
   go_enter Try.func62, Try.ntmps62
   go_wp2
   go_ret
   exact ⟨_, rfl, by first | exact Kd.R_nil _ _ _ _ _ | (rw [e1]; exact Kd.R_nil _ _ _ _ _), ue_ HB.out⟩
  | some A1 =>
   go_enter Try.func62, Try.ntmps62
   go_wp2_with (first | ((with_reducible refine gate_dst (N := 5) rfl ?_); refine Kd.R_lit k62 _ 62 ?hg (N := 5) ?hd (xs := ([] : List (S62))) (inner := []) (ok := fun _ => True) (okp := fun _ => True) ?hr ?hp (fun _ hk => hk) trivial (Below.refl _ _) (Nat.le_refl _) (by simp) ?_; (case hd => rfl); (case hg => rfl); (case hr => first | (go_simp; done) | (go_simp; rfl)); (case hp => exact (Reps.none _ _)); intro v221 w3 ho4 hb hg_ hnew_; clear hg_ hnew_; (first | rw [← Ny220.out] at ho4 | (simp only [Int.reduceToNat] at ho4; rw [← Ny220.out] at ho4)); have HO222 := am_ (Kd.R_lower ho4 (below_size (ue_ HB.out))); replace HB := hs_ HB hb; clear hb ho4) | ((with_reducible refine gate_builtin (b := .append) (xs := #[.tmp 5, .tmp 6]) rfl ?_); at_builtin; refine Kd.R_append_rows k62 (w0 := w) w.heap.size rfl (.tmp 5) (.tmp 6) 28 62 (.agg #[(.int .i64 0), (.int .i64 0), (.int .i64 0), (.int .i64 0), (.int .i64 0), (.int .i64 0)]) 48 rfl Try.underlying28 info62 rfl (by decide) (by omega) v221 y220 l0 _ _ _ (fun _ => True) (fun _ => False) rfl rfl ?aO ?aR (fun _ _ h => h) (fun _ h => h.elim) ?aF ?aB ?aS ?aL ?_; (case aR => repeat (first | exact (Kd.C_below HR0.out HB.out) | (with_reducible refine Kd.C_alloc ?_ _) | (with_reducible refine Kd.C_drewN ?_ _) | (with_reducible refine Kd.C_drew ?_))); (case aB => exact (ue_ HB.out)); (case aF => exact (fun _ _ => trivial)); (case aO => exact (ur_ HO222.out)); (case aS => exact (below_size (ue_ HB.out))); (case aL => have := LMc2.out; omega); intro v224 w5 ho hb hg hat; rw [← Ny223.out] at ho; replace HB := am_ (hb); have HO225 := am_ (ho); clear HO222; clear ho hb hg hat))
   go_ret
   exact ⟨_, ew_, by (with_reducible repeat (first | apply Kd.R_alloc | apply Kd.R_drewN | apply Kd.R_drew)); exact HO225.out, ue_ HB.out⟩
 rw [if_neg c2] at H
 exact absurd H (by simp)

/-! ### impl_ownShard: function 33 -/
def impl_ownShard.f (l0_0 : List (S62)) (a0_1 : Int) (a0_2 : Int) (a0_3 : Int) : Option ((List (S62)) × Int × Int × Int) := (slices_Clone_impl_Agg_impl_Agg.f l0_0).bind fun t228 => (some (t228, a0_1, a0_2, a0_3))
set_option maxHeartbeats 8000000 in
set_option maxRecDepth 100000 in
theorem impl_ownShard.calls (A0_0 : Option Addr) (c0_0 : Nat) (l0_0 : List (S62)) (a0_1 : Int) (a0_2 : Int) (a0_3 : Int) (r1 : List (S62)) (r2 : Int) (r3 : Int) (r4 : Int) (w : World) (hr0_0 : Kd.C k62 w A0_0 l0_0.length l0_0) (hc0_0 : l0_0.length ≤ c0_0) (h : impl_ownShard.f l0_0 a0_1 a0_2 a0_3 = some (r1, r2, r3, r4)) :
  Calls Try.prog 33 #[.agg #[.slice A0_0 l0_0.length c0_0, .int .i64 a0_1, .int .i64 a0_2, .int .i64 a0_3]] w fun e w' => ∃ v0_ : Value, e = .returned (.agg #[v0_, .int .i64 r2, .int .i64 r3, .int .i64 r4]) ∧ Kd.R k62 62 w' w.heap.size (fun _ => True) v0_ r1 ∧ Below w.heap.size w w' := by
 have hu30 := Try.underlying30
 have HR0_0 := Aside0.mk hr0_0
 have HC0_0 := Aside0.mk hc0_0
 clear hr0_0 hc0_0
 have HB := am_ (Below.refl w.heap.size w)
 have H : ((slices_Clone_impl_Agg_impl_Agg.f l0_0).bind fun t228 => (some (t228, a0_1, a0_2, a0_3))) = some (r1, r2, r3, r4) := h
 clear h
 replace H := Option.bind_eq_some_iff.mp H
 obtain ⟨t228, A20, H⟩ := H
 replace H : (some (t228, a0_1, a0_2, a0_3)) = some (r1, r2, r3, r4) := H
 have A2 := Aside0.mk A20
 clear A20
 simp only [Option.some.injEq, Prod.mk.injEq] at H
 obtain ⟨rfl, rfl, rfl, rfl⟩ := H
 go_enter Try.func33, Try.ntmps33
 go_wp2_with (first | ((with_reducible refine gate_dst (N := 1) rfl ?_); refine bx_ (N := 1) (cs := #[.slice A0_0 l0_0.length c0_0, .int .i64 a0_1, .int .i64 a0_2, .int .i64 a0_3]) (t := 30) ?_; intro gb226 hg w3 hbox hb; have BK226 := am_ (hbox); have GW226 := gs_ hg HB.out; have GE226 := gs_ hg HB.out; replace HB := hs_ HB hb; clear hb hbox hg) | ((with_reducible refine gate_dst (N := 2) rfl ?_); refine bx_ (N := 2) (cs := #[.slice none 0 0, .int .i64 0, .int .i64 0, .int .i64 0]) (t := 30) ?_; intro gb227 hg w4 hbox hb; have BK227 := am_ (hbox); have GW227 := gs_ hg HB.out; have GE227 := gs_ hg HB.out; replace HB := hs_ HB hb; have NB226_227 := nl_ hg BK226.out; have NB227_226 := ng_ hg BK226.out; replace BK226 := bs_ BK226 hb; clear hb hbox hg; have hnb5 := NB226_227.out; have hnc5 := NB227_226.out; obtain ⟨hcz6_0, hcz6_1, hcz6_2, hcz6_3⟩ := cb4_ BK226.out; obtain ⟨hfz6_0, hfz6_1, hfz6_2⟩ := bf3_ BK226.out; have hfz6_3 := blk_frozen BK226.out 3) | ((with_reducible refine gate_callee (f := 62) rfl ?_); refine goesL_ (some 5) rfl rfl Try.func62 (by kernel_rfl) rfl #[.slice A0_0 l0_0.length c0_0] rfl ul_ ?_; (with_reducible refine (slices_Clone_impl_Agg_impl_Agg.calls _ _ l0_0 t228 _ ?side1 ?side2 A2.out).mono ?_); (case side1 => repeat (first | exact (Kd.C_below HR0_0.out HB.out) | (with_reducible refine Kd.C_alloc ?_ _) | (with_reducible refine Kd.C_drewN ?_ _) | (with_reducible refine Kd.C_drew ?_))); (case side2 => exact HC0_0.out); rintro e w7 ⟨v229, rfl, ho0, hb⟩; refine ⟨_, rfl, ?_⟩; have HO230 := am_ (Kd.R_lower ho0 (below_size (ue_ HB.out))); replace BK226 := bs_ BK226 hb; replace BK227 := bs_ BK227 hb; replace HB := hs_ HB hb; (try clear hb); (try clear hb2); (try clear hk); (try clear hi); (try clear ho0); obtain ⟨Ao8, co8, eo8⟩ := Kd.R_slice HO230.out; subst eo8; obtain ⟨hcz9_0, hcz9_1, hcz9_2, hcz9_3⟩ := cb4_ BK226.out; obtain ⟨hfz9_0, hfz9_1, hfz9_2⟩ := bf3_ BK226.out; have hfz9_3 := blk_frozen BK226.out 3) | ((with_reducible refine gate_store (t := 28) (p := 6) rfl ?_); refine st_ (w1 := (w7.setCell ⟨gb226, 0, none⟩ (.slice Ao8 t228.length co8))) ?_; intro w10 hw; replace HO230 : Aside0 (Kd.R k62 62 w10 w.heap.size (fun _ => True) (.slice Ao8 t228.length co8) t228) := ⟨(by rw [hw]; exact (by (with_reducible repeat (first | apply Kd.R_alloc | apply Kd.R_drewN | apply Kd.R_drew)); exact Kd.R_mono (Kd.R_far (p := ⟨gb226, 0, none⟩) (Kd.R_types HO230.out BK226.out (by decide)) h2_ (.slice Ao8 t228.length co8)) (fun _ hk => trivial)))⟩; replace BK226 : Aside0 (w10.heap[gb226]? = some (.cells #[.slice Ao8 t228.length co8, .int .i64 a0_1, .int .i64 a0_2, .int .i64 a0_3] 30 (0, 0))) := ⟨(by rw [hw]; exact (by (with_reducible repeat first|apply bn_|apply bd_|apply ba_); refine blk_put (cs := #[.slice A0_0 l0_0.length c0_0, .int .i64 a0_1, .int .i64 a0_2, .int .i64 a0_3]) ?_ 0 _ rfl; (with_reducible repeat first|apply bn_|apply bd_|apply ba_); exact BK226.out))⟩; replace BK227 := uk_ hw BK227.out; replace HB := uh_ hw HB.out; clear hw; obtain ⟨hcz11_0, hcz11_1, hcz11_2, hcz11_3⟩ := cb4_ BK226.out; obtain ⟨hfz11_0, hfz11_1, hfz11_2, hfz11_3⟩ := bf4_ BK226.out; obtain ⟨hcz12_0, hcz12_1, hcz12_2, hcz12_3⟩ := cb4_ BK227.out; obtain ⟨hfz12_0, hfz12_1, hfz12_2⟩ := bf3_ BK227.out; have hfz12_3 := blk_frozen BK227.out 3) | ((with_reducible refine gate_store (t := 30) (p := 2) rfl ?_); refine st_ (w1 := ((((w10.setCell ⟨gb227, 0, none⟩ (.slice Ao8 t228.length co8)).setCell ⟨gb227, 1, none⟩ (.int .i64 a0_1)).setCell ⟨gb227, 2, none⟩ (.int .i64 a0_2)).setCell ⟨gb227, 3, none⟩ (.int .i64 a0_3))) ?_; intro w13 hw; replace HO230 : Aside0 (Kd.R k62 62 w13 w.heap.size (fun _ => True) (.slice Ao8 t228.length co8) t228) := ⟨(by rw [hw]; exact (by (with_reducible repeat (first | apply Kd.R_alloc | apply Kd.R_drewN | apply Kd.R_drew)); exact Kd.R_mono (Rf4_ (g := gb227) (Kd.R_types HO230.out BK227.out (by decide))) (fun _ hk => trivial)))⟩; replace BK226 := uk_ hw BK226.out; replace BK227 : Aside0 (w13.heap[gb227]? = some (.cells #[.slice Ao8 t228.length co8, .int .i64 a0_1, .int .i64 a0_2, .int .i64 a0_3] 30 (0, 0))) := ⟨(by rw [hw]; exact (by (with_reducible repeat first|apply bn_|apply bd_|apply ba_); apply bp4_; (with_reducible repeat first|apply bn_|apply bd_|apply ba_); exact BK227.out))⟩; replace HB := uh_ hw HB.out; clear hw))
 refine bodyPost_ret (results_cell_row rfl _ _ gb227 30 #[.slice Ao8 t228.length co8, .int .i64 a0_1, .int .i64 a0_2, .int .i64 a0_3] (0, 0) _ rfl (ub_ BK227.out) Try.underlying30 rfl (by kernel_rfl)) rfl ?_
 exact ⟨_, ew_, by (with_reducible repeat (first | apply Kd.R_alloc | apply Kd.R_drewN | apply Kd.R_drew)); exact HO230.out, ue_ HB.out⟩


/-- What a predicate's value answers, in every world in which all that lay in w lies unturned. -/
def Pays62 (P : Program) (p : S62 → Option Bool) (g : Nat) (lb : Array Value) (w : World) : Prop :=
 (∀ args W, (callFunc g args).run P W = .ok (.enter g args) W) ∧ ∀ (W : World) (x : S62) (b : Bool), Below w.heap.size w W → p x = some b →
  Calls P g (#[.agg #[.int .i64 x.f0, .int .i64 x.f1, .int .i64 x.f2, .int .i64 x.f3, .int .i64 x.f4, .int .i64 x.f5]] ++ lb) W fun e W' => e = .returned (.bool b) ∧ Below W.heap.size W W'
def idx62 (p : S62 → Option Bool) : List S62 → Nat → Option Int
 | [], _ => some (-1)
 | x :: xs, i => (p x).bind fun b => if b = true then some (i : Int) else idx62 p xs (i + 1)
theorem idx62_at {p : S62 → Option Bool} {l : List S62} {k : Nat} (h : k < l.length) : idx62 p (l.drop k) k = (p (rd_T62 l (k : Int))).bind fun b => if b = true then some (k : Int) else idx62 p (l.drop (k + 1)) (k + 1) := by
 rw [List.drop_eq_getElem_cons h]
 have : rd_T62 l (k : Int) = l[k] := by simp [rd_T62, List.getD_eq_getElem?_getD, List.getElem?_eq_getElem h]
 rw [this]
 rfl
set_option maxHeartbeats 2000000 in
set_option maxRecDepth 100000 in
theorem idx62_calls (A0 : Option Addr) (c0 : Nat) (l0 : List S62) (p : S62 → Option Bool) (g : Nat) (lb : Array Value) (r : Int) (w : World) (hr0 : Kd.C k62 w A0 l0.length l0) (hc0 : l0.length ≤ c0)
  (hp : Pays62 Try.prog p g lb w) (h : idx62 p l0 0 = some r) :
  Calls Try.prog 105 #[.slice A0 l0.length c0, .func (.func g) #[] lb] w fun e w' => e = .returned (.int .i64 r) ∧ Below w.heap.size w w' := by
 have hu62 := Try.underlying62
 have HM : Aside0 (l0.length ≤ 9223372036854775807) := ⟨hr0.2.1⟩
 have HR0 := Aside0.mk hr0
 have HP := Aside0.mk hp.2
 have eg := hp.1
 have H' := am_ (show idx62 p (l0.drop 0) 0 = some r from h)
 have HB := am_ (Below.refl w.heap.size w)
 have HMx := HM.out
 clear hr0 hc0 hp h HM
 go_enter Try.func105, Try.ntmps105
 go_wp2
 go_loopg [5, 8] l0.length (fun gg _ v8 w' => ∃ kk : Nat, kk ≤ l0.length ∧ l0.length - kk ≤ gg ∧ v8 = .int .i64 kk ∧ Aside0 (idx62 p (l0.drop kk) kk = some r) ∧ Aside0 (Below w.heap.size w w'))
 case atStart => exact ⟨0, Nat.zero_le _, by omega, rfl, H', HB⟩
 case round =>
  clear H' HB
  obtain ⟨kk, hkk, hg, rfl, HA, HB⟩ := hrel
  by_cases hlt : kk < l0.length
  ·
   have hltz : (kk : Int) < (l0.length : Int) := by omega
   have H := HA.out
   rw [idx62_at hlt] at H
   obtain ⟨b, hb, H⟩ := Option.bind_eq_some_iff.mp H
   have HI := Aside0.mk H
   have HC := am_ (HP.out wr (rd_T62 l0 (kk : Int)) b HB.out hb)
   clear HA H hb
   obtain ⟨ad, e, hx0, hx1, hx2, hx3, hx4, hx5⟩ := at_T62 (Kd.C_below HR0.out HB.out) (kk : Int) (by omega) hltz
   subst e
   simp only [Int.toNat_natCast] at hx0 hx1 hx2 hx3 hx4 hx5
   cases b with
   | true =>
    go_wp2_with (go_at_fn g; refine HC.out.mono ?_; rintro e w' ⟨rfl, hb'⟩)
    go_ret
    have HI := HI.out
    simp only [if_true, Option.some.injEq] at HI
    subst HI
    exact ⟨rfl, below_step HB.out hb'⟩
   | false =>
    go_wp2_with (go_at_fn g; refine HC.out.mono ?_; rintro e w' ⟨rfl, hb'⟩)
    go_roundg (l0.length - (kk + 1))
    case measure => omega
    case rel => exact ⟨kk + 1, by omega, by omega, by go_num, ⟨by have HI := HI.out; simpa using HI⟩, ⟨below_step HB.out hb'⟩⟩
  have hltz : ¬ (kk : Int) < (l0.length : Int) := by omega
  have : kk = l0.length := by omega
  subst this
  have H := HA.out
  rw [List.drop_length] at H
  obtain rfl := Option.some.inj H
  go_wp2
  go_ret
  exact ⟨rfl, HB.out⟩
/-! ### slices_IndexFunc_impl_Agg_impl_Agg: function 105 -/
def slices_IndexFunc_impl_Agg_impl_Agg.f (l0 : List S62) (p : S62 → Option Bool) : Option Int := idx62 p l0 0
theorem slices_IndexFunc_impl_Agg_impl_Agg.calls (A0 : Option Addr) (c0 : Nat) (l0 : List S62) (p : S62 → Option Bool) (g : Nat) (lb : Array Value) (r : Int) (w : World) (hr0 : Kd.C k62 w A0 l0.length l0) (hc0 : l0.length ≤ c0)
  (hp : Pays62 Try.prog p g lb w) (h : slices_IndexFunc_impl_Agg_impl_Agg.f l0 p = some r) :
  Calls Try.prog 105 #[.slice A0 l0.length c0, .func (.func g) #[] lb] w fun e w' => e = .returned (.int .i64 r) ∧ Below w.heap.size w w' := idx62_calls A0 c0 l0 p g lb r w hr0 hc0 hp h

-- NOT PRINTED: function 86 (slices_ContainsFunc_impl_Agg_impl_Agg)

/-! ### impl_within: function 36 -/
def impl_within.f (a0 : Int) (a1 : Int) (a2 : Int) : Option (Bool) := if a1 ≤ a0 then (some (decide (a0 ≤ a2))) else (some false)
set_option maxHeartbeats 8000000 in
set_option maxRecDepth 100000 in
theorem impl_within.calls (a0 : Int) (a1 : Int) (a2 : Int) (r : Bool) (w : World) (h : impl_within.f a0 a1 a2 = some r) :
  Calls Try.prog 36 #[.int .i64 a0, .int .i64 a1, .int .i64 a2] w fun e w' => e = .returned (.bool r) ∧ Drawn0 w w' := by
 have H : (if a1 ≤ a0 then (some (decide (a0 ≤ a2))) else (some false)) = some r := h
 clear h
 by_cases c4 : a1 ≤ a0
 ·
  rw [if_pos c4] at H
  have c4b0 : decide (a1 ≤ a0) = true := decide_eq_true c4
  clear c4
  obtain rfl := Option.some.inj H
  go_enter Try.func36, Try.ntmps36
  go_wp2
  go_ret
  exact ⟨by first | rfl | (simp; done) | (simp [*]; done), by repeat (first | exact Drawn0.refl _ | apply Drawn0.step)⟩
 rw [if_neg c4] at H
 have c4b0 : decide (a1 ≤ a0) = false := decide_eq_false c4
 clear c4
 obtain rfl := Option.some.inj H
 go_enter Try.func36, Try.ntmps36
 go_wp2
 go_ret
 exact ⟨by first | rfl | (simp; done) | (simp [*]; done), by repeat (first | exact Drawn0.refl _ | apply Drawn0.step)⟩

/-! ### impl_isTime: function 68 -/
def impl_isTime.f (a0 : Int) : Option (Bool) := (impl_within.f a0 0 1000000).bind fun t231 => (some t231)
set_option maxHeartbeats 8000000 in
set_option maxRecDepth 100000 in
theorem impl_isTime.calls (a0 : Int) (r : Bool) (w : World) (h : impl_isTime.f a0 = some r) :
  Calls Try.prog 68 #[.int .i64 a0] w fun e w' => e = .returned (.bool r) ∧ Drawn0 w w' := by
 have H : ((impl_within.f a0 0 1000000).bind fun t231 => (some t231)) = some r := h
 clear h
 replace H := Option.bind_eq_some_iff.mp H
 obtain ⟨t231, A20, H⟩ := H
 replace H : (some t231) = some r := H
 have A2 := Aside0.mk A20
 clear A20
 obtain rfl := Option.some.inj H
 go_enter Try.func68, Try.ntmps68
 go_wp2_with (first | ((with_reducible refine gate_callee (f := 36) rfl ?_); refine goesL_ (some 4) rfl rfl Try.func36 (by kernel_rfl) rfl #[.int .i64 a0, .int .i64 0, .int .i64 1000000] rfl ul_ ?_; (with_reducible refine (impl_within.calls a0 0 1000000 t231 _ A2.out).mono ?_); rintro e w' ⟨rfl, ⟨nd, rfl⟩⟩; refine ⟨_, rfl, ?_⟩))
 go_ret
 exact ⟨by first | rfl | (simp; done) | (simp [*]; done), by repeat (first | exact Drawn0.refl _ | apply Drawn0.step)⟩

/-! ### impl_isKey: function 89 -/
def impl_isKey.f (a0 : Int) : Option (Bool) := (impl_within.f a0 0 65535).bind fun t232 => (some t232)
set_option maxHeartbeats 8000000 in
set_option maxRecDepth 100000 in
theorem impl_isKey.calls (a0 : Int) (r : Bool) (w : World) (h : impl_isKey.f a0 = some r) :
  Calls Try.prog 89 #[.int .i64 a0] w fun e w' => e = .returned (.bool r) ∧ Drawn0 w w' := by
 have H : ((impl_within.f a0 0 65535).bind fun t232 => (some t232)) = some r := h
 clear h
 replace H := Option.bind_eq_some_iff.mp H
 obtain ⟨t232, A20, H⟩ := H
 replace H : (some t232) = some r := H
 have A2 := Aside0.mk A20
 clear A20
 obtain rfl := Option.some.inj H
 go_enter Try.func89, Try.ntmps89
 go_wp2_with (first | ((with_reducible refine gate_callee (f := 36) rfl ?_); refine goesL_ (some 4) rfl rfl Try.func36 (by kernel_rfl) rfl #[.int .i64 a0, .int .i64 0, .int .i64 65535] rfl ul_ ?_; (with_reducible refine (impl_within.calls a0 0 65535 t232 _ A2.out).mono ?_); rintro e w' ⟨rfl, ⟨nd, rfl⟩⟩; refine ⟨_, rfl, ?_⟩))
 go_ret
 exact ⟨by first | rfl | (simp; done) | (simp [*]; done), by repeat (first | exact Drawn0.refl _ | apply Drawn0.step)⟩

/-! ### impl_isValue: function 90 -/
def impl_isValue.f (a0 : Int) : Option (Bool) := (impl_within.f a0 (-1000000) 1000000).bind fun t233 => (some t233)
set_option maxHeartbeats 8000000 in
set_option maxRecDepth 100000 in
theorem impl_isValue.calls (a0 : Int) (r : Bool) (w : World) (h : impl_isValue.f a0 = some r) :
  Calls Try.prog 90 #[.int .i64 a0] w fun e w' => e = .returned (.bool r) ∧ Drawn0 w w' := by
 have H : ((impl_within.f a0 (-1000000) 1000000).bind fun t233 => (some t233)) = some r := h
 clear h
 replace H := Option.bind_eq_some_iff.mp H
 obtain ⟨t233, A20, H⟩ := H
 replace H : (some t233) = some r := H
 have A2 := Aside0.mk A20
 clear A20
 obtain rfl := Option.some.inj H
 go_enter Try.func90, Try.ntmps90
 go_wp2_with (first | ((with_reducible refine gate_callee (f := 36) rfl ?_); refine goesL_ (some 4) rfl rfl Try.func36 (by kernel_rfl) rfl #[.int .i64 a0, .int .i64 (-1000000), .int .i64 1000000] rfl ul_ ?_; (with_reducible refine (impl_within.calls a0 (-1000000) 1000000 t233 _ A2.out).mono ?_); rintro e w' ⟨rfl, ⟨nd, rfl⟩⟩; refine ⟨_, rfl, ?_⟩))
 go_ret
 exact ⟨by first | rfl | (simp; done) | (simp [*]; done), by repeat (first | exact Drawn0.refl _ | apply Drawn0.step)⟩

/-! ### impl_isSum: function 106 -/
def impl_isSum.f (a0 : Int) : Option (Bool) := (impl_within.f a0 (-1000000000) 1000000000).bind fun t234 => (some t234)
set_option maxHeartbeats 8000000 in
set_option maxRecDepth 100000 in
theorem impl_isSum.calls (a0 : Int) (r : Bool) (w : World) (h : impl_isSum.f a0 = some r) :
  Calls Try.prog 106 #[.int .i64 a0] w fun e w' => e = .returned (.bool r) ∧ Drawn0 w w' := by
 have H : ((impl_within.f a0 (-1000000000) 1000000000).bind fun t234 => (some t234)) = some r := h
 clear h
 replace H := Option.bind_eq_some_iff.mp H
 obtain ⟨t234, A20, H⟩ := H
 replace H : (some t234) = some r := H
 have A2 := Aside0.mk A20
 clear A20
 obtain rfl := Option.some.inj H
 go_enter Try.func106, Try.ntmps106
 go_wp2_with (first | ((with_reducible refine gate_callee (f := 36) rfl ?_); refine goesL_ (some 4) rfl rfl Try.func36 (by kernel_rfl) rfl #[.int .i64 a0, .int .i64 (-1000000000), .int .i64 1000000000] rfl ul_ ?_; (with_reducible refine (impl_within.calls a0 (-1000000000) 1000000000 t234 _ A2.out).mono ?_); rintro e w' ⟨rfl, ⟨nd, rfl⟩⟩; refine ⟨_, rfl, ?_⟩))
 go_ret
 exact ⟨by first | rfl | (simp; done) | (simp [*]; done), by repeat (first | exact Drawn0.refl _ | apply Drawn0.step)⟩

/-! ### impl_AggOk: function 88 -/
def impl_AggOk.f (a0_0 : Int) (a0_1 : Int) (a0_2 : Int) (a0_3 : Int) (a0_4 : Int) (a0_5 : Int) : Option (Bool) := (impl_isTime.f a0_0).bind fun t236 => (if t236 = true then ((impl_isKey.f a0_1).bind fun t237 => (if t237 = true then ((impl_within.f a0_2 1 1000000000).bind fun t238 => (if t238 = true then ((impl_isSum.f a0_3).bind fun t239 => (if t239 = true then ((impl_isValue.f a0_4).bind fun t240 => (if t240 = true then ((impl_isValue.f a0_5).bind fun t241 => (if t241 = true then (some (decide (a0_4 ≤ a0_5))) else (some false))) else (some false))) else (some false))) else (some false))) else (some false))) else (some false))
set_option maxHeartbeats 8000000 in
set_option maxRecDepth 100000 in
theorem impl_AggOk.calls (a0_0 : Int) (a0_1 : Int) (a0_2 : Int) (a0_3 : Int) (a0_4 : Int) (a0_5 : Int) (r : Bool) (w : World) (h : impl_AggOk.f a0_0 a0_1 a0_2 a0_3 a0_4 a0_5 = some r) :
  Calls Try.prog 88 #[.agg #[.int .i64 a0_0, .int .i64 a0_1, .int .i64 a0_2, .int .i64 a0_3, .int .i64 a0_4, .int .i64 a0_5]] w fun e w' => e = .returned (.bool r) ∧ Below w.heap.size w w' := by
 have hu62 := Try.underlying62
 have HB := am_ (Below.refl w.heap.size w)
 have H : ((impl_isTime.f a0_0).bind fun t236 => (if t236 = true then ((impl_isKey.f a0_1).bind fun t237 => (if t237 = true then ((impl_within.f a0_2 1 1000000000).bind fun t238 => (if t238 = true then ((impl_isSum.f a0_3).bind fun t239 => (if t239 = true then ((impl_isValue.f a0_4).bind fun t240 => (if t240 = true then ((impl_isValue.f a0_5).bind fun t241 => (if t241 = true then (some (decide (a0_4 ≤ a0_5))) else (some false))) else (some false))) else (some false))) else (some false))) else (some false))) else (some false))) = some r := h
 clear h
 replace H := Option.bind_eq_some_iff.mp H
 obtain ⟨t236, A20, H⟩ := H
 replace H : (if t236 = true then ((impl_isKey.f a0_1).bind fun t237 => (if t237 = true then ((impl_within.f a0_2 1 1000000000).bind fun t238 => (if t238 = true then ((impl_isSum.f a0_3).bind fun t239 => (if t239 = true then ((impl_isValue.f a0_4).bind fun t240 => (if t240 = true then ((impl_isValue.f a0_5).bind fun t241 => (if t241 = true then (some (decide (a0_4 ≤ a0_5))) else (some false))) else (some false))) else (some false))) else (some false))) else (some false))) else (some false)) = some r := H
 have A2 := Aside0.mk A20
 clear A20
 by_cases c3 : t236 = true
 ·
  subst c3
  have H1 : ((impl_isKey.f a0_1).bind fun t237 => (if t237 = true then ((impl_within.f a0_2 1 1000000000).bind fun t238 => (if t238 = true then ((impl_isSum.f a0_3).bind fun t239 => (if t239 = true then ((impl_isValue.f a0_4).bind fun t240 => (if t240 = true then ((impl_isValue.f a0_5).bind fun t241 => (if t241 = true then (some (decide (a0_4 ≤ a0_5))) else (some false))) else (some false))) else (some false))) else (some false))) else (some false))) = some r := by rw [if_pos rfl] at H; exact H
  clear H
  have H := H1
  clear H1
  replace H := Option.bind_eq_some_iff.mp H
  obtain ⟨t237, A40, H⟩ := H
  replace H : (if t237 = true then ((impl_within.f a0_2 1 1000000000).bind fun t238 => (if t238 = true then ((impl_isSum.f a0_3).bind fun t239 => (if t239 = true then ((impl_isValue.f a0_4).bind fun t240 => (if t240 = true then ((impl_isValue.f a0_5).bind fun t241 => (if t241 = true then (some (decide (a0_4 ≤ a0_5))) else (some false))) else (some false))) else (some false))) else (some false))) else (some false)) = some r := H
  have A4 := Aside0.mk A40
  clear A40
  by_cases c5 : t237 = true
  ·
   subst c5
   have H1 : ((impl_within.f a0_2 1 1000000000).bind fun t238 => (if t238 = true then ((impl_isSum.f a0_3).bind fun t239 => (if t239 = true then ((impl_isValue.f a0_4).bind fun t240 => (if t240 = true then ((impl_isValue.f a0_5).bind fun t241 => (if t241 = true then (some (decide (a0_4 ≤ a0_5))) else (some false))) else (some false))) else (some false))) else (some false))) = some r := by rw [if_pos rfl] at H; exact H
   clear H
   have H := H1
   clear H1
   replace H := Option.bind_eq_some_iff.mp H
   obtain ⟨t238, A60, H⟩ := H
   replace H : (if t238 = true then ((impl_isSum.f a0_3).bind fun t239 => (if t239 = true then ((impl_isValue.f a0_4).bind fun t240 => (if t240 = true then ((impl_isValue.f a0_5).bind fun t241 => (if t241 = true then (some (decide (a0_4 ≤ a0_5))) else (some false))) else (some false))) else (some false))) else (some false)) = some r := H
   have A6 := Aside0.mk A60
   clear A60
   by_cases c7 : t238 = true
   ·
    subst c7
    have H1 : ((impl_isSum.f a0_3).bind fun t239 => (if t239 = true then ((impl_isValue.f a0_4).bind fun t240 => (if t240 = true then ((impl_isValue.f a0_5).bind fun t241 => (if t241 = true then (some (decide (a0_4 ≤ a0_5))) else (some false))) else (some false))) else (some false))) = some r := by rw [if_pos rfl] at H; exact H
    clear H
    have H := H1
    clear H1
    replace H := Option.bind_eq_some_iff.mp H
    obtain ⟨t239, A80, H⟩ := H
    replace H : (if t239 = true then ((impl_isValue.f a0_4).bind fun t240 => (if t240 = true then ((impl_isValue.f a0_5).bind fun t241 => (if t241 = true then (some (decide (a0_4 ≤ a0_5))) else (some false))) else (some false))) else (some false)) = some r := H
    have A8 := Aside0.mk A80
    clear A80
    by_cases c9 : t239 = true
    ·
     subst c9
     have H1 : ((impl_isValue.f a0_4).bind fun t240 => (if t240 = true then ((impl_isValue.f a0_5).bind fun t241 => (if t241 = true then (some (decide (a0_4 ≤ a0_5))) else (some false))) else (some false))) = some r := by rw [if_pos rfl] at H; exact H
     clear H
     have H := H1
     clear H1
     replace H := Option.bind_eq_some_iff.mp H
     obtain ⟨t240, A100, H⟩ := H
     replace H : (if t240 = true then ((impl_isValue.f a0_5).bind fun t241 => (if t241 = true then (some (decide (a0_4 ≤ a0_5))) else (some false))) else (some false)) = some r := H
     have A10 := Aside0.mk A100
     clear A100
     by_cases c11 : t240 = true
     ·
      subst c11
      have H1 : ((impl_isValue.f a0_5).bind fun t241 => (if t241 = true then (some (decide (a0_4 ≤ a0_5))) else (some false))) = some r := by rw [if_pos rfl] at H; exact H
      clear H
      have H := H1
      clear H1
      replace H := Option.bind_eq_some_iff.mp H
      obtain ⟨t241, A120, H⟩ := H
      replace H : (if t241 = true then (some (decide (a0_4 ≤ a0_5))) else (some false)) = some r := H
      have A12 := Aside0.mk A120
      clear A120
      by_cases c13 : t241 = true
      ·
       subst c13
       have H1 : (some (decide (a0_4 ≤ a0_5))) = some r := by rw [if_pos rfl] at H; exact H
       clear H
       have H := H1
       clear H1
       obtain rfl := Option.some.inj H
       go_enter Try.func88, Try.ntmps88
       go_wp2_with (first | ((with_reducible refine gate_dst (N := 1) rfl ?_); refine bx_ (N := 1) (cs := #[.int .i64 a0_0, .int .i64 a0_1, .int .i64 a0_2, .int .i64 a0_3, .int .i64 a0_4, .int .i64 a0_5]) (t := 62) ?_; intro gb235 hg w14 hbox hb; have BK235 := am_ (hbox); have GW235 := gs_ hg HB.out; have GE235 := gs_ hg HB.out; replace HB := hs_ HB hb; clear hb hbox hg; obtain ⟨hcz15_0, hcz15_1, hcz15_2, hcz15_3, hcz15_4, hcz15_5⟩ := cb6_ BK235.out; obtain ⟨hfz15_0, hfz15_1, hfz15_2, hfz15_3, hfz15_4⟩ := bf5_ BK235.out; have hfz15_5 := blk_frozen BK235.out 5) | ((with_reducible refine gate_callee (f := 68) rfl ?_); refine goesL_ (some 5) rfl rfl Try.func68 (by kernel_rfl) rfl #[.int .i64 a0_0] rfl ul_ ?_; (with_reducible refine (impl_isTime.calls a0_0 true _ A2.out).mono ?_); rintro e w' ⟨rfl, ⟨nd, rfl⟩⟩; refine ⟨_, rfl, ?_⟩) | (go_at_call 89; (with_reducible refine (impl_isKey.calls a0_1 true _ A4.out).mono ?_); rintro e w' ⟨rfl, ⟨nd, rfl⟩⟩) | (go_at_call 36; (with_reducible refine (impl_within.calls a0_2 1 1000000000 true _ A6.out).mono ?_); rintro e w' ⟨rfl, ⟨nd, rfl⟩⟩) | (go_at_call 106; (with_reducible refine (impl_isSum.calls a0_3 true _ A8.out).mono ?_); rintro e w' ⟨rfl, ⟨nd, rfl⟩⟩) | (go_at_call 90; (with_reducible refine (impl_isValue.calls a0_4 true _ A10.out).mono ?_); rintro e w' ⟨rfl, ⟨nd, rfl⟩⟩) | (go_at_call 90; (with_reducible refine (impl_isValue.calls a0_5 true _ A12.out).mono ?_); rintro e w' ⟨rfl, ⟨nd, rfl⟩⟩))
       go_ret
       exact ⟨ew_, ue_ HB.out⟩
      replace c13 := Bool.eq_false_iff.mpr c13
      subst c13
      have H1 : (some false) = some r := by rw [if_neg (show ¬ (false = true) by decide)] at H; exact H
      clear H
      have H := H1
      clear H1
      obtain rfl := Option.some.inj H
      go_enter Try.func88, Try.ntmps88
      go_wp2_with (first | ((with_reducible refine gate_dst (N := 1) rfl ?_); refine bx_ (N := 1) (cs := #[.int .i64 a0_0, .int .i64 a0_1, .int .i64 a0_2, .int .i64 a0_3, .int .i64 a0_4, .int .i64 a0_5]) (t := 62) ?_; intro gb235 hg w16 hbox hb; have BK235 := am_ (hbox); have GW235 := gs_ hg HB.out; have GE235 := gs_ hg HB.out; replace HB := hs_ HB hb; clear hb hbox hg; obtain ⟨hcz17_0, hcz17_1, hcz17_2, hcz17_3, hcz17_4, hcz17_5⟩ := cb6_ BK235.out; obtain ⟨hfz17_0, hfz17_1, hfz17_2, hfz17_3, hfz17_4⟩ := bf5_ BK235.out; have hfz17_5 := blk_frozen BK235.out 5) | ((with_reducible refine gate_callee (f := 68) rfl ?_); refine goesL_ (some 5) rfl rfl Try.func68 (by kernel_rfl) rfl #[.int .i64 a0_0] rfl ul_ ?_; (with_reducible refine (impl_isTime.calls a0_0 true _ A2.out).mono ?_); rintro e w' ⟨rfl, ⟨nd, rfl⟩⟩; refine ⟨_, rfl, ?_⟩) | (go_at_call 89; (with_reducible refine (impl_isKey.calls a0_1 true _ A4.out).mono ?_); rintro e w' ⟨rfl, ⟨nd, rfl⟩⟩) | (go_at_call 36; (with_reducible refine (impl_within.calls a0_2 1 1000000000 true _ A6.out).mono ?_); rintro e w' ⟨rfl, ⟨nd, rfl⟩⟩) | (go_at_call 106; (with_reducible refine (impl_isSum.calls a0_3 true _ A8.out).mono ?_); rintro e w' ⟨rfl, ⟨nd, rfl⟩⟩) | (go_at_call 90; (with_reducible refine (impl_isValue.calls a0_4 true _ A10.out).mono ?_); rintro e w' ⟨rfl, ⟨nd, rfl⟩⟩) | (go_at_call 90; (with_reducible refine (impl_isValue.calls a0_5 false _ A12.out).mono ?_); rintro e w' ⟨rfl, ⟨nd, rfl⟩⟩))
      go_ret
      exact ⟨ew_, ue_ HB.out⟩
     replace c11 := Bool.eq_false_iff.mpr c11
     subst c11
     have H1 : (some false) = some r := by rw [if_neg (show ¬ (false = true) by decide)] at H; exact H
     clear H
     have H := H1
     clear H1
     obtain rfl := Option.some.inj H
     go_enter Try.func88, Try.ntmps88
     go_wp2_with (first | ((with_reducible refine gate_dst (N := 1) rfl ?_); refine bx_ (N := 1) (cs := #[.int .i64 a0_0, .int .i64 a0_1, .int .i64 a0_2, .int .i64 a0_3, .int .i64 a0_4, .int .i64 a0_5]) (t := 62) ?_; intro gb235 hg w18 hbox hb; have BK235 := am_ (hbox); have GW235 := gs_ hg HB.out; have GE235 := gs_ hg HB.out; replace HB := hs_ HB hb; clear hb hbox hg; obtain ⟨hcz19_0, hcz19_1, hcz19_2, hcz19_3, hcz19_4, hcz19_5⟩ := cb6_ BK235.out; obtain ⟨hfz19_0, hfz19_1, hfz19_2, hfz19_3, hfz19_4⟩ := bf5_ BK235.out; have hfz19_5 := blk_frozen BK235.out 5) | ((with_reducible refine gate_callee (f := 68) rfl ?_); refine goesL_ (some 5) rfl rfl Try.func68 (by kernel_rfl) rfl #[.int .i64 a0_0] rfl ul_ ?_; (with_reducible refine (impl_isTime.calls a0_0 true _ A2.out).mono ?_); rintro e w' ⟨rfl, ⟨nd, rfl⟩⟩; refine ⟨_, rfl, ?_⟩) | (go_at_call 89; (with_reducible refine (impl_isKey.calls a0_1 true _ A4.out).mono ?_); rintro e w' ⟨rfl, ⟨nd, rfl⟩⟩) | (go_at_call 36; (with_reducible refine (impl_within.calls a0_2 1 1000000000 true _ A6.out).mono ?_); rintro e w' ⟨rfl, ⟨nd, rfl⟩⟩) | (go_at_call 106; (with_reducible refine (impl_isSum.calls a0_3 true _ A8.out).mono ?_); rintro e w' ⟨rfl, ⟨nd, rfl⟩⟩) | (go_at_call 90; (with_reducible refine (impl_isValue.calls a0_4 false _ A10.out).mono ?_); rintro e w' ⟨rfl, ⟨nd, rfl⟩⟩))
     go_ret
     exact ⟨ew_, ue_ HB.out⟩
    replace c9 := Bool.eq_false_iff.mpr c9
    subst c9
    have H1 : (some false) = some r := by rw [if_neg (show ¬ (false = true) by decide)] at H; exact H
    clear H
    have H := H1
    clear H1
    obtain rfl := Option.some.inj H
    go_enter Try.func88, Try.ntmps88
    go_wp2_with (first | ((with_reducible refine gate_dst (N := 1) rfl ?_); refine bx_ (N := 1) (cs := #[.int .i64 a0_0, .int .i64 a0_1, .int .i64 a0_2, .int .i64 a0_3, .int .i64 a0_4, .int .i64 a0_5]) (t := 62) ?_; intro gb235 hg w20 hbox hb; have BK235 := am_ (hbox); have GW235 := gs_ hg HB.out; have GE235 := gs_ hg HB.out; replace HB := hs_ HB hb; clear hb hbox hg; obtain ⟨hcz21_0, hcz21_1, hcz21_2, hcz21_3, hcz21_4, hcz21_5⟩ := cb6_ BK235.out; obtain ⟨hfz21_0, hfz21_1, hfz21_2, hfz21_3, hfz21_4⟩ := bf5_ BK235.out; have hfz21_5 := blk_frozen BK235.out 5) | ((with_reducible refine gate_callee (f := 68) rfl ?_); refine goesL_ (some 5) rfl rfl Try.func68 (by kernel_rfl) rfl #[.int .i64 a0_0] rfl ul_ ?_; (with_reducible refine (impl_isTime.calls a0_0 true _ A2.out).mono ?_); rintro e w' ⟨rfl, ⟨nd, rfl⟩⟩; refine ⟨_, rfl, ?_⟩) | (go_at_call 89; (with_reducible refine (impl_isKey.calls a0_1 true _ A4.out).mono ?_); rintro e w' ⟨rfl, ⟨nd, rfl⟩⟩) | (go_at_call 36; (with_reducible refine (impl_within.calls a0_2 1 1000000000 true _ A6.out).mono ?_); rintro e w' ⟨rfl, ⟨nd, rfl⟩⟩) | (go_at_call 106; (with_reducible refine (impl_isSum.calls a0_3 false _ A8.out).mono ?_); rintro e w' ⟨rfl, ⟨nd, rfl⟩⟩))
    go_ret
    exact ⟨ew_, ue_ HB.out⟩
   replace c7 := Bool.eq_false_iff.mpr c7
   subst c7
   have H1 : (some false) = some r := by rw [if_neg (show ¬ (false = true) by decide)] at H; exact H
   clear H
   have H := H1
   clear H1
   obtain rfl := Option.some.inj H
   go_enter Try.func88, Try.ntmps88
   go_wp2_with (first | ((with_reducible refine gate_dst (N := 1) rfl ?_); refine bx_ (N := 1) (cs := #[.int .i64 a0_0, .int .i64 a0_1, .int .i64 a0_2, .int .i64 a0_3, .int .i64 a0_4, .int .i64 a0_5]) (t := 62) ?_; intro gb235 hg w22 hbox hb; have BK235 := am_ (hbox); have GW235 := gs_ hg HB.out; have GE235 := gs_ hg HB.out; replace HB := hs_ HB hb; clear hb hbox hg; obtain ⟨hcz23_0, hcz23_1, hcz23_2, hcz23_3, hcz23_4, hcz23_5⟩ := cb6_ BK235.out; obtain ⟨hfz23_0, hfz23_1, hfz23_2, hfz23_3, hfz23_4⟩ := bf5_ BK235.out; have hfz23_5 := blk_frozen BK235.out 5) | ((with_reducible refine gate_callee (f := 68) rfl ?_); refine goesL_ (some 5) rfl rfl Try.func68 (by kernel_rfl) rfl #[.int .i64 a0_0] rfl ul_ ?_; (with_reducible refine (impl_isTime.calls a0_0 true _ A2.out).mono ?_); rintro e w' ⟨rfl, ⟨nd, rfl⟩⟩; refine ⟨_, rfl, ?_⟩) | (go_at_call 89; (with_reducible refine (impl_isKey.calls a0_1 true _ A4.out).mono ?_); rintro e w' ⟨rfl, ⟨nd, rfl⟩⟩) | (go_at_call 36; (with_reducible refine (impl_within.calls a0_2 1 1000000000 false _ A6.out).mono ?_); rintro e w' ⟨rfl, ⟨nd, rfl⟩⟩))
   go_ret
   exact ⟨ew_, ue_ HB.out⟩
  replace c5 := Bool.eq_false_iff.mpr c5
  subst c5
  have H1 : (some false) = some r := by rw [if_neg (show ¬ (false = true) by decide)] at H; exact H
  clear H
  have H := H1
  clear H1
  obtain rfl := Option.some.inj H
  go_enter Try.func88, Try.ntmps88
  go_wp2_with (first | ((with_reducible refine gate_dst (N := 1) rfl ?_); refine bx_ (N := 1) (cs := #[.int .i64 a0_0, .int .i64 a0_1, .int .i64 a0_2, .int .i64 a0_3, .int .i64 a0_4, .int .i64 a0_5]) (t := 62) ?_; intro gb235 hg w24 hbox hb; have BK235 := am_ (hbox); have GW235 := gs_ hg HB.out; have GE235 := gs_ hg HB.out; replace HB := hs_ HB hb; clear hb hbox hg; obtain ⟨hcz25_0, hcz25_1, hcz25_2, hcz25_3, hcz25_4, hcz25_5⟩ := cb6_ BK235.out; obtain ⟨hfz25_0, hfz25_1, hfz25_2, hfz25_3, hfz25_4⟩ := bf5_ BK235.out; have hfz25_5 := blk_frozen BK235.out 5) | ((with_reducible refine gate_callee (f := 68) rfl ?_); refine goesL_ (some 5) rfl rfl Try.func68 (by kernel_rfl) rfl #[.int .i64 a0_0] rfl ul_ ?_; (with_reducible refine (impl_isTime.calls a0_0 true _ A2.out).mono ?_); rintro e w' ⟨rfl, ⟨nd, rfl⟩⟩; refine ⟨_, rfl, ?_⟩) | (go_at_call 89; (with_reducible refine (impl_isKey.calls a0_1 false _ A4.out).mono ?_); rintro e w' ⟨rfl, ⟨nd, rfl⟩⟩))
  go_ret
  exact ⟨ew_, ue_ HB.out⟩
 replace c3 := Bool.eq_false_iff.mpr c3
 subst c3
 have H1 : (some false) = some r := by rw [if_neg (show ¬ (false = true) by decide)] at H; exact H
 clear H
 have H := H1
 clear H1
 obtain rfl := Option.some.inj H
 go_enter Try.func88, Try.ntmps88
 go_wp2_with (first | ((with_reducible refine gate_dst (N := 1) rfl ?_); refine bx_ (N := 1) (cs := #[.int .i64 a0_0, .int .i64 a0_1, .int .i64 a0_2, .int .i64 a0_3, .int .i64 a0_4, .int .i64 a0_5]) (t := 62) ?_; intro gb235 hg w26 hbox hb; have BK235 := am_ (hbox); have GW235 := gs_ hg HB.out; have GE235 := gs_ hg HB.out; replace HB := hs_ HB hb; clear hb hbox hg; obtain ⟨hcz27_0, hcz27_1, hcz27_2, hcz27_3, hcz27_4, hcz27_5⟩ := cb6_ BK235.out; obtain ⟨hfz27_0, hfz27_1, hfz27_2, hfz27_3, hfz27_4⟩ := bf5_ BK235.out; have hfz27_5 := blk_frozen BK235.out 5) | ((with_reducible refine gate_callee (f := 68) rfl ?_); refine goesL_ (some 5) rfl rfl Try.func68 (by kernel_rfl) rfl #[.int .i64 a0_0] rfl ul_ ?_; (with_reducible refine (impl_isTime.calls a0_0 false _ A2.out).mono ?_); rintro e w' ⟨rfl, ⟨nd, rfl⟩⟩; refine ⟨_, rfl, ?_⟩))
 go_ret
 exact ⟨ew_, ue_ HB.out⟩

/-! ### impl_areAggs_1: function 87 -/
def impl_areAggs_1.f (a0_0 : Int) (a0_1 : Int) (a0_2 : Int) (a0_3 : Int) (a0_4 : Int) (a0_5 : Int) : Option (Bool) := (impl_AggOk.f a0_0 a0_1 a0_2 a0_3 a0_4 a0_5).bind fun t243 => (some (!t243))
set_option maxHeartbeats 8000000 in
set_option maxRecDepth 100000 in
theorem impl_areAggs_1.calls (a0_0 : Int) (a0_1 : Int) (a0_2 : Int) (a0_3 : Int) (a0_4 : Int) (a0_5 : Int) (r : Bool) (w : World) (h : impl_areAggs_1.f a0_0 a0_1 a0_2 a0_3 a0_4 a0_5 = some r) :
  Calls Try.prog 87 #[.agg #[.int .i64 a0_0, .int .i64 a0_1, .int .i64 a0_2, .int .i64 a0_3, .int .i64 a0_4, .int .i64 a0_5]] w fun e w' => e = .returned (.bool r) ∧ Below w.heap.size w w' := by
 have hu62 := Try.underlying62
 have HB := am_ (Below.refl w.heap.size w)
 have H : ((impl_AggOk.f a0_0 a0_1 a0_2 a0_3 a0_4 a0_5).bind fun t243 => (some (!t243))) = some r := h
 clear h
 replace H := Option.bind_eq_some_iff.mp H
 obtain ⟨t243, A20, H⟩ := H
 replace H : (some (!t243)) = some r := H
 have A2 := Aside0.mk A20
 clear A20
 obtain rfl := Option.some.inj H
 go_enter Try.func87, Try.ntmps87
 go_wp2_with (first | ((with_reducible refine gate_dst (N := 1) rfl ?_); refine bx_ (N := 1) (cs := #[.int .i64 a0_0, .int .i64 a0_1, .int .i64 a0_2, .int .i64 a0_3, .int .i64 a0_4, .int .i64 a0_5]) (t := 62) ?_; intro gb242 hg w3 hbox hb; have BK242 := am_ (hbox); have GW242 := gs_ hg HB.out; have GE242 := gs_ hg HB.out; replace HB := hs_ HB hb; clear hb hbox hg; obtain ⟨hcz4_0, hcz4_1, hcz4_2, hcz4_3, hcz4_4, hcz4_5⟩ := cb6_ BK242.out; obtain ⟨hfz4_0, hfz4_1, hfz4_2, hfz4_3, hfz4_4⟩ := bf5_ BK242.out; have hfz4_5 := blk_frozen BK242.out 5) | ((with_reducible refine gate_callee (f := 88) rfl ?_); refine goesL_ (some 4) rfl rfl Try.func88 (by kernel_rfl) rfl #[.agg #[.int .i64 a0_0, .int .i64 a0_1, .int .i64 a0_2, .int .i64 a0_3, .int .i64 a0_4, .int .i64 a0_5]] rfl ul_ ?_; (with_reducible refine (impl_AggOk.calls a0_0 a0_1 a0_2 a0_3 a0_4 a0_5 t243 _ A2.out).mono ?_); rintro e w5 ⟨rfl, hb⟩; refine ⟨_, rfl, ?_⟩; replace BK242 := bs_ BK242 hb; replace HB := hs_ HB hb; (try clear hb); (try clear hb2); (try clear hk); (try clear hi)))
 go_ret
 exact ⟨ew_, ue_ HB.out⟩

/-! ### impl_areAggs: function 63 -/
def impl_areAggs.f (l0 : List S62) : Option Bool := (idx62 (fun x => impl_areAggs_1.f x.f0 x.f1 x.f2 x.f3 x.f4 x.f5) l0 0).bind fun r => some (!(decide (r ≥ 0)))
set_option maxHeartbeats 1000000 in
set_option maxRecDepth 100000 in
theorem impl_areAggs.calls (A0 : Option Addr) (c0 : Nat) (l0 : List S62) (r : Bool) (w : World) (hr0 : Kd.C k62 w A0 l0.length l0) (hc0 : l0.length ≤ c0) (h : impl_areAggs.f l0 = some r) :
  Calls Try.prog 63 #[.slice A0 l0.length c0] w fun e w' => e = .returned (.bool r) ∧ Below w.heap.size w w' := by
 obtain ⟨i, hi, h⟩ := Option.bind_eq_some_iff.mp h
 obtain rfl := Option.some.inj h
 have HI := am_ (idx62_calls A0 c0 l0 (fun x => impl_areAggs_1.f x.f0 x.f1 x.f2 x.f3 x.f4 x.f5) 87 #[] i w hr0 hc0
  ⟨fun args W => enters_ Try.func87 (by kernel_rfl) rfl args W, fun W x b _ hb => impl_areAggs_1.calls x.f0 x.f1 x.f2 x.f3 x.f4 x.f5 b W hb⟩ hi)
 clear hr0 hi h
 go_enter Try.func63, Try.ntmps63
 go_wp2_with (first | (go_at_call 105; refine HI.out.mono ?_; rintro e w' ⟨rfl, hb'⟩) | (go_at_call 86; go_in))
 go_ret
 exact ⟨rfl, hb'⟩

/-! ### cmp_Or_int: function 69 -/
def cmp_Or_int.l0 : Nat → Int → List Int → Int → Int → Option (Int)
 | 0, _, _, _, _ => none
 | k + 1, x3, x6, x7, x8 => if x8 < x7 then (if 0 ≤ x8 then (if x8 < (x6.length : Int) then (if (rd x6 x8) = x3 then (cmp_Or_int.l0 k x3 x6 x7 (wrap64 (x8 + 1))) else (some (rd x6 x8))) else (none)) else (none)) else (some x3)
def cmp_Or_int.f (k : Nat) (l0 : List Int) : Option (Int) := cmp_Or_int.l0 k 0 l0 (l0.length : Int) 0
theorem cmp_Or_int.mono_l : ∀ k, (∀ y0 y1 y2 y3, LeO (cmp_Or_int.l0 k y0 y1 y2 y3) (cmp_Or_int.l0 (k + 1) y0 y1 y2 y3))
 | 0 => fun _ _ _ _ r h => by simp [cmp_Or_int.l0] at h
 | k + 1 => by
  have ih0 := cmp_Or_int.mono_l k
  intro y0 y1 y2 y3
  unfold cmp_Or_int.l0
  repeat' first
  | (with_reducible exact ih0 _ _ _ _)
  | (with_reducible exact LeO.refl _)
  | (with_reducible exact LeO.none _)
  | (with_reducible refine LeO.ite ?_ ?_)
  | (with_reducible refine LeO.bind ?_ (fun _ => ?_))
  | exact ih0 _ _ _ _
  | exact LeO.none _
  | refine LeO.ite ?_ ?_
  | refine LeO.bind ?_ (fun _ => ?_)
theorem cmp_Or_int.mono : ∀ a0 k, LeO (cmp_Or_int.f k a0) (cmp_Or_int.f (k + 1) a0) := by
 intro a0 k
 have ih0 := cmp_Or_int.mono_l k
 unfold cmp_Or_int.f
 repeat' first
   | (with_reducible exact ih0 _ _ _ _)
   | (with_reducible exact LeO.refl _)
   | (with_reducible exact LeO.none _)
   | (with_reducible refine LeO.ite ?_ ?_)
   | (with_reducible refine LeO.bind ?_ (fun _ => ?_))
   | exact ih0 _ _ _ _
   | exact LeO.none _
   | refine LeO.ite ?_ ?_
   | refine LeO.bind ?_ (fun _ => ?_)
set_option maxHeartbeats 8000000 in
set_option maxRecDepth 100000 in
theorem cmp_Or_int.calls (k : Nat) (A0 : Option Addr) (c0 : Nat) (l0 : List Int) (r : Int) (w : World) (hr0 : Kd.C (Kd.int .i64) w A0 l0.length l0) (hc0 : l0.length ≤ c0) (h : cmp_Or_int.f k l0 = some r) :
  Calls Try.prog 69 #[.slice A0 l0.length c0] w fun e w' => e = .returned (.int .i64 r) ∧ Drawn0 w w' := by
 have HR0 := Aside0.mk hr0
 have HC0 := Aside0.mk hc0
 clear hr0 hc0
 have H : (cmp_Or_int.l0 k 0 l0 (l0.length : Int) 0) = some r := h
 clear h
 have H' := Aside0.mk H
 clear H
 go_enter Try.func69, Try.ntmps69
 go_wp2
 (try simp only [Act.put, List.setIfInBounds_toArray, List.set_cons_zero, List.set_cons_succ])
 go_loopg [8] k (fun kq v8 w' => ∃ (x8_1 : Int), v8 = .int .i64 x8_1 ∧ Aside0 (cmp_Or_int.l0 kq 0 l0 (l0.length : Int) x8_1 = some r) ∧ Aside0 (kq ≤ k) ∧ Drawn0 w w')
 case atStart => exact ⟨(0), (by first | rfl | (simp; done) | (simp [*]; done)), H', ⟨Nat.le_refl _⟩, by repeat (first | exact Drawn0.refl _ | apply Drawn0.step)⟩
 case round =>
  clear H'
  obtain ⟨x8_1, rfl, HA, HK1, ⟨m1, rfl⟩⟩ := hrel
  cases gk with
  | zero => exact absurd HA.out (by simp [cmp_Or_int.l0])
  | succ k1 =>
   have H := HA.out
   clear HA
   simp only [cmp_Or_int.l0] at H
   by_cases c2 : x8_1 < (l0.length : Int)
   ·
    rw [if_pos c2] at H
    have c2b0 : decide (x8_1 < (l0.length : Int)) = true := decide_eq_true c2
    clear c2
    by_cases c3 : 0 ≤ x8_1
    ·
     rw [if_pos c3] at H
     have c3b0 : decide (0 ≤ x8_1) = true := decide_eq_true c3
     clear c3
     by_cases c4 : x8_1 < (l0.length : Int)
     ·
      rw [if_pos c4] at H
      have c4b0 : decide (x8_1 < (l0.length : Int)) = true := decide_eq_true c4
      clear c4
      by_cases c5 : (rd l0 x8_1) = 0
      ·
       rw [if_pos c5] at H
       have c5b0 : ((rd l0 x8_1) == 0) = true := beq_iff_eq.mpr c5
       have c5b1 : ((rd l0 x8_1) != 0) = false := bne_eq_false_iff_eq.mpr c5
       clear c5
       have H' := Aside0.mk H
       clear H
       have p244 : 0 ≤ (x8_1 : Int) := of_decide_eq_true ua_
       have q244 : x8_1 < (l0.length : Int) := of_decide_eq_true ua_
       obtain ⟨ad244, e244, hx244_0⟩ := Kd.at_int HR0.out x8_1 p244 q244
       cases e244
       replace p244 := eq_true p244
       replace q244 := eq_true q244
       go_wp2
       go_roundg k1
       case measure => have := HK1.out; omega
       case rel => exact ⟨(wrap64 (x8_1 + 1)), (by first | rfl | (simp; done) | (simp [*]; done)), H', ⟨by have := HK1.out; omega⟩, by repeat (first | exact Drawn0.refl _ | apply Drawn0.step)⟩
      rw [if_neg c5] at H
      have c5b0 : ((rd l0 x8_1) == 0) = false := beq_eq_false_iff_ne.mpr c5
      have c5b1 : ((rd l0 x8_1) != 0) = true := bne_iff_ne.mpr c5
      obtain rfl := Option.some.inj H
      have p244 : 0 ≤ (x8_1 : Int) := of_decide_eq_true ua_
      have q244 : x8_1 < (l0.length : Int) := of_decide_eq_true ua_
      obtain ⟨ad244, e244, hx244_0⟩ := Kd.at_int HR0.out x8_1 p244 q244
      cases e244
      replace p244 := eq_true p244
      replace q244 := eq_true q244
      go_wp2
      go_ret
      exact ⟨by first | rfl | (simp; done) | (simp [*]; done), by repeat (first | exact Drawn0.refl _ | apply Drawn0.step)⟩
     rw [if_neg c4] at H
     exact absurd H (by simp)
    rw [if_neg c3] at H
    exact absurd H (by simp)
   rw [if_neg c2] at H
   have c2b0 : decide (x8_1 < (l0.length : Int)) = false := decide_eq_false c2
   clear c2
   obtain rfl := Option.some.inj H
   go_wp2
   go_ret
   exact ⟨by first | rfl | (simp; done) | (simp [*]; done), by repeat (first | exact Drawn0.refl _ | apply Drawn0.step)⟩

/-! ### cmp_isNaN_int: function 91 -/
def cmp_isNaN_int.f (a0 : Int) : Option (Bool) := some (a0 != a0)
set_option maxHeartbeats 8000000 in
set_option maxRecDepth 100000 in
theorem cmp_isNaN_int.calls (a0 : Int) (r : Bool) (w : World) (h : cmp_isNaN_int.f a0 = some r) :
  Calls Try.prog 91 #[.int .i64 a0] w fun e w' => e = .returned (.bool r) ∧ Drawn0 w w' := by
 have H : (some (a0 != a0)) = some r := h
 clear h
 obtain rfl := Option.some.inj H
 go_enter Try.func91, Try.ntmps91
 go_wp2
 go_ret
 exact ⟨by first | rfl | (simp; done) | (simp [*]; done), by repeat (first | exact Drawn0.refl _ | apply Drawn0.step)⟩

/-! ### cmp_Compare_int: function 70 -/
def cmp_Compare_int.f (a0 : Int) (a1 : Int) : Option (Int) := (cmp_isNaN_int.f a0).bind fun t245 => ((cmp_isNaN_int.f a1).bind fun t246 => (if t245 = true then (if t246 = true then (some 0) else (some (-1))) else (if t246 = true then (some 1) else (if a0 < a1 then (some (-1)) else (if a0 > a1 then (some 1) else (some 0))))))
set_option maxHeartbeats 8000000 in
set_option maxRecDepth 100000 in
theorem cmp_Compare_int.calls (a0 : Int) (a1 : Int) (r : Int) (w : World) (h : cmp_Compare_int.f a0 a1 = some r) :
  Calls Try.prog 70 #[.int .i64 a0, .int .i64 a1] w fun e w' => e = .returned (.int .i64 r) ∧ Drawn0 w w' := by
 have H : ((cmp_isNaN_int.f a0).bind fun t245 => ((cmp_isNaN_int.f a1).bind fun t246 => (if t245 = true then (if t246 = true then (some 0) else (some (-1))) else (if t246 = true then (some 1) else (if a0 < a1 then (some (-1)) else (if a0 > a1 then (some 1) else (some 0))))))) = some r := h
 clear h
 replace H := Option.bind_eq_some_iff.mp H
 obtain ⟨t245, A30, H⟩ := H
 replace H : ((cmp_isNaN_int.f a1).bind fun t246 => (if t245 = true then (if t246 = true then (some 0) else (some (-1))) else (if t246 = true then (some 1) else (if a0 < a1 then (some (-1)) else (if a0 > a1 then (some 1) else (some 0)))))) = some r := H
 have A3 := Aside0.mk A30
 clear A30
 replace H := Option.bind_eq_some_iff.mp H
 obtain ⟨t246, A40, H⟩ := H
 replace H : (if t245 = true then (if t246 = true then (some 0) else (some (-1))) else (if t246 = true then (some 1) else (if a0 < a1 then (some (-1)) else (if a0 > a1 then (some 1) else (some 0))))) = some r := H
 have A4 := Aside0.mk A40
 clear A40
 by_cases c5 : t245 = true
 ·
  subst c5
  have H1 : (if t246 = true then (some 0) else (some (-1))) = some r := by rw [if_pos rfl] at H; exact H
  clear H
  have H := H1
  clear H1
  by_cases c6 : t246 = true
  ·
   subst c6
   have H1 : (some 0) = some r := by rw [if_pos rfl] at H; exact H
   clear H
   have H := H1
   clear H1
   obtain rfl := Option.some.inj H
   go_enter Try.func70, Try.ntmps70
   go_wp2_with (first | ((with_reducible refine gate_callee (f := 91) rfl ?_); refine goesL_ (some 8) rfl rfl Try.func91 (by kernel_rfl) rfl #[.int .i64 a0] rfl ul_ ?_; (with_reducible refine (cmp_isNaN_int.calls a0 true _ A3.out).mono ?_); rintro e w' ⟨rfl, ⟨nd, rfl⟩⟩; refine ⟨_, rfl, ?_⟩) | ((with_reducible refine gate_callee (f := 91) rfl ?_); refine goesL_ (some 10) rfl rfl Try.func91 (by kernel_rfl) rfl #[.int .i64 a1] rfl ul_ ?_; (with_reducible refine (cmp_isNaN_int.calls a1 true _ A4.out).mono ?_); rintro e w' ⟨rfl, ⟨nd, rfl⟩⟩; refine ⟨_, rfl, ?_⟩))
   go_ret
   exact ⟨by first | rfl | (simp; done) | (simp [*]; done), by repeat (first | exact Drawn0.refl _ | apply Drawn0.step)⟩
  replace c6 := Bool.eq_false_iff.mpr c6
  subst c6
  have H1 : (some (-1)) = some r := by rw [if_neg (show ¬ (false = true) by decide)] at H; exact H
  clear H
  have H := H1
  clear H1
  obtain rfl := Option.some.inj H
  go_enter Try.func70, Try.ntmps70
  go_wp2_with (first | ((with_reducible refine gate_callee (f := 91) rfl ?_); refine goesL_ (some 8) rfl rfl Try.func91 (by kernel_rfl) rfl #[.int .i64 a0] rfl ul_ ?_; (with_reducible refine (cmp_isNaN_int.calls a0 true _ A3.out).mono ?_); rintro e w' ⟨rfl, ⟨nd, rfl⟩⟩; refine ⟨_, rfl, ?_⟩) | ((with_reducible refine gate_callee (f := 91) rfl ?_); refine goesL_ (some 10) rfl rfl Try.func91 (by kernel_rfl) rfl #[.int .i64 a1] rfl ul_ ?_; (with_reducible refine (cmp_isNaN_int.calls a1 false _ A4.out).mono ?_); rintro e w' ⟨rfl, ⟨nd, rfl⟩⟩; refine ⟨_, rfl, ?_⟩))
  go_ret
  exact ⟨by first | rfl | (simp; done) | (simp [*]; done), by repeat (first | exact Drawn0.refl _ | apply Drawn0.step)⟩
 replace c5 := Bool.eq_false_iff.mpr c5
 subst c5
 have H1 : (if t246 = true then (some 1) else (if a0 < a1 then (some (-1)) else (if a0 > a1 then (some 1) else (some 0)))) = some r := by rw [if_neg (show ¬ (false = true) by decide)] at H; exact H
 clear H
 have H := H1
 clear H1
 by_cases c7 : t246 = true
 ·
  subst c7
  have H1 : (some 1) = some r := by rw [if_pos rfl] at H; exact H
  clear H
  have H := H1
  clear H1
  obtain rfl := Option.some.inj H
  go_enter Try.func70, Try.ntmps70
  go_wp2_with (first | ((with_reducible refine gate_callee (f := 91) rfl ?_); refine goesL_ (some 8) rfl rfl Try.func91 (by kernel_rfl) rfl #[.int .i64 a0] rfl ul_ ?_; (with_reducible refine (cmp_isNaN_int.calls a0 false _ A3.out).mono ?_); rintro e w' ⟨rfl, ⟨nd, rfl⟩⟩; refine ⟨_, rfl, ?_⟩) | ((with_reducible refine gate_callee (f := 91) rfl ?_); refine goesL_ (some 10) rfl rfl Try.func91 (by kernel_rfl) rfl #[.int .i64 a1] rfl ul_ ?_; (with_reducible refine (cmp_isNaN_int.calls a1 true _ A4.out).mono ?_); rintro e w' ⟨rfl, ⟨nd, rfl⟩⟩; refine ⟨_, rfl, ?_⟩))
  go_ret
  exact ⟨by first | rfl | (simp; done) | (simp [*]; done), by repeat (first | exact Drawn0.refl _ | apply Drawn0.step)⟩
 replace c7 := Bool.eq_false_iff.mpr c7
 subst c7
 have H1 : (if a0 < a1 then (some (-1)) else (if a0 > a1 then (some 1) else (some 0))) = some r := by rw [if_neg (show ¬ (false = true) by decide)] at H; exact H
 clear H
 have H := H1
 clear H1
 by_cases c8 : a0 < a1
 ·
  rw [if_pos c8] at H
  have c8b0 : decide (a0 < a1) = true := decide_eq_true c8
  clear c8
  obtain rfl := Option.some.inj H
  go_enter Try.func70, Try.ntmps70
  go_wp2_with (first | ((with_reducible refine gate_callee (f := 91) rfl ?_); refine goesL_ (some 8) rfl rfl Try.func91 (by kernel_rfl) rfl #[.int .i64 a0] rfl ul_ ?_; (with_reducible refine (cmp_isNaN_int.calls a0 false _ A3.out).mono ?_); rintro e w' ⟨rfl, ⟨nd, rfl⟩⟩; refine ⟨_, rfl, ?_⟩) | ((with_reducible refine gate_callee (f := 91) rfl ?_); refine goesL_ (some 10) rfl rfl Try.func91 (by kernel_rfl) rfl #[.int .i64 a1] rfl ul_ ?_; (with_reducible refine (cmp_isNaN_int.calls a1 false _ A4.out).mono ?_); rintro e w' ⟨rfl, ⟨nd, rfl⟩⟩; refine ⟨_, rfl, ?_⟩))
  go_ret
  exact ⟨by first | rfl | (simp; done) | (simp [*]; done), by repeat (first | exact Drawn0.refl _ | apply Drawn0.step)⟩
 rw [if_neg c8] at H
 have c8b0 : decide (a0 < a1) = false := decide_eq_false c8
 clear c8
 by_cases c9 : a0 > a1
 ·
  rw [if_pos c9] at H
  have c9b0 : decide (a1 < a0) = true := decide_eq_true c9
  clear c9
  obtain rfl := Option.some.inj H
  go_enter Try.func70, Try.ntmps70
  go_wp2_with (first | ((with_reducible refine gate_callee (f := 91) rfl ?_); refine goesL_ (some 8) rfl rfl Try.func91 (by kernel_rfl) rfl #[.int .i64 a0] rfl ul_ ?_; (with_reducible refine (cmp_isNaN_int.calls a0 false _ A3.out).mono ?_); rintro e w' ⟨rfl, ⟨nd, rfl⟩⟩; refine ⟨_, rfl, ?_⟩) | ((with_reducible refine gate_callee (f := 91) rfl ?_); refine goesL_ (some 10) rfl rfl Try.func91 (by kernel_rfl) rfl #[.int .i64 a1] rfl ul_ ?_; (with_reducible refine (cmp_isNaN_int.calls a1 false _ A4.out).mono ?_); rintro e w' ⟨rfl, ⟨nd, rfl⟩⟩; refine ⟨_, rfl, ?_⟩))
  go_ret
  exact ⟨by first | rfl | (simp; done) | (simp [*]; done), by repeat (first | exact Drawn0.refl _ | apply Drawn0.step)⟩
 rw [if_neg c9] at H
 have c9b0 : decide (a1 < a0) = false := decide_eq_false c9
 clear c9
 obtain rfl := Option.some.inj H
 go_enter Try.func70, Try.ntmps70
 go_wp2_with (first | ((with_reducible refine gate_callee (f := 91) rfl ?_); refine goesL_ (some 8) rfl rfl Try.func91 (by kernel_rfl) rfl #[.int .i64 a0] rfl ul_ ?_; (with_reducible refine (cmp_isNaN_int.calls a0 false _ A3.out).mono ?_); rintro e w' ⟨rfl, ⟨nd, rfl⟩⟩; refine ⟨_, rfl, ?_⟩) | ((with_reducible refine gate_callee (f := 91) rfl ?_); refine goesL_ (some 10) rfl rfl Try.func91 (by kernel_rfl) rfl #[.int .i64 a1] rfl ul_ ?_; (with_reducible refine (cmp_isNaN_int.calls a1 false _ A4.out).mono ?_); rintro e w' ⟨rfl, ⟨nd, rfl⟩⟩; refine ⟨_, rfl, ?_⟩))
 go_ret
 exact ⟨by first | rfl | (simp; done) | (simp [*]; done), by repeat (first | exact Drawn0.refl _ | apply Drawn0.step)⟩

end Go.Proofs.Ytaofcalmgodgjaa.QFnExactAddEvent
