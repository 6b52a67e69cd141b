/- The machine side of a law: Lean functions with the Go functions' answers and the walks that show it. No condition. -/
import Derived.Test.YtaofcalmgodgjaaQFnExactAddEventx0
import Derived.Test.YtaofcalmgodgjaaQFnExactAddEventx6
import Derived.Test.YtaofcalmgodgjaaQFnExactAddEventx7
import Derived.Test.YtaofcalmgodgjaaQFnExactAddEventx8
import Derived.Test.YtaofcalmgodgjaaQFnExactAddEventx9
namespace Go.Proofs.Ytaofcalmgodgjaa.QFnExactAddEvent
open Go.RowKit Go.Proofs.YtaofcalmgodgjaaW.PrintWords Go.Proofs.YtaofcalmgodgjaaW.PrintLast Go.Proofs.YtaofcalmgodgjaaW.PrintMore
attribute [local go_sem] max2_int min2_int max_two min_two max_three min_three max_four min_four   -- for this text's walks alone
set_option linter.unusedVariables false
set_option linter.unusedSimpArgs false

/-! ### impl_AddEvent: function 9 -/
mutual
def impl_AddEvent.j0 : Nat → Int → Int → Bool → List (S62) → Int → Int → Int → Int → Int → Int → Int → List (S62) → Int → Int → Int → Option ((List (S62)) × Int × Int × Int × Int)
 | 0, _, _, _, _, _, _, _, _, _, _, _, _, _, _, _ => none
 | k + 1, x1, x2, x33, x302000, x302001, x302002, x302003, x303000, x303001, x303002, x303003, x311000, x311001, x311002, x311003 => if x33 = true then (some (x311000, x311001, x311002, x311003, 3)) else ((impl_WindowOf.f x303002 x1).bind fun t315 => ((impl_aggOf.f x303000 x303001 x303002 x303003 t315).bind fun bt316 => ((slices_BinarySearchFunc_impl_Agg_impl_Agg_impl_Agg.f x302000 bt316.1 bt316.2.1 bt316.2.2.1 bt316.2.2.2.1 bt316.2.2.2.2.1 bt316.2.2.2.2.2 ord62).bind fun bt323 => ((impl_WindowEnd.f bt316.1 x1).bind fun t325 => (if t325 ≤ x302001 then ((impl_more.f x302002).bind fun t326 => (some (x311000, x311001, t326, x311003, 1))) else (if bt323.2 = true then (impl_AddEvent.j1 k false x302000 x302001 x302002 x302003 x311000 x311001 x311002 x311003 bt316.1 bt316.2.1 bt316.2.2.1 bt316.2.2.2.1 bt316.2.2.2.2.1 bt316.2.2.2.2.2) else (impl_AddEvent.j1 k (decide ((x302000.length : Int) ≥ x2)) x302000 x302001 x302002 x302003 x311000 x311001 x311002 x311003 bt316.1 bt316.2.1 bt316.2.2.1 bt316.2.2.2.1 bt316.2.2.2.2.1 bt316.2.2.2.2.2)))))))
def impl_AddEvent.j1 : Nat → Bool → List (S62) → Int → Int → Int → List (S62) → Int → Int → Int → Int → Int → Int → Int → Int → Int → Option ((List (S62)) × Int × Int × Int × Int)
 | 0, _, _, _, _, _, _, _, _, _, _, _, _, _, _, _ => none
 | k + 1, x61, x302000, x302001, x302002, x302003, x311000, x311001, x311002, x311003, x323000, x323001, x323002, x323003, x323004, x323005 => if x61 = true then ((impl_more.f x302003).bind fun t327 => (some (x311000, x311001, x311002, t327, 2))) else ((impl_put.f x311000 x323000 x323001 x323002 x323003 x323004 x323005).bind fun t328 => (some (t328, x311001, x311002, x311003, 0)))
end
def impl_AddEvent.f (k : Nat) (l0_0 : List (S62)) (a0_1 : Int) (a0_2 : Int) (a0_3 : Int) (a1 : Int) (a2 : Int) (a3_0 : Int) (a3_1 : Int) (a3_2 : Int) (a3_3 : Int) : Option ((List (S62)) × Int × Int × Int × Int) := (impl_ownShard.f l0_0 a0_1 a0_2 a0_3).bind fun bt304 => ((impl_ShardOk.f k l0_0 a0_1 a0_2 a0_3).bind fun t311 => (if t311 = true then ((impl_isSize.f a1).bind fun t312 => (if t312 = true then ((impl_within.f a2 1 40).bind fun t313 => (if t313 = true then ((impl_isEvent.f a3_0 a3_1 a3_2 a3_3).bind fun t314 => (impl_AddEvent.j0 k a1 a2 (!t314) l0_0 a0_1 a0_2 a0_3 a3_0 a3_1 a3_2 a3_3 bt304.1 bt304.2.1 bt304.2.2.1 bt304.2.2.2)) else (impl_AddEvent.j0 k a1 a2 true l0_0 a0_1 a0_2 a0_3 a3_0 a3_1 a3_2 a3_3 bt304.1 bt304.2.1 bt304.2.2.1 bt304.2.2.2))) else (impl_AddEvent.j0 k a1 a2 true l0_0 a0_1 a0_2 a0_3 a3_0 a3_1 a3_2 a3_3 bt304.1 bt304.2.1 bt304.2.2.1 bt304.2.2.2))) else (impl_AddEvent.j0 k a1 a2 true l0_0 a0_1 a0_2 a0_3 a3_0 a3_1 a3_2 a3_3 bt304.1 bt304.2.1 bt304.2.2.1 bt304.2.2.2)))
theorem impl_AddEvent.mono_l : ∀ k, (∀ y0 y1 y2 y3 y4 y5 y6 y7 y8 y9 y10 y11 y12 y13 y14, LeO (impl_AddEvent.j0 k y0 y1 y2 y3 y4 y5 y6 y7 y8 y9 y10 y11 y12 y13 y14) (impl_AddEvent.j0 (k + 1) y0 y1 y2 y3 y4 y5 y6 y7 y8 y9 y10 y11 y12 y13 y14)) ∧ (∀ y0 y1 y2 y3 y4 y5 y6 y7 y8 y9 y10 y11 y12 y13 y14, LeO (impl_AddEvent.j1 k y0 y1 y2 y3 y4 y5 y6 y7 y8 y9 y10 y11 y12 y13 y14) (impl_AddEvent.j1 (k + 1) y0 y1 y2 y3 y4 y5 y6 y7 y8 y9 y10 y11 y12 y13 y14))
 | 0 => ⟨fun _ _ _ _ _ _ _ _ _ _ _ _ _ _ _ r h => by simp [impl_AddEvent.j0] at h, fun _ _ _ _ _ _ _ _ _ _ _ _ _ _ _ r h => by simp [impl_AddEvent.j1] at h⟩
 | k + 1 => by
  obtain ⟨ih0, ih1⟩ := impl_AddEvent.mono_l k
  refine ⟨?_, ?_⟩
  ·
   intro y0 y1 y2 y3 y4 y5 y6 y7 y8 y9 y10 y11 y12 y13 y14
   unfold impl_AddEvent.j0
   repeat' first
   | (with_reducible exact ih0 _ _ _ _ _ _ _ _ _ _ _ _ _ _ _)
   | (with_reducible exact ih1 _ _ _ _ _ _ _ _ _ _ _ _ _ _ _)
   | (with_reducible exact impl_ShardOk.mono _ _ _ _ _)
   | (with_reducible exact LeO.refl _)
   | (with_reducible exact LeO.none _)
   | (with_reducible refine LeO.ite ?_ ?_)
   | (with_reducible refine LeO.bind ?_ (fun _ => ?_))
   | exact ih0 _ _ _ _ _ _ _ _ _ _ _ _ _ _ _
   | exact ih1 _ _ _ _ _ _ _ _ _ _ _ _ _ _ _
   | exact impl_ShardOk.mono _ _ _ _ _
   | exact LeO.none _
   | refine LeO.ite ?_ ?_
   | refine LeO.bind ?_ (fun _ => ?_)
  intro y0 y1 y2 y3 y4 y5 y6 y7 y8 y9 y10 y11 y12 y13 y14
  unfold impl_AddEvent.j1
  repeat' first
  | (with_reducible exact ih0 _ _ _ _ _ _ _ _ _ _ _ _ _ _ _)
  | (with_reducible exact ih1 _ _ _ _ _ _ _ _ _ _ _ _ _ _ _)
  | (with_reducible exact impl_ShardOk.mono _ _ _ _ _)
  | (with_reducible exact LeO.refl _)
  | (with_reducible exact LeO.none _)
  | (with_reducible refine LeO.ite ?_ ?_)
  | (with_reducible refine LeO.bind ?_ (fun _ => ?_))
  | exact ih0 _ _ _ _ _ _ _ _ _ _ _ _ _ _ _
  | exact ih1 _ _ _ _ _ _ _ _ _ _ _ _ _ _ _
  | exact impl_ShardOk.mono _ _ _ _ _
  | exact LeO.none _
  | refine LeO.ite ?_ ?_
  | refine LeO.bind ?_ (fun _ => ?_)
theorem impl_AddEvent.mono : ∀ a0 a1 a2 a3 a4 a5 a6 a7 a8 a9 k, LeO (impl_AddEvent.f k a0 a1 a2 a3 a4 a5 a6 a7 a8 a9) (impl_AddEvent.f (k + 1) a0 a1 a2 a3 a4 a5 a6 a7 a8 a9) := by
 intro a0 a1 a2 a3 a4 a5 a6 a7 a8 a9 k
 obtain ⟨ih0, ih1⟩ := impl_AddEvent.mono_l k
 unfold impl_AddEvent.f
 repeat' first
   | (with_reducible exact ih0 _ _ _ _ _ _ _ _ _ _ _ _ _ _ _)
   | (with_reducible exact ih1 _ _ _ _ _ _ _ _ _ _ _ _ _ _ _)
   | (with_reducible exact impl_ShardOk.mono _ _ _ _ _)
   | (with_reducible exact LeO.refl _)
   | (with_reducible exact LeO.none _)
   | (with_reducible refine LeO.ite ?_ ?_)
   | (with_reducible refine LeO.bind ?_ (fun _ => ?_))
   | exact ih0 _ _ _ _ _ _ _ _ _ _ _ _ _ _ _
   | exact ih1 _ _ _ _ _ _ _ _ _ _ _ _ _ _ _
   | exact impl_ShardOk.mono _ _ _ _ _
   | exact LeO.none _
   | refine LeO.ite ?_ ?_
   | refine LeO.bind ?_ (fun _ => ?_)
def impl_AddEvent.T4 : Bool × List (List Nat × List Nat) := (true, [([], []), ([], []), ([1], [1]), ([], []), ([2, 3], [2, 3]), ([0, 4, 4], [0, 4]), ([], []), ([6, 5, 5, 0, 1, 2, 3, 4, 5, 6], [5, 6])])
def impl_AddEvent.B4 : List Nat := [0, 0, 2, 0, 14, 31, 0, 127]
theorem impl_AddEvent.tab4 : rtab .any (opsOf Try.f9 4) = impl_AddEvent.T4 := by kernel_rfl
theorem impl_AddEvent.bits4 : waitsOk impl_AddEvent.T4.2 impl_AddEvent.B4 = true := by kernel_rfl
def impl_AddEvent.T6 : Bool × List (List Nat × List Nat) := (true, [([], []), ([0], [0]), ([], []), ([1, 2], [1, 2]), ([], []), ([4], [4]), ([3, 5], [3, 5]), ([6, 3], [6])])
def impl_AddEvent.B6 : List Nat := [0, 1, 0, 7, 0, 16, 63, 127]
theorem impl_AddEvent.tab6 : rtab .any (opsOf Try.f9 6) = impl_AddEvent.T6 := by kernel_rfl
theorem impl_AddEvent.bits6 : waitsOk impl_AddEvent.T6.2 impl_AddEvent.B6 = true := by kernel_rfl
set_option maxHeartbeats 8000000 in
set_option maxRecDepth 100000 in
theorem impl_AddEvent.calls (k : Nat) (A0_0 : Option Addr) (c0_0 : Nat) (l0_0 : List (S62)) (a0_1 : Int) (a0_2 : Int) (a0_3 : Int) (a1 : Int) (a2 : Int) (a3_0 : Int) (a3_1 : Int) (a3_2 : Int) (a3_3 : Int) (r1 : List (S62)) (r2 : Int) (r3 : Int) (r4 : Int) (r5 : Int) (w : World) (hr0_0 : Kd.C k62 w A0_0 l0_0.length l0_0) (hc0_0 : l0_0.length ≤ c0_0) (h : impl_AddEvent.f k l0_0 a0_1 a0_2 a0_3 a1 a2 a3_0 a3_1 a3_2 a3_3 = some (r1, r2, r3, r4, r5)) :
  Calls Try.prog 9 #[.agg #[.slice A0_0 l0_0.length c0_0, .int .i64 a0_1, .int .i64 a0_2, .int .i64 a0_3], .int .i64 a1, .int .i64 a2, .agg #[.int .i64 a3_0, .int .i64 a3_1, .int .i64 a3_2, .int .i64 a3_3]] w fun e w' => ∃ v0_ : Value, e = .returned (.tuple #[.agg #[v0_, .int .i64 r2, .int .i64 r3, .int .i64 r4], .int .i64 r5]) ∧ Kd.R k62 62 w' w.heap.size (fun _ => True) v0_ r1 ∧ Below w.heap.size w w' := by
 have hu30 := Try.underlying30
 have hu34 := Try.underlying34
 have hu62 := Try.underlying62
 have HR0_0 := Aside0.mk hr0_0
 have HC0_0 := Aside0.mk hc0_0
 clear hr0_0 hc0_0
 have HB := am_ (Below.refl w.heap.size w)
 have H : ((impl_ownShard.f l0_0 a0_1 a0_2 a0_3).bind fun bt304 => ((impl_ShardOk.f k l0_0 a0_1 a0_2 a0_3).bind fun t311 => (if t311 = true then ((impl_isSize.f a1).bind fun t312 => (if t312 = true then ((impl_within.f a2 1 40).bind fun t313 => (if t313 = true then ((impl_isEvent.f a3_0 a3_1 a3_2 a3_3).bind fun t314 => (impl_AddEvent.j0 k a1 a2 (!t314) l0_0 a0_1 a0_2 a0_3 a3_0 a3_1 a3_2 a3_3 bt304.1 bt304.2.1 bt304.2.2.1 bt304.2.2.2)) else (impl_AddEvent.j0 k a1 a2 true l0_0 a0_1 a0_2 a0_3 a3_0 a3_1 a3_2 a3_3 bt304.1 bt304.2.1 bt304.2.2.1 bt304.2.2.2))) else (impl_AddEvent.j0 k a1 a2 true l0_0 a0_1 a0_2 a0_3 a3_0 a3_1 a3_2 a3_3 bt304.1 bt304.2.1 bt304.2.2.1 bt304.2.2.2))) else (impl_AddEvent.j0 k a1 a2 true l0_0 a0_1 a0_2 a0_3 a3_0 a3_1 a3_2 a3_3 bt304.1 bt304.2.1 bt304.2.2.1 bt304.2.2.2)))) = some (r1, r2, r3, r4, r5) := h
 clear h
 replace H := Option.bind_eq_some_iff.mp H
 obtain ⟨⟨t304, t307, t308, t309⟩, A50, H⟩ := H
 replace H : ((impl_ShardOk.f k l0_0 a0_1 a0_2 a0_3).bind fun t311 => (if t311 = true then ((impl_isSize.f a1).bind fun t312 => (if t312 = true then ((impl_within.f a2 1 40).bind fun t313 => (if t313 = true then ((impl_isEvent.f a3_0 a3_1 a3_2 a3_3).bind fun t314 => (impl_AddEvent.j0 k a1 a2 (!t314) l0_0 a0_1 a0_2 a0_3 a3_0 a3_1 a3_2 a3_3 t304 t307 t308 t309)) else (impl_AddEvent.j0 k a1 a2 true l0_0 a0_1 a0_2 a0_3 a3_0 a3_1 a3_2 a3_3 t304 t307 t308 t309))) else (impl_AddEvent.j0 k a1 a2 true l0_0 a0_1 a0_2 a0_3 a3_0 a3_1 a3_2 a3_3 t304 t307 t308 t309))) else (impl_AddEvent.j0 k a1 a2 true l0_0 a0_1 a0_2 a0_3 a3_0 a3_1 a3_2 a3_3 t304 t307 t308 t309))) = some (r1, r2, r3, r4, r5) := H
 have A5 := Aside0.mk A50
 clear A50
 have HC6 := Aside0.mk H
 clear H
 go_enter Try.func9, Try.ntmps9
 go_upto_region 2 with (first | ((with_reducible refine gate_dst (N := 4) rfl ?_); (try (refine gate_guard (by rfl) ?_; dsimp only)); refine bx_ (N := 4) (cs := #[.slice A0_0 l0_0.length c0_0, .int .i64 a0_1, .int .i64 a0_2, .int .i64 a0_3]) (t := 30) ?_; intro gb301 hg w7 hbox hb; have BK301 := am_ (hbox); have GW301 := gs_ hg HB.out; have GE301 := gs_ hg HB.out; replace HB := hs_ HB hb; clear hb hbox hg) | ((with_reducible refine gate_dst (N := 7) rfl ?_); (try (refine gate_guard (by rfl) ?_; dsimp only)); refine bx_ (N := 7) (cs := #[.int .i64 a3_0, .int .i64 a3_1, .int .i64 a3_2, .int .i64 a3_3]) (t := 34) ?_; intro gb302 hg w8 hbox hb; have BK302 := am_ (hbox); have GW302 := gs_ hg HB.out; have GE302 := gs_ hg HB.out; replace HB := hs_ HB hb; have NB301_302 := nl_ hg BK301.out; have NB302_301 := ng_ hg BK301.out; replace BK301 := bs_ BK301 hb; clear hb hbox hg) | ((with_reducible refine gate_dst (N := 8) rfl ?_); (try (refine gate_guard (by rfl) ?_; dsimp only)); refine bx_ (N := 8) (cs := #[.slice none 0 0, .int .i64 0, .int .i64 0, .int .i64 0]) (t := 30) ?_; intro gb303 hg w9 hbox hb; have BK303 := am_ (hbox); have GW303 := gs_ hg HB.out; have GE303 := gs_ hg HB.out; replace HB := hs_ HB hb; have NB301_303 := nl_ hg BK301.out; have NB303_301 := ng_ hg BK301.out; replace BK301 := bs_ BK301 hb; have NB302_303 := nl_ hg BK302.out; have NB303_302 := ng_ hg BK302.out; replace BK302 := bs_ BK302 hb; clear hb hbox hg; have hnb10 := NB301_302.out; have hnc10 := NB302_301.out; have hnb11 := NB301_303.out; have hnc11 := NB303_301.out; obtain ⟨hcz12_0, hcz12_1, hcz12_2, hcz12_3⟩ := cb4_ BK301.out; obtain ⟨hfz12_0, hfz12_1, hfz12_2⟩ := bf3_ BK301.out; have hfz12_3 := blk_frozen BK301.out 3) | ((with_reducible refine gate_callee (f := 33) rfl ?_); refine goesL_ (some 15) rfl rfl Try.func33 (by kernel_rfl) rfl #[.agg #[.slice A0_0 l0_0.length c0_0, .int .i64 a0_1, .int .i64 a0_2, .int .i64 a0_3]] rfl ul_ ?_; (with_reducible refine (impl_ownShard.calls _ _ l0_0 a0_1 a0_2 a0_3 t304 t307 t308 t309 _ ?side1 ?side2 A5.out).mono ?_); (case side1 => repeat (first | exact (Kd.C_below HR0_0.out HB.out) | (with_reducible refine Kd.C_alloc ?_ _) | (with_reducible refine Kd.C_drewN ?_ _) | (with_reducible refine Kd.C_drew ?_))); (case side2 => exact HC0_0.out); rintro e w13 ⟨v305, rfl, ho0, hb⟩; refine ⟨_, rfl, ?_⟩; have HO306 := am_ (Kd.R_lower ho0 (below_size (ue_ HB.out))); replace BK301 := bs_ BK301 hb; replace BK302 := bs_ BK302 hb; replace BK303 := bs_ BK303 hb; replace HB := hs_ HB hb; (try clear hb); (try clear hb2); (try clear hk); (try clear hi); (try clear ho0)) | ((with_reducible refine gate_dst (N := 10) rfl ?_); (try (refine gate_guard (by rfl) ?_; dsimp only)); refine bx_ (N := 10) (cs := #[.slice none 0 0, .int .i64 0, .int .i64 0, .int .i64 0]) (t := 30) ?_; intro gb310 hg w14 hbox hb; replace HO306 := am_ (Kd.R_below (ur_ HO306.out) hb); have BK310 := am_ (hbox); have GW310 := gs_ hg HB.out; have GE310 := gs_ hg HB.out; replace HB := hs_ HB hb; have NB301_310 := nl_ hg BK301.out; have NB310_301 := ng_ hg BK301.out; replace BK301 := bs_ BK301 hb; have NB302_310 := nl_ hg BK302.out; have NB310_302 := ng_ hg BK302.out; replace BK302 := bs_ BK302 hb; have NB303_310 := nl_ hg BK303.out; have NB310_303 := ng_ hg BK303.out; replace BK303 := bs_ BK303 hb; clear hb hbox hg; obtain ⟨Ao15, co15, eo15⟩ := Kd.R_slice HO306.out; subst eo15; have hnb16 := NB310_301.out; have hnc16 := NB301_310.out; have hnb17 := NB310_302.out; have hnc17 := NB302_310.out; have hnb18 := NB310_303.out; have hnc18 := NB303_310.out; obtain ⟨hcz19_0, hcz19_1, hcz19_2, hcz19_3⟩ := cb4_ BK310.out; obtain ⟨hfz19_0, hfz19_1, hfz19_2⟩ := bf3_ BK310.out; have hfz19_3 := blk_frozen BK310.out 3) | ((with_reducible refine gate_store (t := 30) (p := 10) rfl ?_); refine st_ (w1 := ((((w14.setCell ⟨gb310, 0, none⟩ (.slice Ao15 t304.length co15)).setCell ⟨gb310, 1, none⟩ (.int .i64 t307)).setCell ⟨gb310, 2, none⟩ (.int .i64 t308)).setCell ⟨gb310, 3, none⟩ (.int .i64 t309))) ?_; intro w20 hw; replace HO306 : Aside0 (Kd.R k62 62 w20 w.heap.size (fun _ => True) (.slice Ao15 t304.length co15) t304) := ⟨(by rw [hw]; exact (by (with_reducible repeat (first | apply Kd.R_alloc | apply Kd.R_drewN | apply Kd.R_drew)); exact Kd.R_mono (Rf4_ (g := gb310) (Kd.R_types HO306.out BK310.out (by decide))) (fun _ hk => trivial)))⟩; replace BK301 := uk_ hw BK301.out; replace BK302 := uk_ hw BK302.out; replace BK303 := uk_ hw BK303.out; replace BK310 : Aside0 (w20.heap[gb310]? = some (.cells #[.slice Ao15 t304.length co15, .int .i64 t307, .int .i64 t308, .int .i64 t309] 30 (0, 0))) := ⟨(by rw [hw]; exact (by (with_reducible repeat first|apply bn_|apply bd_|apply ba_); apply bp4_; (with_reducible repeat first|apply bn_|apply bd_|apply ba_); exact BK310.out))⟩; replace HB := uh_ hw HB.out; clear hw))
 (try simp only [Act.put, List.setIfInBounds_toArray, List.set_cons_zero, List.set_cons_succ])
 go_cut [33] (fun v33 wc => ∃ (kq : Nat) (x33_5 : Bool), v33 = .bool x33_5 ∧ Aside0 (impl_AddEvent.j0 kq a1 a2 x33_5 l0_0 a0_1 a0_2 a0_3 a3_0 a3_1 a3_2 a3_3 t304 t307 t308 t309 = some (r1, r2, r3, r4, r5)) ∧ Aside0 (kq ≤ k) ∧ Aside0 (Kd.R k62 62 wc w.heap.size (fun _ => True) (.slice Ao15 t304.length co15) t304) ∧ Aside0 (wc.heap[gb301]? = some (.cells #[(.slice A0_0 l0_0.length c0_0), .int .i64 a0_1, .int .i64 a0_2, .int .i64 a0_3] 30 (0, 0))) ∧ Aside0 (wc.heap[gb302]? = some (.cells #[.int .i64 a3_0, .int .i64 a3_1, .int .i64 a3_2, .int .i64 a3_3] 34 (0, 0))) ∧ Aside0 (wc.heap[gb303]? = some (.cells #[(.slice none 0 0), .int .i64 0, .int .i64 0, .int .i64 0] 30 (0, 0))) ∧ Aside0 (wc.heap[gb310]? = some (.cells #[(.slice Ao15 t304.length co15), .int .i64 t307, .int .i64 t308, .int .i64 t309] 30 (0, 0))) ∧ Aside0 (Below w.heap.size w wc))
 case first =>
  have H := HC6.out
  clear HC6
  replace H := Option.bind_eq_some_iff.mp H
  obtain ⟨t311, A210, H⟩ := H
  replace H : (if t311 = true then ((impl_isSize.f a1).bind fun t312 => (if t312 = true then ((impl_within.f a2 1 40).bind fun t313 => (if t313 = true then ((impl_isEvent.f a3_0 a3_1 a3_2 a3_3).bind fun t314 => (impl_AddEvent.j0 k a1 a2 (!t314) l0_0 a0_1 a0_2 a0_3 a3_0 a3_1 a3_2 a3_3 t304 t307 t308 t309)) else (impl_AddEvent.j0 k a1 a2 true l0_0 a0_1 a0_2 a0_3 a3_0 a3_1 a3_2 a3_3 t304 t307 t308 t309))) else (impl_AddEvent.j0 k a1 a2 true l0_0 a0_1 a0_2 a0_3 a3_0 a3_1 a3_2 a3_3 t304 t307 t308 t309))) else (impl_AddEvent.j0 k a1 a2 true l0_0 a0_1 a0_2 a0_3 a3_0 a3_1 a3_2 a3_3 t304 t307 t308 t309)) = some (r1, r2, r3, r4, r5) := H
  have A21 := Aside0.mk A210
  clear A210
  by_cases c22 : t311 = true
  ·
   subst c22
   have H1 : ((impl_isSize.f a1).bind fun t312 => (if t312 = true then ((impl_within.f a2 1 40).bind fun t313 => (if t313 = true then ((impl_isEvent.f a3_0 a3_1 a3_2 a3_3).bind fun t314 => (impl_AddEvent.j0 k a1 a2 (!t314) l0_0 a0_1 a0_2 a0_3 a3_0 a3_1 a3_2 a3_3 t304 t307 t308 t309)) else (impl_AddEvent.j0 k a1 a2 true l0_0 a0_1 a0_2 a0_3 a3_0 a3_1 a3_2 a3_3 t304 t307 t308 t309))) else (impl_AddEvent.j0 k a1 a2 true l0_0 a0_1 a0_2 a0_3 a3_0 a3_1 a3_2 a3_3 t304 t307 t308 t309))) = some (r1, r2, r3, r4, r5) := by rw [if_pos rfl] at H; exact H
   clear H
   have H := H1
   clear H1
   replace H := Option.bind_eq_some_iff.mp H
   obtain ⟨t312, A230, H⟩ := H
   replace H : (if t312 = true then ((impl_within.f a2 1 40).bind fun t313 => (if t313 = true then ((impl_isEvent.f a3_0 a3_1 a3_2 a3_3).bind fun t314 => (impl_AddEvent.j0 k a1 a2 (!t314) l0_0 a0_1 a0_2 a0_3 a3_0 a3_1 a3_2 a3_3 t304 t307 t308 t309)) else (impl_AddEvent.j0 k a1 a2 true l0_0 a0_1 a0_2 a0_3 a3_0 a3_1 a3_2 a3_3 t304 t307 t308 t309))) else (impl_AddEvent.j0 k a1 a2 true l0_0 a0_1 a0_2 a0_3 a3_0 a3_1 a3_2 a3_3 t304 t307 t308 t309)) = some (r1, r2, r3, r4, r5) := H
   have A23 := Aside0.mk A230
   clear A230
   by_cases c24 : t312 = true
   ·
    subst c24
    have H1 : ((impl_within.f a2 1 40).bind fun t313 => (if t313 = true then ((impl_isEvent.f a3_0 a3_1 a3_2 a3_3).bind fun t314 => (impl_AddEvent.j0 k a1 a2 (!t314) l0_0 a0_1 a0_2 a0_3 a3_0 a3_1 a3_2 a3_3 t304 t307 t308 t309)) else (impl_AddEvent.j0 k a1 a2 true l0_0 a0_1 a0_2 a0_3 a3_0 a3_1 a3_2 a3_3 t304 t307 t308 t309))) = some (r1, r2, r3, r4, r5) := by rw [if_pos rfl] at H; exact H
    clear H
    have H := H1
    clear H1
    replace H := Option.bind_eq_some_iff.mp H
    obtain ⟨t313, A250, H⟩ := H
    replace H : (if t313 = true then ((impl_isEvent.f a3_0 a3_1 a3_2 a3_3).bind fun t314 => (impl_AddEvent.j0 k a1 a2 (!t314) l0_0 a0_1 a0_2 a0_3 a3_0 a3_1 a3_2 a3_3 t304 t307 t308 t309)) else (impl_AddEvent.j0 k a1 a2 true l0_0 a0_1 a0_2 a0_3 a3_0 a3_1 a3_2 a3_3 t304 t307 t308 t309)) = some (r1, r2, r3, r4, r5) := H
    have A25 := Aside0.mk A250
    clear A250
    by_cases c26 : t313 = true
    ·
     subst c26
     have H1 : ((impl_isEvent.f a3_0 a3_1 a3_2 a3_3).bind fun t314 => (impl_AddEvent.j0 k a1 a2 (!t314) l0_0 a0_1 a0_2 a0_3 a3_0 a3_1 a3_2 a3_3 t304 t307 t308 t309)) = some (r1, r2, r3, r4, r5) := by rw [if_pos rfl] at H; exact H
     clear H
     have H := H1
     clear H1
     replace H := Option.bind_eq_some_iff.mp H
     obtain ⟨t314, A270, H⟩ := H
     replace H : (impl_AddEvent.j0 k a1 a2 (!t314) l0_0 a0_1 a0_2 a0_3 a3_0 a3_1 a3_2 a3_3 t304 t307 t308 t309) = some (r1, r2, r3, r4, r5) := H
     have A27 := Aside0.mk A270
     clear A270
     have H' := Aside0.mk H
     clear H
     have hnb28 := NB301_302.out
     have hnc28 := NB302_301.out
     have hnb29 := NB301_303.out
     have hnc29 := NB303_301.out
     have hnb30 := NB301_310.out
     have hnc30 := NB310_301.out
     obtain ⟨hcz31_0, hcz31_1, hcz31_2, hcz31_3⟩ := cbz4_ BK301.out
     obtain ⟨hfz31_0, hfz31_1, hfz31_2, hfz31_3⟩ := bfz4_ BK301.out
     go_wp2_with (first | ((with_reducible refine gate_callee (f := 34) rfl ?_); refine goesL_ (some 17) rfl rfl Try.func34 (by kernel_rfl) rfl #[.agg #[.slice A0_0 l0_0.length c0_0, .int .i64 a0_1, .int .i64 a0_2, .int .i64 a0_3]] rfl ul_ ?_; (with_reducible refine (impl_ShardOk.calls k _ _ l0_0 a0_1 a0_2 a0_3 true _ ?side1 ?side2 A21.out).mono ?_); (case side1 => repeat (first | exact (Kd.C_below HR0_0.out HB.out) | (with_reducible refine Kd.C_alloc ?_ _) | (with_reducible refine Kd.C_drewN ?_ _) | (with_reducible refine Kd.C_drew ?_))); (case side2 => exact HC0_0.out); rintro e w32 ⟨rfl, hb⟩; refine ⟨_, rfl, ?_⟩; replace HO306 := am_ (Kd.R_below (ur_ HO306.out) hb); replace BK301 := bs_ BK301 hb; replace BK302 := bs_ BK302 hb; replace BK303 := bs_ BK303 hb; replace BK310 := bs_ BK310 hb; replace HB := hs_ HB hb; (try clear hb); (try clear hb2); (try clear hk); (try clear hi)) | (go_at_call 35; (with_reducible refine (impl_isSize.calls a1 true _ A23.out).mono ?_); rintro e w' ⟨rfl, ⟨nd, rfl⟩⟩) | (go_at_call 36; (with_reducible refine (impl_within.calls a2 1 40 true _ A25.out).mono ?_); rintro e w' ⟨rfl, ⟨nd, rfl⟩⟩; have hnb33 := NB302_303.out; have hnc33 := NB303_302.out; have hnb34 := NB302_310.out; have hnc34 := NB310_302.out; obtain ⟨hcz35_0, hcz35_1, hcz35_2, hcz35_3⟩ := cb4_ BK302.out; obtain ⟨hfz35_0, hfz35_1, hfz35_2⟩ := bf3_ BK302.out; have hfz35_3 := blk_frozen BK302.out 3) | (go_at_call 37; (with_reducible refine (impl_isEvent.calls a3_0 a3_1 a3_2 a3_3 t314 _ A27.out).mono ?_); rintro e w36 ⟨rfl, hb⟩; replace HO306 := am_ (Kd.R_below (ur_ HO306.out) hb); replace BK301 := bs_ BK301 hb; replace BK302 := bs_ BK302 hb; replace BK303 := bs_ BK303 hb; replace BK310 := bs_ BK310 hb; replace HB := hs_ HB hb; (try clear hb); (try clear hb2); (try clear hk); (try clear hi)))
     go_meet
     case rel => exact ⟨_, (!t314), (by first | rfl | (simp; done) | (simp [*]; done)), H', ⟨by first | omega | exact Nat.le_refl _⟩, ⟨by (with_reducible repeat (first | apply Kd.R_alloc | apply Kd.R_drewN | apply Kd.R_drew)); exact HO306.out⟩, ⟨by (with_reducible repeat first|apply bn_|apply bd_|apply ba_); exact BK301.out⟩, ⟨by (with_reducible repeat first|apply bn_|apply bd_|apply ba_); exact BK302.out⟩, ⟨by (with_reducible repeat first|apply bn_|apply bd_|apply ba_); exact BK303.out⟩, ⟨by (with_reducible repeat first|apply bn_|apply bd_|apply ba_); exact BK310.out⟩, ⟨ue_ HB.out⟩⟩
    replace c26 := Bool.eq_false_iff.mpr c26
    subst c26
    have H1 : (impl_AddEvent.j0 k a1 a2 true l0_0 a0_1 a0_2 a0_3 a3_0 a3_1 a3_2 a3_3 t304 t307 t308 t309) = some (r1, r2, r3, r4, r5) := by rw [if_neg (show ¬ (false = true) by decide)] at H; exact H
    clear H
    have H := H1
    clear H1
    have H' := Aside0.mk H
    clear H
    have hnb37 := NB301_302.out
    have hnc37 := NB302_301.out
    have hnb38 := NB301_303.out
    have hnc38 := NB303_301.out
    have hnb39 := NB301_310.out
    have hnc39 := NB310_301.out
    obtain ⟨hcz40_0, hcz40_1, hcz40_2, hcz40_3⟩ := cbz4_ BK301.out
    obtain ⟨hfz40_0, hfz40_1, hfz40_2, hfz40_3⟩ := bfz4_ BK301.out
    go_wp2_with (first | ((with_reducible refine gate_callee (f := 34) rfl ?_); refine goesL_ (some 17) rfl rfl Try.func34 (by kernel_rfl) rfl #[.agg #[.slice A0_0 l0_0.length c0_0, .int .i64 a0_1, .int .i64 a0_2, .int .i64 a0_3]] rfl ul_ ?_; (with_reducible refine (impl_ShardOk.calls k _ _ l0_0 a0_1 a0_2 a0_3 true _ ?side1 ?side2 A21.out).mono ?_); (case side1 => repeat (first | exact (Kd.C_below HR0_0.out HB.out) | (with_reducible refine Kd.C_alloc ?_ _) | (with_reducible refine Kd.C_drewN ?_ _) | (with_reducible refine Kd.C_drew ?_))); (case side2 => exact HC0_0.out); rintro e w41 ⟨rfl, hb⟩; refine ⟨_, rfl, ?_⟩; replace HO306 := am_ (Kd.R_below (ur_ HO306.out) hb); replace BK301 := bs_ BK301 hb; replace BK302 := bs_ BK302 hb; replace BK303 := bs_ BK303 hb; replace BK310 := bs_ BK310 hb; replace HB := hs_ HB hb; (try clear hb); (try clear hb2); (try clear hk); (try clear hi)) | (go_at_call 35; (with_reducible refine (impl_isSize.calls a1 true _ A23.out).mono ?_); rintro e w' ⟨rfl, ⟨nd, rfl⟩⟩) | (go_at_call 36; (with_reducible refine (impl_within.calls a2 1 40 false _ A25.out).mono ?_); rintro e w' ⟨rfl, ⟨nd, rfl⟩⟩))
    go_meet
    case rel => exact ⟨_, (true), (by first | rfl | (simp; done) | (simp [*]; done)), H', ⟨by first | omega | exact Nat.le_refl _⟩, ⟨by (with_reducible repeat (first | apply Kd.R_alloc | apply Kd.R_drewN | apply Kd.R_drew)); exact HO306.out⟩, ⟨by (with_reducible repeat first|apply bn_|apply bd_|apply ba_); exact BK301.out⟩, ⟨by (with_reducible repeat first|apply bn_|apply bd_|apply ba_); exact BK302.out⟩, ⟨by (with_reducible repeat first|apply bn_|apply bd_|apply ba_); exact BK303.out⟩, ⟨by (with_reducible repeat first|apply bn_|apply bd_|apply ba_); exact BK310.out⟩, ⟨ue_ HB.out⟩⟩
   replace c24 := Bool.eq_false_iff.mpr c24
   subst c24
   have H1 : (impl_AddEvent.j0 k a1 a2 true l0_0 a0_1 a0_2 a0_3 a3_0 a3_1 a3_2 a3_3 t304 t307 t308 t309) = some (r1, r2, r3, r4, r5) := by rw [if_neg (show ¬ (false = true) by decide)] at H; exact H
   clear H
   have H := H1
   clear H1
   have H' := Aside0.mk H
   clear H
   have hnb42 := NB301_302.out
   have hnc42 := NB302_301.out
   have hnb43 := NB301_303.out
   have hnc43 := NB303_301.out
   have hnb44 := NB301_310.out
   have hnc44 := NB310_301.out
   obtain ⟨hcz45_0, hcz45_1, hcz45_2, hcz45_3⟩ := cbz4_ BK301.out
   obtain ⟨hfz45_0, hfz45_1, hfz45_2, hfz45_3⟩ := bfz4_ BK301.out
   go_wp2_with (first | ((with_reducible refine gate_callee (f := 34) rfl ?_); refine goesL_ (some 17) rfl rfl Try.func34 (by kernel_rfl) rfl #[.agg #[.slice A0_0 l0_0.length c0_0, .int .i64 a0_1, .int .i64 a0_2, .int .i64 a0_3]] rfl ul_ ?_; (with_reducible refine (impl_ShardOk.calls k _ _ l0_0 a0_1 a0_2 a0_3 true _ ?side1 ?side2 A21.out).mono ?_); (case side1 => repeat (first | exact (Kd.C_below HR0_0.out HB.out) | (with_reducible refine Kd.C_alloc ?_ _) | (with_reducible refine Kd.C_drewN ?_ _) | (with_reducible refine Kd.C_drew ?_))); (case side2 => exact HC0_0.out); rintro e w46 ⟨rfl, hb⟩; refine ⟨_, rfl, ?_⟩; replace HO306 := am_ (Kd.R_below (ur_ HO306.out) hb); replace BK301 := bs_ BK301 hb; replace BK302 := bs_ BK302 hb; replace BK303 := bs_ BK303 hb; replace BK310 := bs_ BK310 hb; replace HB := hs_ HB hb; (try clear hb); (try clear hb2); (try clear hk); (try clear hi)) | (go_at_call 35; (with_reducible refine (impl_isSize.calls a1 false _ A23.out).mono ?_); rintro e w' ⟨rfl, ⟨nd, rfl⟩⟩))
   go_meet
   case rel => exact ⟨_, (true), (by first | rfl | (simp; done) | (simp [*]; done)), H', ⟨by first | omega | exact Nat.le_refl _⟩, ⟨by (with_reducible repeat (first | apply Kd.R_alloc | apply Kd.R_drewN | apply Kd.R_drew)); exact HO306.out⟩, ⟨by (with_reducible repeat first|apply bn_|apply bd_|apply ba_); exact BK301.out⟩, ⟨by (with_reducible repeat first|apply bn_|apply bd_|apply ba_); exact BK302.out⟩, ⟨by (with_reducible repeat first|apply bn_|apply bd_|apply ba_); exact BK303.out⟩, ⟨by (with_reducible repeat first|apply bn_|apply bd_|apply ba_); exact BK310.out⟩, ⟨ue_ HB.out⟩⟩
  replace c22 := Bool.eq_false_iff.mpr c22
  subst c22
  have H1 : (impl_AddEvent.j0 k a1 a2 true l0_0 a0_1 a0_2 a0_3 a3_0 a3_1 a3_2 a3_3 t304 t307 t308 t309) = some (r1, r2, r3, r4, r5) := by rw [if_neg (show ¬ (false = true) by decide)] at H; exact H
  clear H
  have H := H1
  clear H1
  have H' := Aside0.mk H
  clear H
  have hnb47 := NB301_302.out
  have hnc47 := NB302_301.out
  have hnb48 := NB301_303.out
  have hnc48 := NB303_301.out
  have hnb49 := NB301_310.out
  have hnc49 := NB310_301.out
  obtain ⟨hcz50_0, hcz50_1, hcz50_2, hcz50_3⟩ := cbz4_ BK301.out
  obtain ⟨hfz50_0, hfz50_1, hfz50_2, hfz50_3⟩ := bfz4_ BK301.out
  go_wp2_with (first | ((with_reducible refine gate_callee (f := 34) rfl ?_); refine goesL_ (some 17) rfl rfl Try.func34 (by kernel_rfl) rfl #[.agg #[.slice A0_0 l0_0.length c0_0, .int .i64 a0_1, .int .i64 a0_2, .int .i64 a0_3]] rfl ul_ ?_; (with_reducible refine (impl_ShardOk.calls k _ _ l0_0 a0_1 a0_2 a0_3 false _ ?side1 ?side2 A21.out).mono ?_); (case side1 => repeat (first | exact (Kd.C_below HR0_0.out HB.out) | (with_reducible refine Kd.C_alloc ?_ _) | (with_reducible refine Kd.C_drewN ?_ _) | (with_reducible refine Kd.C_drew ?_))); (case side2 => exact HC0_0.out); rintro e w51 ⟨rfl, hb⟩; refine ⟨_, rfl, ?_⟩; replace HO306 := am_ (Kd.R_below (ur_ HO306.out) hb); replace BK301 := bs_ BK301 hb; replace BK302 := bs_ BK302 hb; replace BK303 := bs_ BK303 hb; replace BK310 := bs_ BK310 hb; replace HB := hs_ HB hb; (try clear hb); (try clear hb2); (try clear hk); (try clear hi)))
  go_meet
  case rel => exact ⟨_, (true), (by first | rfl | (simp; done) | (simp [*]; done)), H', ⟨by first | omega | exact Nat.le_refl _⟩, ⟨by (with_reducible repeat (first | apply Kd.R_alloc | apply Kd.R_drewN | apply Kd.R_drew)); exact HO306.out⟩, ⟨by (with_reducible repeat first|apply bn_|apply bd_|apply ba_); exact BK301.out⟩, ⟨by (with_reducible repeat first|apply bn_|apply bd_|apply ba_); exact BK302.out⟩, ⟨by (with_reducible repeat first|apply bn_|apply bd_|apply ba_); exact BK303.out⟩, ⟨by (with_reducible repeat first|apply bn_|apply bd_|apply ba_); exact BK310.out⟩, ⟨ue_ HB.out⟩⟩
 case rest =>
  clear HC6
  try clear c1
  try clear c2
  try clear p2
  try clear c3
  try clear c4
  try clear c9
  try clear c10
  try clear c11
  try clear c16
  try clear c17
  try clear c18
  try clear c22
  try clear c24
  try clear c26
  try clear c28
  try clear c29
  try clear c30
  try clear c33
  try clear c34
  try clear c37
  try clear c38
  try clear c39
  try clear c42
  try clear c43
  try clear c44
  try clear c47
  try clear c48
  try clear c49
  try clear hcz12_0
  try clear hcz12_1
  try clear hcz12_2
  try clear hcz12_3
  try clear hcz19_0
  try clear hcz19_1
  try clear hcz19_2
  try clear hcz19_3
  try clear hcz31_0
  try clear hcz31_1
  try clear hcz31_2
  try clear hcz31_3
  try clear hcz35_0
  try clear hcz35_1
  try clear hcz35_2
  try clear hcz35_3
  try clear hcz40_0
  try clear hcz40_1
  try clear hcz40_2
  try clear hcz40_3
  try clear hcz45_0
  try clear hcz45_1
  try clear hcz45_2
  try clear hcz45_3
  try clear hcz50_0
  try clear hcz50_1
  try clear hcz50_2
  try clear hcz50_3
  try clear hfz12_0
  try clear hfz12_1
  try clear hfz12_2
  try clear hfz12_3
  try clear hfz19_0
  try clear hfz19_1
  try clear hfz19_2
  try clear hfz19_3
  try clear hfz31_0
  try clear hfz31_1
  try clear hfz31_2
  try clear hfz31_3
  try clear hfz35_0
  try clear hfz35_1
  try clear hfz35_2
  try clear hfz35_3
  try clear hfz40_0
  try clear hfz40_1
  try clear hfz40_2
  try clear hfz40_3
  try clear hfz45_0
  try clear hfz45_1
  try clear hfz45_2
  try clear hfz45_3
  try clear hfz50_0
  try clear hfz50_1
  try clear hfz50_2
  try clear hfz50_3
  obtain ⟨kq, x33_5, rfl, HA, HJ5, HO_311000, BK301, BK302, BK303, BK310, HB⟩ := hcut
  cases kq with
  | zero => exact absurd HA.out (by simp [impl_AddEvent.j0])
  | succ kj5 =>
   have H := HA.out
   clear HA
   simp only [impl_AddEvent.j0] at H
   by_cases c52 : x33_5 = true
   ·
    subst c52
    have H1 : (some (t304, t307, t308, t309, 3)) = some (r1, r2, r3, r4, r5) := by rw [if_pos rfl] at H; exact H
    clear H
    have H := H1
    clear H1
    simp only [Option.some.injEq, Prod.mk.injEq] at H
    obtain ⟨rfl, rfl, rfl, rfl, rfl⟩ := H
    have hnb53 := NB310_301.out
    have hnc53 := NB301_310.out
    have hnb54 := NB310_302.out
    have hnc54 := NB302_310.out
    have hnb55 := NB310_303.out
    have hnc55 := NB303_310.out
    obtain ⟨hcz56_0, hcz56_1, hcz56_2, hcz56_3⟩ := cbz4_ BK310.out
    obtain ⟨hfz56_0, hfz56_1, hfz56_2, hfz56_3⟩ := bfz4_ BK310.out
    have hnb57 := NB303_301.out
    have hnc57 := NB301_303.out
    have hnb58 := NB303_302.out
    have hnc58 := NB302_303.out
    obtain ⟨hcz59_0, hcz59_1, hcz59_2, hcz59_3⟩ := cbz4_ BK303.out
    obtain ⟨hfz59_0, hfz59_1, hfz59_2, hfz59_3⟩ := bfz4_ BK303.out
    go_wp2_with (first | ((with_reducible refine gate_store (t := 30) (p := 8) rfl ?_); refine st_ (w1 := ((((wc.setCell ⟨gb303, 0, none⟩ (.slice Ao15 t304.length co15)).setCell ⟨gb303, 1, none⟩ (.int .i64 t307)).setCell ⟨gb303, 2, none⟩ (.int .i64 t308)).setCell ⟨gb303, 3, none⟩ (.int .i64 t309))) ?_; intro w60 hw; replace HO_311000 : Aside0 (Kd.R k62 62 w60 w.heap.size (fun _ => True) (.slice Ao15 t304.length co15) t304) := ⟨(by rw [hw]; exact (by (with_reducible repeat (first | apply Kd.R_alloc | apply Kd.R_drewN | apply Kd.R_drew)); exact Kd.R_mono (Rf4_ (g := gb303) (Kd.R_types HO_311000.out BK303.out (by decide))) (fun _ hk => trivial)))⟩; replace BK301 := uk_ hw BK301.out; replace BK302 := uk_ hw BK302.out; replace BK303 : Aside0 (w60.heap[gb303]? = some (.cells #[.slice Ao15 t304.length co15, .int .i64 t307, .int .i64 t308, .int .i64 t309] 30 (0, 0))) := ⟨(by rw [hw]; exact (by (with_reducible repeat first|apply bn_|apply bd_|apply ba_); apply bp4_; (with_reducible repeat first|apply bn_|apply bd_|apply ba_); exact BK303.out))⟩; replace BK310 := uk_ hw BK310.out; replace HB := uh_ hw HB.out; clear hw))
    refine bodyPost_ret (results_ct rfl _ _ gb303 30 #[.slice Ao15 t304.length co15, .int .i64 t307, .int .i64 t308, .int .i64 t309] (0, 0) _ rfl (ub_ BK303.out) Try.underlying30 rfl (by kernel_rfl)) rfl ?_
    exact ⟨_, ew_, by (with_reducible repeat (first | apply Kd.R_alloc | apply Kd.R_drewN | apply Kd.R_drew)); exact HO_311000.out, ue_ HB.out⟩
   replace c52 := Bool.eq_false_iff.mpr c52
   subst c52
   have H1 : ((impl_WindowOf.f a3_2 a1).bind fun t315 => ((impl_aggOf.f a3_0 a3_1 a3_2 a3_3 t315).bind fun bt316 => ((slices_BinarySearchFunc_impl_Agg_impl_Agg_impl_Agg.f l0_0 bt316.1 bt316.2.1 bt316.2.2.1 bt316.2.2.2.1 bt316.2.2.2.2.1 bt316.2.2.2.2.2 ord62).bind fun bt323 => ((impl_WindowEnd.f bt316.1 a1).bind fun t325 => (if t325 ≤ a0_1 then ((impl_more.f a0_2).bind fun t326 => (some (t304, t307, t326, t309, 1))) else (if bt323.2 = true then (impl_AddEvent.j1 kj5 false l0_0 a0_1 a0_2 a0_3 t304 t307 t308 t309 bt316.1 bt316.2.1 bt316.2.2.1 bt316.2.2.2.1 bt316.2.2.2.2.1 bt316.2.2.2.2.2) else (impl_AddEvent.j1 kj5 (decide ((l0_0.length : Int) ≥ a2)) l0_0 a0_1 a0_2 a0_3 t304 t307 t308 t309 bt316.1 bt316.2.1 bt316.2.2.1 bt316.2.2.2.1 bt316.2.2.2.2.1 bt316.2.2.2.2.2))))))) = some (r1, r2, r3, r4, r5) := by rw [if_neg (show ¬ (false = true) by decide)] at H; exact H
   clear H
   have H := H1
   clear H1
   replace H := Option.bind_eq_some_iff.mp H
   obtain ⟨t315, A610, H⟩ := H
   replace H : ((impl_aggOf.f a3_0 a3_1 a3_2 a3_3 t315).bind fun bt316 => ((slices_BinarySearchFunc_impl_Agg_impl_Agg_impl_Agg.f l0_0 bt316.1 bt316.2.1 bt316.2.2.1 bt316.2.2.2.1 bt316.2.2.2.2.1 bt316.2.2.2.2.2 ord62).bind fun bt323 => ((impl_WindowEnd.f bt316.1 a1).bind fun t325 => (if t325 ≤ a0_1 then ((impl_more.f a0_2).bind fun t326 => (some (t304, t307, t326, t309, 1))) else (if bt323.2 = true then (impl_AddEvent.j1 kj5 false l0_0 a0_1 a0_2 a0_3 t304 t307 t308 t309 bt316.1 bt316.2.1 bt316.2.2.1 bt316.2.2.2.1 bt316.2.2.2.2.1 bt316.2.2.2.2.2) else (impl_AddEvent.j1 kj5 (decide ((l0_0.length : Int) ≥ a2)) l0_0 a0_1 a0_2 a0_3 t304 t307 t308 t309 bt316.1 bt316.2.1 bt316.2.2.1 bt316.2.2.2.1 bt316.2.2.2.2.1 bt316.2.2.2.2.2)))))) = some (r1, r2, r3, r4, r5) := H
   have A61 := Aside0.mk A610
   clear A610
   replace H := Option.bind_eq_some_iff.mp H
   obtain ⟨⟨t316, t317, t318, t319, t320, t321⟩, A620, H⟩ := H
   replace H : ((slices_BinarySearchFunc_impl_Agg_impl_Agg_impl_Agg.f l0_0 t316 t317 t318 t319 t320 t321 ord62).bind fun bt323 => ((impl_WindowEnd.f t316 a1).bind fun t325 => (if t325 ≤ a0_1 then ((impl_more.f a0_2).bind fun t326 => (some (t304, t307, t326, t309, 1))) else (if bt323.2 = true then (impl_AddEvent.j1 kj5 false l0_0 a0_1 a0_2 a0_3 t304 t307 t308 t309 t316 t317 t318 t319 t320 t321) else (impl_AddEvent.j1 kj5 (decide ((l0_0.length : Int) ≥ a2)) l0_0 a0_1 a0_2 a0_3 t304 t307 t308 t309 t316 t317 t318 t319 t320 t321))))) = some (r1, r2, r3, r4, r5) := H
   have A62 := Aside0.mk A620
   clear A620
   replace H := Option.bind_eq_some_iff.mp H
   obtain ⟨⟨t323, t324⟩, A630, H⟩ := H
   replace H : ((impl_WindowEnd.f t316 a1).bind fun t325 => (if t325 ≤ a0_1 then ((impl_more.f a0_2).bind fun t326 => (some (t304, t307, t326, t309, 1))) else (if t324 = true then (impl_AddEvent.j1 kj5 false l0_0 a0_1 a0_2 a0_3 t304 t307 t308 t309 t316 t317 t318 t319 t320 t321) else (impl_AddEvent.j1 kj5 (decide ((l0_0.length : Int) ≥ a2)) l0_0 a0_1 a0_2 a0_3 t304 t307 t308 t309 t316 t317 t318 t319 t320 t321)))) = some (r1, r2, r3, r4, r5) := H
   have A63 := Aside0.mk A630
   clear A630
   replace H := Option.bind_eq_some_iff.mp H
   obtain ⟨t325, A640, H⟩ := H
   replace H : (if t325 ≤ a0_1 then ((impl_more.f a0_2).bind fun t326 => (some (t304, t307, t326, t309, 1))) else (if t324 = true then (impl_AddEvent.j1 kj5 false l0_0 a0_1 a0_2 a0_3 t304 t307 t308 t309 t316 t317 t318 t319 t320 t321) else (impl_AddEvent.j1 kj5 (decide ((l0_0.length : Int) ≥ a2)) l0_0 a0_1 a0_2 a0_3 t304 t307 t308 t309 t316 t317 t318 t319 t320 t321))) = some (r1, r2, r3, r4, r5) := H
   have A64 := Aside0.mk A640
   clear A640
   by_cases c65 : t325 ≤ a0_1
   ·
    rw [if_pos c65] at H
    have c65b0 : decide (t325 ≤ a0_1) = true := decide_eq_true c65
    clear c65
    replace H := Option.bind_eq_some_iff.mp H
    obtain ⟨t326, A660, H⟩ := H
    replace H : (some (t304, t307, t326, t309, 1)) = some (r1, r2, r3, r4, r5) := H
    have A66 := Aside0.mk A660
    clear A660
    simp only [Option.some.injEq, Prod.mk.injEq] at H
    obtain ⟨rfl, rfl, rfl, rfl, rfl⟩ := H
    try go_wp2
    replace HO_311000 := am_ (Kd.R_drew HO_311000.out)
    replace BK301 := am_ (blk_drew BK301.out)
    replace BK302 := am_ (blk_drew BK302.out)
    replace BK303 := am_ (blk_drew BK303.out)
    replace BK310 := am_ (blk_drew BK310.out)
    replace HB := am_ (below_drew1 HB.out)
    refine start_ (n := 8) (S := fun w' => w'.cell? ⟨gb302, 0, none⟩ = some (.int .i64 a3_0) ∧ w'.cell? ⟨gb302, 1, none⟩ = some (.int .i64 a3_1) ∧ w'.cell? ⟨gb302, 2, none⟩ = some (.int .i64 a3_2) ∧ w'.cell? ⟨gb302, 3, none⟩ = some (.int .i64 a3_3)) (ds := []) #[false, false, false, false, false, false, false, false] (by kernel_rfl) rfl rfl (cbz4_ BK302.out) (fun hHeld => ?_); refine with_tabW impl_AddEvent.tab4 impl_AddEvent.bits4 (fun HT_ HW_ => ?_)
    generalize wc.drew = w67 at HO_311000 BK301 BK302 BK303 BK310 HB hHeld ⊢
    refine pu_ (i := 1) (N := some 36) #[false, true, false, false, false, false, false, false] HT_ ?_
    refine pu_ (i := 3) (N := some 38) #[false, true, false, true, false, false, false, false] HT_ ?_
    refine tk_ (i := 0) (N := some 35) #[true, true, false, true, false, false, false, false] HT_ HW_ hHeld ?_
    refine tk_ (i := 2) (N := some 37) #[true, true, true, true, false, false, false, false] HT_ HW_ hHeld ?_
    refine join_ (σ := Nat) 1 #[true, true, true, true, true, true, true, false] (fun s_ => [(39, .int .i64 t315), (40, .agg #[.int .i64 t316, .int .i64 t317, .int .i64 t318, .int .i64 t319, .int .i64 t320, .int .i64 t321]), (11, .pointer (some ⟨s_, 0, none⟩))]) (fun s_ w' => (w'.cell? ⟨gb302, 0, none⟩ = some (.int .i64 a3_0) ∧ w'.cell? ⟨gb302, 1, none⟩ = some (.int .i64 a3_1) ∧ w'.cell? ⟨gb302, 2, none⟩ = some (.int .i64 a3_2) ∧ w'.cell? ⟨gb302, 3, none⟩ = some (.int .i64 a3_3)) ∧ (Kd.R k62 62 w' w.heap.size (fun k_ => k_ ≠ s_) (.slice Ao15 t304.length co15) t304) ∧ (w'.heap[gb301]? = some (.cells #[.slice A0_0 l0_0.length c0_0, .int .i64 a0_1, .int .i64 a0_2, .int .i64 a0_3] 30 (0, 0))) ∧ (w'.heap[gb302]? = some (.cells #[.int .i64 a3_0, .int .i64 a3_1, .int .i64 a3_2, .int .i64 a3_3] 34 (0, 0))) ∧ (w'.heap[gb303]? = some (.cells #[.slice none 0 0, .int .i64 0, .int .i64 0, .int .i64 0] 30 (0, 0))) ∧ (w'.heap[gb310]? = some (.cells #[.slice Ao15 t304.length co15, .int .i64 t307, .int .i64 t308, .int .i64 t309] 30 (0, 0))) ∧ (w'.heap[s_]? = some (.cells #[.int .i64 0, .int .i64 0, .int .i64 0, .int .i64 0, .int .i64 0, .int .i64 0] 62 (0, 0))) ∧ (w.heap.size ≤ s_) ∧ (w.heap.size ≤ s_) ∧ (gb301 ≠ s_) ∧ (s_ ≠ gb301) ∧ (gb302 ≠ s_) ∧ (s_ ≠ gb302) ∧ (gb303 ≠ s_) ∧ (s_ ≠ gb303) ∧ (gb310 ≠ s_) ∧ (s_ ≠ gb310) ∧ (Below w.heap.size w w')) ?_ ?_
    rotate_left
    ·
     intro hCont
     refine two_ (i := 4) (j := 6) (Ni := some 39) (Nj := some 11) #[true, true, true, true, true, false, false, false] #[true, true, true, true, false, false, true, false] rfl rfl rfl rfl (two_of HT_.out (by kernel_rfl)) (by decide) (by decide) (fun K hK => ?_) (fun K hK => ?_)
     ·
      skip
      refine goes_ Try.func39 (by kernel_rfl) rfl #[.int .i64 a3_2, .int .i64 a1] (by rfl) rfl rfl ul_ ?_
      with_reducible refine (impl_WindowOf.calls a3_2 a1 t315 _ A61.out).mono ?_
      rintro e w' ⟨rfl, ⟨nd, rfl⟩⟩
      refine ⟨_, rfl, ?_⟩
      refine hK.out _ _ (cbz4_ BK302.out) (fun hHeld => ?_)
      clear hK K
      refine norm_ (a' := ?_) ?_ ?_
      rotate_left
      ·
       show Act.put _ (some 39) _ = _
       simp only [Act.put, List.setIfInBounds_toArray, List.set_cons_zero, List.set_cons_succ, i64_w, i32_w]
       rfl
      refine two_ (i := 5) (j := 6) (Ni := some 40) (Nj := some 11) #[true, true, true, true, true, true, false, false] #[true, true, true, true, true, false, true, false] rfl rfl rfl rfl (two_of HT_.out (by kernel_rfl)) (by decide) (by decide) (fun K hK => ?_) (fun K hK => ?_)
      ·
       skip
       refine goes_ Try.func38 (by kernel_rfl) rfl #[.agg #[.int .i64 a3_0, .int .i64 a3_1, .int .i64 a3_2, .int .i64 a3_3], .int .i64 t315] (by rfl) rfl rfl ul_ ?_
       with_reducible refine (impl_aggOf.calls a3_0 a3_1 a3_2 a3_3 t315 t316 t317 t318 t319 t320 t321 _ A62.out).mono ?_
       rintro e w68 ⟨rfl, hb⟩
       refine ⟨_, rfl, ?_⟩
       replace HO_311000 := am_ (Kd.R_below (ur_ HO_311000.out) hb)
       replace BK301 := bs_ BK301 hb
       replace BK302 := bs_ BK302 hb
       replace BK303 := bs_ BK303 hb
       replace BK310 := bs_ BK310 hb
       replace HB := hs_ HB hb
       (try clear hb)
       (try clear hb2)
       (try clear hk)
       (try clear hi)
       refine hK.out _ _ (cbz4_ BK302.out) (fun hHeld => ?_)
       clear hK K
       refine norm_ (a' := ?_) ?_ ?_
       rotate_left
       ·
        show Act.put _ (some 40) _ = _
        simp only [Act.put, List.setIfInBounds_toArray, List.set_cons_zero, List.set_cons_succ, i64_w, i32_w]
        rfl
       refine one_ (i := 6) (N := some 11) #[true, true, true, true, true, true, true, false] rfl rfl (one_of HT_.out (by kernel_rfl)) (by decide) (fun K hK => ?_)
       refine box_step ?hg (N := 11) ?hd (cs := #[.int .i64 0, .int .i64 0, .int .i64 0, .int .i64 0, .int .i64 0, .int .i64 0]) (t := 62) ?hr ?_; (case hd => rfl); (case hg => rfl); (case hr => first | (go_simp; done) | (go_simp; rfl))
       intro gb322 hg w69 hbox hb
       replace HO_311000 := am_ (Kd.R_below (Kd.R_elderB (ur_ HO_311000.out) gb322 (Nat.le_of_eq hg.symm)) hb)
       have BK322 := am_ (hbox)
       have GW322 := gs_ hg HB.out
       have GE322 := gs_ hg HB.out
       replace HB := hs_ HB hb
       have NB301_322 := nl_ hg BK301.out
       have NB322_301 := ng_ hg BK301.out
       replace BK301 := bs_ BK301 hb
       have NB302_322 := nl_ hg BK302.out
       have NB322_302 := ng_ hg BK302.out
       replace BK302 := bs_ BK302 hb
       have NB303_322 := nl_ hg BK303.out
       have NB322_303 := ng_ hg BK303.out
       replace BK303 := bs_ BK303 hb
       have NB310_322 := nl_ hg BK310.out
       have NB322_310 := ng_ hg BK310.out
       replace BK310 := bs_ BK310 hb
       clear hb hbox hg
       refine hK.out _ _ (cbz4_ BK302.out) (fun hHeld => ?_)
       clear hK K
       refine norm_ (a' := ?_) ?_ ?_
       rotate_left
       ·
        show Act.put _ (some 11) _ = _
        simp only [Act.put, List.setIfInBounds_toArray, List.set_cons_zero, List.set_cons_succ, i64_w, i32_w]
        rfl
       exact norm_ (by simp only [putAll, Act.put, List.setIfInBounds_toArray, List.set_cons_zero, List.set_cons_succ]) (hCont (gb322) _ ⟨hHeld, (by (with_reducible repeat (first | apply Kd.R_alloc | apply Kd.R_drewN | apply Kd.R_drew)); exact Kd.R_mono HO_311000.out h2_), (ub_ BK301.out), (ub_ BK302.out), (ub_ BK303.out), (ub_ BK310.out), (ub_ BK322.out), GW322.out, GE322.out, NB301_322.out, NB322_301.out, NB302_322.out, NB322_302.out, NB303_322.out, NB322_303.out, NB310_322.out, NB322_310.out, (ue_ HB.out)⟩)
      skip
      refine box_step ?hg (N := 11) ?hd (cs := #[.int .i64 0, .int .i64 0, .int .i64 0, .int .i64 0, .int .i64 0, .int .i64 0]) (t := 62) ?hr ?_; (case hd => rfl); (case hg => rfl); (case hr => first | (go_simp; done) | (go_simp; rfl))
      intro gb322 hg w68 hbox hb
      replace HO_311000 := am_ (Kd.R_below (Kd.R_elderB (ur_ HO_311000.out) gb322 (Nat.le_of_eq hg.symm)) hb)
      have BK322 := am_ (hbox)
      have GW322 := gs_ hg HB.out
      have GE322 := gs_ hg HB.out
      replace HB := hs_ HB hb
      have NB301_322 := nl_ hg BK301.out
      have NB322_301 := ng_ hg BK301.out
      replace BK301 := bs_ BK301 hb
      have NB302_322 := nl_ hg BK302.out
      have NB322_302 := ng_ hg BK302.out
      replace BK302 := bs_ BK302 hb
      have NB303_322 := nl_ hg BK303.out
      have NB322_303 := ng_ hg BK303.out
      replace BK303 := bs_ BK303 hb
      have NB310_322 := nl_ hg BK310.out
      have NB322_310 := ng_ hg BK310.out
      replace BK310 := bs_ BK310 hb
      clear hb hbox hg
      refine hK.out _ _ (cbz4_ BK302.out) (fun hHeld => ?_)
      clear hK K
      refine norm_ (a' := ?_) ?_ ?_
      rotate_left
      ·
       show Act.put _ (some 11) _ = _
       simp only [Act.put, List.setIfInBounds_toArray, List.set_cons_zero, List.set_cons_succ, i64_w, i32_w]
       rfl
      refine one_ (i := 5) (N := some 40) #[true, true, true, true, true, true, true, false] rfl rfl (one_of HT_.out (by kernel_rfl)) (by decide) (fun K hK => ?_)
      refine goes_ Try.func38 (by kernel_rfl) rfl #[.agg #[.int .i64 a3_0, .int .i64 a3_1, .int .i64 a3_2, .int .i64 a3_3], .int .i64 t315] (by rfl) rfl rfl ul_ ?_
      with_reducible refine (impl_aggOf.calls a3_0 a3_1 a3_2 a3_3 t315 t316 t317 t318 t319 t320 t321 _ A62.out).mono ?_
      rintro e w69 ⟨rfl, hb⟩
      refine ⟨_, rfl, ?_⟩
      replace HO_311000 := am_ (Kd.R_below (ur_ HO_311000.out) hb)
      replace BK301 := bs_ BK301 hb
      replace BK302 := bs_ BK302 hb
      replace BK303 := bs_ BK303 hb
      replace BK310 := bs_ BK310 hb
      replace BK322 := bs_ BK322 hb
      replace HB := hs_ HB hb
      (try clear hb)
      (try clear hb2)
      (try clear hk)
      (try clear hi)
      refine hK.out _ _ (cbz4_ BK302.out) (fun hHeld => ?_)
      clear hK K
      refine norm_ (a' := ?_) ?_ ?_
      rotate_left
      ·
       show Act.put _ (some 40) _ = _
       simp only [Act.put, List.setIfInBounds_toArray, List.set_cons_zero, List.set_cons_succ, i64_w, i32_w]
       rfl
      exact norm_ (by simp only [putAll, Act.put, List.setIfInBounds_toArray, List.set_cons_zero, List.set_cons_succ]) (hCont (gb322) _ ⟨hHeld, (by (with_reducible repeat (first | apply Kd.R_alloc | apply Kd.R_drewN | apply Kd.R_drew)); exact Kd.R_mono HO_311000.out h2_), (ub_ BK301.out), (ub_ BK302.out), (ub_ BK303.out), (ub_ BK310.out), (ub_ BK322.out), GW322.out, GE322.out, NB301_322.out, NB322_301.out, NB302_322.out, NB322_302.out, NB303_322.out, NB322_303.out, NB310_322.out, NB322_310.out, (ue_ HB.out)⟩)
     skip
     refine box_step ?hg (N := 11) ?hd (cs := #[.int .i64 0, .int .i64 0, .int .i64 0, .int .i64 0, .int .i64 0, .int .i64 0]) (t := 62) ?hr ?_; (case hd => rfl); (case hg => rfl); (case hr => first | (go_simp; done) | (go_simp; rfl))
     intro gb322 hg w68 hbox hb
     replace HO_311000 := am_ (Kd.R_below (Kd.R_elderB (ur_ HO_311000.out) gb322 (Nat.le_of_eq hg.symm)) hb)
     have BK322 := am_ (hbox)
     have GW322 := gs_ hg HB.out
     have GE322 := gs_ hg HB.out
     replace HB := hs_ HB hb
     have NB301_322 := nl_ hg BK301.out
     have NB322_301 := ng_ hg BK301.out
     replace BK301 := bs_ BK301 hb
     have NB302_322 := nl_ hg BK302.out
     have NB322_302 := ng_ hg BK302.out
     replace BK302 := bs_ BK302 hb
     have NB303_322 := nl_ hg BK303.out
     have NB322_303 := ng_ hg BK303.out
     replace BK303 := bs_ BK303 hb
     have NB310_322 := nl_ hg BK310.out
     have NB322_310 := ng_ hg BK310.out
     replace BK310 := bs_ BK310 hb
     clear hb hbox hg
     refine hK.out _ _ (cbz4_ BK302.out) (fun hHeld => ?_)
     clear hK K
     refine norm_ (a' := ?_) ?_ ?_
     rotate_left
     ·
      show Act.put _ (some 11) _ = _
      simp only [Act.put, List.setIfInBounds_toArray, List.set_cons_zero, List.set_cons_succ, i64_w, i32_w]
      rfl
     refine one_ (i := 4) (N := some 39) #[true, true, true, true, true, false, true, false] rfl rfl (one_of HT_.out (by kernel_rfl)) (by decide) (fun K hK => ?_)
     refine goes_ Try.func39 (by kernel_rfl) rfl #[.int .i64 a3_2, .int .i64 a1] (by rfl) rfl rfl ul_ ?_
     with_reducible refine (impl_WindowOf.calls a3_2 a1 t315 _ A61.out).mono ?_
     rintro e w' ⟨rfl, ⟨nd, rfl⟩⟩
     refine ⟨_, rfl, ?_⟩
     refine hK.out _ _ (cbz4_ BK302.out) (fun hHeld => ?_)
     clear hK K
     refine norm_ (a' := ?_) ?_ ?_
     rotate_left
     ·
      show Act.put _ (some 39) _ = _
      simp only [Act.put, List.setIfInBounds_toArray, List.set_cons_zero, List.set_cons_succ, i64_w, i32_w]
      rfl
     refine one_ (i := 5) (N := some 40) #[true, true, true, true, true, true, true, false] rfl rfl (one_of HT_.out (by kernel_rfl)) (by decide) (fun K hK => ?_)
     refine goes_ Try.func38 (by kernel_rfl) rfl #[.agg #[.int .i64 a3_0, .int .i64 a3_1, .int .i64 a3_2, .int .i64 a3_3], .int .i64 t315] (by rfl) rfl rfl ul_ ?_
     with_reducible refine (impl_aggOf.calls a3_0 a3_1 a3_2 a3_3 t315 t316 t317 t318 t319 t320 t321 _ A62.out).mono ?_
     rintro e w69 ⟨rfl, hb⟩
     refine ⟨_, rfl, ?_⟩
     replace HO_311000 := am_ (Kd.R_below (ur_ HO_311000.out) hb)
     replace BK301 := bs_ BK301 hb
     replace BK302 := bs_ BK302 hb
     replace BK303 := bs_ BK303 hb
     replace BK310 := bs_ BK310 hb
     replace BK322 := bs_ BK322 hb
     replace HB := hs_ HB hb
     (try clear hb)
     (try clear hb2)
     (try clear hk)
     (try clear hi)
     refine hK.out _ _ (cbz4_ BK302.out) (fun hHeld => ?_)
     clear hK K
     refine norm_ (a' := ?_) ?_ ?_
     rotate_left
     ·
      show Act.put _ (some 40) _ = _
      simp only [Act.put, List.setIfInBounds_toArray, List.set_cons_zero, List.set_cons_succ, i64_w, i32_w]
      rfl
     exact norm_ (by simp only [putAll, Act.put, List.setIfInBounds_toArray, List.set_cons_zero, List.set_cons_succ]) (hCont (gb322) _ ⟨hHeld, (by (with_reducible repeat (first | apply Kd.R_alloc | apply Kd.R_drewN | apply Kd.R_drew)); exact Kd.R_mono HO_311000.out h2_), (ub_ BK301.out), (ub_ BK302.out), (ub_ BK303.out), (ub_ BK310.out), (ub_ BK322.out), GW322.out, GE322.out, NB301_322.out, NB322_301.out, NB302_322.out, NB322_302.out, NB303_322.out, NB322_303.out, NB310_322.out, NB322_310.out, (ue_ HB.out)⟩)
    rintro gb322 w70 ⟨hS_, h0_, h1_, h2_, h3_, h4_, h5_, h6_, h7_, h8_, h9_, h10_, h11_, h12_, h13_, h14_, h15_, h16_⟩
    replace HO_311000 : Aside0 (Kd.R k62 62 w70 w.heap.size (fun k_ => k_ ≠ gb322) (.slice Ao15 t304.length co15) t304) := ⟨h0_⟩
    replace BK301 : Aside0 (w70.heap[gb301]? = some (.cells #[.slice A0_0 l0_0.length c0_0, .int .i64 a0_1, .int .i64 a0_2, .int .i64 a0_3] 30 (0, 0))) := ⟨h1_⟩
    replace BK302 : Aside0 (w70.heap[gb302]? = some (.cells #[.int .i64 a3_0, .int .i64 a3_1, .int .i64 a3_2, .int .i64 a3_3] 34 (0, 0))) := ⟨h2_⟩
    replace BK303 : Aside0 (w70.heap[gb303]? = some (.cells #[.slice none 0 0, .int .i64 0, .int .i64 0, .int .i64 0] 30 (0, 0))) := ⟨h3_⟩
    replace BK310 : Aside0 (w70.heap[gb310]? = some (.cells #[.slice Ao15 t304.length co15, .int .i64 t307, .int .i64 t308, .int .i64 t309] 30 (0, 0))) := ⟨h4_⟩
    have BK322 : Aside0 (w70.heap[gb322]? = some (.cells #[.int .i64 0, .int .i64 0, .int .i64 0, .int .i64 0, .int .i64 0, .int .i64 0] 62 (0, 0))) := ⟨h5_⟩
    have GW322 : Aside0 (w.heap.size ≤ gb322) := ⟨h6_⟩
    have GE322 : Aside0 (w.heap.size ≤ gb322) := ⟨h7_⟩
    have NB301_322 : Aside0 (gb301 ≠ gb322) := ⟨h8_⟩
    have NB322_301 : Aside0 (gb322 ≠ gb301) := ⟨h9_⟩
    have NB302_322 : Aside0 (gb302 ≠ gb322) := ⟨h10_⟩
    have NB322_302 : Aside0 (gb322 ≠ gb302) := ⟨h11_⟩
    have NB303_322 : Aside0 (gb303 ≠ gb322) := ⟨h12_⟩
    have NB322_303 : Aside0 (gb322 ≠ gb303) := ⟨h13_⟩
    have NB310_322 : Aside0 (gb310 ≠ gb322) := ⟨h14_⟩
    have NB322_310 : Aside0 (gb322 ≠ gb310) := ⟨h15_⟩
    replace HB : Aside0 (Below w.heap.size w w70) := ⟨h16_⟩
    clear h0_ h1_ h2_ h3_ h4_ h5_ h6_ h7_ h8_ h9_ h10_ h11_ h12_ h13_ h14_ h15_ h16_
    have hHeld : w70.cell? ⟨gb302, 0, none⟩ = some (.int .i64 a3_0) ∧ w70.cell? ⟨gb302, 1, none⟩ = some (.int .i64 a3_1) ∧ w70.cell? ⟨gb302, 2, none⟩ = some (.int .i64 a3_2) ∧ w70.cell? ⟨gb302, 3, none⟩ = some (.int .i64 a3_3) := hS_
    refine norm_ (a' := ?_) ?_ ?_
    rotate_left
    ·
     simp only [putAll, Act.put, List.setIfInBounds_toArray, List.set_cons_zero, List.set_cons_succ]
     rfl
    refine one_ (i := 7) (N := none) #[true, true, true, true, true, true, true, true] rfl rfl (one_of HT_.out (by kernel_rfl)) (by decide) (fun K hK => ?_)
    have hs71 := cb_ BK322.out 0 rfl
    have hfs71 := blk_frozen BK322.out 0
    have hns71_0 := NB301_322.out
    have hns71_1 := NB302_322.out
    have hns71_2 := NB303_322.out
    have hns71_3 := NB310_322.out
    have hms71_0 := NB322_301.out
    have hms71_1 := NB322_302.out
    have hms71_2 := NB322_303.out
    have hms71_3 := NB322_310.out
    have hs72 := cb_ BK322.out 1 rfl
    have hfs72 := blk_frozen BK322.out 1
    have hns72_0 := NB301_322.out
    have hns72_1 := NB302_322.out
    have hns72_2 := NB303_322.out
    have hns72_3 := NB310_322.out
    have hms72_0 := NB322_301.out
    have hms72_1 := NB322_302.out
    have hms72_2 := NB322_303.out
    have hms72_3 := NB322_310.out
    have hs73 := cb_ BK322.out 2 rfl
    have hfs73 := blk_frozen BK322.out 2
    have hns73_0 := NB301_322.out
    have hns73_1 := NB302_322.out
    have hns73_2 := NB303_322.out
    have hns73_3 := NB310_322.out
    have hms73_0 := NB322_301.out
    have hms73_1 := NB322_302.out
    have hms73_2 := NB322_303.out
    have hms73_3 := NB322_310.out
    have hs74 := cb_ BK322.out 3 rfl
    have hfs74 := blk_frozen BK322.out 3
    have hns74_0 := NB301_322.out
    have hns74_1 := NB302_322.out
    have hns74_2 := NB303_322.out
    have hns74_3 := NB310_322.out
    have hms74_0 := NB322_301.out
    have hms74_1 := NB322_302.out
    have hms74_2 := NB322_303.out
    have hms74_3 := NB322_310.out
    have hs75 := cb_ BK322.out 4 rfl
    have hfs75 := blk_frozen BK322.out 4
    have hns75_0 := NB301_322.out
    have hns75_1 := NB302_322.out
    have hns75_2 := NB303_322.out
    have hns75_3 := NB310_322.out
    have hms75_0 := NB322_301.out
    have hms75_1 := NB322_302.out
    have hms75_2 := NB322_303.out
    have hms75_3 := NB322_310.out
    have hs76 := cb_ BK322.out 5 rfl
    have hfs76 := blk_frozen BK322.out 5
    have hns76_0 := NB301_322.out
    have hns76_1 := NB302_322.out
    have hns76_2 := NB303_322.out
    have hns76_3 := NB310_322.out
    have hms76_0 := NB322_301.out
    have hms76_1 := NB322_302.out
    have hms76_2 := NB322_303.out
    have hms76_3 := NB322_310.out
    refine skip_ (w1 := ?_) (by rfl) rfl ?_ ?_
    rotate_left
    ·
     go_simp
     rfl
    refine hK.out _ _ ⟨(cf6_ hHeld.1 NB302_322.out), (cf6_ hHeld.2.1 NB302_322.out), (cf6_ hHeld.2.2.1 NB302_322.out), (cf6_ hHeld.2.2.2 NB302_322.out)⟩ (fun hHeld => ?_)
    clear hK K
    refine done_ (done_of HT_.out (by kernel_rfl)) ?_
    have hnb77 := NB301_302.out
    have hnc77 := NB302_301.out
    have hnb78 := NB301_303.out
    have hnc78 := NB303_301.out
    have hnb79 := NB301_310.out
    have hnc79 := NB310_301.out
    have hnb80 := NB301_322.out
    have hnc80 := NB322_301.out
    obtain ⟨hcz81_0, hcz81_1, hcz81_2, hcz81_3⟩ := cbz4_ BK301.out
    obtain ⟨hfz81_0, hfz81_1, hfz81_2, hfz81_3⟩ := bfz4_ BK301.out
    have hnb82 := NB322_302.out
    have hnc82 := NB302_322.out
    have hnb83 := NB322_303.out
    have hnc83 := NB303_322.out
    have hnb84 := NB322_310.out
    have hnc84 := NB310_322.out
    obtain ⟨hcz85_0, hcz85_1, hcz85_2, hcz85_3, hcz85_4, hcz85_5⟩ := cbz6_ BK322.out
    obtain ⟨hfz85_0, hfz85_1, hfz85_2, hfz85_3, hfz85_4, hfz85_5⟩ := bfz6_ BK322.out
    try go_wp2_with (first | ((with_reducible refine gate_callee (f := 40) rfl ?_); refine goesL_ (some 45) rfl rfl Try.func40 (by kernel_rfl) rfl #[.slice A0_0 l0_0.length c0_0, .agg #[.int .i64 t316, .int .i64 t317, .int .i64 t318, .int .i64 t319, .int .i64 t320, .int .i64 t321], .func (.func 41) #[] #[]] rfl ul_ ?_; (with_reducible refine (slices_BinarySearchFunc_impl_Agg_impl_Agg_impl_Agg.calls _ _ l0_0 t316 t317 t318 t319 t320 t321 ord62 41 #[] t323 t324 _ ?side1 ?side2 ?side3 A63.out).mono ?_); (case side1 => exact Kd.C_below HR0_0.out (ue_ HB.out)); (case side2 => exact HC0_0.out); (case side3 => exact impl_aggOrder.pays _); rintro e w86 ⟨rfl, hb⟩; refine ⟨_, rfl, ?_⟩; replace HO_311000 := am_ (Kd.R_below (by (with_reducible repeat (first | apply Kd.R_alloc | apply Kd.R_drewN | apply Kd.R_drew)); exact (Kd.R_mono (Rf6_ (g := gb322) (Kd.R_mono HO_311000.out (fun k_ hk => (⟨hk, (by first | exact hk | grind)⟩ : _ ∧ k_ ≠ gb322)))) (fun _ h_ => h_.1))) hb); replace BK301 := am_ (blk_below (g := gb301) (o := .cells #[.slice A0_0 l0_0.length c0_0, .int .i64 a0_1, .int .i64 a0_2, .int .i64 a0_3] 30 (0, 0)) (uf_ BK301.out) hb); replace BK302 := am_ (blk_below (g := gb302) (o := .cells #[.int .i64 a3_0, .int .i64 a3_1, .int .i64 a3_2, .int .i64 a3_3] 34 (0, 0)) (uf_ BK302.out) hb); replace BK303 := am_ (blk_below (g := gb303) (o := .cells #[.slice none 0 0, .int .i64 0, .int .i64 0, .int .i64 0] 30 (0, 0)) (uf_ BK303.out) hb); replace BK310 := am_ (blk_below (g := gb310) (o := .cells #[.slice Ao15 t304.length co15, .int .i64 t307, .int .i64 t308, .int .i64 t309] 30 (0, 0)) (uf_ BK310.out) hb); replace BK322 := am_ (blk_below (g := gb322) (o := .cells #[.int .i64 t316, .int .i64 t317, .int .i64 t318, .int .i64 t319, .int .i64 t320, .int .i64 t321] 62 (0, 0)) (by (with_reducible repeat first|apply bn_|apply bd_|apply ba_); apply bp6_; (with_reducible repeat first|apply bn_|apply bd_|apply ba_); exact BK322.out) hb); replace HB := hs_ HB hb; (try clear hb); (try clear hb2); (try clear hk); (try clear hi)))
    replace HO_311000 := am_ (Kd.R_drew HO_311000.out)
    replace BK301 := am_ (blk_drew BK301.out)
    replace BK302 := am_ (blk_drew BK302.out)
    replace BK303 := am_ (blk_drew BK303.out)
    replace BK310 := am_ (blk_drew BK310.out)
    replace BK322 := am_ (blk_drew BK322.out)
    replace HB := am_ (below_drew1 HB.out)
    refine start_ (n := 8) (S := fun w' => w'.cell? ⟨gb322, 0, none⟩ = some (.int .i64 t316) ∧ w'.cell? ⟨gb322, 1, none⟩ = some (.int .i64 t317) ∧ w'.cell? ⟨gb322, 2, none⟩ = some (.int .i64 t318) ∧ w'.cell? ⟨gb322, 3, none⟩ = some (.int .i64 t319) ∧ w'.cell? ⟨gb322, 4, none⟩ = some (.int .i64 t320) ∧ w'.cell? ⟨gb322, 5, none⟩ = some (.int .i64 t321) ∧ w'.cell? ⟨gb301, 0, none⟩ = some (.slice A0_0 l0_0.length c0_0) ∧ w'.cell? ⟨gb301, 1, none⟩ = some (.int .i64 a0_1) ∧ w'.cell? ⟨gb301, 2, none⟩ = some (.int .i64 a0_2) ∧ w'.cell? ⟨gb301, 3, none⟩ = some (.int .i64 a0_3)) (ds := []) #[false, false, false, false, false, false, false, false] (by kernel_rfl) rfl rfl ⟨cb_ BK322.out 0 rfl, cb_ BK322.out 1 rfl, cb_ BK322.out 2 rfl, cb_ BK322.out 3 rfl, cb_ BK322.out 4 rfl, cb_ BK322.out 5 rfl, cb_ BK301.out 0 rfl, cb_ BK301.out 1 rfl, cb_ BK301.out 2 rfl, cb_ BK301.out 3 rfl⟩ (fun hHeld => ?_); refine with_tabW impl_AddEvent.tab6 impl_AddEvent.bits6 (fun HT_ HW_ => ?_)
    generalize w86.drew = w87 at HO_311000 BK301 BK302 BK303 BK310 BK322 HB hHeld ⊢
    refine pu_ (i := 0) (N := some 49) #[true, false, false, false, false, false, false, false] HT_ ?_
    refine pu_ (i := 2) (N := some 51) #[true, false, true, false, false, false, false, false] HT_ ?_
    refine pu_ (i := 4) (N := some 53) #[true, false, true, false, true, false, false, false] HT_ ?_
    refine tk_ (i := 1) (N := some 50) #[true, true, true, false, true, false, false, false] HT_ HW_ hHeld ?_
    refine tk_ (i := 5) (N := some 54) #[true, true, true, false, true, true, false, false] HT_ HW_ hHeld ?_
    refine one_ (i := 3) (N := some 52) #[true, true, true, true, true, true, false, false] rfl rfl (one_of HT_.out (by kernel_rfl)) (by decide) (fun K hK => ?_)
    refine goes_ Try.func42 (by kernel_rfl) rfl #[.int .i64 t316, .int .i64 a1] (by rfl) rfl rfl ul_ ?_
    with_reducible refine (impl_WindowEnd.calls t316 a1 t325 _ A64.out).mono ?_
    rintro e w' ⟨rfl, ⟨nd, rfl⟩⟩
    refine ⟨_, rfl, ?_⟩
    refine hK.out _ _ ⟨cb_ BK322.out 0 rfl, cb_ BK322.out 1 rfl, cb_ BK322.out 2 rfl, cb_ BK322.out 3 rfl, cb_ BK322.out 4 rfl, cb_ BK322.out 5 rfl, cb_ BK301.out 0 rfl, cb_ BK301.out 1 rfl, cb_ BK301.out 2 rfl, cb_ BK301.out 3 rfl⟩ (fun hHeld => ?_)
    clear hK K
    refine norm_ (a' := ?_) ?_ ?_
    rotate_left
    ·
     show Act.put _ (some 52) _ = _
     simp only [Act.put, List.setIfInBounds_toArray, List.set_cons_zero, List.set_cons_succ, i64_w, i32_w]
     rfl
    refine pu_ (i := 6) (N := some 55) #[true, true, true, true, true, true, true, false] HT_ ?_
    refine pu_ (i := 7) (N := some 48) #[true, true, true, true, true, true, true, true] HT_ ?_
    refine done_ (done_of HT_.out (by kernel_rfl)) ?_
    obtain ⟨hcz88_0, hcz88_1, hcz88_2, hcz88_3⟩ := cbz4_ BK301.out
    obtain ⟨hfz88_0, hfz88_1, hfz88_2, hfz88_3⟩ := bfz4_ BK301.out
    try go_wp2_with (first | ((with_reducible refine gate_callee (f := 43) rfl ?_); refine goesL_ (some 58) rfl rfl Try.func43 (by kernel_rfl) rfl #[.int .i64 a0_2] rfl ul_ ?_; (with_reducible refine (impl_more.calls a0_2 t326 _ A66.out).mono ?_); rintro e w89 ⟨rfl, hb⟩; refine ⟨_, rfl, ?_⟩; replace HO_311000 := am_ (Kd.R_below (ur_ HO_311000.out) hb); replace BK301 := bs_ BK301 hb; replace BK302 := bs_ BK302 hb; replace BK303 := bs_ BK303 hb; replace BK310 := bs_ BK310 hb; replace BK322 := bs_ BK322 hb; replace HB := hs_ HB hb; (try clear hb); (try clear hb2); (try clear hk); (try clear hi); have hnb90 := NB310_302.out; have hnc90 := NB302_310.out; have hnb91 := NB310_303.out; have hnc91 := NB303_310.out; obtain ⟨hcz92_0, hcz92_1, hcz92_2, hcz92_3⟩ := cb4_ BK310.out; obtain ⟨hfz92_0, hfz92_1, hfz92_2⟩ := bf3_ BK310.out; have hfz92_3 := blk_frozen BK310.out 3) | ((with_reducible refine gate_store (t := 3) (p := 59) rfl ?_); refine st_ (w1 := (w89.setCell ⟨gb310, 2, none⟩ (.int .i64 t326))) ?_; intro w93 hw; replace HO_311000 : Aside0 (Kd.R k62 62 w93 w.heap.size (fun k_ => k_ ≠ gb322) (.slice Ao15 t304.length co15) t304) := ⟨(by rw [hw]; exact (by (with_reducible repeat (first | apply Kd.R_alloc | apply Kd.R_drewN | apply Kd.R_drew)); exact Kd.R_mono (Kd.R_far (p := ⟨gb310, 2, none⟩) (Kd.R_types HO_311000.out BK310.out (by decide)) h2_ (.int .i64 t326)) (fun _ hk => by first | exact hk.1 | grind)))⟩; replace BK301 := uk_ hw BK301.out; replace BK302 := uk_ hw BK302.out; replace BK303 := uk_ hw BK303.out; replace BK310 : Aside0 (w93.heap[gb310]? = some (.cells #[.slice Ao15 t304.length co15, .int .i64 t307, .int .i64 t326, .int .i64 t309] 30 (0, 0))) := ⟨(by rw [hw]; exact (by (with_reducible repeat first|apply bn_|apply bd_|apply ba_); refine blk_put (cs := #[.slice Ao15 t304.length co15, .int .i64 t307, .int .i64 t308, .int .i64 t309]) ?_ 2 _ rfl; (with_reducible repeat first|apply bn_|apply bd_|apply ba_); exact BK310.out))⟩; replace BK322 := uk_ hw BK322.out; replace HB := uh_ hw HB.out; clear hw; obtain ⟨hcz94_0, hcz94_1, hcz94_2, hcz94_3⟩ := cb4_ BK310.out; obtain ⟨hfz94_0, hfz94_1, hfz94_2, hfz94_3⟩ := bf4_ BK310.out; have hnb95 := NB303_302.out; have hnc95 := NB302_303.out; obtain ⟨hcz96_0, hcz96_1, hcz96_2, hcz96_3⟩ := cb4_ BK303.out; obtain ⟨hfz96_0, hfz96_1, hfz96_2⟩ := bf3_ BK303.out; have hfz96_3 := blk_frozen BK303.out 3) | ((with_reducible refine gate_store (t := 30) (p := 8) rfl ?_); refine st_ (w1 := ((((w93.setCell ⟨gb303, 0, none⟩ (.slice Ao15 t304.length co15)).setCell ⟨gb303, 1, none⟩ (.int .i64 t307)).setCell ⟨gb303, 2, none⟩ (.int .i64 t326)).setCell ⟨gb303, 3, none⟩ (.int .i64 t309))) ?_; intro w97 hw; replace HO_311000 : Aside0 (Kd.R k62 62 w97 w.heap.size (fun k_ => k_ ≠ gb322) (.slice Ao15 t304.length co15) t304) := ⟨(by rw [hw]; exact (by (with_reducible repeat (first | apply Kd.R_alloc | apply Kd.R_drewN | apply Kd.R_drew)); exact Kd.R_mono (Rf4_ (g := gb303) (Kd.R_types HO_311000.out BK303.out (by decide))) (fun _ hk => by first | exact hk.1 | grind)))⟩; replace BK301 := uk_ hw BK301.out; replace BK302 := uk_ hw BK302.out; replace BK303 : Aside0 (w97.heap[gb303]? = some (.cells #[.slice Ao15 t304.length co15, .int .i64 t307, .int .i64 t326, .int .i64 t309] 30 (0, 0))) := ⟨(by rw [hw]; exact (by (with_reducible repeat first|apply bn_|apply bd_|apply ba_); apply bp4_; (with_reducible repeat first|apply bn_|apply bd_|apply ba_); exact BK303.out))⟩; replace BK310 := uk_ hw BK310.out; replace BK322 := uk_ hw BK322.out; replace HB := uh_ hw HB.out; clear hw))
    refine bodyPost_ret (results_ct rfl _ _ gb303 30 #[.slice Ao15 t304.length co15, .int .i64 t307, .int .i64 t326, .int .i64 t309] (0, 0) _ rfl (ub_ BK303.out) Try.underlying30 rfl (by kernel_rfl)) rfl ?_
    exact ⟨_, ew_, by (with_reducible repeat (first | apply Kd.R_alloc | apply Kd.R_drewN | apply Kd.R_drew)); exact Kd.R_mono HO_311000.out (fun _ hk => trivial), ue_ HB.out⟩
   rw [if_neg c65] at H
   have c65b0 : decide (t325 ≤ a0_1) = false := decide_eq_false c65
   clear c65
   have HC98 := Aside0.mk H
   clear H
   try go_wp2
   replace HO_311000 := am_ (Kd.R_drew HO_311000.out)
   replace BK301 := am_ (blk_drew BK301.out)
   replace BK302 := am_ (blk_drew BK302.out)
   replace BK303 := am_ (blk_drew BK303.out)
   replace BK310 := am_ (blk_drew BK310.out)
   replace HB := am_ (below_drew1 HB.out)
   refine start_ (n := 8) (S := fun w' => w'.cell? ⟨gb302, 0, none⟩ = some (.int .i64 a3_0) ∧ w'.cell? ⟨gb302, 1, none⟩ = some (.int .i64 a3_1) ∧ w'.cell? ⟨gb302, 2, none⟩ = some (.int .i64 a3_2) ∧ w'.cell? ⟨gb302, 3, none⟩ = some (.int .i64 a3_3)) (ds := []) #[false, false, false, false, false, false, false, false] (by kernel_rfl) rfl rfl (cbz4_ BK302.out) (fun hHeld => ?_); refine with_tabW impl_AddEvent.tab4 impl_AddEvent.bits4 (fun HT_ HW_ => ?_)
   generalize wc.drew = w99 at HO_311000 BK301 BK302 BK303 BK310 HB hHeld ⊢
   refine pu_ (i := 1) (N := some 36) #[false, true, false, false, false, false, false, false] HT_ ?_
   refine pu_ (i := 3) (N := some 38) #[false, true, false, true, false, false, false, false] HT_ ?_
   refine tk_ (i := 0) (N := some 35) #[true, true, false, true, false, false, false, false] HT_ HW_ hHeld ?_
   refine tk_ (i := 2) (N := some 37) #[true, true, true, true, false, false, false, false] HT_ HW_ hHeld ?_
   refine join_ (σ := Nat) 1 #[true, true, true, true, true, true, true, false] (fun s_ => [(39, .int .i64 t315), (40, .agg #[.int .i64 t316, .int .i64 t317, .int .i64 t318, .int .i64 t319, .int .i64 t320, .int .i64 t321]), (11, .pointer (some ⟨s_, 0, none⟩))]) (fun s_ w' => (w'.cell? ⟨gb302, 0, none⟩ = some (.int .i64 a3_0) ∧ w'.cell? ⟨gb302, 1, none⟩ = some (.int .i64 a3_1) ∧ w'.cell? ⟨gb302, 2, none⟩ = some (.int .i64 a3_2) ∧ w'.cell? ⟨gb302, 3, none⟩ = some (.int .i64 a3_3)) ∧ (Kd.R k62 62 w' w.heap.size (fun k_ => k_ ≠ s_) (.slice Ao15 t304.length co15) t304) ∧ (w'.heap[gb301]? = some (.cells #[.slice A0_0 l0_0.length c0_0, .int .i64 a0_1, .int .i64 a0_2, .int .i64 a0_3] 30 (0, 0))) ∧ (w'.heap[gb302]? = some (.cells #[.int .i64 a3_0, .int .i64 a3_1, .int .i64 a3_2, .int .i64 a3_3] 34 (0, 0))) ∧ (w'.heap[gb303]? = some (.cells #[.slice none 0 0, .int .i64 0, .int .i64 0, .int .i64 0] 30 (0, 0))) ∧ (w'.heap[gb310]? = some (.cells #[.slice Ao15 t304.length co15, .int .i64 t307, .int .i64 t308, .int .i64 t309] 30 (0, 0))) ∧ (w'.heap[s_]? = some (.cells #[.int .i64 0, .int .i64 0, .int .i64 0, .int .i64 0, .int .i64 0, .int .i64 0] 62 (0, 0))) ∧ (w.heap.size ≤ s_) ∧ (w.heap.size ≤ s_) ∧ (gb301 ≠ s_) ∧ (s_ ≠ gb301) ∧ (gb302 ≠ s_) ∧ (s_ ≠ gb302) ∧ (gb303 ≠ s_) ∧ (s_ ≠ gb303) ∧ (gb310 ≠ s_) ∧ (s_ ≠ gb310) ∧ (Below w.heap.size w w')) ?_ ?_
   rotate_left
   ·
    intro hCont
    refine two_ (i := 4) (j := 6) (Ni := some 39) (Nj := some 11) #[true, true, true, true, true, false, false, false] #[true, true, true, true, false, false, true, false] rfl rfl rfl rfl (two_of HT_.out (by kernel_rfl)) (by decide) (by decide) (fun K hK => ?_) (fun K hK => ?_)
    ·
     skip
     refine goes_ Try.func39 (by kernel_rfl) rfl #[.int .i64 a3_2, .int .i64 a1] (by rfl) rfl rfl ul_ ?_
     with_reducible refine (impl_WindowOf.calls a3_2 a1 t315 _ A61.out).mono ?_
     rintro e w' ⟨rfl, ⟨nd, rfl⟩⟩
     refine ⟨_, rfl, ?_⟩
     refine hK.out _ _ (cbz4_ BK302.out) (fun hHeld => ?_)
     clear hK K
     refine norm_ (a' := ?_) ?_ ?_
     rotate_left
     ·
      show Act.put _ (some 39) _ = _
      simp only [Act.put, List.setIfInBounds_toArray, List.set_cons_zero, List.set_cons_succ, i64_w, i32_w]
      rfl
     refine two_ (i := 5) (j := 6) (Ni := some 40) (Nj := some 11) #[true, true, true, true, true, true, false, false] #[true, true, true, true, true, false, true, false] rfl rfl rfl rfl (two_of HT_.out (by kernel_rfl)) (by decide) (by decide) (fun K hK => ?_) (fun K hK => ?_)
     ·
      skip
      refine goes_ Try.func38 (by kernel_rfl) rfl #[.agg #[.int .i64 a3_0, .int .i64 a3_1, .int .i64 a3_2, .int .i64 a3_3], .int .i64 t315] (by rfl) rfl rfl ul_ ?_
      with_reducible refine (impl_aggOf.calls a3_0 a3_1 a3_2 a3_3 t315 t316 t317 t318 t319 t320 t321 _ A62.out).mono ?_
      rintro e w100 ⟨rfl, hb⟩
      refine ⟨_, rfl, ?_⟩
      replace HO_311000 := am_ (Kd.R_below (ur_ HO_311000.out) hb)
      replace BK301 := bs_ BK301 hb
      replace BK302 := bs_ BK302 hb
      replace BK303 := bs_ BK303 hb
      replace BK310 := bs_ BK310 hb
      replace HB := hs_ HB hb
      (try clear hb)
      (try clear hb2)
      (try clear hk)
      (try clear hi)
      refine hK.out _ _ (cbz4_ BK302.out) (fun hHeld => ?_)
      clear hK K
      refine norm_ (a' := ?_) ?_ ?_
      rotate_left
      ·
       show Act.put _ (some 40) _ = _
       simp only [Act.put, List.setIfInBounds_toArray, List.set_cons_zero, List.set_cons_succ, i64_w, i32_w]
       rfl
      refine one_ (i := 6) (N := some 11) #[true, true, true, true, true, true, true, false] rfl rfl (one_of HT_.out (by kernel_rfl)) (by decide) (fun K hK => ?_)
      refine box_step ?hg (N := 11) ?hd (cs := #[.int .i64 0, .int .i64 0, .int .i64 0, .int .i64 0, .int .i64 0, .int .i64 0]) (t := 62) ?hr ?_; (case hd => rfl); (case hg => rfl); (case hr => first | (go_simp; done) | (go_simp; rfl))
      intro gb322 hg w101 hbox hb
      replace HO_311000 := am_ (Kd.R_below (Kd.R_elderB (ur_ HO_311000.out) gb322 (Nat.le_of_eq hg.symm)) hb)
      have BK322 := am_ (hbox)
      have GW322 := gs_ hg HB.out
      have GE322 := gs_ hg HB.out
      replace HB := hs_ HB hb
      have NB301_322 := nl_ hg BK301.out
      have NB322_301 := ng_ hg BK301.out
      replace BK301 := bs_ BK301 hb
      have NB302_322 := nl_ hg BK302.out
      have NB322_302 := ng_ hg BK302.out
      replace BK302 := bs_ BK302 hb
      have NB303_322 := nl_ hg BK303.out
      have NB322_303 := ng_ hg BK303.out
      replace BK303 := bs_ BK303 hb
      have NB310_322 := nl_ hg BK310.out
      have NB322_310 := ng_ hg BK310.out
      replace BK310 := bs_ BK310 hb
      clear hb hbox hg
      refine hK.out _ _ (cbz4_ BK302.out) (fun hHeld => ?_)
      clear hK K
      refine norm_ (a' := ?_) ?_ ?_
      rotate_left
      ·
       show Act.put _ (some 11) _ = _
       simp only [Act.put, List.setIfInBounds_toArray, List.set_cons_zero, List.set_cons_succ, i64_w, i32_w]
       rfl
      exact norm_ (by simp only [putAll, Act.put, List.setIfInBounds_toArray, List.set_cons_zero, List.set_cons_succ]) (hCont (gb322) _ ⟨hHeld, (by (with_reducible repeat (first | apply Kd.R_alloc | apply Kd.R_drewN | apply Kd.R_drew)); exact Kd.R_mono HO_311000.out h2_), (ub_ BK301.out), (ub_ BK302.out), (ub_ BK303.out), (ub_ BK310.out), (ub_ BK322.out), GW322.out, GE322.out, NB301_322.out, NB322_301.out, NB302_322.out, NB322_302.out, NB303_322.out, NB322_303.out, NB310_322.out, NB322_310.out, (ue_ HB.out)⟩)
     skip
     refine box_step ?hg (N := 11) ?hd (cs := #[.int .i64 0, .int .i64 0, .int .i64 0, .int .i64 0, .int .i64 0, .int .i64 0]) (t := 62) ?hr ?_; (case hd => rfl); (case hg => rfl); (case hr => first | (go_simp; done) | (go_simp; rfl))
     intro gb322 hg w100 hbox hb
     replace HO_311000 := am_ (Kd.R_below (Kd.R_elderB (ur_ HO_311000.out) gb322 (Nat.le_of_eq hg.symm)) hb)
     have BK322 := am_ (hbox)
     have GW322 := gs_ hg HB.out
     have GE322 := gs_ hg HB.out
     replace HB := hs_ HB hb
     have NB301_322 := nl_ hg BK301.out
     have NB322_301 := ng_ hg BK301.out
     replace BK301 := bs_ BK301 hb
     have NB302_322 := nl_ hg BK302.out
     have NB322_302 := ng_ hg BK302.out
     replace BK302 := bs_ BK302 hb
     have NB303_322 := nl_ hg BK303.out
     have NB322_303 := ng_ hg BK303.out
     replace BK303 := bs_ BK303 hb
     have NB310_322 := nl_ hg BK310.out
     have NB322_310 := ng_ hg BK310.out
     replace BK310 := bs_ BK310 hb
     clear hb hbox hg
     refine hK.out _ _ (cbz4_ BK302.out) (fun hHeld => ?_)
     clear hK K
     refine norm_ (a' := ?_) ?_ ?_
     rotate_left
     ·
      show Act.put _ (some 11) _ = _
      simp only [Act.put, List.setIfInBounds_toArray, List.set_cons_zero, List.set_cons_succ, i64_w, i32_w]
      rfl
     refine one_ (i := 5) (N := some 40) #[true, true, true, true, true, true, true, false] rfl rfl (one_of HT_.out (by kernel_rfl)) (by decide) (fun K hK => ?_)
     refine goes_ Try.func38 (by kernel_rfl) rfl #[.agg #[.int .i64 a3_0, .int .i64 a3_1, .int .i64 a3_2, .int .i64 a3_3], .int .i64 t315] (by rfl) rfl rfl ul_ ?_
     with_reducible refine (impl_aggOf.calls a3_0 a3_1 a3_2 a3_3 t315 t316 t317 t318 t319 t320 t321 _ A62.out).mono ?_
     rintro e w101 ⟨rfl, hb⟩
     refine ⟨_, rfl, ?_⟩
     replace HO_311000 := am_ (Kd.R_below (ur_ HO_311000.out) hb)
     replace BK301 := bs_ BK301 hb
     replace BK302 := bs_ BK302 hb
     replace BK303 := bs_ BK303 hb
     replace BK310 := bs_ BK310 hb
     replace BK322 := bs_ BK322 hb
     replace HB := hs_ HB hb
     (try clear hb)
     (try clear hb2)
     (try clear hk)
     (try clear hi)
     refine hK.out _ _ (cbz4_ BK302.out) (fun hHeld => ?_)
     clear hK K
     refine norm_ (a' := ?_) ?_ ?_
     rotate_left
     ·
      show Act.put _ (some 40) _ = _
      simp only [Act.put, List.setIfInBounds_toArray, List.set_cons_zero, List.set_cons_succ, i64_w, i32_w]
      rfl
     exact norm_ (by simp only [putAll, Act.put, List.setIfInBounds_toArray, List.set_cons_zero, List.set_cons_succ]) (hCont (gb322) _ ⟨hHeld, (by (with_reducible repeat (first | apply Kd.R_alloc | apply Kd.R_drewN | apply Kd.R_drew)); exact Kd.R_mono HO_311000.out h2_), (ub_ BK301.out), (ub_ BK302.out), (ub_ BK303.out), (ub_ BK310.out), (ub_ BK322.out), GW322.out, GE322.out, NB301_322.out, NB322_301.out, NB302_322.out, NB322_302.out, NB303_322.out, NB322_303.out, NB310_322.out, NB322_310.out, (ue_ HB.out)⟩)
    skip
    refine box_step ?hg (N := 11) ?hd (cs := #[.int .i64 0, .int .i64 0, .int .i64 0, .int .i64 0, .int .i64 0, .int .i64 0]) (t := 62) ?hr ?_; (case hd => rfl); (case hg => rfl); (case hr => first | (go_simp; done) | (go_simp; rfl))
    intro gb322 hg w100 hbox hb
    replace HO_311000 := am_ (Kd.R_below (Kd.R_elderB (ur_ HO_311000.out) gb322 (Nat.le_of_eq hg.symm)) hb)
    have BK322 := am_ (hbox)
    have GW322 := gs_ hg HB.out
    have GE322 := gs_ hg HB.out
    replace HB := hs_ HB hb
    have NB301_322 := nl_ hg BK301.out
    have NB322_301 := ng_ hg BK301.out
    replace BK301 := bs_ BK301 hb
    have NB302_322 := nl_ hg BK302.out
    have NB322_302 := ng_ hg BK302.out
    replace BK302 := bs_ BK302 hb
    have NB303_322 := nl_ hg BK303.out
    have NB322_303 := ng_ hg BK303.out
    replace BK303 := bs_ BK303 hb
    have NB310_322 := nl_ hg BK310.out
    have NB322_310 := ng_ hg BK310.out
    replace BK310 := bs_ BK310 hb
    clear hb hbox hg
    refine hK.out _ _ (cbz4_ BK302.out) (fun hHeld => ?_)
    clear hK K
    refine norm_ (a' := ?_) ?_ ?_
    rotate_left
    ·
     show Act.put _ (some 11) _ = _
     simp only [Act.put, List.setIfInBounds_toArray, List.set_cons_zero, List.set_cons_succ, i64_w, i32_w]
     rfl
    refine one_ (i := 4) (N := some 39) #[true, true, true, true, true, false, true, false] rfl rfl (one_of HT_.out (by kernel_rfl)) (by decide) (fun K hK => ?_)
    refine goes_ Try.func39 (by kernel_rfl) rfl #[.int .i64 a3_2, .int .i64 a1] (by rfl) rfl rfl ul_ ?_
    with_reducible refine (impl_WindowOf.calls a3_2 a1 t315 _ A61.out).mono ?_
    rintro e w' ⟨rfl, ⟨nd, rfl⟩⟩
    refine ⟨_, rfl, ?_⟩
    refine hK.out _ _ (cbz4_ BK302.out) (fun hHeld => ?_)
    clear hK K
    refine norm_ (a' := ?_) ?_ ?_
    rotate_left
    ·
     show Act.put _ (some 39) _ = _
     simp only [Act.put, List.setIfInBounds_toArray, List.set_cons_zero, List.set_cons_succ, i64_w, i32_w]
     rfl
    refine one_ (i := 5) (N := some 40) #[true, true, true, true, true, true, true, false] rfl rfl (one_of HT_.out (by kernel_rfl)) (by decide) (fun K hK => ?_)
    refine goes_ Try.func38 (by kernel_rfl) rfl #[.agg #[.int .i64 a3_0, .int .i64 a3_1, .int .i64 a3_2, .int .i64 a3_3], .int .i64 t315] (by rfl) rfl rfl ul_ ?_
    with_reducible refine (impl_aggOf.calls a3_0 a3_1 a3_2 a3_3 t315 t316 t317 t318 t319 t320 t321 _ A62.out).mono ?_
    rintro e w101 ⟨rfl, hb⟩
    refine ⟨_, rfl, ?_⟩
    replace HO_311000 := am_ (Kd.R_below (ur_ HO_311000.out) hb)
    replace BK301 := bs_ BK301 hb
    replace BK302 := bs_ BK302 hb
    replace BK303 := bs_ BK303 hb
    replace BK310 := bs_ BK310 hb
    replace BK322 := bs_ BK322 hb
    replace HB := hs_ HB hb
    (try clear hb)
    (try clear hb2)
    (try clear hk)
    (try clear hi)
    refine hK.out _ _ (cbz4_ BK302.out) (fun hHeld => ?_)
    clear hK K
    refine norm_ (a' := ?_) ?_ ?_
    rotate_left
    ·
     show Act.put _ (some 40) _ = _
     simp only [Act.put, List.setIfInBounds_toArray, List.set_cons_zero, List.set_cons_succ, i64_w, i32_w]
     rfl
    exact norm_ (by simp only [putAll, Act.put, List.setIfInBounds_toArray, List.set_cons_zero, List.set_cons_succ]) (hCont (gb322) _ ⟨hHeld, (by (with_reducible repeat (first | apply Kd.R_alloc | apply Kd.R_drewN | apply Kd.R_drew)); exact Kd.R_mono HO_311000.out h2_), (ub_ BK301.out), (ub_ BK302.out), (ub_ BK303.out), (ub_ BK310.out), (ub_ BK322.out), GW322.out, GE322.out, NB301_322.out, NB322_301.out, NB302_322.out, NB322_302.out, NB303_322.out, NB322_303.out, NB310_322.out, NB322_310.out, (ue_ HB.out)⟩)
   rintro gb322 w102 ⟨hS_, h0_, h1_, h2_, h3_, h4_, h5_, h6_, h7_, h8_, h9_, h10_, h11_, h12_, h13_, h14_, h15_, h16_⟩
   replace HO_311000 : Aside0 (Kd.R k62 62 w102 w.heap.size (fun k_ => k_ ≠ gb322) (.slice Ao15 t304.length co15) t304) := ⟨h0_⟩
   replace BK301 : Aside0 (w102.heap[gb301]? = some (.cells #[.slice A0_0 l0_0.length c0_0, .int .i64 a0_1, .int .i64 a0_2, .int .i64 a0_3] 30 (0, 0))) := ⟨h1_⟩
   replace BK302 : Aside0 (w102.heap[gb302]? = some (.cells #[.int .i64 a3_0, .int .i64 a3_1, .int .i64 a3_2, .int .i64 a3_3] 34 (0, 0))) := ⟨h2_⟩
   replace BK303 : Aside0 (w102.heap[gb303]? = some (.cells #[.slice none 0 0, .int .i64 0, .int .i64 0, .int .i64 0] 30 (0, 0))) := ⟨h3_⟩
   replace BK310 : Aside0 (w102.heap[gb310]? = some (.cells #[.slice Ao15 t304.length co15, .int .i64 t307, .int .i64 t308, .int .i64 t309] 30 (0, 0))) := ⟨h4_⟩
   have BK322 : Aside0 (w102.heap[gb322]? = some (.cells #[.int .i64 0, .int .i64 0, .int .i64 0, .int .i64 0, .int .i64 0, .int .i64 0] 62 (0, 0))) := ⟨h5_⟩
   have GW322 : Aside0 (w.heap.size ≤ gb322) := ⟨h6_⟩
   have GE322 : Aside0 (w.heap.size ≤ gb322) := ⟨h7_⟩
   have NB301_322 : Aside0 (gb301 ≠ gb322) := ⟨h8_⟩
   have NB322_301 : Aside0 (gb322 ≠ gb301) := ⟨h9_⟩
   have NB302_322 : Aside0 (gb302 ≠ gb322) := ⟨h10_⟩
   have NB322_302 : Aside0 (gb322 ≠ gb302) := ⟨h11_⟩
   have NB303_322 : Aside0 (gb303 ≠ gb322) := ⟨h12_⟩
   have NB322_303 : Aside0 (gb322 ≠ gb303) := ⟨h13_⟩
   have NB310_322 : Aside0 (gb310 ≠ gb322) := ⟨h14_⟩
   have NB322_310 : Aside0 (gb322 ≠ gb310) := ⟨h15_⟩
   replace HB : Aside0 (Below w.heap.size w w102) := ⟨h16_⟩
   clear h0_ h1_ h2_ h3_ h4_ h5_ h6_ h7_ h8_ h9_ h10_ h11_ h12_ h13_ h14_ h15_ h16_
   have hHeld : w102.cell? ⟨gb302, 0, none⟩ = some (.int .i64 a3_0) ∧ w102.cell? ⟨gb302, 1, none⟩ = some (.int .i64 a3_1) ∧ w102.cell? ⟨gb302, 2, none⟩ = some (.int .i64 a3_2) ∧ w102.cell? ⟨gb302, 3, none⟩ = some (.int .i64 a3_3) := hS_
   refine norm_ (a' := ?_) ?_ ?_
   rotate_left
   ·
    simp only [putAll, Act.put, List.setIfInBounds_toArray, List.set_cons_zero, List.set_cons_succ]
    rfl
   refine one_ (i := 7) (N := none) #[true, true, true, true, true, true, true, true] rfl rfl (one_of HT_.out (by kernel_rfl)) (by decide) (fun K hK => ?_)
   have hs103 := cb_ BK322.out 0 rfl
   have hfs103 := blk_frozen BK322.out 0
   have hns103_0 := NB301_322.out
   have hns103_1 := NB302_322.out
   have hns103_2 := NB303_322.out
   have hns103_3 := NB310_322.out
   have hms103_0 := NB322_301.out
   have hms103_1 := NB322_302.out
   have hms103_2 := NB322_303.out
   have hms103_3 := NB322_310.out
   have hs104 := cb_ BK322.out 1 rfl
   have hfs104 := blk_frozen BK322.out 1
   have hns104_0 := NB301_322.out
   have hns104_1 := NB302_322.out
   have hns104_2 := NB303_322.out
   have hns104_3 := NB310_322.out
   have hms104_0 := NB322_301.out
   have hms104_1 := NB322_302.out
   have hms104_2 := NB322_303.out
   have hms104_3 := NB322_310.out
   have hs105 := cb_ BK322.out 2 rfl
   have hfs105 := blk_frozen BK322.out 2
   have hns105_0 := NB301_322.out
   have hns105_1 := NB302_322.out
   have hns105_2 := NB303_322.out
   have hns105_3 := NB310_322.out
   have hms105_0 := NB322_301.out
   have hms105_1 := NB322_302.out
   have hms105_2 := NB322_303.out
   have hms105_3 := NB322_310.out
   have hs106 := cb_ BK322.out 3 rfl
   have hfs106 := blk_frozen BK322.out 3
   have hns106_0 := NB301_322.out
   have hns106_1 := NB302_322.out
   have hns106_2 := NB303_322.out
   have hns106_3 := NB310_322.out
   have hms106_0 := NB322_301.out
   have hms106_1 := NB322_302.out
   have hms106_2 := NB322_303.out
   have hms106_3 := NB322_310.out
   have hs107 := cb_ BK322.out 4 rfl
   have hfs107 := blk_frozen BK322.out 4
   have hns107_0 := NB301_322.out
   have hns107_1 := NB302_322.out
   have hns107_2 := NB303_322.out
   have hns107_3 := NB310_322.out
   have hms107_0 := NB322_301.out
   have hms107_1 := NB322_302.out
   have hms107_2 := NB322_303.out
   have hms107_3 := NB322_310.out
   have hs108 := cb_ BK322.out 5 rfl
   have hfs108 := blk_frozen BK322.out 5
   have hns108_0 := NB301_322.out
   have hns108_1 := NB302_322.out
   have hns108_2 := NB303_322.out
   have hns108_3 := NB310_322.out
   have hms108_0 := NB322_301.out
   have hms108_1 := NB322_302.out
   have hms108_2 := NB322_303.out
   have hms108_3 := NB322_310.out
   refine skip_ (w1 := ?_) (by rfl) rfl ?_ ?_
   rotate_left
   ·
    go_simp
    rfl
   refine hK.out _ _ ⟨(cf6_ hHeld.1 NB302_322.out), (cf6_ hHeld.2.1 NB302_322.out), (cf6_ hHeld.2.2.1 NB302_322.out), (cf6_ hHeld.2.2.2 NB302_322.out)⟩ (fun hHeld => ?_)
   clear hK K
   refine done_ (done_of HT_.out (by kernel_rfl)) ?_
   have hnb109 := NB301_302.out
   have hnc109 := NB302_301.out
   have hnb110 := NB301_303.out
   have hnc110 := NB303_301.out
   have hnb111 := NB301_310.out
   have hnc111 := NB310_301.out
   have hnb112 := NB301_322.out
   have hnc112 := NB322_301.out
   obtain ⟨hcz113_0, hcz113_1, hcz113_2, hcz113_3⟩ := cbz4_ BK301.out
   obtain ⟨hfz113_0, hfz113_1, hfz113_2, hfz113_3⟩ := bfz4_ BK301.out
   have hnb114 := NB322_302.out
   have hnc114 := NB302_322.out
   have hnb115 := NB322_303.out
   have hnc115 := NB303_322.out
   have hnb116 := NB322_310.out
   have hnc116 := NB310_322.out
   obtain ⟨hcz117_0, hcz117_1, hcz117_2, hcz117_3, hcz117_4, hcz117_5⟩ := cbz6_ BK322.out
   obtain ⟨hfz117_0, hfz117_1, hfz117_2, hfz117_3, hfz117_4, hfz117_5⟩ := bfz6_ BK322.out
   try go_wp2_with (first | ((with_reducible refine gate_callee (f := 40) rfl ?_); refine goesL_ (some 45) rfl rfl Try.func40 (by kernel_rfl) rfl #[.slice A0_0 l0_0.length c0_0, .agg #[.int .i64 t316, .int .i64 t317, .int .i64 t318, .int .i64 t319, .int .i64 t320, .int .i64 t321], .func (.func 41) #[] #[]] rfl ul_ ?_; (with_reducible refine (slices_BinarySearchFunc_impl_Agg_impl_Agg_impl_Agg.calls _ _ l0_0 t316 t317 t318 t319 t320 t321 ord62 41 #[] t323 t324 _ ?side1 ?side2 ?side3 A63.out).mono ?_); (case side1 => exact Kd.C_below HR0_0.out (ue_ HB.out)); (case side2 => exact HC0_0.out); (case side3 => exact impl_aggOrder.pays _); rintro e w118 ⟨rfl, hb⟩; refine ⟨_, rfl, ?_⟩; replace HO_311000 := am_ (Kd.R_below (by (with_reducible repeat (first | apply Kd.R_alloc | apply Kd.R_drewN | apply Kd.R_drew)); exact (Kd.R_mono (Rf6_ (g := gb322) (Kd.R_mono HO_311000.out (fun k_ hk => (⟨hk, (by first | exact hk | grind)⟩ : _ ∧ k_ ≠ gb322)))) (fun _ h_ => h_.1))) hb); replace BK301 := am_ (blk_below (g := gb301) (o := .cells #[.slice A0_0 l0_0.length c0_0, .int .i64 a0_1, .int .i64 a0_2, .int .i64 a0_3] 30 (0, 0)) (uf_ BK301.out) hb); replace BK302 := am_ (blk_below (g := gb302) (o := .cells #[.int .i64 a3_0, .int .i64 a3_1, .int .i64 a3_2, .int .i64 a3_3] 34 (0, 0)) (uf_ BK302.out) hb); replace BK303 := am_ (blk_below (g := gb303) (o := .cells #[.slice none 0 0, .int .i64 0, .int .i64 0, .int .i64 0] 30 (0, 0)) (uf_ BK303.out) hb); replace BK310 := am_ (blk_below (g := gb310) (o := .cells #[.slice Ao15 t304.length co15, .int .i64 t307, .int .i64 t308, .int .i64 t309] 30 (0, 0)) (uf_ BK310.out) hb); replace BK322 := am_ (blk_below (g := gb322) (o := .cells #[.int .i64 t316, .int .i64 t317, .int .i64 t318, .int .i64 t319, .int .i64 t320, .int .i64 t321] 62 (0, 0)) (by (with_reducible repeat first|apply bn_|apply bd_|apply ba_); apply bp6_; (with_reducible repeat first|apply bn_|apply bd_|apply ba_); exact BK322.out) hb); replace HB := hs_ HB hb; (try clear hb); (try clear hb2); (try clear hk); (try clear hi)))
   replace HO_311000 := am_ (Kd.R_drew HO_311000.out)
   replace BK301 := am_ (blk_drew BK301.out)
   replace BK302 := am_ (blk_drew BK302.out)
   replace BK303 := am_ (blk_drew BK303.out)
   replace BK310 := am_ (blk_drew BK310.out)
   replace BK322 := am_ (blk_drew BK322.out)
   replace HB := am_ (below_drew1 HB.out)
   refine start_ (n := 8) (S := fun w' => w'.cell? ⟨gb322, 0, none⟩ = some (.int .i64 t316) ∧ w'.cell? ⟨gb322, 1, none⟩ = some (.int .i64 t317) ∧ w'.cell? ⟨gb322, 2, none⟩ = some (.int .i64 t318) ∧ w'.cell? ⟨gb322, 3, none⟩ = some (.int .i64 t319) ∧ w'.cell? ⟨gb322, 4, none⟩ = some (.int .i64 t320) ∧ w'.cell? ⟨gb322, 5, none⟩ = some (.int .i64 t321) ∧ w'.cell? ⟨gb301, 0, none⟩ = some (.slice A0_0 l0_0.length c0_0) ∧ w'.cell? ⟨gb301, 1, none⟩ = some (.int .i64 a0_1) ∧ w'.cell? ⟨gb301, 2, none⟩ = some (.int .i64 a0_2) ∧ w'.cell? ⟨gb301, 3, none⟩ = some (.int .i64 a0_3)) (ds := []) #[false, false, false, false, false, false, false, false] (by kernel_rfl) rfl rfl ⟨cb_ BK322.out 0 rfl, cb_ BK322.out 1 rfl, cb_ BK322.out 2 rfl, cb_ BK322.out 3 rfl, cb_ BK322.out 4 rfl, cb_ BK322.out 5 rfl, cb_ BK301.out 0 rfl, cb_ BK301.out 1 rfl, cb_ BK301.out 2 rfl, cb_ BK301.out 3 rfl⟩ (fun hHeld => ?_); refine with_tabW impl_AddEvent.tab6 impl_AddEvent.bits6 (fun HT_ HW_ => ?_)
   generalize w118.drew = w119 at HO_311000 BK301 BK302 BK303 BK310 BK322 HB hHeld ⊢
   refine pu_ (i := 0) (N := some 49) #[true, false, false, false, false, false, false, false] HT_ ?_
   refine pu_ (i := 2) (N := some 51) #[true, false, true, false, false, false, false, false] HT_ ?_
   refine pu_ (i := 4) (N := some 53) #[true, false, true, false, true, false, false, false] HT_ ?_
   refine tk_ (i := 1) (N := some 50) #[true, true, true, false, true, false, false, false] HT_ HW_ hHeld ?_
   refine tk_ (i := 5) (N := some 54) #[true, true, true, false, true, true, false, false] HT_ HW_ hHeld ?_
   refine one_ (i := 3) (N := some 52) #[true, true, true, true, true, true, false, false] rfl rfl (one_of HT_.out (by kernel_rfl)) (by decide) (fun K hK => ?_)
   refine goes_ Try.func42 (by kernel_rfl) rfl #[.int .i64 t316, .int .i64 a1] (by rfl) rfl rfl ul_ ?_
   with_reducible refine (impl_WindowEnd.calls t316 a1 t325 _ A64.out).mono ?_
   rintro e w' ⟨rfl, ⟨nd, rfl⟩⟩
   refine ⟨_, rfl, ?_⟩
   refine hK.out _ _ ⟨cb_ BK322.out 0 rfl, cb_ BK322.out 1 rfl, cb_ BK322.out 2 rfl, cb_ BK322.out 3 rfl, cb_ BK322.out 4 rfl, cb_ BK322.out 5 rfl, cb_ BK301.out 0 rfl, cb_ BK301.out 1 rfl, cb_ BK301.out 2 rfl, cb_ BK301.out 3 rfl⟩ (fun hHeld => ?_)
   clear hK K
   refine norm_ (a' := ?_) ?_ ?_
   rotate_left
   ·
    show Act.put _ (some 52) _ = _
    simp only [Act.put, List.setIfInBounds_toArray, List.set_cons_zero, List.set_cons_succ, i64_w, i32_w]
    rfl
   refine pu_ (i := 6) (N := some 55) #[true, true, true, true, true, true, true, false] HT_ ?_
   refine pu_ (i := 7) (N := some 48) #[true, true, true, true, true, true, true, true] HT_ ?_
   refine done_ (done_of HT_.out (by kernel_rfl)) ?_
   go_upto_region 9 with (fail)
   go_cut [61] (fun v61 wc => ∃ (kq : Nat) (x61_97 : Bool), v61 = .bool x61_97 ∧ Aside0 (impl_AddEvent.j1 kq x61_97 l0_0 a0_1 a0_2 a0_3 t304 t307 t308 t309 t316 t317 t318 t319 t320 t321 = some (r1, r2, r3, r4, r5)) ∧ Aside0 (kq ≤ kj5) ∧ Aside0 (Kd.R k62 62 wc w.heap.size (fun k_ => k_ ≠ gb322) (.slice Ao15 t304.length co15) t304) ∧ Aside0 (wc.heap[gb301]? = some (.cells #[(.slice A0_0 l0_0.length c0_0), .int .i64 a0_1, .int .i64 a0_2, .int .i64 a0_3] 30 (0, 0))) ∧ Aside0 (wc.heap[gb302]? = some (.cells #[.int .i64 a3_0, .int .i64 a3_1, .int .i64 a3_2, .int .i64 a3_3] 34 (0, 0))) ∧ Aside0 (wc.heap[gb303]? = some (.cells #[(.slice none 0 0), .int .i64 0, .int .i64 0, .int .i64 0] 30 (0, 0))) ∧ Aside0 (wc.heap[gb310]? = some (.cells #[(.slice Ao15 t304.length co15), .int .i64 t307, .int .i64 t308, .int .i64 t309] 30 (0, 0))) ∧ Aside0 (wc.heap[gb322]? = some (.cells #[.int .i64 t316, .int .i64 t317, .int .i64 t318, .int .i64 t319, .int .i64 t320, .int .i64 t321] 62 (0, 0))) ∧ Aside0 (Below w.heap.size w wc))
   case first =>
    have H := HC98.out
    clear HC98
    by_cases c120 : t324 = true
    ·
     subst c120
     have H1 : (impl_AddEvent.j1 kj5 false l0_0 a0_1 a0_2 a0_3 t304 t307 t308 t309 t316 t317 t318 t319 t320 t321) = some (r1, r2, r3, r4, r5) := by rw [if_pos rfl] at H; exact H
     clear H
     have H := H1
     clear H1
     have H' := Aside0.mk H
     clear H
     go_wp2
     go_meet
     case rel => exact ⟨_, (false), (by first | rfl | (simp; done) | (simp [*]; done)), H', ⟨by have := HJ5.out; first | omega | exact Nat.le_refl _⟩, ⟨by (with_reducible repeat (first | apply Kd.R_alloc | apply Kd.R_drewN | apply Kd.R_drew)); exact HO_311000.out⟩, ⟨by (with_reducible repeat first|apply bn_|apply bd_|apply ba_); exact BK301.out⟩, ⟨by (with_reducible repeat first|apply bn_|apply bd_|apply ba_); exact BK302.out⟩, ⟨by (with_reducible repeat first|apply bn_|apply bd_|apply ba_); exact BK303.out⟩, ⟨by (with_reducible repeat first|apply bn_|apply bd_|apply ba_); exact BK310.out⟩, ⟨by (with_reducible repeat first|apply bn_|apply bd_|apply ba_); exact BK322.out⟩, ⟨ue_ HB.out⟩⟩
    replace c120 := Bool.eq_false_iff.mpr c120
    subst c120
    have H1 : (impl_AddEvent.j1 kj5 (decide ((l0_0.length : Int) ≥ a2)) l0_0 a0_1 a0_2 a0_3 t304 t307 t308 t309 t316 t317 t318 t319 t320 t321) = some (r1, r2, r3, r4, r5) := by rw [if_neg (show ¬ (false = true) by decide)] at H; exact H
    clear H
    have H := H1
    clear H1
    have H' := Aside0.mk H
    clear H
    have hnb121 := NB301_302.out
    have hnc121 := NB302_301.out
    have hnb122 := NB301_303.out
    have hnc122 := NB303_301.out
    have hnb123 := NB301_310.out
    have hnc123 := NB310_301.out
    have hnb124 := NB301_322.out
    have hnc124 := NB322_301.out
    obtain ⟨hcz125_0, hcz125_1, hcz125_2, hcz125_3⟩ := cbz4_ BK301.out
    obtain ⟨hfz125_0, hfz125_1, hfz125_2, hfz125_3⟩ := bfz4_ BK301.out
    go_wp2
    go_meet
    case rel => exact ⟨_, (decide ((l0_0.length : Int) ≥ a2)), (by first | rfl | (simp; done) | (simp [*]; done)), H', ⟨by have := HJ5.out; first | omega | exact Nat.le_refl _⟩, ⟨by (with_reducible repeat (first | apply Kd.R_alloc | apply Kd.R_drewN | apply Kd.R_drew)); exact HO_311000.out⟩, ⟨by (with_reducible repeat first|apply bn_|apply bd_|apply ba_); exact BK301.out⟩, ⟨by (with_reducible repeat first|apply bn_|apply bd_|apply ba_); exact BK302.out⟩, ⟨by (with_reducible repeat first|apply bn_|apply bd_|apply ba_); exact BK303.out⟩, ⟨by (with_reducible repeat first|apply bn_|apply bd_|apply ba_); exact BK310.out⟩, ⟨by (with_reducible repeat first|apply bn_|apply bd_|apply ba_); exact BK322.out⟩, ⟨ue_ HB.out⟩⟩
   case rest =>
    clear HC98
    try clear c1
    try clear p2
    try clear c3
    try clear c4
    try clear c10
    try clear c11
    try clear c12
    try clear c38
    try clear c39
    try clear c40
    try clear c42
    try clear c109
    try clear c110
    try clear c111
    try clear c112
    try clear c114
    try clear c115
    try clear c116
    try clear c120
    try clear c121
    try clear c122
    try clear c123
    try clear c124
    try clear hcz113_0
    try clear hcz113_1
    try clear hcz113_2
    try clear hcz113_3
    try clear hcz117_0
    try clear hcz117_1
    try clear hcz117_2
    try clear hcz117_3
    try clear hcz117_4
    try clear hcz117_5
    try clear hcz125_0
    try clear hcz125_1
    try clear hcz125_2
    try clear hcz125_3
    try clear hfz113_0
    try clear hfz113_1
    try clear hfz113_2
    try clear hfz113_3
    try clear hfz117_0
    try clear hfz117_1
    try clear hfz117_2
    try clear hfz117_3
    try clear hfz117_4
    try clear hfz117_5
    try clear hfz125_0
    try clear hfz125_1
    try clear hfz125_2
    try clear hfz125_3
    obtain ⟨kq, x61_97, rfl, HA, HJ97, HO_311000, BK301, BK302, BK303, BK310, BK322, HB⟩ := hcut
    cases kq with
    | zero => exact absurd HA.out (by simp [impl_AddEvent.j1])
    | succ kj97 =>
     have H := HA.out
     clear HA
     simp only [impl_AddEvent.j1] at H
     by_cases c126 : x61_97 = true
     ·
      subst c126
      have H1 : ((impl_more.f a0_3).bind fun t327 => (some (t304, t307, t308, t327, 2))) = some (r1, r2, r3, r4, r5) := by rw [if_pos rfl] at H; exact H
      clear H
      have H := H1
      clear H1
      replace H := Option.bind_eq_some_iff.mp H
      obtain ⟨t327, A1270, H⟩ := H
      replace H : (some (t304, t307, t308, t327, 2)) = some (r1, r2, r3, r4, r5) := H
      have A127 := Aside0.mk A1270
      clear A1270
      simp only [Option.some.injEq, Prod.mk.injEq] at H
      obtain ⟨rfl, rfl, rfl, rfl, rfl⟩ := H
      have hnb128 := NB301_302.out
      have hnc128 := NB302_301.out
      have hnb129 := NB301_303.out
      have hnc129 := NB303_301.out
      have hnb130 := NB301_310.out
      have hnc130 := NB310_301.out
      have hnb131 := NB301_322.out
      have hnc131 := NB322_301.out
      obtain ⟨hcz132_0, hcz132_1, hcz132_2, hcz132_3⟩ := cbz4_ BK301.out
      obtain ⟨hfz132_0, hfz132_1, hfz132_2, hfz132_3⟩ := bfz4_ BK301.out
      go_wp2_with (first | ((with_reducible refine gate_callee (f := 43) rfl ?_); refine goesL_ (some 73) rfl rfl Try.func43 (by kernel_rfl) rfl #[.int .i64 a0_3] rfl ul_ ?_; (with_reducible refine (impl_more.calls a0_3 t327 _ A127.out).mono ?_); rintro e w133 ⟨rfl, hb⟩; refine ⟨_, rfl, ?_⟩; replace HO_311000 := am_ (Kd.R_below (ur_ HO_311000.out) hb); replace BK301 := bs_ BK301 hb; replace BK302 := bs_ BK302 hb; replace BK303 := bs_ BK303 hb; replace BK310 := bs_ BK310 hb; replace BK322 := bs_ BK322 hb; replace HB := hs_ HB hb; (try clear hb); (try clear hb2); (try clear hk); (try clear hi); have hnb134 := NB310_302.out; have hnc134 := NB302_310.out; have hnb135 := NB310_303.out; have hnc135 := NB303_310.out; have hnb136 := NB310_322.out; have hnc136 := NB322_310.out; obtain ⟨hcz137_0, hcz137_1, hcz137_2, hcz137_3⟩ := cb4_ BK310.out; obtain ⟨hfz137_0, hfz137_1, hfz137_2⟩ := bf3_ BK310.out; have hfz137_3 := blk_frozen BK310.out 3) | ((with_reducible refine gate_store (t := 3) (p := 74) rfl ?_); refine st_ (w1 := (w133.setCell ⟨gb310, 3, none⟩ (.int .i64 t327))) ?_; intro w138 hw; replace HO_311000 : Aside0 (Kd.R k62 62 w138 w.heap.size (fun k_ => k_ ≠ gb322) (.slice Ao15 t304.length co15) t304) := ⟨(by rw [hw]; exact (by (with_reducible repeat (first | apply Kd.R_alloc | apply Kd.R_drewN | apply Kd.R_drew)); exact Kd.R_mono (Kd.R_far (p := ⟨gb310, 3, none⟩) (Kd.R_types HO_311000.out BK310.out (by decide)) h2_ (.int .i64 t327)) (fun _ hk => by first | exact hk.1 | grind)))⟩; replace BK301 := uk_ hw BK301.out; replace BK302 := uk_ hw BK302.out; replace BK303 := uk_ hw BK303.out; replace BK310 : Aside0 (w138.heap[gb310]? = some (.cells #[.slice Ao15 t304.length co15, .int .i64 t307, .int .i64 t308, .int .i64 t327] 30 (0, 0))) := ⟨(by rw [hw]; exact (by (with_reducible repeat first|apply bn_|apply bd_|apply ba_); refine blk_put (cs := #[.slice Ao15 t304.length co15, .int .i64 t307, .int .i64 t308, .int .i64 t309]) ?_ 3 _ rfl; (with_reducible repeat first|apply bn_|apply bd_|apply ba_); exact BK310.out))⟩; replace BK322 := uk_ hw BK322.out; replace HB := uh_ hw HB.out; clear hw; obtain ⟨hcz139_0, hcz139_1, hcz139_2, hcz139_3⟩ := cb4_ BK310.out; obtain ⟨hfz139_0, hfz139_1, hfz139_2, hfz139_3⟩ := bf4_ BK310.out; have hnb140 := NB303_302.out; have hnc140 := NB302_303.out; have hnb141 := NB303_322.out; have hnc141 := NB322_303.out; obtain ⟨hcz142_0, hcz142_1, hcz142_2, hcz142_3⟩ := cb4_ BK303.out; obtain ⟨hfz142_0, hfz142_1, hfz142_2⟩ := bf3_ BK303.out; have hfz142_3 := blk_frozen BK303.out 3) | ((with_reducible refine gate_store (t := 30) (p := 8) rfl ?_); refine st_ (w1 := ((((w138.setCell ⟨gb303, 0, none⟩ (.slice Ao15 t304.length co15)).setCell ⟨gb303, 1, none⟩ (.int .i64 t307)).setCell ⟨gb303, 2, none⟩ (.int .i64 t308)).setCell ⟨gb303, 3, none⟩ (.int .i64 t327))) ?_; intro w143 hw; replace HO_311000 : Aside0 (Kd.R k62 62 w143 w.heap.size (fun k_ => k_ ≠ gb322) (.slice Ao15 t304.length co15) t304) := ⟨(by rw [hw]; exact (by (with_reducible repeat (first | apply Kd.R_alloc | apply Kd.R_drewN | apply Kd.R_drew)); exact Kd.R_mono (Rf4_ (g := gb303) (Kd.R_types HO_311000.out BK303.out (by decide))) (fun _ hk => by first | exact hk.1 | grind)))⟩; replace BK301 := uk_ hw BK301.out; replace BK302 := uk_ hw BK302.out; replace BK303 : Aside0 (w143.heap[gb303]? = some (.cells #[.slice Ao15 t304.length co15, .int .i64 t307, .int .i64 t308, .int .i64 t327] 30 (0, 0))) := ⟨(by rw [hw]; exact (by (with_reducible repeat first|apply bn_|apply bd_|apply ba_); apply bp4_; (with_reducible repeat first|apply bn_|apply bd_|apply ba_); exact BK303.out))⟩; replace BK310 := uk_ hw BK310.out; replace BK322 := uk_ hw BK322.out; replace HB := uh_ hw HB.out; clear hw))
      refine bodyPost_ret (results_ct rfl _ _ gb303 30 #[.slice Ao15 t304.length co15, .int .i64 t307, .int .i64 t308, .int .i64 t327] (0, 0) _ rfl (ub_ BK303.out) Try.underlying30 rfl (by kernel_rfl)) rfl ?_
      exact ⟨_, ew_, by (with_reducible repeat (first | apply Kd.R_alloc | apply Kd.R_drewN | apply Kd.R_drew)); exact Kd.R_mono HO_311000.out (fun _ hk => trivial), ue_ HB.out⟩
     replace c126 := Bool.eq_false_iff.mpr c126
     subst c126
     have H1 : ((impl_put.f t304 t316 t317 t318 t319 t320 t321).bind fun t328 => (some (t328, t307, t308, t309, 0))) = some (r1, r2, r3, r4, r5) := by rw [if_neg (show ¬ (false = true) by decide)] at H; exact H
     clear H
     have H := H1
     clear H1
     replace H := Option.bind_eq_some_iff.mp H
     obtain ⟨t328, A1440, H⟩ := H
     replace H : (some (t328, t307, t308, t309, 0)) = some (r1, r2, r3, r4, r5) := H
     have A144 := Aside0.mk A1440
     clear A1440
     simp only [Option.some.injEq, Prod.mk.injEq] at H
     obtain ⟨rfl, rfl, rfl, rfl, rfl⟩ := H
     have hnb145 := NB310_301.out
     have hnc145 := NB301_310.out
     have hnb146 := NB310_302.out
     have hnc146 := NB302_310.out
     have hnb147 := NB310_303.out
     have hnc147 := NB303_310.out
     have hnb148 := NB310_322.out
     have hnc148 := NB322_310.out
     obtain ⟨hcz149_0, hcz149_1, hcz149_2, hcz149_3⟩ := cbz4_ BK310.out
     obtain ⟨hfz149_0, hfz149_1, hfz149_2, hfz149_3⟩ := bfz4_ BK310.out
     have hnb150 := NB322_301.out
     have hnc150 := NB301_322.out
     have hnb151 := NB322_302.out
     have hnc151 := NB302_322.out
     have hnb152 := NB322_303.out
     have hnc152 := NB303_322.out
     obtain ⟨hcz153_0, hcz153_1, hcz153_2, hcz153_3, hcz153_4, hcz153_5⟩ := cbz6_ BK322.out
     obtain ⟨hfz153_0, hfz153_1, hfz153_2, hfz153_3, hfz153_4, hfz153_5⟩ := bfz6_ BK322.out
     go_wp2_with (first | ((with_reducible refine gate_callee (f := 44) rfl ?_); refine goesL_ (some 79) rfl rfl Try.func44 (by kernel_rfl) rfl #[.slice Ao15 t304.length co15, .agg #[.int .i64 t316, .int .i64 t317, .int .i64 t318, .int .i64 t319, .int .i64 t320, .int .i64 t321]] rfl ul_ ?_; (with_reducible refine (impl_put.calls (fun k_ => some k_ = (.slice Ao15 t304.length co15 : Value).ownBlock) (.slice Ao15 t304.length co15) t304 t316 t317 t318 t319 t320 t321 t328 w _ ?side1 ?side2 A144.out).mono ?_); (case side1 => repeat (first | (with_reducible first | exact HB.out | apply below_alloc | apply pw_below_drewN | apply below_drew1 | refine below_set ?_ GE301.out | refine below_set ?_ GE302.out | refine below_set ?_ GE303.out | refine below_set ?_ GE310.out | refine below_set ?_ GE322.out) | exact HB.out)); (case side2 => exact Kd.R_tight rfl HO_311000.out); rintro e w154 ⟨v329, rfl, ho0, hb, hkp⟩; refine ⟨_, rfl, ?_⟩; replace BK301 := am_ (blk_kept (g := gb301) (o := .cells #[.slice A0_0 l0_0.length c0_0, .int .i64 a0_1, .int .i64 a0_2, .int .i64 a0_3] 30 (0, 0)) (ub_ BK301.out) hkp (fun hs_ => (fun e_ => (Kd.R_ne HO_311000.out BK301.out (by decide)) e_) hs_)); replace BK302 := am_ (blk_kept (g := gb302) (o := .cells #[.int .i64 a3_0, .int .i64 a3_1, .int .i64 a3_2, .int .i64 a3_3] 34 (0, 0)) (ub_ BK302.out) hkp (fun hs_ => (fun e_ => (Kd.R_ne HO_311000.out BK302.out (by decide)) e_) hs_)); replace BK303 := am_ (blk_kept (g := gb303) (o := .cells #[.slice none 0 0, .int .i64 0, .int .i64 0, .int .i64 0] 30 (0, 0)) (ub_ BK303.out) hkp (fun hs_ => (fun e_ => (Kd.R_ne HO_311000.out BK303.out (by decide)) e_) hs_)); replace BK310 := am_ (blk_kept (g := gb310) (o := .cells #[.slice Ao15 t304.length co15, .int .i64 t307, .int .i64 t308, .int .i64 t309] 30 (0, 0)) (ub_ BK310.out) hkp (fun hs_ => (fun e_ => (Kd.R_ne HO_311000.out BK310.out (by decide)) e_) hs_)); have HO330 := am_ (Kd.R_mono (ok' := fun k_ => k_ ≠ gb322) ho0 (fun k_ hk_ => Or.elim hk_ (fun hs_ => fun e_ => (Kd.R_away HO_311000.out (fun _ hk => hk)) (by rw [← e_]; exact hs_)) (fun hn_ => (Kd.freshB (g := gb322) (o := .cells #[.int .i64 t316, .int .i64 t317, .int .i64 t318, .int .i64 t319, .int .i64 t320, .int .i64 t321] 62 (0, 0)) (ub_ BK322.out) k_ hn_)))); replace BK322 := am_ (blk_kept (g := gb322) (o := .cells #[.int .i64 t316, .int .i64 t317, .int .i64 t318, .int .i64 t319, .int .i64 t320, .int .i64 t321] 62 (0, 0)) (ub_ BK322.out) hkp (fun hs_ => (fun e_ => (Kd.R_away HO_311000.out (fun _ hk => hk)) e_) hs_)); replace HB := am_ (hb); clear HO_311000; (try clear hb); (try clear hkp); (try clear ho0); obtain ⟨Ao155, co155, eo155⟩ := Kd.R_slice HO330.out; subst eo155; obtain ⟨hcz156_0, hcz156_1, hcz156_2, hcz156_3⟩ := cb4_ BK310.out; obtain ⟨hfz156_0, hfz156_1, hfz156_2⟩ := bf3_ BK310.out; have hfz156_3 := blk_frozen BK310.out 3) | ((with_reducible refine gate_store (t := 28) (p := 80) rfl ?_); refine st_ (w1 := (w154.setCell ⟨gb310, 0, none⟩ (.slice Ao155 t328.length co155))) ?_; intro w157 hw; replace HO330 : Aside0 (Kd.R k62 62 w157 w.heap.size (fun k_ => k_ ≠ gb322) (.slice Ao155 t328.length co155) t328) := ⟨(by rw [hw]; exact (by (with_reducible repeat (first | apply Kd.R_alloc | apply Kd.R_drewN | apply Kd.R_drew)); exact Kd.R_mono (Kd.R_far (p := ⟨gb310, 0, none⟩) (Kd.R_types HO330.out BK310.out (by decide)) h2_ (.slice Ao155 t328.length co155)) (fun _ hk => by first | exact hk.1 | grind)))⟩; replace BK301 := uk_ hw BK301.out; replace BK302 := uk_ hw BK302.out; replace BK303 := uk_ hw BK303.out; replace BK310 : Aside0 (w157.heap[gb310]? = some (.cells #[.slice Ao155 t328.length co155, .int .i64 t307, .int .i64 t308, .int .i64 t309] 30 (0, 0))) := ⟨(by rw [hw]; exact (by (with_reducible repeat first|apply bn_|apply bd_|apply ba_); refine blk_put (cs := #[.slice Ao15 t304.length co15, .int .i64 t307, .int .i64 t308, .int .i64 t309]) ?_ 0 _ rfl; (with_reducible repeat first|apply bn_|apply bd_|apply ba_); exact BK310.out))⟩; replace BK322 := uk_ hw BK322.out; replace HB := uh_ hw HB.out; clear hw; obtain ⟨hcz158_0, hcz158_1, hcz158_2, hcz158_3⟩ := cb4_ BK310.out; obtain ⟨hfz158_0, hfz158_1, hfz158_2, hfz158_3⟩ := bf4_ BK310.out; have hnb159 := NB303_301.out; have hnc159 := NB301_303.out; have hnb160 := NB303_302.out; have hnc160 := NB302_303.out; obtain ⟨hcz161_0, hcz161_1, hcz161_2, hcz161_3⟩ := cb4_ BK303.out; obtain ⟨hfz161_0, hfz161_1, hfz161_2⟩ := bf3_ BK303.out; have hfz161_3 := blk_frozen BK303.out 3) | ((with_reducible refine gate_store (t := 30) (p := 8) rfl ?_); refine st_ (w1 := ((((w157.setCell ⟨gb303, 0, none⟩ (.slice Ao155 t328.length co155)).setCell ⟨gb303, 1, none⟩ (.int .i64 t307)).setCell ⟨gb303, 2, none⟩ (.int .i64 t308)).setCell ⟨gb303, 3, none⟩ (.int .i64 t309))) ?_; intro w162 hw; replace HO330 : Aside0 (Kd.R k62 62 w162 w.heap.size (fun k_ => k_ ≠ gb322) (.slice Ao155 t328.length co155) t328) := ⟨(by rw [hw]; exact (by (with_reducible repeat (first | apply Kd.R_alloc | apply Kd.R_drewN | apply Kd.R_drew)); exact Kd.R_mono (Rf4_ (g := gb303) (Kd.R_types HO330.out BK303.out (by decide))) (fun _ hk => by first | exact hk.1 | grind)))⟩; replace BK301 := uk_ hw BK301.out; replace BK302 := uk_ hw BK302.out; replace BK303 : Aside0 (w162.heap[gb303]? = some (.cells #[.slice Ao155 t328.length co155, .int .i64 t307, .int .i64 t308, .int .i64 t309] 30 (0, 0))) := ⟨(by rw [hw]; exact (by (with_reducible repeat first|apply bn_|apply bd_|apply ba_); apply bp4_; (with_reducible repeat first|apply bn_|apply bd_|apply ba_); exact BK303.out))⟩; replace BK310 := uk_ hw BK310.out; replace BK322 := uk_ hw BK322.out; replace HB := uh_ hw HB.out; clear hw))
     refine bodyPost_ret (results_ct rfl _ _ gb303 30 #[.slice Ao155 t328.length co155, .int .i64 t307, .int .i64 t308, .int .i64 t309] (0, 0) _ rfl (ub_ BK303.out) Try.underlying30 rfl (by kernel_rfl)) rfl ?_
     exact ⟨_, ew_, by (with_reducible repeat (first | apply Kd.R_alloc | apply Kd.R_drewN | apply Kd.R_drew)); exact Kd.R_mono HO330.out (fun _ hk => trivial), ue_ HB.out⟩

end Go.Proofs.Ytaofcalmgodgjaa.QFnExactAddEvent
