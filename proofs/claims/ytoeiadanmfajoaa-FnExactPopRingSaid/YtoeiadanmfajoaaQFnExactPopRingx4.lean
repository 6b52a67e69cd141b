/- The machine side of a law: Lean functions with the Go functions' answers and the walks that show it. No condition. -/
import Derived.Test.YtoeiadanmfajoaaQFnExactPopRingx0
import Derived.Test.YtoeiadanmfajoaaQFnExactPopRingx1
import Derived.Test.YtoeiadanmfajoaaQFnExactPopRingx2
import Derived.Test.YtoeiadanmfajoaaQFnExactPopRingx3
namespace Go.Proofs.Ytoeiadanmfajoaa.QFnExactPopRing
open Go.RowKit Go.Proofs.YtoeiadanmfajoaaW.PrintWords Go.Proofs.YtoeiadanmfajoaaW.PrintLast Go.Proofs.YtoeiadanmfajoaaW.PrintMore
attribute [local go_sem] max2_int min2_int max_two min_two max_three min_three max_four min_four   -- for this text's walks alone
set_option linter.unusedVariables false
set_option linter.unusedSimpArgs false

/-! ### laws_FnExactPopRing: function 10 -/
mutual
def laws_FnExactPopRing.j0 : Nat → Int → Bool → Int → Bool → Bool → List Int → Int → Int → List Int → Int → Int → List Int → Int → Int → List Int → Int → Int → Option (Bool)
  | 0, _, _, _, _, _, _, _, _, _, _, _, _, _, _, _, _, _ => none
  | k + 1, x5, x6, x9, x10, x50, x182000, x182001, x182002, x196000, x196001, x196002, x202000, x202001, x202002, x210000, x210001, x210002 => if x50 = true then (some false) else ((laws_toRing.f k x182000 x182001 x182002).bind fun bt211 => ((laws_eqRing.f k x202000 x202001 x202002 bt211.1 bt211.2.1 bt211.2.2).bind fun t216 => (if t216 = true then ((laws_markRing.f k x202000 x202001 x202002 1).bind fun bt217 => (if bt217.1 < 0 then (laws_FnExactPopRing.j1 k x5 x6 true x182000 x182001 x182002 x196000 x196001 x196002 x210000 x210001 x210002) else ((laws_eqRing.f k x210000 x210001 x210002 x196000 x196001 x196002).bind fun t219 => (if t219 = true then (if x9 = x5 then (laws_FnExactPopRing.j1 k x5 x6 (x10 != x6) x182000 x182001 x182002 x196000 x196001 x196002 x210000 x210001 x210002) else (laws_FnExactPopRing.j1 k x5 x6 true x182000 x182001 x182002 x196000 x196001 x196002 x210000 x210001 x210002)) else (laws_FnExactPopRing.j1 k x5 x6 true x182000 x182001 x182002 x196000 x196001 x196002 x210000 x210001 x210002))))) else (some false))))
def laws_FnExactPopRing.j1 : Nat → Int → Bool → Bool → List Int → Int → Int → List Int → Int → Int → List Int → Int → Int → Option (Bool)
  | 0, _, _, _, _, _, _, _, _, _, _, _, _ => none
  | k + 1, x5, x6, x76, x182000, x182001, x182002, x196000, x196001, x196002, x210000, x210001, x210002 => if x76 = true then (some false) else ((laws_markRing.f k x210000 x210001 x210002 1).bind fun bt220 => ((laws_heldRing.f k bt220.2 x210001 x210002 1).bind fun t222 => (if t222 < 0 then (some false) else (if t222 = bt220.1 then ((laws_toRing.f k x182000 x182001 x182002).bind fun bt223 => ((impl_PopRing.f k bt223.1 bt223.2.1 bt223.2.2).bind fun bt228 => ((laws_eqRing.f k bt228.1 bt228.2.1 bt228.2.2.1 x196000 x196001 x196002).bind fun t236 => (if t236 = true then (if bt228.2.2.2.1 = x5 then (laws_FnExactPopRing.j2 k bt220.1 (bt228.2.2.2.2 != x6) bt220.2 x210001 x210002) else (laws_FnExactPopRing.j2 k bt220.1 true bt220.2 x210001 x210002)) else (laws_FnExactPopRing.j2 k bt220.1 true bt220.2 x210001 x210002))))) else (some false)))))
def laws_FnExactPopRing.j2 : Nat → Int → Bool → List Int → Int → Int → Option (Bool)
  | 0, _, _, _, _, _ => none
  | k + 1, x12, x108, x210000, x210001, x210002 => if x108 = true then (some false) else ((laws_heldRing.f k x210000 x210001 x210002 1).bind fun t237 => (if t237 < 0 then (some false) else (if t237 = x12 then (some true) else (some false))))
end
def laws_FnExactPopRing.f (k : Nat) (l0_0 : List Int) (a0_1 : Int) (a0_2 : Int) : Option (Bool) := (laws_szRing.f l0_0 a0_1 a0_2 1048576).bind fun t182 => (if t182 < 0 then (some true) else ((laws_toRing.f k l0_0 a0_1 a0_2).bind fun bt183 => ((spec_PopRing.f k bt183.1 bt183.2.1 bt183.2.2).bind fun bt188 => ((laws_toRing.f k l0_0 a0_1 a0_2).bind fun bt196 => ((impl_PopRing.f k bt196.1 bt196.2.1 bt196.2.2).bind fun bt202 => ((laws_eqRing.f k bt202.1 bt202.2.1 bt202.2.2.1 bt188.1 bt188.2.1 bt188.2.2.1).bind fun t210 => (if t210 = true then (if bt202.2.2.2.1 = bt188.2.2.2.1 then (laws_FnExactPopRing.j0 k bt188.2.2.2.1 bt188.2.2.2.2 bt202.2.2.2.1 bt202.2.2.2.2 (bt202.2.2.2.2 != bt188.2.2.2.2) l0_0 a0_1 a0_2 bt188.1 bt188.2.1 bt188.2.2.1 bt196.1 bt196.2.1 bt196.2.2 bt202.1 bt202.2.1 bt202.2.2.1) else (laws_FnExactPopRing.j0 k bt188.2.2.2.1 bt188.2.2.2.2 bt202.2.2.2.1 bt202.2.2.2.2 true l0_0 a0_1 a0_2 bt188.1 bt188.2.1 bt188.2.2.1 bt196.1 bt196.2.1 bt196.2.2 bt202.1 bt202.2.1 bt202.2.2.1)) else (laws_FnExactPopRing.j0 k bt188.2.2.2.1 bt188.2.2.2.2 bt202.2.2.2.1 bt202.2.2.2.2 true l0_0 a0_1 a0_2 bt188.1 bt188.2.1 bt188.2.2.1 bt196.1 bt196.2.1 bt196.2.2 bt202.1 bt202.2.1 bt202.2.2.1))))))))
theorem laws_FnExactPopRing.mono_l : ∀ k, (∀ y0 y1 y2 y3 y4 y5 y6 y7 y8 y9 y10 y11 y12 y13 y14 y15 y16, LeO (laws_FnExactPopRing.j0 k y0 y1 y2 y3 y4 y5 y6 y7 y8 y9 y10 y11 y12 y13 y14 y15 y16) (laws_FnExactPopRing.j0 (k + 1) y0 y1 y2 y3 y4 y5 y6 y7 y8 y9 y10 y11 y12 y13 y14 y15 y16)) ∧ (∀ y0 y1 y2 y3 y4 y5 y6 y7 y8 y9 y10 y11, LeO (laws_FnExactPopRing.j1 k y0 y1 y2 y3 y4 y5 y6 y7 y8 y9 y10 y11) (laws_FnExactPopRing.j1 (k + 1) y0 y1 y2 y3 y4 y5 y6 y7 y8 y9 y10 y11)) ∧ (∀ y0 y1 y2 y3 y4, LeO (laws_FnExactPopRing.j2 k y0 y1 y2 y3 y4) (laws_FnExactPopRing.j2 (k + 1) y0 y1 y2 y3 y4))
  | 0 => ⟨fun _ _ _ _ _ _ _ _ _ _ _ _ _ _ _ _ _ r h => by simp [laws_FnExactPopRing.j0] at h, fun _ _ _ _ _ _ _ _ _ _ _ _ r h => by simp [laws_FnExactPopRing.j1] at h, fun _ _ _ _ _ r h => by simp [laws_FnExactPopRing.j2] at h⟩
  | k + 1 => by
    obtain ⟨ih0, ih1, ih2⟩ := laws_FnExactPopRing.mono_l k
    refine ⟨?_, ?_, ?_⟩
    · intro y0 y1 y2 y3 y4 y5 y6 y7 y8 y9 y10 y11 y12 y13 y14 y15 y16
      unfold laws_FnExactPopRing.j0
      repeat' first
      | (with_reducible exact ih0 _ _ _ _ _ _ _ _ _ _ _ _ _ _ _ _ _)
      | (with_reducible exact ih1 _ _ _ _ _ _ _ _ _ _ _ _)
      | (with_reducible exact ih2 _ _ _ _ _)
      | (with_reducible exact impl_PopRing.mono _ _ _ _)
      | (with_reducible exact laws_eqRing.mono _ _ _ _ _ _ _)
      | (with_reducible exact laws_heldRing.mono _ _ _ _ _)
      | (with_reducible exact laws_markRing.mono _ _ _ _ _)
      | (with_reducible exact laws_toRing.mono _ _ _ _)
      | (with_reducible exact spec_PopRing.mono _ _ _ _)
      | (with_reducible exact LeO.refl _)
      | (with_reducible exact LeO.none _)
      | (with_reducible refine LeO.ite ?_ ?_)
      | (with_reducible refine LeO.bind ?_ (fun _ => ?_))
      | exact ih0 _ _ _ _ _ _ _ _ _ _ _ _ _ _ _ _ _
      | exact ih1 _ _ _ _ _ _ _ _ _ _ _ _
      | exact ih2 _ _ _ _ _
      | exact impl_PopRing.mono _ _ _ _
      | exact laws_eqRing.mono _ _ _ _ _ _ _
      | exact laws_heldRing.mono _ _ _ _ _
      | exact laws_markRing.mono _ _ _ _ _
      | exact laws_toRing.mono _ _ _ _
      | exact spec_PopRing.mono _ _ _ _
      | exact LeO.none _
      | refine LeO.ite ?_ ?_
      | refine LeO.bind ?_ (fun _ => ?_)
    · intro y0 y1 y2 y3 y4 y5 y6 y7 y8 y9 y10 y11
      unfold laws_FnExactPopRing.j1
      repeat' first
      | (with_reducible exact ih0 _ _ _ _ _ _ _ _ _ _ _ _ _ _ _ _ _)
      | (with_reducible exact ih1 _ _ _ _ _ _ _ _ _ _ _ _)
      | (with_reducible exact ih2 _ _ _ _ _)
      | (with_reducible exact impl_PopRing.mono _ _ _ _)
      | (with_reducible exact laws_eqRing.mono _ _ _ _ _ _ _)
      | (with_reducible exact laws_heldRing.mono _ _ _ _ _)
      | (with_reducible exact laws_markRing.mono _ _ _ _ _)
      | (with_reducible exact laws_toRing.mono _ _ _ _)
      | (with_reducible exact spec_PopRing.mono _ _ _ _)
      | (with_reducible exact LeO.refl _)
      | (with_reducible exact LeO.none _)
      | (with_reducible refine LeO.ite ?_ ?_)
      | (with_reducible refine LeO.bind ?_ (fun _ => ?_))
      | exact ih0 _ _ _ _ _ _ _ _ _ _ _ _ _ _ _ _ _
      | exact ih1 _ _ _ _ _ _ _ _ _ _ _ _
      | exact ih2 _ _ _ _ _
      | exact impl_PopRing.mono _ _ _ _
      | exact laws_eqRing.mono _ _ _ _ _ _ _
      | exact laws_heldRing.mono _ _ _ _ _
      | exact laws_markRing.mono _ _ _ _ _
      | exact laws_toRing.mono _ _ _ _
      | exact spec_PopRing.mono _ _ _ _
      | exact LeO.none _
      | refine LeO.ite ?_ ?_
      | refine LeO.bind ?_ (fun _ => ?_)
    · intro y0 y1 y2 y3 y4
      unfold laws_FnExactPopRing.j2
      repeat' first
      | (with_reducible exact ih0 _ _ _ _ _ _ _ _ _ _ _ _ _ _ _ _ _)
      | (with_reducible exact ih1 _ _ _ _ _ _ _ _ _ _ _ _)
      | (with_reducible exact ih2 _ _ _ _ _)
      | (with_reducible exact impl_PopRing.mono _ _ _ _)
      | (with_reducible exact laws_eqRing.mono _ _ _ _ _ _ _)
      | (with_reducible exact laws_heldRing.mono _ _ _ _ _)
      | (with_reducible exact laws_markRing.mono _ _ _ _ _)
      | (with_reducible exact laws_toRing.mono _ _ _ _)
      | (with_reducible exact spec_PopRing.mono _ _ _ _)
      | (with_reducible exact LeO.refl _)
      | (with_reducible exact LeO.none _)
      | (with_reducible refine LeO.ite ?_ ?_)
      | (with_reducible refine LeO.bind ?_ (fun _ => ?_))
      | exact ih0 _ _ _ _ _ _ _ _ _ _ _ _ _ _ _ _ _
      | exact ih1 _ _ _ _ _ _ _ _ _ _ _ _
      | exact ih2 _ _ _ _ _
      | exact impl_PopRing.mono _ _ _ _
      | exact laws_eqRing.mono _ _ _ _ _ _ _
      | exact laws_heldRing.mono _ _ _ _ _
      | exact laws_markRing.mono _ _ _ _ _
      | exact laws_toRing.mono _ _ _ _
      | exact spec_PopRing.mono _ _ _ _
      | exact LeO.none _
      | refine LeO.ite ?_ ?_
      | refine LeO.bind ?_ (fun _ => ?_)
theorem laws_FnExactPopRing.mono : ∀ a0 a1 a2 k, LeO (laws_FnExactPopRing.f k a0 a1 a2) (laws_FnExactPopRing.f (k + 1) a0 a1 a2) := by
  intro a0 a1 a2 k
  obtain ⟨ih0, ih1, ih2⟩ := laws_FnExactPopRing.mono_l k
  unfold laws_FnExactPopRing.f
  repeat' first
      | (with_reducible exact ih0 _ _ _ _ _ _ _ _ _ _ _ _ _ _ _ _ _)
      | (with_reducible exact ih1 _ _ _ _ _ _ _ _ _ _ _ _)
      | (with_reducible exact ih2 _ _ _ _ _)
      | (with_reducible exact impl_PopRing.mono _ _ _ _)
      | (with_reducible exact laws_eqRing.mono _ _ _ _ _ _ _)
      | (with_reducible exact laws_heldRing.mono _ _ _ _ _)
      | (with_reducible exact laws_markRing.mono _ _ _ _ _)
      | (with_reducible exact laws_toRing.mono _ _ _ _)
      | (with_reducible exact spec_PopRing.mono _ _ _ _)
      | (with_reducible exact LeO.refl _)
      | (with_reducible exact LeO.none _)
      | (with_reducible refine LeO.ite ?_ ?_)
      | (with_reducible refine LeO.bind ?_ (fun _ => ?_))
      | exact ih0 _ _ _ _ _ _ _ _ _ _ _ _ _ _ _ _ _
      | exact ih1 _ _ _ _ _ _ _ _ _ _ _ _
      | exact ih2 _ _ _ _ _
      | exact impl_PopRing.mono _ _ _ _
      | exact laws_eqRing.mono _ _ _ _ _ _ _
      | exact laws_heldRing.mono _ _ _ _ _
      | exact laws_markRing.mono _ _ _ _ _
      | exact laws_toRing.mono _ _ _ _
      | exact spec_PopRing.mono _ _ _ _
      | exact LeO.none _
      | refine LeO.ite ?_ ?_
      | refine LeO.bind ?_ (fun _ => ?_)
set_option maxHeartbeats 8000000 in
set_option maxRecDepth 100000 in
theorem laws_FnExactPopRing.calls (k : Nat) (A0_0 : Option Addr) (c0_0 : Nat) (l0_0 : List Int) (a0_1 : Int) (a0_2 : Int) (r : Bool) (w : World) (hr0_0 : Kd.C (Kd.int .i64) w A0_0 l0_0.length l0_0) (hc0_0 : l0_0.length ≤ c0_0) (hT : Aside0 (r = true)) (h : laws_FnExactPopRing.f k l0_0 a0_1 a0_2 = some r) :
    Calls Try.prog 10 #[.agg #[.slice A0_0 l0_0.length c0_0, .int .i64 a0_1, .int .i64 a0_2]] w fun e w' => e = .returned (.bool r) ∧ Below w.heap.size w w' := by
  have hu24 := Try.underlying24
  have hu29 := Try.underlying29
  have HR0_0 := Aside0.mk hr0_0
  have HC0_0 := Aside0.mk hc0_0
  clear hr0_0 hc0_0
  have HB := Aside0.mk (Below.refl w.heap.size w)
  have H : ((laws_szRing.f l0_0 a0_1 a0_2 1048576).bind fun t182 => (if t182 < 0 then (some true) else ((laws_toRing.f k l0_0 a0_1 a0_2).bind fun bt183 => ((spec_PopRing.f k bt183.1 bt183.2.1 bt183.2.2).bind fun bt188 => ((laws_toRing.f k l0_0 a0_1 a0_2).bind fun bt196 => ((impl_PopRing.f k bt196.1 bt196.2.1 bt196.2.2).bind fun bt202 => ((laws_eqRing.f k bt202.1 bt202.2.1 bt202.2.2.1 bt188.1 bt188.2.1 bt188.2.2.1).bind fun t210 => (if t210 = true then (if bt202.2.2.2.1 = bt188.2.2.2.1 then (laws_FnExactPopRing.j0 k bt188.2.2.2.1 bt188.2.2.2.2 bt202.2.2.2.1 bt202.2.2.2.2 (bt202.2.2.2.2 != bt188.2.2.2.2) l0_0 a0_1 a0_2 bt188.1 bt188.2.1 bt188.2.2.1 bt196.1 bt196.2.1 bt196.2.2 bt202.1 bt202.2.1 bt202.2.2.1) else (laws_FnExactPopRing.j0 k bt188.2.2.2.1 bt188.2.2.2.2 bt202.2.2.2.1 bt202.2.2.2.2 true l0_0 a0_1 a0_2 bt188.1 bt188.2.1 bt188.2.2.1 bt196.1 bt196.2.1 bt196.2.2 bt202.1 bt202.2.1 bt202.2.2.1)) else (laws_FnExactPopRing.j0 k bt188.2.2.2.1 bt188.2.2.2.2 bt202.2.2.2.1 bt202.2.2.2.2 true l0_0 a0_1 a0_2 bt188.1 bt188.2.1 bt188.2.2.1 bt196.1 bt196.2.1 bt196.2.2 bt202.1 bt202.2.1 bt202.2.2.1))))))))) = some r := h
  clear h
  replace H := Option.bind_eq_some_iff.mp H
  obtain ⟨t182, A20, H⟩ := H
  replace H : (if t182 < 0 then (some true) else ((laws_toRing.f k l0_0 a0_1 a0_2).bind fun bt183 => ((spec_PopRing.f k bt183.1 bt183.2.1 bt183.2.2).bind fun bt188 => ((laws_toRing.f k l0_0 a0_1 a0_2).bind fun bt196 => ((impl_PopRing.f k bt196.1 bt196.2.1 bt196.2.2).bind fun bt202 => ((laws_eqRing.f k bt202.1 bt202.2.1 bt202.2.2.1 bt188.1 bt188.2.1 bt188.2.2.1).bind fun t210 => (if t210 = true then (if bt202.2.2.2.1 = bt188.2.2.2.1 then (laws_FnExactPopRing.j0 k bt188.2.2.2.1 bt188.2.2.2.2 bt202.2.2.2.1 bt202.2.2.2.2 (bt202.2.2.2.2 != bt188.2.2.2.2) l0_0 a0_1 a0_2 bt188.1 bt188.2.1 bt188.2.2.1 bt196.1 bt196.2.1 bt196.2.2 bt202.1 bt202.2.1 bt202.2.2.1) else (laws_FnExactPopRing.j0 k bt188.2.2.2.1 bt188.2.2.2.2 bt202.2.2.2.1 bt202.2.2.2.2 true l0_0 a0_1 a0_2 bt188.1 bt188.2.1 bt188.2.2.1 bt196.1 bt196.2.1 bt196.2.2 bt202.1 bt202.2.1 bt202.2.2.1)) else (laws_FnExactPopRing.j0 k bt188.2.2.2.1 bt188.2.2.2.2 bt202.2.2.2.1 bt202.2.2.2.2 true l0_0 a0_1 a0_2 bt188.1 bt188.2.1 bt188.2.2.1 bt196.1 bt196.2.1 bt196.2.2 bt202.1 bt202.2.1 bt202.2.2.1)))))))) = some r := H
  have A2 := Aside0.mk A20
  clear A20
  by_cases c3 : t182 < 0
  · rw [if_pos c3] at H
    have c3b0 : decide (t182 < 0) = true := decide_eq_true c3
    clear c3
    obtain rfl := Option.some.inj H
    go_enter Try.func10, Try.ntmps10
    go_wp2_with (first | ((with_reducible refine gate_dst (N := 1) rfl ?_); refine box_event ?hg (N := 1) ?hd (cs := #[.slice A0_0 l0_0.length c0_0, .int .i64 a0_1, .int .i64 a0_2]) (t := 24) ?hr ?_; (case hd => rfl); (case hg => rfl); (case hr => first | (go_simp; done) | (go_simp; rfl)); intro gb181 hg w4 hbox hb; have n0_ := Aside0.mk (below_step (by repeat (first | (with_reducible first | exact HB.out | apply below_alloc | apply pw_below_drewN | apply below_drew1) | exact HB.out)) hb); have n1_ := Aside0.mk (hbox); have n2_ := Aside0.mk ((by rw [hg]; exact (below_size (by repeat (first | (with_reducible first | exact HB.out | apply below_alloc | apply pw_below_drewN | apply below_drew1) | exact HB.out))) : w.heap.size ≤ gb181)); have n3_ := Aside0.mk ((by rw [hg]; exact (below_size (by repeat (first | (with_reducible first | exact HB.out | apply below_alloc | apply pw_below_drewN | apply below_drew1) | exact HB.out))) : w.heap.size ≤ gb181)); clear HB; have HB := n0_; have BK181 := n1_; have GW181 := n2_; have GE181 := n3_; clear n0_ n1_ n2_ n3_; clear hb hbox hg; have hcz5_0 : w4.cell? ⟨gb181, 0, none⟩ = some (.slice A0_0 l0_0.length c0_0) := (blk_cell BK181.out 0).trans rfl; have hcz5_1 : w4.cell? ⟨gb181, 1, none⟩ = some (.int .i64 a0_1) := (blk_cell BK181.out 1).trans rfl; have hcz5_2 : w4.cell? ⟨gb181, 2, none⟩ = some (.int .i64 a0_2) := (blk_cell BK181.out 2).trans rfl; have hfz5_0 := blk_frozen BK181.out 0; have hfz5_1 := blk_frozen BK181.out 1; have hfz5_2 := blk_frozen BK181.out 2) | ((with_reducible refine gate_callee (f := 14) rfl ?_); refine goesL_ (some 19) rfl rfl Try.func14 (by kernel_rfl) rfl #[.agg #[.slice A0_0 l0_0.length c0_0, .int .i64 a0_1, .int .i64 a0_2], .int .i64 1048576] rfl (by (try simp only [List.map_toArray, List.map_cons, List.map_nil]); first | done | rfl | (simp only [List.length_drop, List.length_take]; rfl)) ?_; (with_reducible refine (laws_szRing.calls _ _ l0_0 a0_1 a0_2 1048576 t182 _ ?side1 ?side2 A2.out).mono ?_); (case side1 => repeat (first | exact (Kd.C_below HR0_0.out HB.out) | (with_reducible refine Kd.C_alloc ?_ _) | (with_reducible refine Kd.C_drewN ?_ _) | (with_reducible refine Kd.C_drew ?_))); (case side2 => exact HC0_0.out); rintro e w6 ⟨rfl, hb⟩; refine ⟨_, rfl, ?_⟩; have n0_ := Aside0.mk (blk_below (g := gb181) (o := .cells #[.slice A0_0 l0_0.length c0_0, .int .i64 a0_1, .int .i64 a0_2] 24 (0, 0)) (by (with_reducible repeat (first | refine blk_drewN ?_ _ | refine blk_drew ?_ | refine blk_alloc ?_ _)); exact BK181.out) hb); have n1_ := Aside0.mk (below_step (by repeat (first | (with_reducible first | exact HB.out | apply below_alloc | apply pw_below_drewN | apply below_drew1 | refine below_set ?_ GE181.out) | exact HB.out)) hb); clear BK181; clear HB; have BK181 := n0_; have HB := n1_; clear n0_ n1_; (try clear hb); (try clear hb2); (try clear hk); (try clear hi)))
    go_ret
    exact ⟨by first | rfl | (simp [errW_none, errW_some] <;> rfl) | (simp [*, errW_none, errW_some] <;> rfl), by repeat (first | (with_reducible first | exact HB.out | apply below_alloc | apply pw_below_drewN | apply below_drew1 | refine below_set ?_ GE181.out) | exact HB.out)⟩
  · rw [if_neg c3] at H
    have c3b0 : decide (t182 < 0) = false := decide_eq_false c3
    clear c3
    replace H := Option.bind_eq_some_iff.mp H
    obtain ⟨⟨t183, t186, t187⟩, A70, H⟩ := H
    replace H : ((spec_PopRing.f k t183 t186 t187).bind fun bt188 => ((laws_toRing.f k l0_0 a0_1 a0_2).bind fun bt196 => ((impl_PopRing.f k bt196.1 bt196.2.1 bt196.2.2).bind fun bt202 => ((laws_eqRing.f k bt202.1 bt202.2.1 bt202.2.2.1 bt188.1 bt188.2.1 bt188.2.2.1).bind fun t210 => (if t210 = true then (if bt202.2.2.2.1 = bt188.2.2.2.1 then (laws_FnExactPopRing.j0 k bt188.2.2.2.1 bt188.2.2.2.2 bt202.2.2.2.1 bt202.2.2.2.2 (bt202.2.2.2.2 != bt188.2.2.2.2) l0_0 a0_1 a0_2 bt188.1 bt188.2.1 bt188.2.2.1 bt196.1 bt196.2.1 bt196.2.2 bt202.1 bt202.2.1 bt202.2.2.1) else (laws_FnExactPopRing.j0 k bt188.2.2.2.1 bt188.2.2.2.2 bt202.2.2.2.1 bt202.2.2.2.2 true l0_0 a0_1 a0_2 bt188.1 bt188.2.1 bt188.2.2.1 bt196.1 bt196.2.1 bt196.2.2 bt202.1 bt202.2.1 bt202.2.2.1)) else (laws_FnExactPopRing.j0 k bt188.2.2.2.1 bt188.2.2.2.2 bt202.2.2.2.1 bt202.2.2.2.2 true l0_0 a0_1 a0_2 bt188.1 bt188.2.1 bt188.2.2.1 bt196.1 bt196.2.1 bt196.2.2 bt202.1 bt202.2.1 bt202.2.2.1)))))) = some r := H
    have A7 := Aside0.mk A70
    clear A70
    replace H := Option.bind_eq_some_iff.mp H
    obtain ⟨⟨t188, t191, t192, t193, t194⟩, A80, H⟩ := H
    replace H : ((laws_toRing.f k l0_0 a0_1 a0_2).bind fun bt196 => ((impl_PopRing.f k bt196.1 bt196.2.1 bt196.2.2).bind fun bt202 => ((laws_eqRing.f k bt202.1 bt202.2.1 bt202.2.2.1 t188 t191 t192).bind fun t210 => (if t210 = true then (if bt202.2.2.2.1 = t193 then (laws_FnExactPopRing.j0 k t193 t194 bt202.2.2.2.1 bt202.2.2.2.2 (bt202.2.2.2.2 != t194) l0_0 a0_1 a0_2 t188 t191 t192 bt196.1 bt196.2.1 bt196.2.2 bt202.1 bt202.2.1 bt202.2.2.1) else (laws_FnExactPopRing.j0 k t193 t194 bt202.2.2.2.1 bt202.2.2.2.2 true l0_0 a0_1 a0_2 t188 t191 t192 bt196.1 bt196.2.1 bt196.2.2 bt202.1 bt202.2.1 bt202.2.2.1)) else (laws_FnExactPopRing.j0 k t193 t194 bt202.2.2.2.1 bt202.2.2.2.2 true l0_0 a0_1 a0_2 t188 t191 t192 bt196.1 bt196.2.1 bt196.2.2 bt202.1 bt202.2.1 bt202.2.2.1))))) = some r := H
    have A8 := Aside0.mk A80
    clear A80
    replace H := Option.bind_eq_some_iff.mp H
    obtain ⟨⟨t196, t199, t200⟩, A90, H⟩ := H
    replace H : ((impl_PopRing.f k t196 t199 t200).bind fun bt202 => ((laws_eqRing.f k bt202.1 bt202.2.1 bt202.2.2.1 t188 t191 t192).bind fun t210 => (if t210 = true then (if bt202.2.2.2.1 = t193 then (laws_FnExactPopRing.j0 k t193 t194 bt202.2.2.2.1 bt202.2.2.2.2 (bt202.2.2.2.2 != t194) l0_0 a0_1 a0_2 t188 t191 t192 t196 t199 t200 bt202.1 bt202.2.1 bt202.2.2.1) else (laws_FnExactPopRing.j0 k t193 t194 bt202.2.2.2.1 bt202.2.2.2.2 true l0_0 a0_1 a0_2 t188 t191 t192 t196 t199 t200 bt202.1 bt202.2.1 bt202.2.2.1)) else (laws_FnExactPopRing.j0 k t193 t194 bt202.2.2.2.1 bt202.2.2.2.2 true l0_0 a0_1 a0_2 t188 t191 t192 t196 t199 t200 bt202.1 bt202.2.1 bt202.2.2.1)))) = some r := H
    have A9 := Aside0.mk A90
    clear A90
    replace H := Option.bind_eq_some_iff.mp H
    obtain ⟨⟨t202, t205, t206, t207, t208⟩, A100, H⟩ := H
    replace H : ((laws_eqRing.f k t202 t205 t206 t188 t191 t192).bind fun t210 => (if t210 = true then (if t207 = t193 then (laws_FnExactPopRing.j0 k t193 t194 t207 t208 (t208 != t194) l0_0 a0_1 a0_2 t188 t191 t192 t196 t199 t200 t202 t205 t206) else (laws_FnExactPopRing.j0 k t193 t194 t207 t208 true l0_0 a0_1 a0_2 t188 t191 t192 t196 t199 t200 t202 t205 t206)) else (laws_FnExactPopRing.j0 k t193 t194 t207 t208 true l0_0 a0_1 a0_2 t188 t191 t192 t196 t199 t200 t202 t205 t206))) = some r := H
    have A10 := Aside0.mk A100
    clear A100
    have HC11 := Aside0.mk H
    clear H
    go_enter Try.func10, Try.ntmps10
    go_upto_region 8 with (first | ((with_reducible refine gate_dst (N := 1) rfl ?_); refine box_event ?hg (N := 1) ?hd (cs := #[.slice A0_0 l0_0.length c0_0, .int .i64 a0_1, .int .i64 a0_2]) (t := 24) ?hr ?_; (case hd => rfl); (case hg => rfl); (case hr => first | (go_simp; done) | (go_simp; rfl)); intro gb181 hg w12 hbox hb; have n0_ := Aside0.mk (below_step (by repeat (first | (with_reducible first | exact HB.out | apply below_alloc | apply pw_below_drewN | apply below_drew1) | exact HB.out)) hb); have n1_ := Aside0.mk (hbox); have n2_ := Aside0.mk ((by rw [hg]; exact (below_size (by repeat (first | (with_reducible first | exact HB.out | apply below_alloc | apply pw_below_drewN | apply below_drew1) | exact HB.out))) : w.heap.size ≤ gb181)); have n3_ := Aside0.mk ((by rw [hg]; exact (below_size (by repeat (first | (with_reducible first | exact HB.out | apply below_alloc | apply pw_below_drewN | apply below_drew1) | exact HB.out))) : w.heap.size ≤ gb181)); clear HB; have HB := n0_; have BK181 := n1_; have GW181 := n2_; have GE181 := n3_; clear n0_ n1_ n2_ n3_; clear hb hbox hg; have hcz13_0 : w12.cell? ⟨gb181, 0, none⟩ = some (.slice A0_0 l0_0.length c0_0) := (blk_cell BK181.out 0).trans rfl; have hcz13_1 : w12.cell? ⟨gb181, 1, none⟩ = some (.int .i64 a0_1) := (blk_cell BK181.out 1).trans rfl; have hcz13_2 : w12.cell? ⟨gb181, 2, none⟩ = some (.int .i64 a0_2) := (blk_cell BK181.out 2).trans rfl; have hfz13_0 := blk_frozen BK181.out 0; have hfz13_1 := blk_frozen BK181.out 1; have hfz13_2 := blk_frozen BK181.out 2) | ((with_reducible refine gate_callee (f := 14) rfl ?_); refine goesL_ (some 19) rfl rfl Try.func14 (by kernel_rfl) rfl #[.agg #[.slice A0_0 l0_0.length c0_0, .int .i64 a0_1, .int .i64 a0_2], .int .i64 1048576] rfl (by (try simp only [List.map_toArray, List.map_cons, List.map_nil]); first | done | rfl | (simp only [List.length_drop, List.length_take]; rfl)) ?_; (with_reducible refine (laws_szRing.calls _ _ l0_0 a0_1 a0_2 1048576 t182 _ ?side1 ?side2 A2.out).mono ?_); (case side1 => repeat (first | exact (Kd.C_below HR0_0.out HB.out) | (with_reducible refine Kd.C_alloc ?_ _) | (with_reducible refine Kd.C_drewN ?_ _) | (with_reducible refine Kd.C_drew ?_))); (case side2 => exact HC0_0.out); rintro e w14 ⟨rfl, hb⟩; refine ⟨_, rfl, ?_⟩; have n0_ := Aside0.mk (blk_below (g := gb181) (o := .cells #[.slice A0_0 l0_0.length c0_0, .int .i64 a0_1, .int .i64 a0_2] 24 (0, 0)) (by (with_reducible repeat (first | refine blk_drewN ?_ _ | refine blk_drew ?_ | refine blk_alloc ?_ _)); exact BK181.out) hb); have n1_ := Aside0.mk (below_step (by repeat (first | (with_reducible first | exact HB.out | apply below_alloc | apply pw_below_drewN | apply below_drew1 | refine below_set ?_ GE181.out) | exact HB.out)) hb); clear BK181; clear HB; have BK181 := n0_; have HB := n1_; clear n0_ n1_; (try clear hb); (try clear hb2); (try clear hk); (try clear hi); have hcz15_0 : w14.cell? ⟨gb181, 0, none⟩ = some (.slice A0_0 l0_0.length c0_0) := (blk_cell BK181.out 0).trans rfl; have hcz15_1 : w14.cell? ⟨gb181, 1, none⟩ = some (.int .i64 a0_1) := (blk_cell BK181.out 1).trans rfl; have hcz15_2 : w14.cell? ⟨gb181, 2, none⟩ = some (.int .i64 a0_2) := (blk_cell BK181.out 2).trans rfl; have hfz15_0 := blk_frozen BK181.out 0; have hfz15_1 := blk_frozen BK181.out 1; have hfz15_2 := blk_frozen BK181.out 2) | ((with_reducible refine gate_callee (f := 16) rfl ?_); refine goesL_ (some 24) rfl rfl Try.func16 (by kernel_rfl) rfl #[.agg #[.slice A0_0 l0_0.length c0_0, .int .i64 a0_1, .int .i64 a0_2]] rfl (by (try simp only [List.map_toArray, List.map_cons, List.map_nil]); first | done | rfl | (simp only [List.length_drop, List.length_take]; rfl)) ?_; (with_reducible refine (laws_toRing.calls k _ _ l0_0 a0_1 a0_2 t183 t186 t187 _ ?side1 ?side2 A7.out).mono ?_); (case side1 => repeat (first | exact (Kd.C_below HR0_0.out HB.out) | (with_reducible refine Kd.C_alloc ?_ _) | (with_reducible refine Kd.C_drewN ?_ _) | (with_reducible refine Kd.C_drew ?_))); (case side2 => exact HC0_0.out); rintro e w16 ⟨v184, rfl, ho0, hb⟩; refine ⟨_, rfl, ?_⟩; have n0_ := Aside0.mk (Kd.R_lower ho0 (below_size (by repeat (first | (with_reducible first | exact HB.out | apply below_alloc | apply pw_below_drewN | apply below_drew1 | refine below_set ?_ GE181.out) | exact HB.out)))); have n1_ := Aside0.mk (blk_below (g := gb181) (o := .cells #[.slice A0_0 l0_0.length c0_0, .int .i64 a0_1, .int .i64 a0_2] 24 (0, 0)) (by (with_reducible repeat (first | refine blk_drewN ?_ _ | refine blk_drew ?_ | refine blk_alloc ?_ _)); exact BK181.out) hb); have n2_ := Aside0.mk (below_step (by repeat (first | (with_reducible first | exact HB.out | apply below_alloc | apply pw_below_drewN | apply below_drew1 | refine below_set ?_ GE181.out) | exact HB.out)) hb); clear BK181; clear HB; have HO185 := n0_; have BK181 := n1_; have HB := n2_; clear n0_ n1_ n2_; (try clear hb); (try clear hb2); (try clear hk); (try clear hi); (try clear ho0); obtain ⟨Ao17, co17, eo17⟩ := Kd.R_slice HO185.out; subst eo17) | ((with_reducible refine gate_callee (f := 53) rfl ?_); refine goesL_ (some 25) rfl rfl Try.func53 (by kernel_rfl) rfl #[.agg #[.slice Ao17 t183.length co17, .int .i64 t186, .int .i64 t187]] rfl (by (try simp only [List.map_toArray, List.map_cons, List.map_nil]); first | done | rfl | (simp only [List.length_drop, List.length_take]; rfl)) ?_; (with_reducible refine (spec_PopRing.calls k _ _ t183 t186 t187 t188 t191 t192 t193 t194 _ ?side1 ?side2 A8.out).mono ?_); (case side1 => repeat (first | exact (Kd.R_reads' HO185.out).2.2 | (with_reducible refine Kd.C_alloc ?_ _) | (with_reducible refine Kd.C_drewN ?_ _) | (with_reducible refine Kd.C_drew ?_))); (case side2 => exact (Kd.R_reads' HO185.out).2.1); rintro e w18 ⟨v189, rfl, ho0, hb⟩; refine ⟨_, rfl, ?_⟩; have n0_ := Aside0.mk (Kd.R_elder' (by (with_reducible repeat (first | apply Kd.R_alloc | apply Kd.R_drewN | apply Kd.R_drew)); exact HO185.out) (Kd.R_base ho0) hb); have n1_ := Aside0.mk (Kd.R_lower (Kd.R_new' ho0 (Kd.R_lt (by (with_reducible repeat (first | apply Kd.R_alloc | apply Kd.R_drewN | apply Kd.R_drew)); exact HO185.out))) (below_size (by repeat (first | (with_reducible first | exact HB.out | apply below_alloc | apply pw_below_drewN | apply below_drew1 | refine below_set ?_ GE181.out) | exact HB.out)))); have n2_ := Aside0.mk (blk_below (g := gb181) (o := .cells #[.slice A0_0 l0_0.length c0_0, .int .i64 a0_1, .int .i64 a0_2] 24 (0, 0)) (by (with_reducible repeat (first | refine blk_drewN ?_ _ | refine blk_drew ?_ | refine blk_alloc ?_ _)); exact BK181.out) hb); have n3_ := Aside0.mk (below_step (by repeat (first | (with_reducible first | exact HB.out | apply below_alloc | apply pw_below_drewN | apply below_drew1 | refine below_set ?_ GE181.out) | exact HB.out)) hb); clear HO185; clear BK181; clear HB; have HO185 := n0_; have HO190 := n1_; have BK181 := n2_; have HB := n3_; clear n0_ n1_ n2_ n3_; (try clear hb); (try clear hb2); (try clear hk); (try clear hi); (try clear ho0)) | ((with_reducible refine gate_dst (N := 4) rfl ?_); refine box_event ?hg (N := 4) ?hd (cs := #[.slice none 0 0, .int .i64 0, .int .i64 0]) (t := 29) ?hr ?_; (case hd => rfl); (case hg => rfl); (case hr => first | (go_simp; done) | (go_simp; rfl)); intro gb195 hg w19 hbox hb; have n0_ := Aside0.mk (Kd.R_below (by (with_reducible repeat (first | apply Kd.R_alloc | apply Kd.R_drewN | apply Kd.R_drew)); exact HO185.out) hb); have n1_ := Aside0.mk (Kd.R_below (by (with_reducible repeat (first | apply Kd.R_alloc | apply Kd.R_drewN | apply Kd.R_drew)); exact HO190.out) hb); have n2_ := Aside0.mk (blk_below (g := gb181) (o := .cells #[.slice A0_0 l0_0.length c0_0, .int .i64 a0_1, .int .i64 a0_2] 24 (0, 0)) (by (with_reducible repeat (first | refine blk_drewN ?_ _ | refine blk_drew ?_ | refine blk_alloc ?_ _)); exact BK181.out) hb); have n3_ := Aside0.mk (below_step (by repeat (first | (with_reducible first | exact HB.out | apply below_alloc | apply pw_below_drewN | apply below_drew1 | refine below_set ?_ GE181.out) | exact HB.out)) hb); have n4_ := Aside0.mk (hbox); have n5_ := Aside0.mk ((by rw [hg]; exact (below_size (by repeat (first | (with_reducible first | exact HB.out | apply below_alloc | apply pw_below_drewN | apply below_drew1 | refine below_set ?_ GE181.out) | exact HB.out))) : w.heap.size ≤ gb195)); have n6_ := Aside0.mk ((by rw [hg]; exact (below_size (by repeat (first | (with_reducible first | exact HB.out | apply below_alloc | apply pw_below_drewN | apply below_drew1 | refine below_set ?_ GE181.out) | exact HB.out))) : w.heap.size ≤ gb195)); have n7_ := Aside0.mk ((by rw [hg]; exact Nat.ne_of_lt (blk_lt (g := gb181) (o := .cells #[.slice A0_0 l0_0.length c0_0, .int .i64 a0_1, .int .i64 a0_2] 24 (0, 0)) (by (with_reducible repeat (first | refine blk_drewN ?_ _ | refine blk_drew ?_ | refine blk_alloc ?_ _)); exact BK181.out)) : gb181 ≠ gb195)); have n8_ := Aside0.mk ((by rw [hg]; exact Nat.ne_of_gt (blk_lt (g := gb181) (o := .cells #[.slice A0_0 l0_0.length c0_0, .int .i64 a0_1, .int .i64 a0_2] 24 (0, 0)) (by (with_reducible repeat (first | refine blk_drewN ?_ _ | refine blk_drew ?_ | refine blk_alloc ?_ _)); exact BK181.out)) : gb195 ≠ gb181)); clear HO185; clear HO190; clear BK181; clear HB; have HO185 := n0_; have HO190 := n1_; have BK181 := n2_; have HB := n3_; have BK195 := n4_; have GW195 := n5_; have GE195 := n6_; have NB181_195 := n7_; have NB195_181 := n8_; clear n0_ n1_ n2_ n3_ n4_ n5_ n6_ n7_ n8_; clear hb hbox hg; obtain ⟨Ao20, co20, eo20⟩ := Kd.R_slice HO190.out; subst eo20; have hnb21 := NB195_181.out; have hnc21 := NB181_195.out; have hcz22_0 : w19.cell? ⟨gb195, 0, none⟩ = some (.slice none 0 0) := (blk_cell BK195.out 0).trans rfl; have hcz22_1 : w19.cell? ⟨gb195, 1, none⟩ = some (.int .i64 0) := (blk_cell BK195.out 1).trans rfl; have hcz22_2 : w19.cell? ⟨gb195, 2, none⟩ = some (.int .i64 0) := (blk_cell BK195.out 2).trans rfl; have hfz22_0 := blk_frozen BK195.out 0; have hfz22_1 := blk_frozen BK195.out 1; have hfz22_2 := blk_frozen BK195.out 2) | ((with_reducible refine gate_store (t := 29) (p := 4) rfl ?_); refine store_event (t := 29) (p := 4) (v := ?vo_w23) (w1 := (((w19.setCell ⟨gb195, 0, none⟩ (.slice Ao20 t188.length co20)).setCell ⟨gb195, 1, none⟩ (.int .i64 t191)).setCell ⟨gb195, 2, none⟩ (.int .i64 t192))) ?hg ?ho ?hn ?hr ?_; (case ho => rfl); (case hg => rfl); (case hn => rfl); (case hr => first | (go_simp; done) | (go_simp; rfl)); intro w23 hw; have n0_ : Aside0 (Kd.R (Kd.int .i64) 3 w23 w.heap.size (fun k_ => some k_ ≠ (.slice Ao20 t188.length co20 : Value).ownBlock) (.slice Ao17 t183.length co17) t183) := ⟨(by rw [hw]; exact (by (with_reducible repeat (first | apply Kd.R_alloc | apply Kd.R_drewN | apply Kd.R_drew)); exact Kd.R_mono (Kd.R_far (p := ⟨gb195, 2, none⟩) (Kd.R_far (p := ⟨gb195, 1, none⟩) (Kd.R_far (p := ⟨gb195, 0, none⟩) (Kd.R_types HO185.out BK195.out (by decide)) (fun _ hk => hk.2) (.slice Ao20 t188.length co20)) (fun _ hk => hk.2) (.int .i64 t191)) (fun _ hk => hk.2) (.int .i64 t192)) (fun _ hk => hk.1.2)))⟩; have n1_ : Aside0 (Kd.R (Kd.int .i64) 3 w23 w.heap.size (fun k_ => some k_ ≠ (.slice Ao17 t183.length co17 : Value).ownBlock) (.slice Ao20 t188.length co20) t188) := ⟨(by rw [hw]; exact (by (with_reducible repeat (first | apply Kd.R_alloc | apply Kd.R_drewN | apply Kd.R_drew)); exact Kd.R_mono (Kd.R_far (p := ⟨gb195, 2, none⟩) (Kd.R_far (p := ⟨gb195, 1, none⟩) (Kd.R_far (p := ⟨gb195, 0, none⟩) (Kd.R_types HO190.out BK195.out (by decide)) (fun _ hk => hk.2) (.slice Ao20 t188.length co20)) (fun _ hk => hk.2) (.int .i64 t191)) (fun _ hk => hk.2) (.int .i64 t192)) (fun _ hk => hk.1.2)))⟩; have n2_ : Aside0 (w23.heap[gb181]? = some (.cells #[.slice A0_0 l0_0.length c0_0, .int .i64 a0_1, .int .i64 a0_2] 24 (0, 0))) := ⟨(by rw [hw]; exact (by (with_reducible repeat (first | refine blk_drewN ?_ _ | refine blk_drew ?_ | refine blk_alloc ?_ _)); refine blk_far ?_ NB181_195.out _; (with_reducible repeat (first | refine blk_drewN ?_ _ | refine blk_drew ?_ | refine blk_alloc ?_ _)); refine blk_far ?_ NB181_195.out _; (with_reducible repeat (first | refine blk_drewN ?_ _ | refine blk_drew ?_ | refine blk_alloc ?_ _)); refine blk_far ?_ NB181_195.out _; (with_reducible repeat (first | refine blk_drewN ?_ _ | refine blk_drew ?_ | refine blk_alloc ?_ _)); exact BK181.out))⟩; have n3_ : Aside0 (w23.heap[gb195]? = some (.cells #[.slice Ao20 t188.length co20, .int .i64 t191, .int .i64 t192] 29 (0, 0))) := ⟨(by rw [hw]; exact (by (with_reducible repeat (first | refine blk_drewN ?_ _ | refine blk_drew ?_ | refine blk_alloc ?_ _)); refine blk_put (cs := #[.slice Ao20 t188.length co20, .int .i64 t191, .int .i64 0]) ?_ 2 _ rfl; (with_reducible repeat (first | refine blk_drewN ?_ _ | refine blk_drew ?_ | refine blk_alloc ?_ _)); refine blk_put (cs := #[.slice Ao20 t188.length co20, .int .i64 0, .int .i64 0]) ?_ 1 _ rfl; (with_reducible repeat (first | refine blk_drewN ?_ _ | refine blk_drew ?_ | refine blk_alloc ?_ _)); refine blk_put (cs := #[.slice none 0 0, .int .i64 0, .int .i64 0]) ?_ 0 _ rfl; (with_reducible repeat (first | refine blk_drewN ?_ _ | refine blk_drew ?_ | refine blk_alloc ?_ _)); exact BK195.out))⟩; have n4_ : Aside0 (Below w.heap.size w w23) := ⟨(by rw [hw]; exact (by repeat (first | (with_reducible first | exact HB.out | apply below_alloc | apply pw_below_drewN | apply below_drew1 | refine below_set ?_ GE181.out | refine below_set ?_ GE195.out) | exact HB.out)))⟩; clear hw; clear HO185; clear HO190; clear BK181; clear BK195; clear HB; have HO185 := n0_; have HO190 := n1_; have BK181 := n2_; have BK195 := n3_; have HB := n4_; clear n0_ n1_ n2_ n3_ n4_; have hcz24_0 : w23.cell? ⟨gb181, 0, none⟩ = some (.slice A0_0 l0_0.length c0_0) := (blk_cell BK181.out 0).trans rfl; have hcz24_1 : w23.cell? ⟨gb181, 1, none⟩ = some (.int .i64 a0_1) := (blk_cell BK181.out 1).trans rfl; have hcz24_2 : w23.cell? ⟨gb181, 2, none⟩ = some (.int .i64 a0_2) := (blk_cell BK181.out 2).trans rfl; have hfz24_0 := blk_frozen BK181.out 0; have hfz24_1 := blk_frozen BK181.out 1; have hfz24_2 := blk_frozen BK181.out 2) | ((with_reducible refine gate_callee (f := 16) rfl ?_); refine goesL_ (some 30) rfl rfl Try.func16 (by kernel_rfl) rfl #[.agg #[.slice A0_0 l0_0.length c0_0, .int .i64 a0_1, .int .i64 a0_2]] rfl (by (try simp only [List.map_toArray, List.map_cons, List.map_nil]); first | done | rfl | (simp only [List.length_drop, List.length_take]; rfl)) ?_; (with_reducible refine (laws_toRing.calls k _ _ l0_0 a0_1 a0_2 t196 t199 t200 _ ?side1 ?side2 A9.out).mono ?_); (case side1 => repeat (first | exact (Kd.C_below HR0_0.out HB.out) | (with_reducible refine Kd.C_alloc ?_ _) | (with_reducible refine Kd.C_drewN ?_ _) | (with_reducible refine Kd.C_drew ?_))); (case side2 => exact HC0_0.out); rintro e w25 ⟨v197, rfl, ho0, hb⟩; refine ⟨_, rfl, ?_⟩; have n0_ := Aside0.mk (Kd.R_elder' (by (with_reducible repeat (first | apply Kd.R_alloc | apply Kd.R_drewN | apply Kd.R_drew)); exact HO185.out) (Kd.R_base ho0) hb); have n1_ := Aside0.mk (Kd.R_elder' (by (with_reducible repeat (first | apply Kd.R_alloc | apply Kd.R_drewN | apply Kd.R_drew)); exact HO190.out) (Kd.R_base ho0) hb); have n2_ := Aside0.mk (Kd.R_lower (Kd.R_new' (Kd.R_new' ho0 (Kd.R_lt (by (with_reducible repeat (first | apply Kd.R_alloc | apply Kd.R_drewN | apply Kd.R_drew)); exact HO185.out))) (Kd.R_lt (by (with_reducible repeat (first | apply Kd.R_alloc | apply Kd.R_drewN | apply Kd.R_drew)); exact HO190.out))) (below_size (by repeat (first | (with_reducible first | exact HB.out | apply below_alloc | apply pw_below_drewN | apply below_drew1 | refine below_set ?_ GE181.out | refine below_set ?_ GE195.out) | exact HB.out)))); have n3_ := Aside0.mk (blk_below (g := gb181) (o := .cells #[.slice A0_0 l0_0.length c0_0, .int .i64 a0_1, .int .i64 a0_2] 24 (0, 0)) (by (with_reducible repeat (first | refine blk_drewN ?_ _ | refine blk_drew ?_ | refine blk_alloc ?_ _)); exact BK181.out) hb); have n4_ := Aside0.mk (blk_below (g := gb195) (o := .cells #[.slice Ao20 t188.length co20, .int .i64 t191, .int .i64 t192] 29 (0, 0)) (by (with_reducible repeat (first | refine blk_drewN ?_ _ | refine blk_drew ?_ | refine blk_alloc ?_ _)); exact BK195.out) hb); have n5_ := Aside0.mk (below_step (by repeat (first | (with_reducible first | exact HB.out | apply below_alloc | apply pw_below_drewN | apply below_drew1 | refine below_set ?_ GE181.out | refine below_set ?_ GE195.out) | exact HB.out)) hb); clear HO185; clear HO190; clear BK181; clear BK195; clear HB; have HO185 := n0_; have HO190 := n1_; have HO198 := n2_; have BK181 := n3_; have BK195 := n4_; have HB := n5_; clear n0_ n1_ n2_ n3_ n4_ n5_; (try clear hb); (try clear hb2); (try clear hk); (try clear hi); (try clear ho0)) | ((with_reducible refine gate_dst (N := 7) rfl ?_); refine box_event ?hg (N := 7) ?hd (cs := #[.slice none 0 0, .int .i64 0, .int .i64 0]) (t := 29) ?hr ?_; (case hd => rfl); (case hg => rfl); (case hr => first | (go_simp; done) | (go_simp; rfl)); intro gb201 hg w26 hbox hb; have n0_ := Aside0.mk (Kd.R_below (by (with_reducible repeat (first | apply Kd.R_alloc | apply Kd.R_drewN | apply Kd.R_drew)); exact HO185.out) hb); have n1_ := Aside0.mk (Kd.R_below (by (with_reducible repeat (first | apply Kd.R_alloc | apply Kd.R_drewN | apply Kd.R_drew)); exact HO190.out) hb); have n2_ := Aside0.mk (Kd.R_below (by (with_reducible repeat (first | apply Kd.R_alloc | apply Kd.R_drewN | apply Kd.R_drew)); exact HO198.out) hb); have n3_ := Aside0.mk (blk_below (g := gb181) (o := .cells #[.slice A0_0 l0_0.length c0_0, .int .i64 a0_1, .int .i64 a0_2] 24 (0, 0)) (by (with_reducible repeat (first | refine blk_drewN ?_ _ | refine blk_drew ?_ | refine blk_alloc ?_ _)); exact BK181.out) hb); have n4_ := Aside0.mk (blk_below (g := gb195) (o := .cells #[.slice Ao20 t188.length co20, .int .i64 t191, .int .i64 t192] 29 (0, 0)) (by (with_reducible repeat (first | refine blk_drewN ?_ _ | refine blk_drew ?_ | refine blk_alloc ?_ _)); exact BK195.out) hb); have n5_ := Aside0.mk (below_step (by repeat (first | (with_reducible first | exact HB.out | apply below_alloc | apply pw_below_drewN | apply below_drew1 | refine below_set ?_ GE181.out | refine below_set ?_ GE195.out) | exact HB.out)) hb); have n6_ := Aside0.mk (hbox); have n7_ := Aside0.mk ((by rw [hg]; exact (below_size (by repeat (first | (with_reducible first | exact HB.out | apply below_alloc | apply pw_below_drewN | apply below_drew1 | refine below_set ?_ GE181.out | refine below_set ?_ GE195.out) | exact HB.out))) : w.heap.size ≤ gb201)); have n8_ := Aside0.mk ((by rw [hg]; exact (below_size (by repeat (first | (with_reducible first | exact HB.out | apply below_alloc | apply pw_below_drewN | apply below_drew1 | refine below_set ?_ GE181.out | refine below_set ?_ GE195.out) | exact HB.out))) : w.heap.size ≤ gb201)); have n9_ := Aside0.mk ((by rw [hg]; exact Nat.ne_of_lt (blk_lt (g := gb181) (o := .cells #[.slice A0_0 l0_0.length c0_0, .int .i64 a0_1, .int .i64 a0_2] 24 (0, 0)) (by (with_reducible repeat (first | refine blk_drewN ?_ _ | refine blk_drew ?_ | refine blk_alloc ?_ _)); exact BK181.out)) : gb181 ≠ gb201)); have n10_ := Aside0.mk ((by rw [hg]; exact Nat.ne_of_gt (blk_lt (g := gb181) (o := .cells #[.slice A0_0 l0_0.length c0_0, .int .i64 a0_1, .int .i64 a0_2] 24 (0, 0)) (by (with_reducible repeat (first | refine blk_drewN ?_ _ | refine blk_drew ?_ | refine blk_alloc ?_ _)); exact BK181.out)) : gb201 ≠ gb181)); have n11_ := Aside0.mk ((by rw [hg]; exact Nat.ne_of_lt (blk_lt (g := gb195) (o := .cells #[.slice Ao20 t188.length co20, .int .i64 t191, .int .i64 t192] 29 (0, 0)) (by (with_reducible repeat (first | refine blk_drewN ?_ _ | refine blk_drew ?_ | refine blk_alloc ?_ _)); exact BK195.out)) : gb195 ≠ gb201)); have n12_ := Aside0.mk ((by rw [hg]; exact Nat.ne_of_gt (blk_lt (g := gb195) (o := .cells #[.slice Ao20 t188.length co20, .int .i64 t191, .int .i64 t192] 29 (0, 0)) (by (with_reducible repeat (first | refine blk_drewN ?_ _ | refine blk_drew ?_ | refine blk_alloc ?_ _)); exact BK195.out)) : gb201 ≠ gb195)); clear HO185; clear HO190; clear HO198; clear BK181; clear BK195; clear HB; have HO185 := n0_; have HO190 := n1_; have HO198 := n2_; have BK181 := n3_; have BK195 := n4_; have HB := n5_; have BK201 := n6_; have GW201 := n7_; have GE201 := n8_; have NB181_201 := n9_; have NB201_181 := n10_; have NB195_201 := n11_; have NB201_195 := n12_; clear n0_ n1_ n2_ n3_ n4_ n5_ n6_ n7_ n8_ n9_ n10_ n11_ n12_; clear hb hbox hg; obtain ⟨Ao27, co27, eo27⟩ := Kd.R_slice HO198.out; subst eo27; have hnb28 := NB201_181.out; have hnc28 := NB181_201.out; have hnb29 := NB201_195.out; have hnc29 := NB195_201.out; have hcz30_0 : w26.cell? ⟨gb201, 0, none⟩ = some (.slice none 0 0) := (blk_cell BK201.out 0).trans rfl; have hcz30_1 : w26.cell? ⟨gb201, 1, none⟩ = some (.int .i64 0) := (blk_cell BK201.out 1).trans rfl; have hcz30_2 : w26.cell? ⟨gb201, 2, none⟩ = some (.int .i64 0) := (blk_cell BK201.out 2).trans rfl; have hfz30_0 := blk_frozen BK201.out 0; have hfz30_1 := blk_frozen BK201.out 1; have hfz30_2 := blk_frozen BK201.out 2) | ((with_reducible refine gate_store (t := 29) (p := 7) rfl ?_); refine store_event (t := 29) (p := 7) (v := ?vo_w31) (w1 := (((w26.setCell ⟨gb201, 0, none⟩ (.slice Ao27 t196.length co27)).setCell ⟨gb201, 1, none⟩ (.int .i64 t199)).setCell ⟨gb201, 2, none⟩ (.int .i64 t200))) ?hg ?ho ?hn ?hr ?_; (case ho => rfl); (case hg => rfl); (case hn => rfl); (case hr => first | (go_simp; done) | (go_simp; rfl)); intro w31 hw; have n0_ : Aside0 (Kd.R (Kd.int .i64) 3 w31 w.heap.size (fun k_ => some k_ ≠ (.slice Ao20 t188.length co20 : Value).ownBlock ∧ some k_ ≠ (.slice Ao27 t196.length co27 : Value).ownBlock) (.slice Ao17 t183.length co17) t183) := ⟨(by rw [hw]; exact (by (with_reducible repeat (first | apply Kd.R_alloc | apply Kd.R_drewN | apply Kd.R_drew)); exact Kd.R_mono (Kd.R_far (p := ⟨gb201, 2, none⟩) (Kd.R_far (p := ⟨gb201, 1, none⟩) (Kd.R_far (p := ⟨gb201, 0, none⟩) (Kd.R_types HO185.out BK201.out (by decide)) (fun _ hk => hk.2) (.slice Ao27 t196.length co27)) (fun _ hk => hk.2) (.int .i64 t199)) (fun _ hk => hk.2) (.int .i64 t200)) (fun _ hk => ⟨hk.1.1, hk.1.2⟩)))⟩; have n1_ : Aside0 (Kd.R (Kd.int .i64) 3 w31 w.heap.size (fun k_ => some k_ ≠ (.slice Ao17 t183.length co17 : Value).ownBlock ∧ some k_ ≠ (.slice Ao27 t196.length co27 : Value).ownBlock) (.slice Ao20 t188.length co20) t188) := ⟨(by rw [hw]; exact (by (with_reducible repeat (first | apply Kd.R_alloc | apply Kd.R_drewN | apply Kd.R_drew)); exact Kd.R_mono (Kd.R_far (p := ⟨gb201, 2, none⟩) (Kd.R_far (p := ⟨gb201, 1, none⟩) (Kd.R_far (p := ⟨gb201, 0, none⟩) (Kd.R_types HO190.out BK201.out (by decide)) (fun _ hk => hk.2) (.slice Ao27 t196.length co27)) (fun _ hk => hk.2) (.int .i64 t199)) (fun _ hk => hk.2) (.int .i64 t200)) (fun _ hk => ⟨hk.1.1, hk.1.2⟩)))⟩; have n2_ : Aside0 (Kd.R (Kd.int .i64) 3 w31 w.heap.size (fun k_ => some k_ ≠ (.slice Ao17 t183.length co17 : Value).ownBlock ∧ some k_ ≠ (.slice Ao20 t188.length co20 : Value).ownBlock) (.slice Ao27 t196.length co27) t196) := ⟨(by rw [hw]; exact (by (with_reducible repeat (first | apply Kd.R_alloc | apply Kd.R_drewN | apply Kd.R_drew)); exact Kd.R_mono (Kd.R_far (p := ⟨gb201, 2, none⟩) (Kd.R_far (p := ⟨gb201, 1, none⟩) (Kd.R_far (p := ⟨gb201, 0, none⟩) (Kd.R_types HO198.out BK201.out (by decide)) (fun _ hk => hk.2) (.slice Ao27 t196.length co27)) (fun _ hk => hk.2) (.int .i64 t199)) (fun _ hk => hk.2) (.int .i64 t200)) (fun _ hk => ⟨hk.1.1.2, hk.1.2⟩)))⟩; have n3_ : Aside0 (w31.heap[gb181]? = some (.cells #[.slice A0_0 l0_0.length c0_0, .int .i64 a0_1, .int .i64 a0_2] 24 (0, 0))) := ⟨(by rw [hw]; exact (by (with_reducible repeat (first | refine blk_drewN ?_ _ | refine blk_drew ?_ | refine blk_alloc ?_ _)); refine blk_far ?_ NB181_201.out _; (with_reducible repeat (first | refine blk_drewN ?_ _ | refine blk_drew ?_ | refine blk_alloc ?_ _)); refine blk_far ?_ NB181_201.out _; (with_reducible repeat (first | refine blk_drewN ?_ _ | refine blk_drew ?_ | refine blk_alloc ?_ _)); refine blk_far ?_ NB181_201.out _; (with_reducible repeat (first | refine blk_drewN ?_ _ | refine blk_drew ?_ | refine blk_alloc ?_ _)); exact BK181.out))⟩; have n4_ : Aside0 (w31.heap[gb195]? = some (.cells #[.slice Ao20 t188.length co20, .int .i64 t191, .int .i64 t192] 29 (0, 0))) := ⟨(by rw [hw]; exact (by (with_reducible repeat (first | refine blk_drewN ?_ _ | refine blk_drew ?_ | refine blk_alloc ?_ _)); refine blk_far ?_ NB195_201.out _; (with_reducible repeat (first | refine blk_drewN ?_ _ | refine blk_drew ?_ | refine blk_alloc ?_ _)); refine blk_far ?_ NB195_201.out _; (with_reducible repeat (first | refine blk_drewN ?_ _ | refine blk_drew ?_ | refine blk_alloc ?_ _)); refine blk_far ?_ NB195_201.out _; (with_reducible repeat (first | refine blk_drewN ?_ _ | refine blk_drew ?_ | refine blk_alloc ?_ _)); exact BK195.out))⟩; have n5_ : Aside0 (w31.heap[gb201]? = some (.cells #[.slice Ao27 t196.length co27, .int .i64 t199, .int .i64 t200] 29 (0, 0))) := ⟨(by rw [hw]; exact (by (with_reducible repeat (first | refine blk_drewN ?_ _ | refine blk_drew ?_ | refine blk_alloc ?_ _)); refine blk_put (cs := #[.slice Ao27 t196.length co27, .int .i64 t199, .int .i64 0]) ?_ 2 _ rfl; (with_reducible repeat (first | refine blk_drewN ?_ _ | refine blk_drew ?_ | refine blk_alloc ?_ _)); refine blk_put (cs := #[.slice Ao27 t196.length co27, .int .i64 0, .int .i64 0]) ?_ 1 _ rfl; (with_reducible repeat (first | refine blk_drewN ?_ _ | refine blk_drew ?_ | refine blk_alloc ?_ _)); refine blk_put (cs := #[.slice none 0 0, .int .i64 0, .int .i64 0]) ?_ 0 _ rfl; (with_reducible repeat (first | refine blk_drewN ?_ _ | refine blk_drew ?_ | refine blk_alloc ?_ _)); exact BK201.out))⟩; have n6_ : Aside0 (Below w.heap.size w w31) := ⟨(by rw [hw]; exact (by repeat (first | (with_reducible first | exact HB.out | apply below_alloc | apply pw_below_drewN | apply below_drew1 | refine below_set ?_ GE181.out | refine below_set ?_ GE195.out | refine below_set ?_ GE201.out) | exact HB.out)))⟩; clear hw; clear HO185; clear HO190; clear HO198; clear BK181; clear BK195; clear BK201; clear HB; have HO185 := n0_; have HO190 := n1_; have HO198 := n2_; have BK181 := n3_; have BK195 := n4_; have BK201 := n5_; have HB := n6_; clear n0_ n1_ n2_ n3_ n4_ n5_ n6_; have hcz32_0 : w31.cell? ⟨gb201, 0, none⟩ = some (.slice Ao27 t196.length co27) := (blk_cell BK201.out 0).trans rfl; have hcz32_1 : w31.cell? ⟨gb201, 1, none⟩ = some (.int .i64 t199) := (blk_cell BK201.out 1).trans rfl; have hcz32_2 : w31.cell? ⟨gb201, 2, none⟩ = some (.int .i64 t200) := (blk_cell BK201.out 2).trans rfl; have hfz32_0 := blk_frozen BK201.out 0; have hfz32_1 := blk_frozen BK201.out 1; have hfz32_2 := blk_frozen BK201.out 2) | ((with_reducible refine gate_callee (f := 54) rfl ?_); refine goesL_ (some 33) rfl rfl Try.func54 (by kernel_rfl) rfl #[.agg #[.slice Ao27 t196.length co27, .int .i64 t199, .int .i64 t200]] rfl (by (try simp only [List.map_toArray, List.map_cons, List.map_nil]); first | done | rfl | (simp only [List.length_drop, List.length_take]; rfl)) ?_; (with_reducible refine (impl_PopRing.calls k _ _ t196 t199 t200 t202 t205 t206 t207 t208 _ ?side1 ?side2 A10.out).mono ?_); (case side1 => repeat (first | exact (Kd.R_reads' HO198.out).2.2 | (with_reducible refine Kd.C_alloc ?_ _) | (with_reducible refine Kd.C_drewN ?_ _) | (with_reducible refine Kd.C_drew ?_))); (case side2 => exact (Kd.R_reads' HO198.out).2.1); rintro e w33 ⟨v203, rfl, ho0, hb⟩; refine ⟨_, rfl, ?_⟩; have n0_ := Aside0.mk (Kd.R_elder' (by (with_reducible repeat (first | apply Kd.R_alloc | apply Kd.R_drewN | apply Kd.R_drew)); exact HO185.out) (Kd.R_base ho0) hb); have n1_ := Aside0.mk (Kd.R_elder' (by (with_reducible repeat (first | apply Kd.R_alloc | apply Kd.R_drewN | apply Kd.R_drew)); exact HO190.out) (Kd.R_base ho0) hb); have n2_ := Aside0.mk (Kd.R_elder' (by (with_reducible repeat (first | apply Kd.R_alloc | apply Kd.R_drewN | apply Kd.R_drew)); exact HO198.out) (Kd.R_base ho0) hb); have n3_ := Aside0.mk (Kd.R_lower (Kd.R_new' (Kd.R_new' (Kd.R_new' ho0 (Kd.R_lt (by (with_reducible repeat (first | apply Kd.R_alloc | apply Kd.R_drewN | apply Kd.R_drew)); exact HO185.out))) (Kd.R_lt (by (with_reducible repeat (first | apply Kd.R_alloc | apply Kd.R_drewN | apply Kd.R_drew)); exact HO190.out))) (Kd.R_lt (by (with_reducible repeat (first | apply Kd.R_alloc | apply Kd.R_drewN | apply Kd.R_drew)); exact HO198.out))) (below_size (by repeat (first | (with_reducible first | exact HB.out | apply below_alloc | apply pw_below_drewN | apply below_drew1 | refine below_set ?_ GE181.out | refine below_set ?_ GE195.out | refine below_set ?_ GE201.out) | exact HB.out)))); have n4_ := Aside0.mk (blk_below (g := gb181) (o := .cells #[.slice A0_0 l0_0.length c0_0, .int .i64 a0_1, .int .i64 a0_2] 24 (0, 0)) (by (with_reducible repeat (first | refine blk_drewN ?_ _ | refine blk_drew ?_ | refine blk_alloc ?_ _)); exact BK181.out) hb); have n5_ := Aside0.mk (blk_below (g := gb195) (o := .cells #[.slice Ao20 t188.length co20, .int .i64 t191, .int .i64 t192] 29 (0, 0)) (by (with_reducible repeat (first | refine blk_drewN ?_ _ | refine blk_drew ?_ | refine blk_alloc ?_ _)); exact BK195.out) hb); have n6_ := Aside0.mk (blk_below (g := gb201) (o := .cells #[.slice Ao27 t196.length co27, .int .i64 t199, .int .i64 t200] 29 (0, 0)) (by (with_reducible repeat (first | refine blk_drewN ?_ _ | refine blk_drew ?_ | refine blk_alloc ?_ _)); exact BK201.out) hb); have n7_ := Aside0.mk (below_step (by repeat (first | (with_reducible first | exact HB.out | apply below_alloc | apply pw_below_drewN | apply below_drew1 | refine below_set ?_ GE181.out | refine below_set ?_ GE195.out | refine below_set ?_ GE201.out) | exact HB.out)) hb); clear HO185; clear HO190; clear HO198; clear BK181; clear BK195; clear BK201; clear HB; have HO185 := n0_; have HO190 := n1_; have HO198 := n2_; have HO204 := n3_; have BK181 := n4_; have BK195 := n5_; have BK201 := n6_; have HB := n7_; clear n0_ n1_ n2_ n3_ n4_ n5_ n6_ n7_; (try clear hb); (try clear hb2); (try clear hk); (try clear hi); (try clear ho0)) | ((with_reducible refine gate_dst (N := 8) rfl ?_); refine box_event ?hg (N := 8) ?hd (cs := #[.slice none 0 0, .int .i64 0, .int .i64 0]) (t := 29) ?hr ?_; (case hd => rfl); (case hg => rfl); (case hr => first | (go_simp; done) | (go_simp; rfl)); intro gb209 hg w34 hbox hb; have n0_ := Aside0.mk (Kd.R_below (by (with_reducible repeat (first | apply Kd.R_alloc | apply Kd.R_drewN | apply Kd.R_drew)); exact HO185.out) hb); have n1_ := Aside0.mk (Kd.R_below (by (with_reducible repeat (first | apply Kd.R_alloc | apply Kd.R_drewN | apply Kd.R_drew)); exact HO190.out) hb); have n2_ := Aside0.mk (Kd.R_below (by (with_reducible repeat (first | apply Kd.R_alloc | apply Kd.R_drewN | apply Kd.R_drew)); exact HO198.out) hb); have n3_ := Aside0.mk (Kd.R_below (by (with_reducible repeat (first | apply Kd.R_alloc | apply Kd.R_drewN | apply Kd.R_drew)); exact HO204.out) hb); have n4_ := Aside0.mk (blk_below (g := gb181) (o := .cells #[.slice A0_0 l0_0.length c0_0, .int .i64 a0_1, .int .i64 a0_2] 24 (0, 0)) (by (with_reducible repeat (first | refine blk_drewN ?_ _ | refine blk_drew ?_ | refine blk_alloc ?_ _)); exact BK181.out) hb); have n5_ := Aside0.mk (blk_below (g := gb195) (o := .cells #[.slice Ao20 t188.length co20, .int .i64 t191, .int .i64 t192] 29 (0, 0)) (by (with_reducible repeat (first | refine blk_drewN ?_ _ | refine blk_drew ?_ | refine blk_alloc ?_ _)); exact BK195.out) hb); have n6_ := Aside0.mk (blk_below (g := gb201) (o := .cells #[.slice Ao27 t196.length co27, .int .i64 t199, .int .i64 t200] 29 (0, 0)) (by (with_reducible repeat (first | refine blk_drewN ?_ _ | refine blk_drew ?_ | refine blk_alloc ?_ _)); exact BK201.out) hb); have n7_ := Aside0.mk (below_step (by repeat (first | (with_reducible first | exact HB.out | apply below_alloc | apply pw_below_drewN | apply below_drew1 | refine below_set ?_ GE181.out | refine below_set ?_ GE195.out | refine below_set ?_ GE201.out) | exact HB.out)) hb); have n8_ := Aside0.mk (hbox); have n9_ := Aside0.mk ((by rw [hg]; exact (below_size (by repeat (first | (with_reducible first | exact HB.out | apply below_alloc | apply pw_below_drewN | apply below_drew1 | refine below_set ?_ GE181.out | refine below_set ?_ GE195.out | refine below_set ?_ GE201.out) | exact HB.out))) : w.heap.size ≤ gb209)); have n10_ := Aside0.mk ((by rw [hg]; exact (below_size (by repeat (first | (with_reducible first | exact HB.out | apply below_alloc | apply pw_below_drewN | apply below_drew1 | refine below_set ?_ GE181.out | refine below_set ?_ GE195.out | refine below_set ?_ GE201.out) | exact HB.out))) : w.heap.size ≤ gb209)); have n11_ := Aside0.mk ((by rw [hg]; exact Nat.ne_of_lt (blk_lt (g := gb181) (o := .cells #[.slice A0_0 l0_0.length c0_0, .int .i64 a0_1, .int .i64 a0_2] 24 (0, 0)) (by (with_reducible repeat (first | refine blk_drewN ?_ _ | refine blk_drew ?_ | refine blk_alloc ?_ _)); exact BK181.out)) : gb181 ≠ gb209)); have n12_ := Aside0.mk ((by rw [hg]; exact Nat.ne_of_gt (blk_lt (g := gb181) (o := .cells #[.slice A0_0 l0_0.length c0_0, .int .i64 a0_1, .int .i64 a0_2] 24 (0, 0)) (by (with_reducible repeat (first | refine blk_drewN ?_ _ | refine blk_drew ?_ | refine blk_alloc ?_ _)); exact BK181.out)) : gb209 ≠ gb181)); have n13_ := Aside0.mk ((by rw [hg]; exact Nat.ne_of_lt (blk_lt (g := gb195) (o := .cells #[.slice Ao20 t188.length co20, .int .i64 t191, .int .i64 t192] 29 (0, 0)) (by (with_reducible repeat (first | refine blk_drewN ?_ _ | refine blk_drew ?_ | refine blk_alloc ?_ _)); exact BK195.out)) : gb195 ≠ gb209)); have n14_ := Aside0.mk ((by rw [hg]; exact Nat.ne_of_gt (blk_lt (g := gb195) (o := .cells #[.slice Ao20 t188.length co20, .int .i64 t191, .int .i64 t192] 29 (0, 0)) (by (with_reducible repeat (first | refine blk_drewN ?_ _ | refine blk_drew ?_ | refine blk_alloc ?_ _)); exact BK195.out)) : gb209 ≠ gb195)); have n15_ := Aside0.mk ((by rw [hg]; exact Nat.ne_of_lt (blk_lt (g := gb201) (o := .cells #[.slice Ao27 t196.length co27, .int .i64 t199, .int .i64 t200] 29 (0, 0)) (by (with_reducible repeat (first | refine blk_drewN ?_ _ | refine blk_drew ?_ | refine blk_alloc ?_ _)); exact BK201.out)) : gb201 ≠ gb209)); have n16_ := Aside0.mk ((by rw [hg]; exact Nat.ne_of_gt (blk_lt (g := gb201) (o := .cells #[.slice Ao27 t196.length co27, .int .i64 t199, .int .i64 t200] 29 (0, 0)) (by (with_reducible repeat (first | refine blk_drewN ?_ _ | refine blk_drew ?_ | refine blk_alloc ?_ _)); exact BK201.out)) : gb209 ≠ gb201)); clear HO185; clear HO190; clear HO198; clear HO204; clear BK181; clear BK195; clear BK201; clear HB; have HO185 := n0_; have HO190 := n1_; have HO198 := n2_; have HO204 := n3_; have BK181 := n4_; have BK195 := n5_; have BK201 := n6_; have HB := n7_; have BK209 := n8_; have GW209 := n9_; have GE209 := n10_; have NB181_209 := n11_; have NB209_181 := n12_; have NB195_209 := n13_; have NB209_195 := n14_; have NB201_209 := n15_; have NB209_201 := n16_; clear n0_ n1_ n2_ n3_ n4_ n5_ n6_ n7_ n8_ n9_ n10_ n11_ n12_ n13_ n14_ n15_ n16_; clear hb hbox hg; obtain ⟨Ao35, co35, eo35⟩ := Kd.R_slice HO204.out; subst eo35; have hnb36 := NB209_181.out; have hnc36 := NB181_209.out; have hnb37 := NB209_195.out; have hnc37 := NB195_209.out; have hnb38 := NB209_201.out; have hnc38 := NB201_209.out; have hcz39_0 : w34.cell? ⟨gb209, 0, none⟩ = some (.slice none 0 0) := (blk_cell BK209.out 0).trans rfl; have hcz39_1 : w34.cell? ⟨gb209, 1, none⟩ = some (.int .i64 0) := (blk_cell BK209.out 1).trans rfl; have hcz39_2 : w34.cell? ⟨gb209, 2, none⟩ = some (.int .i64 0) := (blk_cell BK209.out 2).trans rfl; have hfz39_0 := blk_frozen BK209.out 0; have hfz39_1 := blk_frozen BK209.out 1; have hfz39_2 := blk_frozen BK209.out 2) | ((with_reducible refine gate_store (t := 29) (p := 8) rfl ?_); refine store_event (t := 29) (p := 8) (v := ?vo_w40) (w1 := (((w34.setCell ⟨gb209, 0, none⟩ (.slice Ao35 t202.length co35)).setCell ⟨gb209, 1, none⟩ (.int .i64 t205)).setCell ⟨gb209, 2, none⟩ (.int .i64 t206))) ?hg ?ho ?hn ?hr ?_; (case ho => rfl); (case hg => rfl); (case hn => rfl); (case hr => first | (go_simp; done) | (go_simp; rfl)); intro w40 hw; have n0_ : Aside0 (Kd.R (Kd.int .i64) 3 w40 w.heap.size (fun k_ => some k_ ≠ (.slice Ao20 t188.length co20 : Value).ownBlock ∧ some k_ ≠ (.slice Ao27 t196.length co27 : Value).ownBlock ∧ some k_ ≠ (.slice Ao35 t202.length co35 : Value).ownBlock) (.slice Ao17 t183.length co17) t183) := ⟨(by rw [hw]; exact (by (with_reducible repeat (first | apply Kd.R_alloc | apply Kd.R_drewN | apply Kd.R_drew)); exact Kd.R_mono (Kd.R_far (p := ⟨gb209, 2, none⟩) (Kd.R_far (p := ⟨gb209, 1, none⟩) (Kd.R_far (p := ⟨gb209, 0, none⟩) (Kd.R_types HO185.out BK209.out (by decide)) (fun _ hk => hk.2) (.slice Ao35 t202.length co35)) (fun _ hk => hk.2) (.int .i64 t205)) (fun _ hk => hk.2) (.int .i64 t206)) (fun _ hk => ⟨hk.1.1.1, ⟨hk.1.1.2, hk.1.2⟩⟩)))⟩; have n1_ : Aside0 (Kd.R (Kd.int .i64) 3 w40 w.heap.size (fun k_ => some k_ ≠ (.slice Ao17 t183.length co17 : Value).ownBlock ∧ some k_ ≠ (.slice Ao27 t196.length co27 : Value).ownBlock ∧ some k_ ≠ (.slice Ao35 t202.length co35 : Value).ownBlock) (.slice Ao20 t188.length co20) t188) := ⟨(by rw [hw]; exact (by (with_reducible repeat (first | apply Kd.R_alloc | apply Kd.R_drewN | apply Kd.R_drew)); exact Kd.R_mono (Kd.R_far (p := ⟨gb209, 2, none⟩) (Kd.R_far (p := ⟨gb209, 1, none⟩) (Kd.R_far (p := ⟨gb209, 0, none⟩) (Kd.R_types HO190.out BK209.out (by decide)) (fun _ hk => hk.2) (.slice Ao35 t202.length co35)) (fun _ hk => hk.2) (.int .i64 t205)) (fun _ hk => hk.2) (.int .i64 t206)) (fun _ hk => ⟨hk.1.1.1, ⟨hk.1.1.2, hk.1.2⟩⟩)))⟩; have n2_ : Aside0 (Kd.R (Kd.int .i64) 3 w40 w.heap.size (fun k_ => some k_ ≠ (.slice Ao17 t183.length co17 : Value).ownBlock ∧ some k_ ≠ (.slice Ao20 t188.length co20 : Value).ownBlock ∧ some k_ ≠ (.slice Ao35 t202.length co35 : Value).ownBlock) (.slice Ao27 t196.length co27) t196) := ⟨(by rw [hw]; exact (by (with_reducible repeat (first | apply Kd.R_alloc | apply Kd.R_drewN | apply Kd.R_drew)); exact Kd.R_mono (Kd.R_far (p := ⟨gb209, 2, none⟩) (Kd.R_far (p := ⟨gb209, 1, none⟩) (Kd.R_far (p := ⟨gb209, 0, none⟩) (Kd.R_types HO198.out BK209.out (by decide)) (fun _ hk => hk.2) (.slice Ao35 t202.length co35)) (fun _ hk => hk.2) (.int .i64 t205)) (fun _ hk => hk.2) (.int .i64 t206)) (fun _ hk => ⟨hk.1.1.1, ⟨hk.1.1.2, hk.1.2⟩⟩)))⟩; have n3_ : Aside0 (Kd.R (Kd.int .i64) 3 w40 w.heap.size (fun k_ => some k_ ≠ (.slice Ao17 t183.length co17 : Value).ownBlock ∧ some k_ ≠ (.slice Ao20 t188.length co20 : Value).ownBlock ∧ some k_ ≠ (.slice Ao27 t196.length co27 : Value).ownBlock) (.slice Ao35 t202.length co35) t202) := ⟨(by rw [hw]; exact (by (with_reducible repeat (first | apply Kd.R_alloc | apply Kd.R_drewN | apply Kd.R_drew)); exact Kd.R_mono (Kd.R_far (p := ⟨gb209, 2, none⟩) (Kd.R_far (p := ⟨gb209, 1, none⟩) (Kd.R_far (p := ⟨gb209, 0, none⟩) (Kd.R_types HO204.out BK209.out (by decide)) (fun _ hk => hk.2) (.slice Ao35 t202.length co35)) (fun _ hk => hk.2) (.int .i64 t205)) (fun _ hk => hk.2) (.int .i64 t206)) (fun _ hk => ⟨hk.1.1.1.2, ⟨hk.1.1.2, hk.1.2⟩⟩)))⟩; have n4_ : Aside0 (w40.heap[gb181]? = some (.cells #[.slice A0_0 l0_0.length c0_0, .int .i64 a0_1, .int .i64 a0_2] 24 (0, 0))) := ⟨(by rw [hw]; exact (by (with_reducible repeat (first | refine blk_drewN ?_ _ | refine blk_drew ?_ | refine blk_alloc ?_ _)); refine blk_far ?_ NB181_209.out _; (with_reducible repeat (first | refine blk_drewN ?_ _ | refine blk_drew ?_ | refine blk_alloc ?_ _)); refine blk_far ?_ NB181_209.out _; (with_reducible repeat (first | refine blk_drewN ?_ _ | refine blk_drew ?_ | refine blk_alloc ?_ _)); refine blk_far ?_ NB181_209.out _; (with_reducible repeat (first | refine blk_drewN ?_ _ | refine blk_drew ?_ | refine blk_alloc ?_ _)); exact BK181.out))⟩; have n5_ : Aside0 (w40.heap[gb195]? = some (.cells #[.slice Ao20 t188.length co20, .int .i64 t191, .int .i64 t192] 29 (0, 0))) := ⟨(by rw [hw]; exact (by (with_reducible repeat (first | refine blk_drewN ?_ _ | refine blk_drew ?_ | refine blk_alloc ?_ _)); refine blk_far ?_ NB195_209.out _; (with_reducible repeat (first | refine blk_drewN ?_ _ | refine blk_drew ?_ | refine blk_alloc ?_ _)); refine blk_far ?_ NB195_209.out _; (with_reducible repeat (first | refine blk_drewN ?_ _ | refine blk_drew ?_ | refine blk_alloc ?_ _)); refine blk_far ?_ NB195_209.out _; (with_reducible repeat (first | refine blk_drewN ?_ _ | refine blk_drew ?_ | refine blk_alloc ?_ _)); exact BK195.out))⟩; have n6_ : Aside0 (w40.heap[gb201]? = some (.cells #[.slice Ao27 t196.length co27, .int .i64 t199, .int .i64 t200] 29 (0, 0))) := ⟨(by rw [hw]; exact (by (with_reducible repeat (first | refine blk_drewN ?_ _ | refine blk_drew ?_ | refine blk_alloc ?_ _)); refine blk_far ?_ NB201_209.out _; (with_reducible repeat (first | refine blk_drewN ?_ _ | refine blk_drew ?_ | refine blk_alloc ?_ _)); refine blk_far ?_ NB201_209.out _; (with_reducible repeat (first | refine blk_drewN ?_ _ | refine blk_drew ?_ | refine blk_alloc ?_ _)); refine blk_far ?_ NB201_209.out _; (with_reducible repeat (first | refine blk_drewN ?_ _ | refine blk_drew ?_ | refine blk_alloc ?_ _)); exact BK201.out))⟩; have n7_ : Aside0 (w40.heap[gb209]? = some (.cells #[.slice Ao35 t202.length co35, .int .i64 t205, .int .i64 t206] 29 (0, 0))) := ⟨(by rw [hw]; exact (by (with_reducible repeat (first | refine blk_drewN ?_ _ | refine blk_drew ?_ | refine blk_alloc ?_ _)); refine blk_put (cs := #[.slice Ao35 t202.length co35, .int .i64 t205, .int .i64 0]) ?_ 2 _ rfl; (with_reducible repeat (first | refine blk_drewN ?_ _ | refine blk_drew ?_ | refine blk_alloc ?_ _)); refine blk_put (cs := #[.slice Ao35 t202.length co35, .int .i64 0, .int .i64 0]) ?_ 1 _ rfl; (with_reducible repeat (first | refine blk_drewN ?_ _ | refine blk_drew ?_ | refine blk_alloc ?_ _)); refine blk_put (cs := #[.slice none 0 0, .int .i64 0, .int .i64 0]) ?_ 0 _ rfl; (with_reducible repeat (first | refine blk_drewN ?_ _ | refine blk_drew ?_ | refine blk_alloc ?_ _)); exact BK209.out))⟩; have n8_ : Aside0 (Below w.heap.size w w40) := ⟨(by rw [hw]; exact (by repeat (first | (with_reducible first | exact HB.out | apply below_alloc | apply pw_below_drewN | apply below_drew1 | refine below_set ?_ GE181.out | refine below_set ?_ GE195.out | refine below_set ?_ GE201.out | refine below_set ?_ GE209.out) | exact HB.out)))⟩; clear hw; clear HO185; clear HO190; clear HO198; clear HO204; clear BK181; clear BK195; clear BK201; clear BK209; clear HB; have HO185 := n0_; have HO190 := n1_; have HO198 := n2_; have HO204 := n3_; have BK181 := n4_; have BK195 := n5_; have BK201 := n6_; have BK209 := n7_; have HB := n8_; clear n0_ n1_ n2_ n3_ n4_ n5_ n6_ n7_ n8_))
    (try simp only [Act.put, List.setIfInBounds_toArray, List.set_cons_zero, List.set_cons_succ])
    go_cut [50] (fun v50 wc => ∃ (kq : Nat) (x50_10 : Bool), v50 = .bool x50_10 ∧ Aside0 (laws_FnExactPopRing.j0 kq t193 t194 t207 t208 x50_10 l0_0 a0_1 a0_2 t188 t191 t192 t196 t199 t200 t202 t205 t206 = some r) ∧ Aside0 (kq ≤ k) ∧ Aside0 (Kd.R (Kd.int .i64) 3 wc w.heap.size (fun k_ => some k_ ≠ ((.slice Ao27 t196.length co27) : Value).ownBlock ∧ some k_ ≠ ((.slice Ao35 t202.length co35) : Value).ownBlock) (.slice Ao20 t188.length co20) t188) ∧ Aside0 (Kd.R (Kd.int .i64) 3 wc w.heap.size (fun k_ => some k_ ≠ ((.slice Ao20 t188.length co20) : Value).ownBlock ∧ some k_ ≠ ((.slice Ao35 t202.length co35) : Value).ownBlock) (.slice Ao27 t196.length co27) t196) ∧ Aside0 (Kd.R (Kd.int .i64) 3 wc w.heap.size (fun k_ => some k_ ≠ ((.slice Ao20 t188.length co20) : Value).ownBlock ∧ some k_ ≠ ((.slice Ao27 t196.length co27) : Value).ownBlock) (.slice Ao35 t202.length co35) t202) ∧ Aside0 (wc.heap[gb181]? = some (.cells #[(.slice A0_0 l0_0.length c0_0), .int .i64 a0_1, .int .i64 a0_2] 24 (0, 0))) ∧ Aside0 (wc.heap[gb195]? = some (.cells #[(.slice Ao20 t188.length co20), .int .i64 t191, .int .i64 t192] 29 (0, 0))) ∧ Aside0 (wc.heap[gb201]? = some (.cells #[(.slice Ao27 t196.length co27), .int .i64 t199, .int .i64 t200] 29 (0, 0))) ∧ Aside0 (wc.heap[gb209]? = some (.cells #[(.slice Ao35 t202.length co35), .int .i64 t205, .int .i64 t206] 29 (0, 0))) ∧ Aside0 (Below w.heap.size w wc))
    case first =>
      have H := HC11.out
      clear HC11
      replace H := Option.bind_eq_some_iff.mp H
      obtain ⟨t210, A410, H⟩ := H
      replace H : (if t210 = true then (if t207 = t193 then (laws_FnExactPopRing.j0 k t193 t194 t207 t208 (t208 != t194) l0_0 a0_1 a0_2 t188 t191 t192 t196 t199 t200 t202 t205 t206) else (laws_FnExactPopRing.j0 k t193 t194 t207 t208 true l0_0 a0_1 a0_2 t188 t191 t192 t196 t199 t200 t202 t205 t206)) else (laws_FnExactPopRing.j0 k t193 t194 t207 t208 true l0_0 a0_1 a0_2 t188 t191 t192 t196 t199 t200 t202 t205 t206)) = some r := H
      have A41 := Aside0.mk A410
      clear A410
      by_cases c42 : t210 = true
      · subst c42
        have H1 : (if t207 = t193 then (laws_FnExactPopRing.j0 k t193 t194 t207 t208 (t208 != t194) l0_0 a0_1 a0_2 t188 t191 t192 t196 t199 t200 t202 t205 t206) else (laws_FnExactPopRing.j0 k t193 t194 t207 t208 true l0_0 a0_1 a0_2 t188 t191 t192 t196 t199 t200 t202 t205 t206)) = some r := by rw [if_pos rfl] at H; exact H
        clear H
        have H := H1
        clear H1
        by_cases c43 : t207 = t193
        · rw [if_pos c43] at H
          have c43b0 : (t207 == t193) = true := beq_iff_eq.mpr c43
          have c43b1 : (t207 != t193) = false := bne_eq_false_iff_eq.mpr c43
          clear c43
          (first | rw [c43b0] | (simp only [i64_w, i32_w]; rw [c43b0]) | skip)
          have H' := Aside0.mk H
          clear H
          have hnb44 := NB209_181.out
          have hnc44 := NB181_209.out
          have hnb45 := NB209_195.out
          have hnc45 := NB195_209.out
          have hnb46 := NB209_201.out
          have hnc46 := NB201_209.out
          have hcz47_0 : w40.cell? ⟨gb209, 0, none⟩ = some (.slice Ao35 t202.length co35) := (blk_cell BK209.out 0).trans rfl
          have hcz47_1 : w40.cell? ⟨gb209, 1, none⟩ = some (.int .i64 t205) := (blk_cell BK209.out 1).trans rfl
          have hcz47_2 : w40.cell? ⟨gb209, 2, none⟩ = some (.int .i64 t206) := (blk_cell BK209.out 2).trans rfl
          have hfz47_0 := blk_frozen BK209.out 0
          have hfz47_1 := blk_frozen BK209.out 1
          have hfz47_2 := blk_frozen BK209.out 2
          have hnb48 := NB195_181.out
          have hnc48 := NB181_195.out
          have hnb49 := NB195_201.out
          have hnc49 := NB201_195.out
          have hcz50_0 : w40.cell? ⟨gb195, 0, none⟩ = some (.slice Ao20 t188.length co20) := (blk_cell BK195.out 0).trans rfl
          have hcz50_1 : w40.cell? ⟨gb195, 1, none⟩ = some (.int .i64 t191) := (blk_cell BK195.out 1).trans rfl
          have hcz50_2 : w40.cell? ⟨gb195, 2, none⟩ = some (.int .i64 t192) := (blk_cell BK195.out 2).trans rfl
          have hfz50_0 := blk_frozen BK195.out 0
          have hfz50_1 := blk_frozen BK195.out 1
          have hfz50_2 := blk_frozen BK195.out 2
          go_wp2_with (first | ((with_reducible refine gate_callee (f := 19) rfl ?_); refine goesL_ (some 39) rfl rfl Try.func19 (by kernel_rfl) rfl #[.agg #[.slice Ao35 t202.length co35, .int .i64 t205, .int .i64 t206], .agg #[.slice Ao20 t188.length co20, .int .i64 t191, .int .i64 t192]] rfl (by (try simp only [List.map_toArray, List.map_cons, List.map_nil]); first | done | rfl | (simp only [List.length_drop, List.length_take]; rfl)) ?_; (with_reducible refine (laws_eqRing.calls k _ _ t202 t205 t206 _ _ t188 t191 t192 true _ ?side1 ?side2 ?side3 ?side4 A41.out).mono ?_); (case side1 => repeat (first | exact (Kd.R_reads' HO204.out).2.2 | (with_reducible refine Kd.C_alloc ?_ _) | (with_reducible refine Kd.C_drewN ?_ _) | (with_reducible refine Kd.C_drew ?_))); (case side2 => exact (Kd.R_reads' HO204.out).2.1); (case side3 => repeat (first | exact (Kd.R_reads' HO190.out).2.2 | (with_reducible refine Kd.C_alloc ?_ _) | (with_reducible refine Kd.C_drewN ?_ _) | (with_reducible refine Kd.C_drew ?_))); (case side4 => exact (Kd.R_reads' HO190.out).2.1); rintro e w51 ⟨rfl, hb⟩; refine ⟨_, rfl, ?_⟩; have n0_ := Aside0.mk (Kd.R_below (by (with_reducible repeat (first | apply Kd.R_alloc | apply Kd.R_drewN | apply Kd.R_drew)); exact HO185.out) hb); have n1_ := Aside0.mk (Kd.R_below (by (with_reducible repeat (first | apply Kd.R_alloc | apply Kd.R_drewN | apply Kd.R_drew)); exact HO190.out) hb); have n2_ := Aside0.mk (Kd.R_below (by (with_reducible repeat (first | apply Kd.R_alloc | apply Kd.R_drewN | apply Kd.R_drew)); exact HO198.out) hb); have n3_ := Aside0.mk (Kd.R_below (by (with_reducible repeat (first | apply Kd.R_alloc | apply Kd.R_drewN | apply Kd.R_drew)); exact HO204.out) hb); have n4_ := Aside0.mk (blk_below (g := gb181) (o := .cells #[.slice A0_0 l0_0.length c0_0, .int .i64 a0_1, .int .i64 a0_2] 24 (0, 0)) (by (with_reducible repeat (first | refine blk_drewN ?_ _ | refine blk_drew ?_ | refine blk_alloc ?_ _)); exact BK181.out) hb); have n5_ := Aside0.mk (blk_below (g := gb195) (o := .cells #[.slice Ao20 t188.length co20, .int .i64 t191, .int .i64 t192] 29 (0, 0)) (by (with_reducible repeat (first | refine blk_drewN ?_ _ | refine blk_drew ?_ | refine blk_alloc ?_ _)); exact BK195.out) hb); have n6_ := Aside0.mk (blk_below (g := gb201) (o := .cells #[.slice Ao27 t196.length co27, .int .i64 t199, .int .i64 t200] 29 (0, 0)) (by (with_reducible repeat (first | refine blk_drewN ?_ _ | refine blk_drew ?_ | refine blk_alloc ?_ _)); exact BK201.out) hb); have n7_ := Aside0.mk (blk_below (g := gb209) (o := .cells #[.slice Ao35 t202.length co35, .int .i64 t205, .int .i64 t206] 29 (0, 0)) (by (with_reducible repeat (first | refine blk_drewN ?_ _ | refine blk_drew ?_ | refine blk_alloc ?_ _)); exact BK209.out) hb); have n8_ := Aside0.mk (below_step (by repeat (first | (with_reducible first | exact HB.out | apply below_alloc | apply pw_below_drewN | apply below_drew1 | refine below_set ?_ GE181.out | refine below_set ?_ GE195.out | refine below_set ?_ GE201.out | refine below_set ?_ GE209.out) | exact HB.out)) hb); clear HO185; clear HO190; clear HO198; clear HO204; clear BK181; clear BK195; clear BK201; clear BK209; clear HB; have HO185 := n0_; have HO190 := n1_; have HO198 := n2_; have HO204 := n3_; have BK181 := n4_; have BK195 := n5_; have BK201 := n6_; have BK209 := n7_; have HB := n8_; clear n0_ n1_ n2_ n3_ n4_ n5_ n6_ n7_ n8_; (try clear hb); (try clear hb2); (try clear hk); (try clear hi)))
          go_meet
          case rel => exact ⟨_, ((t208 != t194)), (by first | rfl | (simp; done) | (simp [*]; done)), H', ⟨by first | omega | exact Nat.le_refl _⟩, ⟨by (with_reducible repeat (first | apply Kd.R_alloc | apply Kd.R_drewN | apply Kd.R_drew)); exact Kd.R_mono HO190.out (fun _ hk => ⟨hk.2.1, hk.2.2⟩)⟩, ⟨by (with_reducible repeat (first | apply Kd.R_alloc | apply Kd.R_drewN | apply Kd.R_drew)); exact Kd.R_mono HO198.out (fun _ hk => ⟨hk.2.1, hk.2.2⟩)⟩, ⟨by (with_reducible repeat (first | apply Kd.R_alloc | apply Kd.R_drewN | apply Kd.R_drew)); exact Kd.R_mono HO204.out (fun _ hk => ⟨hk.2.1, hk.2.2⟩)⟩, ⟨by (with_reducible repeat (first | refine blk_drewN ?_ _ | refine blk_drew ?_ | refine blk_alloc ?_ _)); exact BK181.out⟩, ⟨by (with_reducible repeat (first | refine blk_drewN ?_ _ | refine blk_drew ?_ | refine blk_alloc ?_ _)); exact BK195.out⟩, ⟨by (with_reducible repeat (first | refine blk_drewN ?_ _ | refine blk_drew ?_ | refine blk_alloc ?_ _)); exact BK201.out⟩, ⟨by (with_reducible repeat (first | refine blk_drewN ?_ _ | refine blk_drew ?_ | refine blk_alloc ?_ _)); exact BK209.out⟩, ⟨by repeat (first | (with_reducible first | exact HB.out | apply below_alloc | apply pw_below_drewN | apply below_drew1 | refine below_set ?_ GE181.out | refine below_set ?_ GE195.out | refine below_set ?_ GE201.out | refine below_set ?_ GE209.out) | exact HB.out)⟩⟩
        · rw [if_neg c43] at H
          have c43b0 : (t207 == t193) = false := beq_eq_false_iff_ne.mpr c43
          have c43b1 : (t207 != t193) = true := bne_iff_ne.mpr c43
          (first | rw [c43b0] | (simp only [i64_w, i32_w]; rw [c43b0]) | skip)
          have H' := Aside0.mk H
          clear H
          have hnb52 := NB209_181.out
          have hnc52 := NB181_209.out
          have hnb53 := NB209_195.out
          have hnc53 := NB195_209.out
          have hnb54 := NB209_201.out
          have hnc54 := NB201_209.out
          have hcz55_0 : w40.cell? ⟨gb209, 0, none⟩ = some (.slice Ao35 t202.length co35) := (blk_cell BK209.out 0).trans rfl
          have hcz55_1 : w40.cell? ⟨gb209, 1, none⟩ = some (.int .i64 t205) := (blk_cell BK209.out 1).trans rfl
          have hcz55_2 : w40.cell? ⟨gb209, 2, none⟩ = some (.int .i64 t206) := (blk_cell BK209.out 2).trans rfl
          have hfz55_0 := blk_frozen BK209.out 0
          have hfz55_1 := blk_frozen BK209.out 1
          have hfz55_2 := blk_frozen BK209.out 2
          have hnb56 := NB195_181.out
          have hnc56 := NB181_195.out
          have hnb57 := NB195_201.out
          have hnc57 := NB201_195.out
          have hcz58_0 : w40.cell? ⟨gb195, 0, none⟩ = some (.slice Ao20 t188.length co20) := (blk_cell BK195.out 0).trans rfl
          have hcz58_1 : w40.cell? ⟨gb195, 1, none⟩ = some (.int .i64 t191) := (blk_cell BK195.out 1).trans rfl
          have hcz58_2 : w40.cell? ⟨gb195, 2, none⟩ = some (.int .i64 t192) := (blk_cell BK195.out 2).trans rfl
          have hfz58_0 := blk_frozen BK195.out 0
          have hfz58_1 := blk_frozen BK195.out 1
          have hfz58_2 := blk_frozen BK195.out 2
          go_wp2_with (first | ((with_reducible refine gate_callee (f := 19) rfl ?_); refine goesL_ (some 39) rfl rfl Try.func19 (by kernel_rfl) rfl #[.agg #[.slice Ao35 t202.length co35, .int .i64 t205, .int .i64 t206], .agg #[.slice Ao20 t188.length co20, .int .i64 t191, .int .i64 t192]] rfl (by (try simp only [List.map_toArray, List.map_cons, List.map_nil]); first | done | rfl | (simp only [List.length_drop, List.length_take]; rfl)) ?_; (with_reducible refine (laws_eqRing.calls k _ _ t202 t205 t206 _ _ t188 t191 t192 true _ ?side1 ?side2 ?side3 ?side4 A41.out).mono ?_); (case side1 => repeat (first | exact (Kd.R_reads' HO204.out).2.2 | (with_reducible refine Kd.C_alloc ?_ _) | (with_reducible refine Kd.C_drewN ?_ _) | (with_reducible refine Kd.C_drew ?_))); (case side2 => exact (Kd.R_reads' HO204.out).2.1); (case side3 => repeat (first | exact (Kd.R_reads' HO190.out).2.2 | (with_reducible refine Kd.C_alloc ?_ _) | (with_reducible refine Kd.C_drewN ?_ _) | (with_reducible refine Kd.C_drew ?_))); (case side4 => exact (Kd.R_reads' HO190.out).2.1); rintro e w59 ⟨rfl, hb⟩; refine ⟨_, rfl, ?_⟩; have n0_ := Aside0.mk (Kd.R_below (by (with_reducible repeat (first | apply Kd.R_alloc | apply Kd.R_drewN | apply Kd.R_drew)); exact HO185.out) hb); have n1_ := Aside0.mk (Kd.R_below (by (with_reducible repeat (first | apply Kd.R_alloc | apply Kd.R_drewN | apply Kd.R_drew)); exact HO190.out) hb); have n2_ := Aside0.mk (Kd.R_below (by (with_reducible repeat (first | apply Kd.R_alloc | apply Kd.R_drewN | apply Kd.R_drew)); exact HO198.out) hb); have n3_ := Aside0.mk (Kd.R_below (by (with_reducible repeat (first | apply Kd.R_alloc | apply Kd.R_drewN | apply Kd.R_drew)); exact HO204.out) hb); have n4_ := Aside0.mk (blk_below (g := gb181) (o := .cells #[.slice A0_0 l0_0.length c0_0, .int .i64 a0_1, .int .i64 a0_2] 24 (0, 0)) (by (with_reducible repeat (first | refine blk_drewN ?_ _ | refine blk_drew ?_ | refine blk_alloc ?_ _)); exact BK181.out) hb); have n5_ := Aside0.mk (blk_below (g := gb195) (o := .cells #[.slice Ao20 t188.length co20, .int .i64 t191, .int .i64 t192] 29 (0, 0)) (by (with_reducible repeat (first | refine blk_drewN ?_ _ | refine blk_drew ?_ | refine blk_alloc ?_ _)); exact BK195.out) hb); have n6_ := Aside0.mk (blk_below (g := gb201) (o := .cells #[.slice Ao27 t196.length co27, .int .i64 t199, .int .i64 t200] 29 (0, 0)) (by (with_reducible repeat (first | refine blk_drewN ?_ _ | refine blk_drew ?_ | refine blk_alloc ?_ _)); exact BK201.out) hb); have n7_ := Aside0.mk (blk_below (g := gb209) (o := .cells #[.slice Ao35 t202.length co35, .int .i64 t205, .int .i64 t206] 29 (0, 0)) (by (with_reducible repeat (first | refine blk_drewN ?_ _ | refine blk_drew ?_ | refine blk_alloc ?_ _)); exact BK209.out) hb); have n8_ := Aside0.mk (below_step (by repeat (first | (with_reducible first | exact HB.out | apply below_alloc | apply pw_below_drewN | apply below_drew1 | refine below_set ?_ GE181.out | refine below_set ?_ GE195.out | refine below_set ?_ GE201.out | refine below_set ?_ GE209.out) | exact HB.out)) hb); clear HO185; clear HO190; clear HO198; clear HO204; clear BK181; clear BK195; clear BK201; clear BK209; clear HB; have HO185 := n0_; have HO190 := n1_; have HO198 := n2_; have HO204 := n3_; have BK181 := n4_; have BK195 := n5_; have BK201 := n6_; have BK209 := n7_; have HB := n8_; clear n0_ n1_ n2_ n3_ n4_ n5_ n6_ n7_ n8_; (try clear hb); (try clear hb2); (try clear hk); (try clear hi)))
          go_meet
          case rel => exact ⟨_, (true), (by first | rfl | (simp; done) | (simp [*]; done)), H', ⟨by first | omega | exact Nat.le_refl _⟩, ⟨by (with_reducible repeat (first | apply Kd.R_alloc | apply Kd.R_drewN | apply Kd.R_drew)); exact Kd.R_mono HO190.out (fun _ hk => ⟨hk.2.1, hk.2.2⟩)⟩, ⟨by (with_reducible repeat (first | apply Kd.R_alloc | apply Kd.R_drewN | apply Kd.R_drew)); exact Kd.R_mono HO198.out (fun _ hk => ⟨hk.2.1, hk.2.2⟩)⟩, ⟨by (with_reducible repeat (first | apply Kd.R_alloc | apply Kd.R_drewN | apply Kd.R_drew)); exact Kd.R_mono HO204.out (fun _ hk => ⟨hk.2.1, hk.2.2⟩)⟩, ⟨by (with_reducible repeat (first | refine blk_drewN ?_ _ | refine blk_drew ?_ | refine blk_alloc ?_ _)); exact BK181.out⟩, ⟨by (with_reducible repeat (first | refine blk_drewN ?_ _ | refine blk_drew ?_ | refine blk_alloc ?_ _)); exact BK195.out⟩, ⟨by (with_reducible repeat (first | refine blk_drewN ?_ _ | refine blk_drew ?_ | refine blk_alloc ?_ _)); exact BK201.out⟩, ⟨by (with_reducible repeat (first | refine blk_drewN ?_ _ | refine blk_drew ?_ | refine blk_alloc ?_ _)); exact BK209.out⟩, ⟨by repeat (first | (with_reducible first | exact HB.out | apply below_alloc | apply pw_below_drewN | apply below_drew1 | refine below_set ?_ GE181.out | refine below_set ?_ GE195.out | refine below_set ?_ GE201.out | refine below_set ?_ GE209.out) | exact HB.out)⟩⟩
      · replace c42 := Bool.eq_false_iff.mpr c42
        subst c42
        have H1 : (laws_FnExactPopRing.j0 k t193 t194 t207 t208 true l0_0 a0_1 a0_2 t188 t191 t192 t196 t199 t200 t202 t205 t206) = some r := by rw [if_neg (show ¬ (false = true) by decide)] at H; exact H
        clear H
        have H := H1
        clear H1
        have H' := Aside0.mk H
        clear H
        have hnb60 := NB209_181.out
        have hnc60 := NB181_209.out
        have hnb61 := NB209_195.out
        have hnc61 := NB195_209.out
        have hnb62 := NB209_201.out
        have hnc62 := NB201_209.out
        have hcz63_0 : w40.cell? ⟨gb209, 0, none⟩ = some (.slice Ao35 t202.length co35) := (blk_cell BK209.out 0).trans rfl
        have hcz63_1 : w40.cell? ⟨gb209, 1, none⟩ = some (.int .i64 t205) := (blk_cell BK209.out 1).trans rfl
        have hcz63_2 : w40.cell? ⟨gb209, 2, none⟩ = some (.int .i64 t206) := (blk_cell BK209.out 2).trans rfl
        have hfz63_0 := blk_frozen BK209.out 0
        have hfz63_1 := blk_frozen BK209.out 1
        have hfz63_2 := blk_frozen BK209.out 2
        have hnb64 := NB195_181.out
        have hnc64 := NB181_195.out
        have hnb65 := NB195_201.out
        have hnc65 := NB201_195.out
        have hcz66_0 : w40.cell? ⟨gb195, 0, none⟩ = some (.slice Ao20 t188.length co20) := (blk_cell BK195.out 0).trans rfl
        have hcz66_1 : w40.cell? ⟨gb195, 1, none⟩ = some (.int .i64 t191) := (blk_cell BK195.out 1).trans rfl
        have hcz66_2 : w40.cell? ⟨gb195, 2, none⟩ = some (.int .i64 t192) := (blk_cell BK195.out 2).trans rfl
        have hfz66_0 := blk_frozen BK195.out 0
        have hfz66_1 := blk_frozen BK195.out 1
        have hfz66_2 := blk_frozen BK195.out 2
        go_wp2_with (first | ((with_reducible refine gate_callee (f := 19) rfl ?_); refine goesL_ (some 39) rfl rfl Try.func19 (by kernel_rfl) rfl #[.agg #[.slice Ao35 t202.length co35, .int .i64 t205, .int .i64 t206], .agg #[.slice Ao20 t188.length co20, .int .i64 t191, .int .i64 t192]] rfl (by (try simp only [List.map_toArray, List.map_cons, List.map_nil]); first | done | rfl | (simp only [List.length_drop, List.length_take]; rfl)) ?_; (with_reducible refine (laws_eqRing.calls k _ _ t202 t205 t206 _ _ t188 t191 t192 false _ ?side1 ?side2 ?side3 ?side4 A41.out).mono ?_); (case side1 => repeat (first | exact (Kd.R_reads' HO204.out).2.2 | (with_reducible refine Kd.C_alloc ?_ _) | (with_reducible refine Kd.C_drewN ?_ _) | (with_reducible refine Kd.C_drew ?_))); (case side2 => exact (Kd.R_reads' HO204.out).2.1); (case side3 => repeat (first | exact (Kd.R_reads' HO190.out).2.2 | (with_reducible refine Kd.C_alloc ?_ _) | (with_reducible refine Kd.C_drewN ?_ _) | (with_reducible refine Kd.C_drew ?_))); (case side4 => exact (Kd.R_reads' HO190.out).2.1); rintro e w67 ⟨rfl, hb⟩; refine ⟨_, rfl, ?_⟩; have n0_ := Aside0.mk (Kd.R_below (by (with_reducible repeat (first | apply Kd.R_alloc | apply Kd.R_drewN | apply Kd.R_drew)); exact HO185.out) hb); have n1_ := Aside0.mk (Kd.R_below (by (with_reducible repeat (first | apply Kd.R_alloc | apply Kd.R_drewN | apply Kd.R_drew)); exact HO190.out) hb); have n2_ := Aside0.mk (Kd.R_below (by (with_reducible repeat (first | apply Kd.R_alloc | apply Kd.R_drewN | apply Kd.R_drew)); exact HO198.out) hb); have n3_ := Aside0.mk (Kd.R_below (by (with_reducible repeat (first | apply Kd.R_alloc | apply Kd.R_drewN | apply Kd.R_drew)); exact HO204.out) hb); have n4_ := Aside0.mk (blk_below (g := gb181) (o := .cells #[.slice A0_0 l0_0.length c0_0, .int .i64 a0_1, .int .i64 a0_2] 24 (0, 0)) (by (with_reducible repeat (first | refine blk_drewN ?_ _ | refine blk_drew ?_ | refine blk_alloc ?_ _)); exact BK181.out) hb); have n5_ := Aside0.mk (blk_below (g := gb195) (o := .cells #[.slice Ao20 t188.length co20, .int .i64 t191, .int .i64 t192] 29 (0, 0)) (by (with_reducible repeat (first | refine blk_drewN ?_ _ | refine blk_drew ?_ | refine blk_alloc ?_ _)); exact BK195.out) hb); have n6_ := Aside0.mk (blk_below (g := gb201) (o := .cells #[.slice Ao27 t196.length co27, .int .i64 t199, .int .i64 t200] 29 (0, 0)) (by (with_reducible repeat (first | refine blk_drewN ?_ _ | refine blk_drew ?_ | refine blk_alloc ?_ _)); exact BK201.out) hb); have n7_ := Aside0.mk (blk_below (g := gb209) (o := .cells #[.slice Ao35 t202.length co35, .int .i64 t205, .int .i64 t206] 29 (0, 0)) (by (with_reducible repeat (first | refine blk_drewN ?_ _ | refine blk_drew ?_ | refine blk_alloc ?_ _)); exact BK209.out) hb); have n8_ := Aside0.mk (below_step (by repeat (first | (with_reducible first | exact HB.out | apply below_alloc | apply pw_below_drewN | apply below_drew1 | refine below_set ?_ GE181.out | refine below_set ?_ GE195.out | refine below_set ?_ GE201.out | refine below_set ?_ GE209.out) | exact HB.out)) hb); clear HO185; clear HO190; clear HO198; clear HO204; clear BK181; clear BK195; clear BK201; clear BK209; clear HB; have HO185 := n0_; have HO190 := n1_; have HO198 := n2_; have HO204 := n3_; have BK181 := n4_; have BK195 := n5_; have BK201 := n6_; have BK209 := n7_; have HB := n8_; clear n0_ n1_ n2_ n3_ n4_ n5_ n6_ n7_ n8_; (try clear hb); (try clear hb2); (try clear hk); (try clear hi)))
        go_meet
        case rel => exact ⟨_, (true), (by first | rfl | (simp; done) | (simp [*]; done)), H', ⟨by first | omega | exact Nat.le_refl _⟩, ⟨by (with_reducible repeat (first | apply Kd.R_alloc | apply Kd.R_drewN | apply Kd.R_drew)); exact Kd.R_mono HO190.out (fun _ hk => ⟨hk.2.1, hk.2.2⟩)⟩, ⟨by (with_reducible repeat (first | apply Kd.R_alloc | apply Kd.R_drewN | apply Kd.R_drew)); exact Kd.R_mono HO198.out (fun _ hk => ⟨hk.2.1, hk.2.2⟩)⟩, ⟨by (with_reducible repeat (first | apply Kd.R_alloc | apply Kd.R_drewN | apply Kd.R_drew)); exact Kd.R_mono HO204.out (fun _ hk => ⟨hk.2.1, hk.2.2⟩)⟩, ⟨by (with_reducible repeat (first | refine blk_drewN ?_ _ | refine blk_drew ?_ | refine blk_alloc ?_ _)); exact BK181.out⟩, ⟨by (with_reducible repeat (first | refine blk_drewN ?_ _ | refine blk_drew ?_ | refine blk_alloc ?_ _)); exact BK195.out⟩, ⟨by (with_reducible repeat (first | refine blk_drewN ?_ _ | refine blk_drew ?_ | refine blk_alloc ?_ _)); exact BK201.out⟩, ⟨by (with_reducible repeat (first | refine blk_drewN ?_ _ | refine blk_drew ?_ | refine blk_alloc ?_ _)); exact BK209.out⟩, ⟨by repeat (first | (with_reducible first | exact HB.out | apply below_alloc | apply pw_below_drewN | apply below_drew1 | refine below_set ?_ GE181.out | refine below_set ?_ GE195.out | refine below_set ?_ GE201.out | refine below_set ?_ GE209.out) | exact HB.out)⟩⟩
    case rest =>
      clear HC11
      try clear c1
      try clear c2
      try clear p2
      try clear c3
      try clear c3b0
      try clear c4
      try clear c5
      try clear c6
      try clear c10
      try clear c14
      try clear c16
      try clear c19
      try clear c21
      try clear c28
      try clear c29
      try clear c36
      try clear c37
      try clear c38
      try clear c42
      try clear c43
      try clear c43b0
      try clear c43b1
      try clear c44
      try clear c45
      try clear c46
      try clear c48
      try clear c49
      try clear c52
      try clear c53
      try clear c54
      try clear c56
      try clear c57
      try clear c60
      try clear c61
      try clear c62
      try clear c64
      try clear c65
      try clear hcz13_0
      try clear hcz13_1
      try clear hcz13_2
      try clear hcz15_0
      try clear hcz15_1
      try clear hcz15_2
      try clear hcz22_0
      try clear hcz22_1
      try clear hcz22_2
      try clear hcz24_0
      try clear hcz24_1
      try clear hcz24_2
      try clear hcz30_0
      try clear hcz30_1
      try clear hcz30_2
      try clear hcz32_0
      try clear hcz32_1
      try clear hcz32_2
      try clear hcz39_0
      try clear hcz39_1
      try clear hcz39_2
      try clear hcz47_0
      try clear hcz47_1
      try clear hcz47_2
      try clear hcz50_0
      try clear hcz50_1
      try clear hcz50_2
      try clear hcz55_0
      try clear hcz55_1
      try clear hcz55_2
      try clear hcz58_0
      try clear hcz58_1
      try clear hcz58_2
      try clear hcz5_0
      try clear hcz5_1
      try clear hcz5_2
      try clear hcz63_0
      try clear hcz63_1
      try clear hcz63_2
      try clear hcz66_0
      try clear hcz66_1
      try clear hcz66_2
      try clear hfz13_0
      try clear hfz13_1
      try clear hfz13_2
      try clear hfz15_0
      try clear hfz15_1
      try clear hfz15_2
      try clear hfz22_0
      try clear hfz22_1
      try clear hfz22_2
      try clear hfz24_0
      try clear hfz24_1
      try clear hfz24_2
      try clear hfz30_0
      try clear hfz30_1
      try clear hfz30_2
      try clear hfz32_0
      try clear hfz32_1
      try clear hfz32_2
      try clear hfz39_0
      try clear hfz39_1
      try clear hfz39_2
      try clear hfz47_0
      try clear hfz47_1
      try clear hfz47_2
      try clear hfz50_0
      try clear hfz50_1
      try clear hfz50_2
      try clear hfz55_0
      try clear hfz55_1
      try clear hfz55_2
      try clear hfz58_0
      try clear hfz58_1
      try clear hfz58_2
      try clear hfz5_0
      try clear hfz5_1
      try clear hfz5_2
      try clear hfz63_0
      try clear hfz63_1
      try clear hfz63_2
      try clear hfz66_0
      try clear hfz66_1
      try clear hfz66_2
      obtain ⟨kq, x50_10, rfl, HA, HJ10, HO_196000, HO_202000, HO_210000, BK181, BK195, BK201, BK209, HB⟩ := hcut
      cases kq with
      | zero => exact absurd HA.out (by simp [laws_FnExactPopRing.j0])
      | succ kj10 =>
        have H := HA.out
        clear HA
        simp only [laws_FnExactPopRing.j0] at H
        by_cases c68 : x50_10 = true
        · subst c68
          have H1 : (some false) = some r := by rw [if_pos rfl] at H; exact H
          clear H
          have H := H1
          clear H1
          exact absurd ((Option.some.inj H).trans hT.out) (by decide)
        · replace c68 := Bool.eq_false_iff.mpr c68
          subst c68
          have H1 : ((laws_toRing.f kj10 l0_0 a0_1 a0_2).bind fun bt211 => ((laws_eqRing.f kj10 t196 t199 t200 bt211.1 bt211.2.1 bt211.2.2).bind fun t216 => (if t216 = true then ((laws_markRing.f kj10 t196 t199 t200 1).bind fun bt217 => (if bt217.1 < 0 then (laws_FnExactPopRing.j1 kj10 t193 t194 true l0_0 a0_1 a0_2 t188 t191 t192 t202 t205 t206) else ((laws_eqRing.f kj10 t202 t205 t206 t188 t191 t192).bind fun t219 => (if t219 = true then (if t207 = t193 then (laws_FnExactPopRing.j1 kj10 t193 t194 (t208 != t194) l0_0 a0_1 a0_2 t188 t191 t192 t202 t205 t206) else (laws_FnExactPopRing.j1 kj10 t193 t194 true l0_0 a0_1 a0_2 t188 t191 t192 t202 t205 t206)) else (laws_FnExactPopRing.j1 kj10 t193 t194 true l0_0 a0_1 a0_2 t188 t191 t192 t202 t205 t206))))) else (some false)))) = some r := by rw [if_neg (show ¬ (false = true) by decide)] at H; exact H
          clear H
          have H := H1
          clear H1
          replace H := Option.bind_eq_some_iff.mp H
          obtain ⟨⟨t211, t214, t215⟩, A690, H⟩ := H
          replace H : ((laws_eqRing.f kj10 t196 t199 t200 t211 t214 t215).bind fun t216 => (if t216 = true then ((laws_markRing.f kj10 t196 t199 t200 1).bind fun bt217 => (if bt217.1 < 0 then (laws_FnExactPopRing.j1 kj10 t193 t194 true l0_0 a0_1 a0_2 t188 t191 t192 t202 t205 t206) else ((laws_eqRing.f kj10 t202 t205 t206 t188 t191 t192).bind fun t219 => (if t219 = true then (if t207 = t193 then (laws_FnExactPopRing.j1 kj10 t193 t194 (t208 != t194) l0_0 a0_1 a0_2 t188 t191 t192 t202 t205 t206) else (laws_FnExactPopRing.j1 kj10 t193 t194 true l0_0 a0_1 a0_2 t188 t191 t192 t202 t205 t206)) else (laws_FnExactPopRing.j1 kj10 t193 t194 true l0_0 a0_1 a0_2 t188 t191 t192 t202 t205 t206))))) else (some false))) = some r := H
          have A69 := Aside0.mk A690
          clear A690
          replace H := Option.bind_eq_some_iff.mp H
          obtain ⟨t216, A700, H⟩ := H
          replace H : (if t216 = true then ((laws_markRing.f kj10 t196 t199 t200 1).bind fun bt217 => (if bt217.1 < 0 then (laws_FnExactPopRing.j1 kj10 t193 t194 true l0_0 a0_1 a0_2 t188 t191 t192 t202 t205 t206) else ((laws_eqRing.f kj10 t202 t205 t206 t188 t191 t192).bind fun t219 => (if t219 = true then (if t207 = t193 then (laws_FnExactPopRing.j1 kj10 t193 t194 (t208 != t194) l0_0 a0_1 a0_2 t188 t191 t192 t202 t205 t206) else (laws_FnExactPopRing.j1 kj10 t193 t194 true l0_0 a0_1 a0_2 t188 t191 t192 t202 t205 t206)) else (laws_FnExactPopRing.j1 kj10 t193 t194 true l0_0 a0_1 a0_2 t188 t191 t192 t202 t205 t206))))) else (some false)) = some r := H
          have A70 := Aside0.mk A700
          clear A700
          by_cases c71 : t216 = true
          · subst c71
            have H1 : ((laws_markRing.f kj10 t196 t199 t200 1).bind fun bt217 => (if bt217.1 < 0 then (laws_FnExactPopRing.j1 kj10 t193 t194 true l0_0 a0_1 a0_2 t188 t191 t192 t202 t205 t206) else ((laws_eqRing.f kj10 t202 t205 t206 t188 t191 t192).bind fun t219 => (if t219 = true then (if t207 = t193 then (laws_FnExactPopRing.j1 kj10 t193 t194 (t208 != t194) l0_0 a0_1 a0_2 t188 t191 t192 t202 t205 t206) else (laws_FnExactPopRing.j1 kj10 t193 t194 true l0_0 a0_1 a0_2 t188 t191 t192 t202 t205 t206)) else (laws_FnExactPopRing.j1 kj10 t193 t194 true l0_0 a0_1 a0_2 t188 t191 t192 t202 t205 t206))))) = some r := by rw [if_pos rfl] at H; exact H
            clear H
            have H := H1
            clear H1
            replace H := Option.bind_eq_some_iff.mp H
            obtain ⟨⟨t217, t218⟩, A720, H⟩ := H
            replace H : (if t217 < 0 then (laws_FnExactPopRing.j1 kj10 t193 t194 true l0_0 a0_1 a0_2 t188 t191 t192 t202 t205 t206) else ((laws_eqRing.f kj10 t202 t205 t206 t188 t191 t192).bind fun t219 => (if t219 = true then (if t207 = t193 then (laws_FnExactPopRing.j1 kj10 t193 t194 (t208 != t194) l0_0 a0_1 a0_2 t188 t191 t192 t202 t205 t206) else (laws_FnExactPopRing.j1 kj10 t193 t194 true l0_0 a0_1 a0_2 t188 t191 t192 t202 t205 t206)) else (laws_FnExactPopRing.j1 kj10 t193 t194 true l0_0 a0_1 a0_2 t188 t191 t192 t202 t205 t206)))) = some r := H
            have A72 := Aside0.mk A720
            clear A720
            have HC73 := Aside0.mk H
            clear H
            try go_wp2
            have n0_ := Aside0.mk (Kd.R_drew HO_196000.out)
            have n1_ := Aside0.mk (Kd.R_drew HO_202000.out)
            have n2_ := Aside0.mk (Kd.R_drew HO_210000.out)
            have n3_ := Aside0.mk (blk_drew BK181.out)
            have n4_ := Aside0.mk (blk_drew BK195.out)
            have n5_ := Aside0.mk (blk_drew BK201.out)
            have n6_ := Aside0.mk (blk_drew BK209.out)
            have n7_ := Aside0.mk (below_drew1 HB.out)
            clear HO_196000
            clear HO_202000
            clear HO_210000
            clear BK181
            clear BK195
            clear BK201
            clear BK209
            clear HB
            have HO_196000 := n0_
            have HO_202000 := n1_
            have HO_210000 := n2_
            have BK181 := n3_
            have BK195 := n4_
            have BK201 := n5_
            have BK209 := n6_
            have HB := n7_
            clear n0_ n1_ n2_ n3_ n4_ n5_ n6_ n7_
            refine start_ (n := 5) (S := fun w' => w'.cell? ⟨gb201, 0, none⟩ = some (.slice Ao27 t196.length co27) ∧ w'.cell? ⟨gb201, 1, none⟩ = some (.int .i64 t199) ∧ w'.cell? ⟨gb201, 2, none⟩ = some (.int .i64 t200) ∧ w'.cell? ⟨gb181, 0, none⟩ = some (.slice A0_0 l0_0.length c0_0) ∧ w'.cell? ⟨gb181, 1, none⟩ = some (.int .i64 a0_1) ∧ w'.cell? ⟨gb181, 2, none⟩ = some (.int .i64 a0_2)) (ds := []) #[false, false, false, false, false] (by kernel_rfl) rfl rfl ⟨(blk_cell BK201.out 0).trans rfl, (blk_cell BK201.out 1).trans rfl, (blk_cell BK201.out 2).trans rfl, (blk_cell BK181.out 0).trans rfl, (blk_cell BK181.out 1).trans rfl, (blk_cell BK181.out 2).trans rfl⟩ (fun hHeld => ?_)
            generalize wc.drew = w74 at HO_196000 HO_202000 HO_210000 BK181 BK195 BK201 BK209 HB hHeld ⊢
            refine take_ (i := 0) (N := some 51) (v := ?_) (a' := ?_) #[true, false, false, false, false] rfl rfl (by kernel_rfl) (fun _ _ _ h => h) (Or.inl ⟨by rfl, ?_⟩) hHeld ?_ ?_
            rotate_left
            · rintro w' ⟨s0, s1, s2, s3, s4, s5⟩
              go_simp
              with_reducible rfl
            rotate_left
            · simp only [Act.put, List.setIfInBounds_toArray, List.set_cons_zero, List.set_cons_succ, i64_w, i32_w]
              rfl
            refine take_ (i := 1) (N := some 52) (v := ?_) (a' := ?_) #[true, true, false, false, false] rfl rfl (by kernel_rfl) (fun _ _ _ h => h) (Or.inl ⟨by rfl, ?_⟩) hHeld ?_ ?_
            rotate_left
            · rintro w' ⟨s0, s1, s2, s3, s4, s5⟩
              go_simp
              with_reducible rfl
            rotate_left
            · simp only [Act.put, List.setIfInBounds_toArray, List.set_cons_zero, List.set_cons_succ, i64_w, i32_w]
              rfl
            refine one_ (i := 2) (N := some 53) #[true, true, true, false, false] rfl rfl (by kernel_rfl) (by decide) (fun K hK => ?_)
            refine goes_ Try.func16 (by kernel_rfl) rfl #[.agg #[.slice A0_0 l0_0.length c0_0, .int .i64 a0_1, .int .i64 a0_2]] (by rfl) rfl rfl (by (try simp only [List.map_toArray, List.map_cons, List.map_nil]); first | done | rfl | (simp only [List.length_drop, List.length_take]; rfl)) ?_
            with_reducible refine (laws_toRing.calls kj10 _ _ l0_0 a0_1 a0_2 t211 t214 t215 _ ?side1 ?side2 A69.out).mono ?_
            (case side1 => repeat (first | exact (Kd.C_below HR0_0.out HB.out) | (with_reducible refine Kd.C_alloc ?_ _) | (with_reducible refine Kd.C_drewN ?_ _) | (with_reducible refine Kd.C_drew ?_)))
            (case side2 => exact HC0_0.out)
            rintro e w75 ⟨v212, rfl, ho0, hb⟩
            refine ⟨_, rfl, ?_⟩
            have n0_ := Aside0.mk (Kd.R_elder' (by (with_reducible repeat (first | apply Kd.R_alloc | apply Kd.R_drewN | apply Kd.R_drew)); exact HO_196000.out) (Kd.R_base ho0) hb)
            have n1_ := Aside0.mk (Kd.R_elder' (by (with_reducible repeat (first | apply Kd.R_alloc | apply Kd.R_drewN | apply Kd.R_drew)); exact HO_202000.out) (Kd.R_base ho0) hb)
            have n2_ := Aside0.mk (Kd.R_elder' (by (with_reducible repeat (first | apply Kd.R_alloc | apply Kd.R_drewN | apply Kd.R_drew)); exact HO_210000.out) (Kd.R_base ho0) hb)
            have n3_ := Aside0.mk (Kd.R_lower (Kd.R_new' (Kd.R_new' (Kd.R_new' ho0 (Kd.R_lt (by (with_reducible repeat (first | apply Kd.R_alloc | apply Kd.R_drewN | apply Kd.R_drew)); exact HO_196000.out))) (Kd.R_lt (by (with_reducible repeat (first | apply Kd.R_alloc | apply Kd.R_drewN | apply Kd.R_drew)); exact HO_202000.out))) (Kd.R_lt (by (with_reducible repeat (first | apply Kd.R_alloc | apply Kd.R_drewN | apply Kd.R_drew)); exact HO_210000.out))) (below_size (by repeat (first | (with_reducible first | exact HB.out | apply below_alloc | apply pw_below_drewN | apply below_drew1 | refine below_set ?_ GE181.out | refine below_set ?_ GE195.out | refine below_set ?_ GE201.out | refine below_set ?_ GE209.out) | exact HB.out))))
            have n4_ := Aside0.mk (blk_below (g := gb181) (o := .cells #[.slice A0_0 l0_0.length c0_0, .int .i64 a0_1, .int .i64 a0_2] 24 (0, 0)) (by (with_reducible repeat (first | refine blk_drewN ?_ _ | refine blk_drew ?_ | refine blk_alloc ?_ _)); exact BK181.out) hb)
            have n5_ := Aside0.mk (blk_below (g := gb195) (o := .cells #[.slice Ao20 t188.length co20, .int .i64 t191, .int .i64 t192] 29 (0, 0)) (by (with_reducible repeat (first | refine blk_drewN ?_ _ | refine blk_drew ?_ | refine blk_alloc ?_ _)); exact BK195.out) hb)
            have n6_ := Aside0.mk (blk_below (g := gb201) (o := .cells #[.slice Ao27 t196.length co27, .int .i64 t199, .int .i64 t200] 29 (0, 0)) (by (with_reducible repeat (first | refine blk_drewN ?_ _ | refine blk_drew ?_ | refine blk_alloc ?_ _)); exact BK201.out) hb)
            have n7_ := Aside0.mk (blk_below (g := gb209) (o := .cells #[.slice Ao35 t202.length co35, .int .i64 t205, .int .i64 t206] 29 (0, 0)) (by (with_reducible repeat (first | refine blk_drewN ?_ _ | refine blk_drew ?_ | refine blk_alloc ?_ _)); exact BK209.out) hb)
            have n8_ := Aside0.mk (below_step (by repeat (first | (with_reducible first | exact HB.out | apply below_alloc | apply pw_below_drewN | apply below_drew1 | refine below_set ?_ GE181.out | refine below_set ?_ GE195.out | refine below_set ?_ GE201.out | refine below_set ?_ GE209.out) | exact HB.out)) hb)
            clear HO_196000
            clear HO_202000
            clear HO_210000
            clear BK181
            clear BK195
            clear BK201
            clear BK209
            clear HB
            have HO_196000 := n0_
            have HO_202000 := n1_
            have HO_210000 := n2_
            have HO213 := n3_
            have BK181 := n4_
            have BK195 := n5_
            have BK201 := n6_
            have BK209 := n7_
            have HB := n8_
            clear n0_ n1_ n2_ n3_ n4_ n5_ n6_ n7_ n8_
            (try clear hb)
            (try clear hb2)
            (try clear hk)
            (try clear hi)
            (try clear ho0)
            obtain ⟨Ao76, co76, eo76⟩ := Kd.R_slice HO213.out
            (first | subst eo76 | (injection eo76 with f1_ f2_ f3_; have f4_ := f1_.symm; have f5_ := f3_.symm; clear f1_ f2_ f3_; subst f4_; subst f5_))
            refine hK.out _ _ ⟨(blk_cell BK201.out 0).trans rfl, (blk_cell BK201.out 1).trans rfl, (blk_cell BK201.out 2).trans rfl, (blk_cell BK181.out 0).trans rfl, (blk_cell BK181.out 1).trans rfl, (blk_cell BK181.out 2).trans rfl⟩ (fun hHeld => ?_)
            clear hK K
            refine norm_ (a' := ?_) ?_ ?_
            rotate_left
            · show Act.put _ (some 53) _ = _
              simp only [Act.put, List.setIfInBounds_toArray, List.set_cons_zero, List.set_cons_succ, i64_w, i32_w]
              rfl
            refine one_ (i := 3) (N := some 54) #[true, true, true, true, false] rfl rfl (by kernel_rfl) (by decide) (fun K hK => ?_)
            refine goes_ Try.func19 (by kernel_rfl) rfl #[.agg #[.slice Ao27 t196.length co27, .int .i64 t199, .int .i64 t200], .agg #[.slice Ao76 t211.length co76, .int .i64 t214, .int .i64 t215]] (by rfl) rfl rfl (by (try simp only [List.map_toArray, List.map_cons, List.map_nil]); first | done | rfl | (simp only [List.length_drop, List.length_take]; rfl)) ?_
            with_reducible refine (laws_eqRing.calls kj10 _ _ t196 t199 t200 _ _ t211 t214 t215 true _ ?side1 ?side2 ?side3 ?side4 A70.out).mono ?_
            (case side1 => repeat (first | exact (Kd.R_reads' HO_202000.out).2.2 | (with_reducible refine Kd.C_alloc ?_ _) | (with_reducible refine Kd.C_drewN ?_ _) | (with_reducible refine Kd.C_drew ?_)))
            (case side2 => exact (Kd.R_reads' HO_202000.out).2.1)
            (case side3 => repeat (first | exact (Kd.R_reads' HO213.out).2.2 | (with_reducible refine Kd.C_alloc ?_ _) | (with_reducible refine Kd.C_drewN ?_ _) | (with_reducible refine Kd.C_drew ?_)))
            (case side4 => exact (Kd.R_reads' HO213.out).2.1)
            rintro e w77 ⟨rfl, hb⟩
            refine ⟨_, rfl, ?_⟩
            have n0_ := Aside0.mk (Kd.R_below (by (with_reducible repeat (first | apply Kd.R_alloc | apply Kd.R_drewN | apply Kd.R_drew)); exact HO_196000.out) hb)
            have n1_ := Aside0.mk (Kd.R_below (by (with_reducible repeat (first | apply Kd.R_alloc | apply Kd.R_drewN | apply Kd.R_drew)); exact HO_202000.out) hb)
            have n2_ := Aside0.mk (Kd.R_below (by (with_reducible repeat (first | apply Kd.R_alloc | apply Kd.R_drewN | apply Kd.R_drew)); exact HO_210000.out) hb)
            have n3_ := Aside0.mk (Kd.R_below (by (with_reducible repeat (first | apply Kd.R_alloc | apply Kd.R_drewN | apply Kd.R_drew)); exact HO213.out) hb)
            have n4_ := Aside0.mk (blk_below (g := gb181) (o := .cells #[.slice A0_0 l0_0.length c0_0, .int .i64 a0_1, .int .i64 a0_2] 24 (0, 0)) (by (with_reducible repeat (first | refine blk_drewN ?_ _ | refine blk_drew ?_ | refine blk_alloc ?_ _)); exact BK181.out) hb)
            have n5_ := Aside0.mk (blk_below (g := gb195) (o := .cells #[.slice Ao20 t188.length co20, .int .i64 t191, .int .i64 t192] 29 (0, 0)) (by (with_reducible repeat (first | refine blk_drewN ?_ _ | refine blk_drew ?_ | refine blk_alloc ?_ _)); exact BK195.out) hb)
            have n6_ := Aside0.mk (blk_below (g := gb201) (o := .cells #[.slice Ao27 t196.length co27, .int .i64 t199, .int .i64 t200] 29 (0, 0)) (by (with_reducible repeat (first | refine blk_drewN ?_ _ | refine blk_drew ?_ | refine blk_alloc ?_ _)); exact BK201.out) hb)
            have n7_ := Aside0.mk (blk_below (g := gb209) (o := .cells #[.slice Ao35 t202.length co35, .int .i64 t205, .int .i64 t206] 29 (0, 0)) (by (with_reducible repeat (first | refine blk_drewN ?_ _ | refine blk_drew ?_ | refine blk_alloc ?_ _)); exact BK209.out) hb)
            have n8_ := Aside0.mk (below_step (by repeat (first | (with_reducible first | exact HB.out | apply below_alloc | apply pw_below_drewN | apply below_drew1 | refine below_set ?_ GE181.out | refine below_set ?_ GE195.out | refine below_set ?_ GE201.out | refine below_set ?_ GE209.out) | exact HB.out)) hb)
            clear HO_196000
            clear HO_202000
            clear HO_210000
            clear HO213
            clear BK181
            clear BK195
            clear BK201
            clear BK209
            clear HB
            have HO_196000 := n0_
            have HO_202000 := n1_
            have HO_210000 := n2_
            have HO213 := n3_
            have BK181 := n4_
            have BK195 := n5_
            have BK201 := n6_
            have BK209 := n7_
            have HB := n8_
            clear n0_ n1_ n2_ n3_ n4_ n5_ n6_ n7_ n8_
            (try clear hb)
            (try clear hb2)
            (try clear hk)
            (try clear hi)
            refine hK.out _ _ ⟨(blk_cell BK201.out 0).trans rfl, (blk_cell BK201.out 1).trans rfl, (blk_cell BK201.out 2).trans rfl, (blk_cell BK181.out 0).trans rfl, (blk_cell BK181.out 1).trans rfl, (blk_cell BK181.out 2).trans rfl⟩ (fun hHeld => ?_)
            clear hK K
            refine norm_ (a' := ?_) ?_ ?_
            rotate_left
            · show Act.put _ (some 54) _ = _
              simp only [Act.put, List.setIfInBounds_toArray, List.set_cons_zero, List.set_cons_succ, i64_w, i32_w]
              rfl
            refine pure_ (i := 4) (N := some 55) (v := ?_) (a' := ?_) #[true, true, true, true, true] rfl rfl (by kernel_rfl) (fun _ _ _ h => h) (Or.inl ⟨by rfl, ?_⟩) ?_ ?_
            rotate_left
            · intro w'
              go_simp
              with_reducible rfl
            rotate_left
            · simp only [Act.put, List.setIfInBounds_toArray, List.set_cons_zero, List.set_cons_succ, i64_w, i32_w]
              rfl
            refine done_ (by kernel_rfl) ?_
            have hnb78 := NB201_181.out
            have hnc78 := NB181_201.out
            have hnb79 := NB201_195.out
            have hnc79 := NB195_201.out
            have hnb80 := NB201_209.out
            have hnc80 := NB209_201.out
            have hcz81_0 : w77.cell? ⟨gb201, 0, none⟩ = some (.slice Ao27 t196.length co27) := (blk_cell BK201.out 0).trans rfl
            have hcz81_1 : w77.cell? ⟨gb201, 1, none⟩ = some (.int .i64 t199) := (blk_cell BK201.out 1).trans rfl
            have hcz81_2 : w77.cell? ⟨gb201, 2, none⟩ = some (.int .i64 t200) := (blk_cell BK201.out 2).trans rfl
            have hfz81_0 := blk_frozen BK201.out 0
            have hfz81_1 := blk_frozen BK201.out 1
            have hfz81_2 := blk_frozen BK201.out 2
            go_upto_region 14 with (first | ((with_reducible refine gate_callee (f := 43) rfl ?_); refine goesL_ (some 58) rfl rfl Try.func43 (by kernel_rfl) rfl #[.agg #[.slice Ao27 t196.length co27, .int .i64 t199, .int .i64 t200], .int .i64 1] rfl (by (try simp only [List.map_toArray, List.map_cons, List.map_nil]); first | done | rfl | (simp only [List.length_drop, List.length_take]; rfl)) ?_; (with_reducible refine (laws_markRing.calls kj10 (fun k_ => some k_ = (.slice Ao27 t196.length co27 : Value).ownBlock) (.slice Ao27 t196.length co27) t196 t199 t200 1 t217 t218 w _ ?side1 ?side2 A72.out).mono ?_); (case side1 => repeat (first | (with_reducible first | exact HB.out | apply below_alloc | apply pw_below_drewN | apply below_drew1 | refine below_set ?_ GE181.out | refine below_set ?_ GE195.out | refine below_set ?_ GE201.out | refine below_set ?_ GE209.out) | exact HB.out)); (case side2 => exact Kd.R_tight rfl HO_202000.out); rintro e w82 ⟨rfl, hy0, hb, hkp⟩; refine ⟨_, rfl, ?_⟩; have n0_ := Aside0.mk (Kd.R_mono (ok' := fun k_ => some k_ ≠ (.slice Ao27 t196.length co27 : Value).ownBlock ∧ some k_ ≠ (.slice Ao35 t202.length co35 : Value).ownBlock ∧ some k_ ≠ (.slice Ao76 t211.length co76 : Value).ownBlock) (Kd.R_keptB (HO_196000.out) hkp (fun k_ hk_ hs_ => (hk_.1.1) hs_)) (fun k_ hk_ => ⟨hk_.1.1.1, hk_.1.1.2, hk_.1.2⟩)); have n1_ := Aside0.mk (Kd.R_reok rfl hy0 (fun k_ e_ => HO_202000.out.1 k_ e_)); have n2_ := Aside0.mk (Kd.R_mono (ok' := fun k_ => some k_ ≠ (.slice Ao20 t188.length co20 : Value).ownBlock ∧ some k_ ≠ (.slice Ao27 t196.length co27 : Value).ownBlock ∧ some k_ ≠ (.slice Ao76 t211.length co76 : Value).ownBlock) (Kd.R_keptB (HO_210000.out) hkp (fun k_ hk_ hs_ => (hk_.1.2) hs_)) (fun k_ hk_ => ⟨hk_.1.1.1, hk_.1.1.2, hk_.1.2⟩)); have n3_ := Aside0.mk (blk_kept (by (with_reducible repeat (first | refine blk_drewN ?_ _ | refine blk_drew ?_ | refine blk_alloc ?_ _)); exact BK181.out) hkp (fun hs_ => (fun e_ => (Kd.R_ne HO_202000.out BK181.out (by decide)) e_) hs_)); have n4_ := Aside0.mk (blk_kept (by (with_reducible repeat (first | refine blk_drewN ?_ _ | refine blk_drew ?_ | refine blk_alloc ?_ _)); exact BK195.out) hkp (fun hs_ => (fun e_ => (Kd.R_ne HO_202000.out BK195.out (by decide)) e_) hs_)); have n5_ := Aside0.mk (blk_kept (by (with_reducible repeat (first | refine blk_drewN ?_ _ | refine blk_drew ?_ | refine blk_alloc ?_ _)); exact BK201.out) hkp (fun hs_ => (fun e_ => (Kd.R_ne HO_202000.out BK201.out (by decide)) e_) hs_)); have n6_ := Aside0.mk (blk_kept (by (with_reducible repeat (first | refine blk_drewN ?_ _ | refine blk_drew ?_ | refine blk_alloc ?_ _)); exact BK209.out) hkp (fun hs_ => (fun e_ => (Kd.R_ne HO_202000.out BK209.out (by decide)) e_) hs_)); have n7_ := Aside0.mk (Kd.R_mono (ok' := fun k_ => some k_ ≠ (.slice Ao20 t188.length co20 : Value).ownBlock ∧ some k_ ≠ (.slice Ao27 t196.length co27 : Value).ownBlock ∧ some k_ ≠ (.slice Ao35 t202.length co35 : Value).ownBlock) (Kd.R_keptB (HO213.out) hkp (fun k_ hk_ hs_ => (hk_.1.2) hs_)) (fun k_ hk_ => ⟨hk_.1.1.1.2, hk_.1.1.2, hk_.1.2⟩)); have n8_ := Aside0.mk (hb); clear HO_196000; clear HO_202000; clear HO_210000; clear BK181; clear BK195; clear BK201; clear BK209; clear HO213; clear HB; have HO_196000 := n0_; have HO_202000 := n1_; have HO_210000 := n2_; have BK181 := n3_; have BK195 := n4_; have BK201 := n5_; have BK209 := n6_; have HO213 := n7_; have HB := n8_; clear n0_ n1_ n2_ n3_ n4_ n5_ n6_ n7_ n8_; (try clear hb); (try clear hkp); (try clear hy0)))
            (try simp only [Act.put, List.setIfInBounds_toArray, List.set_cons_zero, List.set_cons_succ])
            go_cut [76] (fun v76 wc => ∃ (kq : Nat) (x76_72 : Bool), v76 = .bool x76_72 ∧ Aside0 (laws_FnExactPopRing.j1 kq t193 t194 x76_72 l0_0 a0_1 a0_2 t188 t191 t192 t202 t205 t206 = some r) ∧ Aside0 (kq ≤ kj10) ∧ Aside0 (Kd.R (Kd.int .i64) 3 wc w.heap.size (fun k_ => some k_ ≠ ((.slice Ao27 t196.length co27) : Value).ownBlock ∧ some k_ ≠ ((.slice Ao35 t202.length co35) : Value).ownBlock) (.slice Ao20 t188.length co20) t188) ∧ Aside0 (Kd.R (Kd.int .i64) 3 wc w.heap.size (fun k_ => some k_ ≠ ((.slice Ao20 t188.length co20) : Value).ownBlock ∧ some k_ ≠ ((.slice Ao35 t202.length co35) : Value).ownBlock) (.slice Ao27 t196.length co27) t218) ∧ Aside0 (Kd.R (Kd.int .i64) 3 wc w.heap.size (fun k_ => some k_ ≠ ((.slice Ao20 t188.length co20) : Value).ownBlock ∧ some k_ ≠ ((.slice Ao27 t196.length co27) : Value).ownBlock) (.slice Ao35 t202.length co35) t202) ∧ Aside0 (wc.heap[gb181]? = some (.cells #[(.slice A0_0 l0_0.length c0_0), .int .i64 a0_1, .int .i64 a0_2] 24 (0, 0))) ∧ Aside0 (wc.heap[gb195]? = some (.cells #[(.slice Ao20 t188.length co20), .int .i64 t191, .int .i64 t192] 29 (0, 0))) ∧ Aside0 (wc.heap[gb201]? = some (.cells #[(.slice Ao27 t196.length co27), .int .i64 t199, .int .i64 t200] 29 (0, 0))) ∧ Aside0 (wc.heap[gb209]? = some (.cells #[(.slice Ao35 t202.length co35), .int .i64 t205, .int .i64 t206] 29 (0, 0))) ∧ Aside0 (Below w.heap.size w wc))
            case first =>
              have H := HC73.out
              clear HC73
              by_cases c83 : t217 < 0
              · rw [if_pos c83] at H
                have c83b0 : decide (t217 < 0) = true := decide_eq_true c83
                clear c83
                (first | rw [c83b0] | (simp only [i64_w, i32_w]; rw [c83b0]) | skip)
                have H' := Aside0.mk H
                clear H
                go_wp2
                go_meet
                case rel => exact ⟨_, (true), (by first | rfl | (simp; done) | (simp [*]; done)), H', ⟨by have := HJ10.out; first | omega | exact Nat.le_refl _⟩, ⟨by (with_reducible repeat (first | apply Kd.R_alloc | apply Kd.R_drewN | apply Kd.R_drew)); exact Kd.R_mono HO_196000.out (fun _ hk => ⟨hk.1, hk.2.1⟩)⟩, ⟨by (with_reducible repeat (first | apply Kd.R_alloc | apply Kd.R_drewN | apply Kd.R_drew)); exact Kd.R_mono HO_202000.out (fun _ hk => ⟨hk.1.1, hk.1.2⟩)⟩, ⟨by (with_reducible repeat (first | apply Kd.R_alloc | apply Kd.R_drewN | apply Kd.R_drew)); exact Kd.R_mono HO_210000.out (fun _ hk => ⟨hk.1, hk.2.1⟩)⟩, ⟨by (with_reducible repeat (first | refine blk_drewN ?_ _ | refine blk_drew ?_ | refine blk_alloc ?_ _)); exact BK181.out⟩, ⟨by (with_reducible repeat (first | refine blk_drewN ?_ _ | refine blk_drew ?_ | refine blk_alloc ?_ _)); exact BK195.out⟩, ⟨by (with_reducible repeat (first | refine blk_drewN ?_ _ | refine blk_drew ?_ | refine blk_alloc ?_ _)); exact BK201.out⟩, ⟨by (with_reducible repeat (first | refine blk_drewN ?_ _ | refine blk_drew ?_ | refine blk_alloc ?_ _)); exact BK209.out⟩, ⟨by repeat (first | (with_reducible first | exact HB.out | apply below_alloc | apply pw_below_drewN | apply below_drew1 | refine below_set ?_ GE181.out | refine below_set ?_ GE195.out | refine below_set ?_ GE201.out | refine below_set ?_ GE209.out) | exact HB.out)⟩⟩
              · rw [if_neg c83] at H
                have c83b0 : decide (t217 < 0) = false := decide_eq_false c83
                clear c83
                (first | rw [c83b0] | (simp only [i64_w, i32_w]; rw [c83b0]) | skip)
                replace H := Option.bind_eq_some_iff.mp H
                obtain ⟨t219, A840, H⟩ := H
                replace H : (if t219 = true then (if t207 = t193 then (laws_FnExactPopRing.j1 kj10 t193 t194 (t208 != t194) l0_0 a0_1 a0_2 t188 t191 t192 t202 t205 t206) else (laws_FnExactPopRing.j1 kj10 t193 t194 true l0_0 a0_1 a0_2 t188 t191 t192 t202 t205 t206)) else (laws_FnExactPopRing.j1 kj10 t193 t194 true l0_0 a0_1 a0_2 t188 t191 t192 t202 t205 t206)) = some r := H
                have A84 := Aside0.mk A840
                clear A840
                by_cases c85 : t219 = true
                · subst c85
                  have H1 : (if t207 = t193 then (laws_FnExactPopRing.j1 kj10 t193 t194 (t208 != t194) l0_0 a0_1 a0_2 t188 t191 t192 t202 t205 t206) else (laws_FnExactPopRing.j1 kj10 t193 t194 true l0_0 a0_1 a0_2 t188 t191 t192 t202 t205 t206)) = some r := by rw [if_pos rfl] at H; exact H
                  clear H
                  have H := H1
                  clear H1
                  by_cases c86 : t207 = t193
                  · rw [if_pos c86] at H
                    have c86b0 : (t207 == t193) = true := beq_iff_eq.mpr c86
                    have c86b1 : (t207 != t193) = false := bne_eq_false_iff_eq.mpr c86
                    clear c86
                    have H' := Aside0.mk H
                    clear H
                    have hnb87 := NB209_181.out
                    have hnc87 := NB181_209.out
                    have hnb88 := NB209_195.out
                    have hnc88 := NB195_209.out
                    have hnb89 := NB209_201.out
                    have hnc89 := NB201_209.out
                    have hcz90_0 : w82.cell? ⟨gb209, 0, none⟩ = some (.slice Ao35 t202.length co35) := (blk_cell BK209.out 0).trans rfl
                    have hcz90_1 : w82.cell? ⟨gb209, 1, none⟩ = some (.int .i64 t205) := (blk_cell BK209.out 1).trans rfl
                    have hcz90_2 : w82.cell? ⟨gb209, 2, none⟩ = some (.int .i64 t206) := (blk_cell BK209.out 2).trans rfl
                    have hfz90_0 := blk_frozen BK209.out 0
                    have hfz90_1 := blk_frozen BK209.out 1
                    have hfz90_2 := blk_frozen BK209.out 2
                    have hnb91 := NB195_181.out
                    have hnc91 := NB181_195.out
                    have hnb92 := NB195_201.out
                    have hnc92 := NB201_195.out
                    have hcz93_0 : w82.cell? ⟨gb195, 0, none⟩ = some (.slice Ao20 t188.length co20) := (blk_cell BK195.out 0).trans rfl
                    have hcz93_1 : w82.cell? ⟨gb195, 1, none⟩ = some (.int .i64 t191) := (blk_cell BK195.out 1).trans rfl
                    have hcz93_2 : w82.cell? ⟨gb195, 2, none⟩ = some (.int .i64 t192) := (blk_cell BK195.out 2).trans rfl
                    have hfz93_0 := blk_frozen BK195.out 0
                    have hfz93_1 := blk_frozen BK195.out 1
                    have hfz93_2 := blk_frozen BK195.out 2
                    go_wp2_with (first | (go_at_call 19; (with_reducible refine (laws_eqRing.calls kj10 _ _ t202 t205 t206 _ _ t188 t191 t192 true _ ?side1 ?side2 ?side3 ?side4 A84.out).mono ?_); (case side1 => repeat (first | exact (Kd.R_reads' HO_210000.out).2.2 | (with_reducible refine Kd.C_alloc ?_ _) | (with_reducible refine Kd.C_drewN ?_ _) | (with_reducible refine Kd.C_drew ?_))); (case side2 => exact (Kd.R_reads' HO_210000.out).2.1); (case side3 => repeat (first | exact (Kd.R_reads' HO_196000.out).2.2 | (with_reducible refine Kd.C_alloc ?_ _) | (with_reducible refine Kd.C_drewN ?_ _) | (with_reducible refine Kd.C_drew ?_))); (case side4 => exact (Kd.R_reads' HO_196000.out).2.1); rintro e w94 ⟨rfl, hb⟩; have n0_ := Aside0.mk (Kd.R_below (by (with_reducible repeat (first | apply Kd.R_alloc | apply Kd.R_drewN | apply Kd.R_drew)); exact HO_196000.out) hb); have n1_ := Aside0.mk (Kd.R_below (by (with_reducible repeat (first | apply Kd.R_alloc | apply Kd.R_drewN | apply Kd.R_drew)); exact HO_202000.out) hb); have n2_ := Aside0.mk (Kd.R_below (by (with_reducible repeat (first | apply Kd.R_alloc | apply Kd.R_drewN | apply Kd.R_drew)); exact HO_210000.out) hb); have n3_ := Aside0.mk (Kd.R_below (by (with_reducible repeat (first | apply Kd.R_alloc | apply Kd.R_drewN | apply Kd.R_drew)); exact HO213.out) hb); have n4_ := Aside0.mk (blk_below (g := gb181) (o := .cells #[.slice A0_0 l0_0.length c0_0, .int .i64 a0_1, .int .i64 a0_2] 24 (0, 0)) (by (with_reducible repeat (first | refine blk_drewN ?_ _ | refine blk_drew ?_ | refine blk_alloc ?_ _)); exact BK181.out) hb); have n5_ := Aside0.mk (blk_below (g := gb195) (o := .cells #[.slice Ao20 t188.length co20, .int .i64 t191, .int .i64 t192] 29 (0, 0)) (by (with_reducible repeat (first | refine blk_drewN ?_ _ | refine blk_drew ?_ | refine blk_alloc ?_ _)); exact BK195.out) hb); have n6_ := Aside0.mk (blk_below (g := gb201) (o := .cells #[.slice Ao27 t196.length co27, .int .i64 t199, .int .i64 t200] 29 (0, 0)) (by (with_reducible repeat (first | refine blk_drewN ?_ _ | refine blk_drew ?_ | refine blk_alloc ?_ _)); exact BK201.out) hb); have n7_ := Aside0.mk (blk_below (g := gb209) (o := .cells #[.slice Ao35 t202.length co35, .int .i64 t205, .int .i64 t206] 29 (0, 0)) (by (with_reducible repeat (first | refine blk_drewN ?_ _ | refine blk_drew ?_ | refine blk_alloc ?_ _)); exact BK209.out) hb); have n8_ := Aside0.mk (below_step (by repeat (first | (with_reducible first | exact HB.out | apply below_alloc | apply pw_below_drewN | apply below_drew1 | refine below_set ?_ GE181.out | refine below_set ?_ GE195.out | refine below_set ?_ GE201.out | refine below_set ?_ GE209.out) | exact HB.out)) hb); clear HO_196000; clear HO_202000; clear HO_210000; clear HO213; clear BK181; clear BK195; clear BK201; clear BK209; clear HB; have HO_196000 := n0_; have HO_202000 := n1_; have HO_210000 := n2_; have HO213 := n3_; have BK181 := n4_; have BK195 := n5_; have BK201 := n6_; have BK209 := n7_; have HB := n8_; clear n0_ n1_ n2_ n3_ n4_ n5_ n6_ n7_ n8_; (try clear hb); (try clear hb2); (try clear hk); (try clear hi)))
                    go_meet
                    case rel => exact ⟨_, ((t208 != t194)), (by first | rfl | (simp; done) | (simp [*]; done)), H', ⟨by have := HJ10.out; first | omega | exact Nat.le_refl _⟩, ⟨by (with_reducible repeat (first | apply Kd.R_alloc | apply Kd.R_drewN | apply Kd.R_drew)); exact Kd.R_mono HO_196000.out (fun _ hk => ⟨hk.1, hk.2.1⟩)⟩, ⟨by (with_reducible repeat (first | apply Kd.R_alloc | apply Kd.R_drewN | apply Kd.R_drew)); exact Kd.R_mono HO_202000.out (fun _ hk => ⟨hk.1.1, hk.1.2⟩)⟩, ⟨by (with_reducible repeat (first | apply Kd.R_alloc | apply Kd.R_drewN | apply Kd.R_drew)); exact Kd.R_mono HO_210000.out (fun _ hk => ⟨hk.1, hk.2.1⟩)⟩, ⟨by (with_reducible repeat (first | refine blk_drewN ?_ _ | refine blk_drew ?_ | refine blk_alloc ?_ _)); exact BK181.out⟩, ⟨by (with_reducible repeat (first | refine blk_drewN ?_ _ | refine blk_drew ?_ | refine blk_alloc ?_ _)); exact BK195.out⟩, ⟨by (with_reducible repeat (first | refine blk_drewN ?_ _ | refine blk_drew ?_ | refine blk_alloc ?_ _)); exact BK201.out⟩, ⟨by (with_reducible repeat (first | refine blk_drewN ?_ _ | refine blk_drew ?_ | refine blk_alloc ?_ _)); exact BK209.out⟩, ⟨by repeat (first | (with_reducible first | exact HB.out | apply below_alloc | apply pw_below_drewN | apply below_drew1 | refine below_set ?_ GE181.out | refine below_set ?_ GE195.out | refine below_set ?_ GE201.out | refine below_set ?_ GE209.out) | exact HB.out)⟩⟩
                  · rw [if_neg c86] at H
                    have c86b0 : (t207 == t193) = false := beq_eq_false_iff_ne.mpr c86
                    have c86b1 : (t207 != t193) = true := bne_iff_ne.mpr c86
                    have H' := Aside0.mk H
                    clear H
                    have hnb95 := NB209_181.out
                    have hnc95 := NB181_209.out
                    have hnb96 := NB209_195.out
                    have hnc96 := NB195_209.out
                    have hnb97 := NB209_201.out
                    have hnc97 := NB201_209.out
                    have hcz98_0 : w82.cell? ⟨gb209, 0, none⟩ = some (.slice Ao35 t202.length co35) := (blk_cell BK209.out 0).trans rfl
                    have hcz98_1 : w82.cell? ⟨gb209, 1, none⟩ = some (.int .i64 t205) := (blk_cell BK209.out 1).trans rfl
                    have hcz98_2 : w82.cell? ⟨gb209, 2, none⟩ = some (.int .i64 t206) := (blk_cell BK209.out 2).trans rfl
                    have hfz98_0 := blk_frozen BK209.out 0
                    have hfz98_1 := blk_frozen BK209.out 1
                    have hfz98_2 := blk_frozen BK209.out 2
                    have hnb99 := NB195_181.out
                    have hnc99 := NB181_195.out
                    have hnb100 := NB195_201.out
                    have hnc100 := NB201_195.out
                    have hcz101_0 : w82.cell? ⟨gb195, 0, none⟩ = some (.slice Ao20 t188.length co20) := (blk_cell BK195.out 0).trans rfl
                    have hcz101_1 : w82.cell? ⟨gb195, 1, none⟩ = some (.int .i64 t191) := (blk_cell BK195.out 1).trans rfl
                    have hcz101_2 : w82.cell? ⟨gb195, 2, none⟩ = some (.int .i64 t192) := (blk_cell BK195.out 2).trans rfl
                    have hfz101_0 := blk_frozen BK195.out 0
                    have hfz101_1 := blk_frozen BK195.out 1
                    have hfz101_2 := blk_frozen BK195.out 2
                    go_wp2_with (first | (go_at_call 19; (with_reducible refine (laws_eqRing.calls kj10 _ _ t202 t205 t206 _ _ t188 t191 t192 true _ ?side1 ?side2 ?side3 ?side4 A84.out).mono ?_); (case side1 => repeat (first | exact (Kd.R_reads' HO_210000.out).2.2 | (with_reducible refine Kd.C_alloc ?_ _) | (with_reducible refine Kd.C_drewN ?_ _) | (with_reducible refine Kd.C_drew ?_))); (case side2 => exact (Kd.R_reads' HO_210000.out).2.1); (case side3 => repeat (first | exact (Kd.R_reads' HO_196000.out).2.2 | (with_reducible refine Kd.C_alloc ?_ _) | (with_reducible refine Kd.C_drewN ?_ _) | (with_reducible refine Kd.C_drew ?_))); (case side4 => exact (Kd.R_reads' HO_196000.out).2.1); rintro e w102 ⟨rfl, hb⟩; have n0_ := Aside0.mk (Kd.R_below (by (with_reducible repeat (first | apply Kd.R_alloc | apply Kd.R_drewN | apply Kd.R_drew)); exact HO_196000.out) hb); have n1_ := Aside0.mk (Kd.R_below (by (with_reducible repeat (first | apply Kd.R_alloc | apply Kd.R_drewN | apply Kd.R_drew)); exact HO_202000.out) hb); have n2_ := Aside0.mk (Kd.R_below (by (with_reducible repeat (first | apply Kd.R_alloc | apply Kd.R_drewN | apply Kd.R_drew)); exact HO_210000.out) hb); have n3_ := Aside0.mk (Kd.R_below (by (with_reducible repeat (first | apply Kd.R_alloc | apply Kd.R_drewN | apply Kd.R_drew)); exact HO213.out) hb); have n4_ := Aside0.mk (blk_below (g := gb181) (o := .cells #[.slice A0_0 l0_0.length c0_0, .int .i64 a0_1, .int .i64 a0_2] 24 (0, 0)) (by (with_reducible repeat (first | refine blk_drewN ?_ _ | refine blk_drew ?_ | refine blk_alloc ?_ _)); exact BK181.out) hb); have n5_ := Aside0.mk (blk_below (g := gb195) (o := .cells #[.slice Ao20 t188.length co20, .int .i64 t191, .int .i64 t192] 29 (0, 0)) (by (with_reducible repeat (first | refine blk_drewN ?_ _ | refine blk_drew ?_ | refine blk_alloc ?_ _)); exact BK195.out) hb); have n6_ := Aside0.mk (blk_below (g := gb201) (o := .cells #[.slice Ao27 t196.length co27, .int .i64 t199, .int .i64 t200] 29 (0, 0)) (by (with_reducible repeat (first | refine blk_drewN ?_ _ | refine blk_drew ?_ | refine blk_alloc ?_ _)); exact BK201.out) hb); have n7_ := Aside0.mk (blk_below (g := gb209) (o := .cells #[.slice Ao35 t202.length co35, .int .i64 t205, .int .i64 t206] 29 (0, 0)) (by (with_reducible repeat (first | refine blk_drewN ?_ _ | refine blk_drew ?_ | refine blk_alloc ?_ _)); exact BK209.out) hb); have n8_ := Aside0.mk (below_step (by repeat (first | (with_reducible first | exact HB.out | apply below_alloc | apply pw_below_drewN | apply below_drew1 | refine below_set ?_ GE181.out | refine below_set ?_ GE195.out | refine below_set ?_ GE201.out | refine below_set ?_ GE209.out) | exact HB.out)) hb); clear HO_196000; clear HO_202000; clear HO_210000; clear HO213; clear BK181; clear BK195; clear BK201; clear BK209; clear HB; have HO_196000 := n0_; have HO_202000 := n1_; have HO_210000 := n2_; have HO213 := n3_; have BK181 := n4_; have BK195 := n5_; have BK201 := n6_; have BK209 := n7_; have HB := n8_; clear n0_ n1_ n2_ n3_ n4_ n5_ n6_ n7_ n8_; (try clear hb); (try clear hb2); (try clear hk); (try clear hi)))
                    go_meet
                    case rel => exact ⟨_, (true), (by first | rfl | (simp; done) | (simp [*]; done)), H', ⟨by have := HJ10.out; first | omega | exact Nat.le_refl _⟩, ⟨by (with_reducible repeat (first | apply Kd.R_alloc | apply Kd.R_drewN | apply Kd.R_drew)); exact Kd.R_mono HO_196000.out (fun _ hk => ⟨hk.1, hk.2.1⟩)⟩, ⟨by (with_reducible repeat (first | apply Kd.R_alloc | apply Kd.R_drewN | apply Kd.R_drew)); exact Kd.R_mono HO_202000.out (fun _ hk => ⟨hk.1.1, hk.1.2⟩)⟩, ⟨by (with_reducible repeat (first | apply Kd.R_alloc | apply Kd.R_drewN | apply Kd.R_drew)); exact Kd.R_mono HO_210000.out (fun _ hk => ⟨hk.1, hk.2.1⟩)⟩, ⟨by (with_reducible repeat (first | refine blk_drewN ?_ _ | refine blk_drew ?_ | refine blk_alloc ?_ _)); exact BK181.out⟩, ⟨by (with_reducible repeat (first | refine blk_drewN ?_ _ | refine blk_drew ?_ | refine blk_alloc ?_ _)); exact BK195.out⟩, ⟨by (with_reducible repeat (first | refine blk_drewN ?_ _ | refine blk_drew ?_ | refine blk_alloc ?_ _)); exact BK201.out⟩, ⟨by (with_reducible repeat (first | refine blk_drewN ?_ _ | refine blk_drew ?_ | refine blk_alloc ?_ _)); exact BK209.out⟩, ⟨by repeat (first | (with_reducible first | exact HB.out | apply below_alloc | apply pw_below_drewN | apply below_drew1 | refine below_set ?_ GE181.out | refine below_set ?_ GE195.out | refine below_set ?_ GE201.out | refine below_set ?_ GE209.out) | exact HB.out)⟩⟩
                · replace c85 := Bool.eq_false_iff.mpr c85
                  subst c85
                  have H1 : (laws_FnExactPopRing.j1 kj10 t193 t194 true l0_0 a0_1 a0_2 t188 t191 t192 t202 t205 t206) = some r := by rw [if_neg (show ¬ (false = true) by decide)] at H; exact H
                  clear H
                  have H := H1
                  clear H1
                  have H' := Aside0.mk H
                  clear H
                  have hnb103 := NB209_181.out
                  have hnc103 := NB181_209.out
                  have hnb104 := NB209_195.out
                  have hnc104 := NB195_209.out
                  have hnb105 := NB209_201.out
                  have hnc105 := NB201_209.out
                  have hcz106_0 : w82.cell? ⟨gb209, 0, none⟩ = some (.slice Ao35 t202.length co35) := (blk_cell BK209.out 0).trans rfl
                  have hcz106_1 : w82.cell? ⟨gb209, 1, none⟩ = some (.int .i64 t205) := (blk_cell BK209.out 1).trans rfl
                  have hcz106_2 : w82.cell? ⟨gb209, 2, none⟩ = some (.int .i64 t206) := (blk_cell BK209.out 2).trans rfl
                  have hfz106_0 := blk_frozen BK209.out 0
                  have hfz106_1 := blk_frozen BK209.out 1
                  have hfz106_2 := blk_frozen BK209.out 2
                  have hnb107 := NB195_181.out
                  have hnc107 := NB181_195.out
                  have hnb108 := NB195_201.out
                  have hnc108 := NB201_195.out
                  have hcz109_0 : w82.cell? ⟨gb195, 0, none⟩ = some (.slice Ao20 t188.length co20) := (blk_cell BK195.out 0).trans rfl
                  have hcz109_1 : w82.cell? ⟨gb195, 1, none⟩ = some (.int .i64 t191) := (blk_cell BK195.out 1).trans rfl
                  have hcz109_2 : w82.cell? ⟨gb195, 2, none⟩ = some (.int .i64 t192) := (blk_cell BK195.out 2).trans rfl
                  have hfz109_0 := blk_frozen BK195.out 0
                  have hfz109_1 := blk_frozen BK195.out 1
                  have hfz109_2 := blk_frozen BK195.out 2
                  go_wp2_with (first | (go_at_call 19; (with_reducible refine (laws_eqRing.calls kj10 _ _ t202 t205 t206 _ _ t188 t191 t192 false _ ?side1 ?side2 ?side3 ?side4 A84.out).mono ?_); (case side1 => repeat (first | exact (Kd.R_reads' HO_210000.out).2.2 | (with_reducible refine Kd.C_alloc ?_ _) | (with_reducible refine Kd.C_drewN ?_ _) | (with_reducible refine Kd.C_drew ?_))); (case side2 => exact (Kd.R_reads' HO_210000.out).2.1); (case side3 => repeat (first | exact (Kd.R_reads' HO_196000.out).2.2 | (with_reducible refine Kd.C_alloc ?_ _) | (with_reducible refine Kd.C_drewN ?_ _) | (with_reducible refine Kd.C_drew ?_))); (case side4 => exact (Kd.R_reads' HO_196000.out).2.1); rintro e w110 ⟨rfl, hb⟩; have n0_ := Aside0.mk (Kd.R_below (by (with_reducible repeat (first | apply Kd.R_alloc | apply Kd.R_drewN | apply Kd.R_drew)); exact HO_196000.out) hb); have n1_ := Aside0.mk (Kd.R_below (by (with_reducible repeat (first | apply Kd.R_alloc | apply Kd.R_drewN | apply Kd.R_drew)); exact HO_202000.out) hb); have n2_ := Aside0.mk (Kd.R_below (by (with_reducible repeat (first | apply Kd.R_alloc | apply Kd.R_drewN | apply Kd.R_drew)); exact HO_210000.out) hb); have n3_ := Aside0.mk (Kd.R_below (by (with_reducible repeat (first | apply Kd.R_alloc | apply Kd.R_drewN | apply Kd.R_drew)); exact HO213.out) hb); have n4_ := Aside0.mk (blk_below (g := gb181) (o := .cells #[.slice A0_0 l0_0.length c0_0, .int .i64 a0_1, .int .i64 a0_2] 24 (0, 0)) (by (with_reducible repeat (first | refine blk_drewN ?_ _ | refine blk_drew ?_ | refine blk_alloc ?_ _)); exact BK181.out) hb); have n5_ := Aside0.mk (blk_below (g := gb195) (o := .cells #[.slice Ao20 t188.length co20, .int .i64 t191, .int .i64 t192] 29 (0, 0)) (by (with_reducible repeat (first | refine blk_drewN ?_ _ | refine blk_drew ?_ | refine blk_alloc ?_ _)); exact BK195.out) hb); have n6_ := Aside0.mk (blk_below (g := gb201) (o := .cells #[.slice Ao27 t196.length co27, .int .i64 t199, .int .i64 t200] 29 (0, 0)) (by (with_reducible repeat (first | refine blk_drewN ?_ _ | refine blk_drew ?_ | refine blk_alloc ?_ _)); exact BK201.out) hb); have n7_ := Aside0.mk (blk_below (g := gb209) (o := .cells #[.slice Ao35 t202.length co35, .int .i64 t205, .int .i64 t206] 29 (0, 0)) (by (with_reducible repeat (first | refine blk_drewN ?_ _ | refine blk_drew ?_ | refine blk_alloc ?_ _)); exact BK209.out) hb); have n8_ := Aside0.mk (below_step (by repeat (first | (with_reducible first | exact HB.out | apply below_alloc | apply pw_below_drewN | apply below_drew1 | refine below_set ?_ GE181.out | refine below_set ?_ GE195.out | refine below_set ?_ GE201.out | refine below_set ?_ GE209.out) | exact HB.out)) hb); clear HO_196000; clear HO_202000; clear HO_210000; clear HO213; clear BK181; clear BK195; clear BK201; clear BK209; clear HB; have HO_196000 := n0_; have HO_202000 := n1_; have HO_210000 := n2_; have HO213 := n3_; have BK181 := n4_; have BK195 := n5_; have BK201 := n6_; have BK209 := n7_; have HB := n8_; clear n0_ n1_ n2_ n3_ n4_ n5_ n6_ n7_ n8_; (try clear hb); (try clear hb2); (try clear hk); (try clear hi)))
                  go_meet
                  case rel => exact ⟨_, (true), (by first | rfl | (simp; done) | (simp [*]; done)), H', ⟨by have := HJ10.out; first | omega | exact Nat.le_refl _⟩, ⟨by (with_reducible repeat (first | apply Kd.R_alloc | apply Kd.R_drewN | apply Kd.R_drew)); exact Kd.R_mono HO_196000.out (fun _ hk => ⟨hk.1, hk.2.1⟩)⟩, ⟨by (with_reducible repeat (first | apply Kd.R_alloc | apply Kd.R_drewN | apply Kd.R_drew)); exact Kd.R_mono HO_202000.out (fun _ hk => ⟨hk.1.1, hk.1.2⟩)⟩, ⟨by (with_reducible repeat (first | apply Kd.R_alloc | apply Kd.R_drewN | apply Kd.R_drew)); exact Kd.R_mono HO_210000.out (fun _ hk => ⟨hk.1, hk.2.1⟩)⟩, ⟨by (with_reducible repeat (first | refine blk_drewN ?_ _ | refine blk_drew ?_ | refine blk_alloc ?_ _)); exact BK181.out⟩, ⟨by (with_reducible repeat (first | refine blk_drewN ?_ _ | refine blk_drew ?_ | refine blk_alloc ?_ _)); exact BK195.out⟩, ⟨by (with_reducible repeat (first | refine blk_drewN ?_ _ | refine blk_drew ?_ | refine blk_alloc ?_ _)); exact BK201.out⟩, ⟨by (with_reducible repeat (first | refine blk_drewN ?_ _ | refine blk_drew ?_ | refine blk_alloc ?_ _)); exact BK209.out⟩, ⟨by repeat (first | (with_reducible first | exact HB.out | apply below_alloc | apply pw_below_drewN | apply below_drew1 | refine below_set ?_ GE181.out | refine below_set ?_ GE195.out | refine below_set ?_ GE201.out | refine below_set ?_ GE209.out) | exact HB.out)⟩⟩
            case rest =>
              clear HC73
              try clear c1
              try clear c2
              try clear p2
              try clear c3
              try clear c3b0
              try clear c4
              try clear c5
              try clear c6
              try clear c7
              try clear c8
              try clear c9
              try clear c10
              try clear c14
              try clear c16
              try clear c19
              try clear c21
              try clear c28
              try clear c29
              try clear c36
              try clear c37
              try clear c38
              try clear c42
              try clear c43
              try clear c43b0
              try clear c43b1
              try clear c44
              try clear c45
              try clear c46
              try clear c48
              try clear c49
              try clear c52
              try clear c53
              try clear c54
              try clear c56
              try clear c57
              try clear c60
              try clear c61
              try clear c62
              try clear c64
              try clear c65
              try clear c68
              try clear c71
              try clear c78
              try clear c79
              try clear c80
              try clear c83
              try clear c83b0
              try clear c85
              try clear c86
              try clear c86b0
              try clear c86b1
              try clear c87
              try clear c88
              try clear c89
              try clear c91
              try clear c92
              try clear c95
              try clear c96
              try clear c97
              try clear c99
              try clear c100
              try clear c103
              try clear c104
              try clear c105
              try clear c107
              try clear c108
              try clear hcz101_0
              try clear hcz101_1
              try clear hcz101_2
              try clear hcz106_0
              try clear hcz106_1
              try clear hcz106_2
              try clear hcz109_0
              try clear hcz109_1
              try clear hcz109_2
              try clear hcz13_0
              try clear hcz13_1
              try clear hcz13_2
              try clear hcz15_0
              try clear hcz15_1
              try clear hcz15_2
              try clear hcz22_0
              try clear hcz22_1
              try clear hcz22_2
              try clear hcz24_0
              try clear hcz24_1
              try clear hcz24_2
              try clear hcz30_0
              try clear hcz30_1
              try clear hcz30_2
              try clear hcz32_0
              try clear hcz32_1
              try clear hcz32_2
              try clear hcz39_0
              try clear hcz39_1
              try clear hcz39_2
              try clear hcz47_0
              try clear hcz47_1
              try clear hcz47_2
              try clear hcz50_0
              try clear hcz50_1
              try clear hcz50_2
              try clear hcz55_0
              try clear hcz55_1
              try clear hcz55_2
              try clear hcz58_0
              try clear hcz58_1
              try clear hcz58_2
              try clear hcz5_0
              try clear hcz5_1
              try clear hcz5_2
              try clear hcz63_0
              try clear hcz63_1
              try clear hcz63_2
              try clear hcz66_0
              try clear hcz66_1
              try clear hcz66_2
              try clear hcz81_0
              try clear hcz81_1
              try clear hcz81_2
              try clear hcz90_0
              try clear hcz90_1
              try clear hcz90_2
              try clear hcz93_0
              try clear hcz93_1
              try clear hcz93_2
              try clear hcz98_0
              try clear hcz98_1
              try clear hcz98_2
              try clear hfz101_0
              try clear hfz101_1
              try clear hfz101_2
              try clear hfz106_0
              try clear hfz106_1
              try clear hfz106_2
              try clear hfz109_0
              try clear hfz109_1
              try clear hfz109_2
              try clear hfz13_0
              try clear hfz13_1
              try clear hfz13_2
              try clear hfz15_0
              try clear hfz15_1
              try clear hfz15_2
              try clear hfz22_0
              try clear hfz22_1
              try clear hfz22_2
              try clear hfz24_0
              try clear hfz24_1
              try clear hfz24_2
              try clear hfz30_0
              try clear hfz30_1
              try clear hfz30_2
              try clear hfz32_0
              try clear hfz32_1
              try clear hfz32_2
              try clear hfz39_0
              try clear hfz39_1
              try clear hfz39_2
              try clear hfz47_0
              try clear hfz47_1
              try clear hfz47_2
              try clear hfz50_0
              try clear hfz50_1
              try clear hfz50_2
              try clear hfz55_0
              try clear hfz55_1
              try clear hfz55_2
              try clear hfz58_0
              try clear hfz58_1
              try clear hfz58_2
              try clear hfz5_0
              try clear hfz5_1
              try clear hfz5_2
              try clear hfz63_0
              try clear hfz63_1
              try clear hfz63_2
              try clear hfz66_0
              try clear hfz66_1
              try clear hfz66_2
              try clear hfz81_0
              try clear hfz81_1
              try clear hfz81_2
              try clear hfz90_0
              try clear hfz90_1
              try clear hfz90_2
              try clear hfz93_0
              try clear hfz93_1
              try clear hfz93_2
              try clear hfz98_0
              try clear hfz98_1
              try clear hfz98_2
              try clear p2
              obtain ⟨kq, x76_72, rfl, HA, HJ72, HO_196000, HO_202000, HO_210000, BK181, BK195, BK201, BK209, HB⟩ := hcut
              have hl202000_72 := (Kd.R_reads' HO_202000.out).1
              rw [hl202000_72] at HO_202000
              (try simp only [hl202000_72])
              (try simp only [hl202000_72] at BK181)
              (try simp only [hl202000_72] at BK195)
              (try simp only [hl202000_72] at BK201)
              (try simp only [hl202000_72] at BK209)
              (try simp only [hl202000_72] at HO_196000)
              (try simp only [hl202000_72] at HO_210000)
              cases kq with
              | zero => exact absurd HA.out (by simp [laws_FnExactPopRing.j1])
              | succ kj72 =>
                have H := HA.out
                clear HA
                simp only [laws_FnExactPopRing.j1] at H
                by_cases c111 : x76_72 = true
                · subst c111
                  have H1 : (some false) = some r := by rw [if_pos rfl] at H; exact H
                  clear H
                  have H := H1
                  clear H1
                  exact absurd ((Option.some.inj H).trans hT.out) (by decide)
                · replace c111 := Bool.eq_false_iff.mpr c111
                  subst c111
                  have H1 : ((laws_markRing.f kj72 t202 t205 t206 1).bind fun bt220 => ((laws_heldRing.f kj72 bt220.2 t205 t206 1).bind fun t222 => (if t222 < 0 then (some false) else (if t222 = bt220.1 then ((laws_toRing.f kj72 l0_0 a0_1 a0_2).bind fun bt223 => ((impl_PopRing.f kj72 bt223.1 bt223.2.1 bt223.2.2).bind fun bt228 => ((laws_eqRing.f kj72 bt228.1 bt228.2.1 bt228.2.2.1 t188 t191 t192).bind fun t236 => (if t236 = true then (if bt228.2.2.2.1 = t193 then (laws_FnExactPopRing.j2 kj72 bt220.1 (bt228.2.2.2.2 != t194) bt220.2 t205 t206) else (laws_FnExactPopRing.j2 kj72 bt220.1 true bt220.2 t205 t206)) else (laws_FnExactPopRing.j2 kj72 bt220.1 true bt220.2 t205 t206))))) else (some false))))) = some r := by rw [if_neg (show ¬ (false = true) by decide)] at H; exact H
                  clear H
                  have H := H1
                  clear H1
                  replace H := Option.bind_eq_some_iff.mp H
                  obtain ⟨⟨t220, t221⟩, A1120, H⟩ := H
                  replace H : ((laws_heldRing.f kj72 t221 t205 t206 1).bind fun t222 => (if t222 < 0 then (some false) else (if t222 = t220 then ((laws_toRing.f kj72 l0_0 a0_1 a0_2).bind fun bt223 => ((impl_PopRing.f kj72 bt223.1 bt223.2.1 bt223.2.2).bind fun bt228 => ((laws_eqRing.f kj72 bt228.1 bt228.2.1 bt228.2.2.1 t188 t191 t192).bind fun t236 => (if t236 = true then (if bt228.2.2.2.1 = t193 then (laws_FnExactPopRing.j2 kj72 t220 (bt228.2.2.2.2 != t194) t221 t205 t206) else (laws_FnExactPopRing.j2 kj72 t220 true t221 t205 t206)) else (laws_FnExactPopRing.j2 kj72 t220 true t221 t205 t206))))) else (some false)))) = some r := H
                  have A112 := Aside0.mk A1120
                  clear A1120
                  replace H := Option.bind_eq_some_iff.mp H
                  obtain ⟨t222, A1130, H⟩ := H
                  replace H : (if t222 < 0 then (some false) else (if t222 = t220 then ((laws_toRing.f kj72 l0_0 a0_1 a0_2).bind fun bt223 => ((impl_PopRing.f kj72 bt223.1 bt223.2.1 bt223.2.2).bind fun bt228 => ((laws_eqRing.f kj72 bt228.1 bt228.2.1 bt228.2.2.1 t188 t191 t192).bind fun t236 => (if t236 = true then (if bt228.2.2.2.1 = t193 then (laws_FnExactPopRing.j2 kj72 t220 (bt228.2.2.2.2 != t194) t221 t205 t206) else (laws_FnExactPopRing.j2 kj72 t220 true t221 t205 t206)) else (laws_FnExactPopRing.j2 kj72 t220 true t221 t205 t206))))) else (some false))) = some r := H
                  have A113 := Aside0.mk A1130
                  clear A1130
                  by_cases c114 : t222 < 0
                  · rw [if_pos c114] at H
                    have c114b0 : decide (t222 < 0) = true := decide_eq_true c114
                    clear c114
                    exact absurd ((Option.some.inj H).trans hT.out) (by decide)
                  · rw [if_neg c114] at H
                    have c114b0 : decide (t222 < 0) = false := decide_eq_false c114
                    clear c114
                    by_cases c115 : t222 = t220
                    · rw [if_pos c115] at H
                      have c115b0 : (t222 == t220) = true := beq_iff_eq.mpr c115
                      have c115b1 : (t222 != t220) = false := bne_eq_false_iff_eq.mpr c115
                      clear c115
                      replace H := Option.bind_eq_some_iff.mp H
                      obtain ⟨⟨t223, t226, t227⟩, A1160, H⟩ := H
                      replace H : ((impl_PopRing.f kj72 t223 t226 t227).bind fun bt228 => ((laws_eqRing.f kj72 bt228.1 bt228.2.1 bt228.2.2.1 t188 t191 t192).bind fun t236 => (if t236 = true then (if bt228.2.2.2.1 = t193 then (laws_FnExactPopRing.j2 kj72 t220 (bt228.2.2.2.2 != t194) t221 t205 t206) else (laws_FnExactPopRing.j2 kj72 t220 true t221 t205 t206)) else (laws_FnExactPopRing.j2 kj72 t220 true t221 t205 t206)))) = some r := H
                      have A116 := Aside0.mk A1160
                      clear A1160
                      replace H := Option.bind_eq_some_iff.mp H
                      obtain ⟨⟨t228, t231, t232, t233, t234⟩, A1170, H⟩ := H
                      replace H : ((laws_eqRing.f kj72 t228 t231 t232 t188 t191 t192).bind fun t236 => (if t236 = true then (if t233 = t193 then (laws_FnExactPopRing.j2 kj72 t220 (t234 != t194) t221 t205 t206) else (laws_FnExactPopRing.j2 kj72 t220 true t221 t205 t206)) else (laws_FnExactPopRing.j2 kj72 t220 true t221 t205 t206))) = some r := H
                      have A117 := Aside0.mk A1170
                      clear A1170
                      have HC118 := Aside0.mk H
                      clear H
                      have hnb119 := NB209_181.out
                      have hnc119 := NB181_209.out
                      have hnb120 := NB209_195.out
                      have hnc120 := NB195_209.out
                      have hnb121 := NB209_201.out
                      have hnc121 := NB201_209.out
                      have hcz122_0 : wc.cell? ⟨gb209, 0, none⟩ = some (.slice Ao35 t202.length co35) := (blk_cell BK209.out 0).trans rfl
                      have hcz122_1 : wc.cell? ⟨gb209, 1, none⟩ = some (.int .i64 t205) := (blk_cell BK209.out 1).trans rfl
                      have hcz122_2 : wc.cell? ⟨gb209, 2, none⟩ = some (.int .i64 t206) := (blk_cell BK209.out 2).trans rfl
                      have hfz122_0 := blk_frozen BK209.out 0
                      have hfz122_1 := blk_frozen BK209.out 1
                      have hfz122_2 := blk_frozen BK209.out 2
                      go_upto_region 25 with (first | ((with_reducible refine gate_callee (f := 43) rfl ?_); refine goesL_ (some 79) rfl rfl Try.func43 (by kernel_rfl) rfl #[.agg #[.slice Ao35 t202.length co35, .int .i64 t205, .int .i64 t206], .int .i64 1] rfl (by (try simp only [List.map_toArray, List.map_cons, List.map_nil]); first | done | rfl | (simp only [List.length_drop, List.length_take]; rfl)) ?_; (with_reducible refine (laws_markRing.calls kj72 (fun k_ => some k_ = (.slice Ao35 t202.length co35 : Value).ownBlock) (.slice Ao35 t202.length co35) t202 t205 t206 1 t220 t221 w _ ?side1 ?side2 A112.out).mono ?_); (case side1 => repeat (first | (with_reducible first | exact HB.out | apply below_alloc | apply pw_below_drewN | apply below_drew1 | refine below_set ?_ GE181.out | refine below_set ?_ GE195.out | refine below_set ?_ GE201.out | refine below_set ?_ GE209.out) | exact HB.out)); (case side2 => exact Kd.R_tight rfl HO_210000.out); rintro e w123 ⟨rfl, hy0, hb, hkp⟩; refine ⟨_, rfl, ?_⟩; have n0_ := Aside0.mk (Kd.R_mono (ok' := fun k_ => some k_ ≠ (.slice Ao27 t218.length co27 : Value).ownBlock ∧ some k_ ≠ (.slice Ao35 t202.length co35 : Value).ownBlock) (Kd.R_keptB (HO_196000.out) hkp (fun k_ hk_ hs_ => (hk_.2) hs_)) (fun k_ hk_ => ⟨hk_.1.1, hk_.1.2⟩)); have n1_ := Aside0.mk (Kd.R_mono (ok' := fun k_ => some k_ ≠ (.slice Ao20 t188.length co20 : Value).ownBlock ∧ some k_ ≠ (.slice Ao35 t202.length co35 : Value).ownBlock) (Kd.R_keptB (HO_202000.out) hkp (fun k_ hk_ hs_ => (hk_.2) hs_)) (fun k_ hk_ => ⟨hk_.1.1, hk_.1.2⟩)); have n2_ := Aside0.mk (Kd.R_reok rfl hy0 (fun k_ e_ => HO_210000.out.1 k_ e_)); have n3_ := Aside0.mk (blk_kept (by (with_reducible repeat (first | refine blk_drewN ?_ _ | refine blk_drew ?_ | refine blk_alloc ?_ _)); exact BK181.out) hkp (fun hs_ => (fun e_ => (Kd.R_ne HO_210000.out BK181.out (by decide)) e_) hs_)); have n4_ := Aside0.mk (blk_kept (by (with_reducible repeat (first | refine blk_drewN ?_ _ | refine blk_drew ?_ | refine blk_alloc ?_ _)); exact BK195.out) hkp (fun hs_ => (fun e_ => (Kd.R_ne HO_210000.out BK195.out (by decide)) e_) hs_)); have n5_ := Aside0.mk (blk_kept (by (with_reducible repeat (first | refine blk_drewN ?_ _ | refine blk_drew ?_ | refine blk_alloc ?_ _)); exact BK201.out) hkp (fun hs_ => (fun e_ => (Kd.R_ne HO_210000.out BK201.out (by decide)) e_) hs_)); have n6_ := Aside0.mk (blk_kept (by (with_reducible repeat (first | refine blk_drewN ?_ _ | refine blk_drew ?_ | refine blk_alloc ?_ _)); exact BK209.out) hkp (fun hs_ => (fun e_ => (Kd.R_ne HO_210000.out BK209.out (by decide)) e_) hs_)); have n7_ := Aside0.mk (hb); clear HO_196000; clear HO_202000; clear HO_210000; clear BK181; clear BK195; clear BK201; clear BK209; clear HB; have HO_196000 := n0_; have HO_202000 := n1_; have HO_210000 := n2_; have BK181 := n3_; have BK195 := n4_; have BK201 := n5_; have BK209 := n6_; have HB := n7_; clear n0_ n1_ n2_ n3_ n4_ n5_ n6_ n7_; (try clear hb); (try clear hkp); (try clear hy0); have hcz124_0 : w123.cell? ⟨gb209, 0, none⟩ = some (.slice Ao35 t202.length co35) := (blk_cell BK209.out 0).trans rfl; have hcz124_1 : w123.cell? ⟨gb209, 1, none⟩ = some (.int .i64 t205) := (blk_cell BK209.out 1).trans rfl; have hcz124_2 : w123.cell? ⟨gb209, 2, none⟩ = some (.int .i64 t206) := (blk_cell BK209.out 2).trans rfl; have hfz124_0 := blk_frozen BK209.out 0; have hfz124_1 := blk_frozen BK209.out 1; have hfz124_2 := blk_frozen BK209.out 2) | ((with_reducible refine gate_callee (f := 52) rfl ?_); refine goesL_ (some 82) rfl rfl Try.func52 (by kernel_rfl) rfl #[.agg #[.slice Ao35 t221.length co35, .int .i64 t205, .int .i64 t206], .int .i64 1] rfl (by (try simp only [List.map_toArray, List.map_cons, List.map_nil]); first | done | (rw [show t221.length = t202.length from (Kd.R_reads' HO_210000.out).1.symm] <;> rfl) | rfl | (simp only [List.length_drop, List.length_take]; rfl)) ?_; (with_reducible refine (laws_heldRing.calls kj72 _ _ t221 t205 t206 1 t222 _ ?side1 ?side2 A113.out).mono ?_); (case side1 => repeat (first | exact (Kd.R_reads' HO_210000.out).2.2 | (with_reducible refine Kd.C_alloc ?_ _) | (with_reducible refine Kd.C_drewN ?_ _) | (with_reducible refine Kd.C_drew ?_))); (case side2 => rw [show t221.length = t202.length from (Kd.R_reads' HO_210000.out).1.symm]; exact (Kd.R_reads' HO_210000.out).2.1); rintro e w125 ⟨rfl, hb⟩; refine ⟨_, rfl, ?_⟩; have n0_ := Aside0.mk (Kd.R_below (by (with_reducible repeat (first | apply Kd.R_alloc | apply Kd.R_drewN | apply Kd.R_drew)); exact HO_196000.out) hb); have n1_ := Aside0.mk (Kd.R_below (by (with_reducible repeat (first | apply Kd.R_alloc | apply Kd.R_drewN | apply Kd.R_drew)); exact HO_202000.out) hb); have n2_ := Aside0.mk (Kd.R_below (by (with_reducible repeat (first | apply Kd.R_alloc | apply Kd.R_drewN | apply Kd.R_drew)); exact HO_210000.out) hb); have n3_ := Aside0.mk (blk_below (g := gb181) (o := .cells #[.slice A0_0 l0_0.length c0_0, .int .i64 a0_1, .int .i64 a0_2] 24 (0, 0)) (by (with_reducible repeat (first | refine blk_drewN ?_ _ | refine blk_drew ?_ | refine blk_alloc ?_ _)); exact BK181.out) hb); have n4_ := Aside0.mk (blk_below (g := gb195) (o := .cells #[.slice Ao20 t188.length co20, .int .i64 t191, .int .i64 t192] 29 (0, 0)) (by (with_reducible repeat (first | refine blk_drewN ?_ _ | refine blk_drew ?_ | refine blk_alloc ?_ _)); exact BK195.out) hb); have n5_ := Aside0.mk (blk_below (g := gb201) (o := .cells #[.slice Ao27 t218.length co27, .int .i64 t199, .int .i64 t200] 29 (0, 0)) (by (with_reducible repeat (first | refine blk_drewN ?_ _ | refine blk_drew ?_ | refine blk_alloc ?_ _)); exact BK201.out) hb); have n6_ := Aside0.mk (blk_below (g := gb209) (o := .cells #[.slice Ao35 t202.length co35, .int .i64 t205, .int .i64 t206] 29 (0, 0)) (by (with_reducible repeat (first | refine blk_drewN ?_ _ | refine blk_drew ?_ | refine blk_alloc ?_ _)); exact BK209.out) hb); have n7_ := Aside0.mk (below_step (by repeat (first | (with_reducible first | exact HB.out | apply below_alloc | apply pw_below_drewN | apply below_drew1 | refine below_set ?_ GE181.out | refine below_set ?_ GE195.out | refine below_set ?_ GE201.out | refine below_set ?_ GE209.out) | exact HB.out)) hb); clear HO_196000; clear HO_202000; clear HO_210000; clear BK181; clear BK195; clear BK201; clear BK209; clear HB; have HO_196000 := n0_; have HO_202000 := n1_; have HO_210000 := n2_; have BK181 := n3_; have BK195 := n4_; have BK201 := n5_; have BK209 := n6_; have HB := n7_; clear n0_ n1_ n2_ n3_ n4_ n5_ n6_ n7_; (try clear hb); (try clear hb2); (try clear hk); (try clear hi); have hnb126 := NB181_195.out; have hnc126 := NB195_181.out; have hnb127 := NB181_201.out; have hnc127 := NB201_181.out; have hcz128_0 : w125.cell? ⟨gb181, 0, none⟩ = some (.slice A0_0 l0_0.length c0_0) := (blk_cell BK181.out 0).trans rfl; have hcz128_1 : w125.cell? ⟨gb181, 1, none⟩ = some (.int .i64 a0_1) := (blk_cell BK181.out 1).trans rfl; have hcz128_2 : w125.cell? ⟨gb181, 2, none⟩ = some (.int .i64 a0_2) := (blk_cell BK181.out 2).trans rfl; have hfz128_0 := blk_frozen BK181.out 0; have hfz128_1 := blk_frozen BK181.out 1; have hfz128_2 := blk_frozen BK181.out 2) | ((with_reducible refine gate_callee (f := 16) rfl ?_); refine goesL_ (some 90) rfl rfl Try.func16 (by kernel_rfl) rfl #[.agg #[.slice A0_0 l0_0.length c0_0, .int .i64 a0_1, .int .i64 a0_2]] rfl (by (try simp only [List.map_toArray, List.map_cons, List.map_nil]); first | done | rfl | (simp only [List.length_drop, List.length_take]; rfl)) ?_; (with_reducible refine (laws_toRing.calls kj72 _ _ l0_0 a0_1 a0_2 t223 t226 t227 _ ?side1 ?side2 A116.out).mono ?_); (case side1 => repeat (first | exact (Kd.C_below HR0_0.out HB.out) | (with_reducible refine Kd.C_alloc ?_ _) | (with_reducible refine Kd.C_drewN ?_ _) | (with_reducible refine Kd.C_drew ?_))); (case side2 => exact HC0_0.out); rintro e w129 ⟨v224, rfl, ho0, hb⟩; refine ⟨_, rfl, ?_⟩; have n0_ := Aside0.mk (Kd.R_elder' (by (with_reducible repeat (first | apply Kd.R_alloc | apply Kd.R_drewN | apply Kd.R_drew)); exact HO_196000.out) (Kd.R_base ho0) hb); have n1_ := Aside0.mk (Kd.R_elder' (by (with_reducible repeat (first | apply Kd.R_alloc | apply Kd.R_drewN | apply Kd.R_drew)); exact HO_202000.out) (Kd.R_base ho0) hb); have n2_ := Aside0.mk (Kd.R_elder' (by (with_reducible repeat (first | apply Kd.R_alloc | apply Kd.R_drewN | apply Kd.R_drew)); exact HO_210000.out) (Kd.R_base ho0) hb); have n3_ := Aside0.mk (Kd.R_lower (Kd.R_new' (Kd.R_new' (Kd.R_new' ho0 (Kd.R_lt (by (with_reducible repeat (first | apply Kd.R_alloc | apply Kd.R_drewN | apply Kd.R_drew)); exact HO_196000.out))) (Kd.R_lt (by (with_reducible repeat (first | apply Kd.R_alloc | apply Kd.R_drewN | apply Kd.R_drew)); exact HO_202000.out))) (Kd.R_lt (by (with_reducible repeat (first | apply Kd.R_alloc | apply Kd.R_drewN | apply Kd.R_drew)); exact HO_210000.out))) (below_size (by repeat (first | (with_reducible first | exact HB.out | apply below_alloc | apply pw_below_drewN | apply below_drew1 | refine below_set ?_ GE181.out | refine below_set ?_ GE195.out | refine below_set ?_ GE201.out | refine below_set ?_ GE209.out) | exact HB.out)))); have n4_ := Aside0.mk (blk_below (g := gb181) (o := .cells #[.slice A0_0 l0_0.length c0_0, .int .i64 a0_1, .int .i64 a0_2] 24 (0, 0)) (by (with_reducible repeat (first | refine blk_drewN ?_ _ | refine blk_drew ?_ | refine blk_alloc ?_ _)); exact BK181.out) hb); have n5_ := Aside0.mk (blk_below (g := gb195) (o := .cells #[.slice Ao20 t188.length co20, .int .i64 t191, .int .i64 t192] 29 (0, 0)) (by (with_reducible repeat (first | refine blk_drewN ?_ _ | refine blk_drew ?_ | refine blk_alloc ?_ _)); exact BK195.out) hb); have n6_ := Aside0.mk (blk_below (g := gb201) (o := .cells #[.slice Ao27 t218.length co27, .int .i64 t199, .int .i64 t200] 29 (0, 0)) (by (with_reducible repeat (first | refine blk_drewN ?_ _ | refine blk_drew ?_ | refine blk_alloc ?_ _)); exact BK201.out) hb); have n7_ := Aside0.mk (blk_below (g := gb209) (o := .cells #[.slice Ao35 t202.length co35, .int .i64 t205, .int .i64 t206] 29 (0, 0)) (by (with_reducible repeat (first | refine blk_drewN ?_ _ | refine blk_drew ?_ | refine blk_alloc ?_ _)); exact BK209.out) hb); have n8_ := Aside0.mk (below_step (by repeat (first | (with_reducible first | exact HB.out | apply below_alloc | apply pw_below_drewN | apply below_drew1 | refine below_set ?_ GE181.out | refine below_set ?_ GE195.out | refine below_set ?_ GE201.out | refine below_set ?_ GE209.out) | exact HB.out)) hb); clear HO_196000; clear HO_202000; clear HO_210000; clear BK181; clear BK195; clear BK201; clear BK209; clear HB; have HO_196000 := n0_; have HO_202000 := n1_; have HO_210000 := n2_; have HO225 := n3_; have BK181 := n4_; have BK195 := n5_; have BK201 := n6_; have BK209 := n7_; have HB := n8_; clear n0_ n1_ n2_ n3_ n4_ n5_ n6_ n7_ n8_; (try clear hb); (try clear hb2); (try clear hk); (try clear hi); (try clear ho0); obtain ⟨Ao130, co130, eo130⟩ := Kd.R_slice HO225.out; subst eo130) | ((with_reducible refine gate_callee (f := 54) rfl ?_); refine goesL_ (some 91) rfl rfl Try.func54 (by kernel_rfl) rfl #[.agg #[.slice Ao130 t223.length co130, .int .i64 t226, .int .i64 t227]] rfl (by (try simp only [List.map_toArray, List.map_cons, List.map_nil]); first | done | rfl | (simp only [List.length_drop, List.length_take]; rfl)) ?_; (with_reducible refine (impl_PopRing.calls kj72 _ _ t223 t226 t227 t228 t231 t232 t233 t234 _ ?side1 ?side2 A117.out).mono ?_); (case side1 => repeat (first | exact (Kd.R_reads' HO225.out).2.2 | (with_reducible refine Kd.C_alloc ?_ _) | (with_reducible refine Kd.C_drewN ?_ _) | (with_reducible refine Kd.C_drew ?_))); (case side2 => exact (Kd.R_reads' HO225.out).2.1); rintro e w131 ⟨v229, rfl, ho0, hb⟩; refine ⟨_, rfl, ?_⟩; have n0_ := Aside0.mk (Kd.R_elder' (by (with_reducible repeat (first | apply Kd.R_alloc | apply Kd.R_drewN | apply Kd.R_drew)); exact HO_196000.out) (Kd.R_base ho0) hb); have n1_ := Aside0.mk (Kd.R_elder' (by (with_reducible repeat (first | apply Kd.R_alloc | apply Kd.R_drewN | apply Kd.R_drew)); exact HO_202000.out) (Kd.R_base ho0) hb); have n2_ := Aside0.mk (Kd.R_elder' (by (with_reducible repeat (first | apply Kd.R_alloc | apply Kd.R_drewN | apply Kd.R_drew)); exact HO_210000.out) (Kd.R_base ho0) hb); have n3_ := Aside0.mk (Kd.R_elder' (by (with_reducible repeat (first | apply Kd.R_alloc | apply Kd.R_drewN | apply Kd.R_drew)); exact HO225.out) (Kd.R_base ho0) hb); have n4_ := Aside0.mk (Kd.R_lower (Kd.R_new' (Kd.R_new' (Kd.R_new' (Kd.R_new' ho0 (Kd.R_lt (by (with_reducible repeat (first | apply Kd.R_alloc | apply Kd.R_drewN | apply Kd.R_drew)); exact HO_196000.out))) (Kd.R_lt (by (with_reducible repeat (first | apply Kd.R_alloc | apply Kd.R_drewN | apply Kd.R_drew)); exact HO_202000.out))) (Kd.R_lt (by (with_reducible repeat (first | apply Kd.R_alloc | apply Kd.R_drewN | apply Kd.R_drew)); exact HO_210000.out))) (Kd.R_lt (by (with_reducible repeat (first | apply Kd.R_alloc | apply Kd.R_drewN | apply Kd.R_drew)); exact HO225.out))) (below_size (by repeat (first | (with_reducible first | exact HB.out | apply below_alloc | apply pw_below_drewN | apply below_drew1 | refine below_set ?_ GE181.out | refine below_set ?_ GE195.out | refine below_set ?_ GE201.out | refine below_set ?_ GE209.out) | exact HB.out)))); have n5_ := Aside0.mk (blk_below (g := gb181) (o := .cells #[.slice A0_0 l0_0.length c0_0, .int .i64 a0_1, .int .i64 a0_2] 24 (0, 0)) (by (with_reducible repeat (first | refine blk_drewN ?_ _ | refine blk_drew ?_ | refine blk_alloc ?_ _)); exact BK181.out) hb); have n6_ := Aside0.mk (blk_below (g := gb195) (o := .cells #[.slice Ao20 t188.length co20, .int .i64 t191, .int .i64 t192] 29 (0, 0)) (by (with_reducible repeat (first | refine blk_drewN ?_ _ | refine blk_drew ?_ | refine blk_alloc ?_ _)); exact BK195.out) hb); have n7_ := Aside0.mk (blk_below (g := gb201) (o := .cells #[.slice Ao27 t218.length co27, .int .i64 t199, .int .i64 t200] 29 (0, 0)) (by (with_reducible repeat (first | refine blk_drewN ?_ _ | refine blk_drew ?_ | refine blk_alloc ?_ _)); exact BK201.out) hb); have n8_ := Aside0.mk (blk_below (g := gb209) (o := .cells #[.slice Ao35 t202.length co35, .int .i64 t205, .int .i64 t206] 29 (0, 0)) (by (with_reducible repeat (first | refine blk_drewN ?_ _ | refine blk_drew ?_ | refine blk_alloc ?_ _)); exact BK209.out) hb); have n9_ := Aside0.mk (below_step (by repeat (first | (with_reducible first | exact HB.out | apply below_alloc | apply pw_below_drewN | apply below_drew1 | refine below_set ?_ GE181.out | refine below_set ?_ GE195.out | refine below_set ?_ GE201.out | refine below_set ?_ GE209.out) | exact HB.out)) hb); clear HO_196000; clear HO_202000; clear HO_210000; clear HO225; clear BK181; clear BK195; clear BK201; clear BK209; clear HB; have HO_196000 := n0_; have HO_202000 := n1_; have HO_210000 := n2_; have HO225 := n3_; have HO230 := n4_; have BK181 := n5_; have BK195 := n6_; have BK201 := n7_; have BK209 := n8_; have HB := n9_; clear n0_ n1_ n2_ n3_ n4_ n5_ n6_ n7_ n8_ n9_; (try clear hb); (try clear hb2); (try clear hk); (try clear hi); (try clear ho0)) | ((with_reducible refine gate_dst (N := 14) rfl ?_); refine box_event ?hg (N := 14) ?hd (cs := #[.slice none 0 0, .int .i64 0, .int .i64 0]) (t := 29) ?hr ?_; (case hd => rfl); (case hg => rfl); (case hr => first | (go_simp; done) | (go_simp; rfl)); intro gb235 hg w132 hbox hb; have n0_ := Aside0.mk (Kd.R_below (by (with_reducible repeat (first | apply Kd.R_alloc | apply Kd.R_drewN | apply Kd.R_drew)); exact HO_196000.out) hb); have n1_ := Aside0.mk (Kd.R_below (by (with_reducible repeat (first | apply Kd.R_alloc | apply Kd.R_drewN | apply Kd.R_drew)); exact HO_202000.out) hb); have n2_ := Aside0.mk (Kd.R_below (by (with_reducible repeat (first | apply Kd.R_alloc | apply Kd.R_drewN | apply Kd.R_drew)); exact HO_210000.out) hb); have n3_ := Aside0.mk (Kd.R_below (by (with_reducible repeat (first | apply Kd.R_alloc | apply Kd.R_drewN | apply Kd.R_drew)); exact HO225.out) hb); have n4_ := Aside0.mk (Kd.R_below (by (with_reducible repeat (first | apply Kd.R_alloc | apply Kd.R_drewN | apply Kd.R_drew)); exact HO230.out) hb); have n5_ := Aside0.mk (blk_below (g := gb181) (o := .cells #[.slice A0_0 l0_0.length c0_0, .int .i64 a0_1, .int .i64 a0_2] 24 (0, 0)) (by (with_reducible repeat (first | refine blk_drewN ?_ _ | refine blk_drew ?_ | refine blk_alloc ?_ _)); exact BK181.out) hb); have n6_ := Aside0.mk (blk_below (g := gb195) (o := .cells #[.slice Ao20 t188.length co20, .int .i64 t191, .int .i64 t192] 29 (0, 0)) (by (with_reducible repeat (first | refine blk_drewN ?_ _ | refine blk_drew ?_ | refine blk_alloc ?_ _)); exact BK195.out) hb); have n7_ := Aside0.mk (blk_below (g := gb201) (o := .cells #[.slice Ao27 t218.length co27, .int .i64 t199, .int .i64 t200] 29 (0, 0)) (by (with_reducible repeat (first | refine blk_drewN ?_ _ | refine blk_drew ?_ | refine blk_alloc ?_ _)); exact BK201.out) hb); have n8_ := Aside0.mk (blk_below (g := gb209) (o := .cells #[.slice Ao35 t202.length co35, .int .i64 t205, .int .i64 t206] 29 (0, 0)) (by (with_reducible repeat (first | refine blk_drewN ?_ _ | refine blk_drew ?_ | refine blk_alloc ?_ _)); exact BK209.out) hb); have n9_ := Aside0.mk (below_step (by repeat (first | (with_reducible first | exact HB.out | apply below_alloc | apply pw_below_drewN | apply below_drew1 | refine below_set ?_ GE181.out | refine below_set ?_ GE195.out | refine below_set ?_ GE201.out | refine below_set ?_ GE209.out) | exact HB.out)) hb); have n10_ := Aside0.mk (hbox); have n11_ := Aside0.mk ((by rw [hg]; exact (below_size (by repeat (first | (with_reducible first | exact HB.out | apply below_alloc | apply pw_below_drewN | apply below_drew1 | refine below_set ?_ GE181.out | refine below_set ?_ GE195.out | refine below_set ?_ GE201.out | refine below_set ?_ GE209.out) | exact HB.out))) : w.heap.size ≤ gb235)); have n12_ := Aside0.mk ((by rw [hg]; exact (below_size (by repeat (first | (with_reducible first | exact HB.out | apply below_alloc | apply pw_below_drewN | apply below_drew1 | refine below_set ?_ GE181.out | refine below_set ?_ GE195.out | refine below_set ?_ GE201.out | refine below_set ?_ GE209.out) | exact HB.out))) : w.heap.size ≤ gb235)); have n13_ := Aside0.mk ((by rw [hg]; exact Nat.ne_of_lt (blk_lt (g := gb181) (o := .cells #[.slice A0_0 l0_0.length c0_0, .int .i64 a0_1, .int .i64 a0_2] 24 (0, 0)) (by (with_reducible repeat (first | refine blk_drewN ?_ _ | refine blk_drew ?_ | refine blk_alloc ?_ _)); exact BK181.out)) : gb181 ≠ gb235)); have n14_ := Aside0.mk ((by rw [hg]; exact Nat.ne_of_gt (blk_lt (g := gb181) (o := .cells #[.slice A0_0 l0_0.length c0_0, .int .i64 a0_1, .int .i64 a0_2] 24 (0, 0)) (by (with_reducible repeat (first | refine blk_drewN ?_ _ | refine blk_drew ?_ | refine blk_alloc ?_ _)); exact BK181.out)) : gb235 ≠ gb181)); have n15_ := Aside0.mk ((by rw [hg]; exact Nat.ne_of_lt (blk_lt (g := gb195) (o := .cells #[.slice Ao20 t188.length co20, .int .i64 t191, .int .i64 t192] 29 (0, 0)) (by (with_reducible repeat (first | refine blk_drewN ?_ _ | refine blk_drew ?_ | refine blk_alloc ?_ _)); exact BK195.out)) : gb195 ≠ gb235)); have n16_ := Aside0.mk ((by rw [hg]; exact Nat.ne_of_gt (blk_lt (g := gb195) (o := .cells #[.slice Ao20 t188.length co20, .int .i64 t191, .int .i64 t192] 29 (0, 0)) (by (with_reducible repeat (first | refine blk_drewN ?_ _ | refine blk_drew ?_ | refine blk_alloc ?_ _)); exact BK195.out)) : gb235 ≠ gb195)); have n17_ := Aside0.mk ((by rw [hg]; exact Nat.ne_of_lt (blk_lt (g := gb201) (o := .cells #[.slice Ao27 t218.length co27, .int .i64 t199, .int .i64 t200] 29 (0, 0)) (by (with_reducible repeat (first | refine blk_drewN ?_ _ | refine blk_drew ?_ | refine blk_alloc ?_ _)); exact BK201.out)) : gb201 ≠ gb235)); have n18_ := Aside0.mk ((by rw [hg]; exact Nat.ne_of_gt (blk_lt (g := gb201) (o := .cells #[.slice Ao27 t218.length co27, .int .i64 t199, .int .i64 t200] 29 (0, 0)) (by (with_reducible repeat (first | refine blk_drewN ?_ _ | refine blk_drew ?_ | refine blk_alloc ?_ _)); exact BK201.out)) : gb235 ≠ gb201)); have n19_ := Aside0.mk ((by rw [hg]; exact Nat.ne_of_lt (blk_lt (g := gb209) (o := .cells #[.slice Ao35 t202.length co35, .int .i64 t205, .int .i64 t206] 29 (0, 0)) (by (with_reducible repeat (first | refine blk_drewN ?_ _ | refine blk_drew ?_ | refine blk_alloc ?_ _)); exact BK209.out)) : gb209 ≠ gb235)); have n20_ := Aside0.mk ((by rw [hg]; exact Nat.ne_of_gt (blk_lt (g := gb209) (o := .cells #[.slice Ao35 t202.length co35, .int .i64 t205, .int .i64 t206] 29 (0, 0)) (by (with_reducible repeat (first | refine blk_drewN ?_ _ | refine blk_drew ?_ | refine blk_alloc ?_ _)); exact BK209.out)) : gb235 ≠ gb209)); clear HO_196000; clear HO_202000; clear HO_210000; clear HO225; clear HO230; clear BK181; clear BK195; clear BK201; clear BK209; clear HB; have HO_196000 := n0_; have HO_202000 := n1_; have HO_210000 := n2_; have HO225 := n3_; have HO230 := n4_; have BK181 := n5_; have BK195 := n6_; have BK201 := n7_; have BK209 := n8_; have HB := n9_; have BK235 := n10_; have GW235 := n11_; have GE235 := n12_; have NB181_235 := n13_; have NB235_181 := n14_; have NB195_235 := n15_; have NB235_195 := n16_; have NB201_235 := n17_; have NB235_201 := n18_; have NB209_235 := n19_; have NB235_209 := n20_; clear n0_ n1_ n2_ n3_ n4_ n5_ n6_ n7_ n8_ n9_ n10_ n11_ n12_ n13_ n14_ n15_ n16_ n17_ n18_ n19_ n20_; clear hb hbox hg; obtain ⟨Ao133, co133, eo133⟩ := Kd.R_slice HO230.out; subst eo133; have hnb134 := NB235_181.out; have hnc134 := NB181_235.out; have hnb135 := NB235_195.out; have hnc135 := NB195_235.out; have hnb136 := NB235_201.out; have hnc136 := NB201_235.out; have hnb137 := NB235_209.out; have hnc137 := NB209_235.out; have hcz138_0 : w132.cell? ⟨gb235, 0, none⟩ = some (.slice none 0 0) := (blk_cell BK235.out 0).trans rfl; have hcz138_1 : w132.cell? ⟨gb235, 1, none⟩ = some (.int .i64 0) := (blk_cell BK235.out 1).trans rfl; have hcz138_2 : w132.cell? ⟨gb235, 2, none⟩ = some (.int .i64 0) := (blk_cell BK235.out 2).trans rfl; have hfz138_0 := blk_frozen BK235.out 0; have hfz138_1 := blk_frozen BK235.out 1; have hfz138_2 := blk_frozen BK235.out 2) | ((with_reducible refine gate_store (t := 29) (p := 14) rfl ?_); refine store_event (t := 29) (p := 14) (v := ?vo_w139) (w1 := (((w132.setCell ⟨gb235, 0, none⟩ (.slice Ao133 t228.length co133)).setCell ⟨gb235, 1, none⟩ (.int .i64 t231)).setCell ⟨gb235, 2, none⟩ (.int .i64 t232))) ?hg ?ho ?hn ?hr ?_; (case ho => rfl); (case hg => rfl); (case hn => rfl); (case hr => first | (go_simp; done) | (go_simp; rfl)); intro w139 hw; have n0_ : Aside0 (Kd.R (Kd.int .i64) 3 w139 w.heap.size (fun k_ => some k_ ≠ (.slice Ao27 t218.length co27 : Value).ownBlock ∧ some k_ ≠ (.slice Ao35 t202.length co35 : Value).ownBlock ∧ some k_ ≠ (.slice Ao130 t223.length co130 : Value).ownBlock ∧ some k_ ≠ (.slice Ao133 t228.length co133 : Value).ownBlock) (.slice Ao20 t188.length co20) t188) := ⟨(by rw [hw]; exact (by (with_reducible repeat (first | apply Kd.R_alloc | apply Kd.R_drewN | apply Kd.R_drew)); exact Kd.R_mono (Kd.R_far (p := ⟨gb235, 2, none⟩) (Kd.R_far (p := ⟨gb235, 1, none⟩) (Kd.R_far (p := ⟨gb235, 0, none⟩) (Kd.R_types HO_196000.out BK235.out (by decide)) (fun _ hk => hk.2) (.slice Ao133 t228.length co133)) (fun _ hk => hk.2) (.int .i64 t231)) (fun _ hk => hk.2) (.int .i64 t232)) (fun _ hk => ⟨hk.1.1.1.1, ⟨hk.1.1.1.2, ⟨hk.1.1.2, hk.1.2⟩⟩⟩)))⟩; have n1_ : Aside0 (Kd.R (Kd.int .i64) 3 w139 w.heap.size (fun k_ => some k_ ≠ (.slice Ao20 t188.length co20 : Value).ownBlock ∧ some k_ ≠ (.slice Ao35 t202.length co35 : Value).ownBlock ∧ some k_ ≠ (.slice Ao130 t223.length co130 : Value).ownBlock ∧ some k_ ≠ (.slice Ao133 t228.length co133 : Value).ownBlock) (.slice Ao27 t218.length co27) t218) := ⟨(by rw [hw]; exact (by (with_reducible repeat (first | apply Kd.R_alloc | apply Kd.R_drewN | apply Kd.R_drew)); exact Kd.R_mono (Kd.R_far (p := ⟨gb235, 2, none⟩) (Kd.R_far (p := ⟨gb235, 1, none⟩) (Kd.R_far (p := ⟨gb235, 0, none⟩) (Kd.R_types HO_202000.out BK235.out (by decide)) (fun _ hk => hk.2) (.slice Ao133 t228.length co133)) (fun _ hk => hk.2) (.int .i64 t231)) (fun _ hk => hk.2) (.int .i64 t232)) (fun _ hk => ⟨hk.1.1.1.1, ⟨hk.1.1.1.2, ⟨hk.1.1.2, hk.1.2⟩⟩⟩)))⟩; have n2_ : Aside0 (Kd.R (Kd.int .i64) 3 w139 w.heap.size (fun k_ => some k_ ≠ (.slice Ao20 t188.length co20 : Value).ownBlock ∧ some k_ ≠ (.slice Ao27 t218.length co27 : Value).ownBlock ∧ some k_ ≠ (.slice Ao130 t223.length co130 : Value).ownBlock ∧ some k_ ≠ (.slice Ao133 t228.length co133 : Value).ownBlock) (.slice Ao35 t202.length co35) t221) := ⟨(by rw [hw]; exact (by (with_reducible repeat (first | apply Kd.R_alloc | apply Kd.R_drewN | apply Kd.R_drew)); exact Kd.R_mono (Kd.R_far (p := ⟨gb235, 2, none⟩) (Kd.R_far (p := ⟨gb235, 1, none⟩) (Kd.R_far (p := ⟨gb235, 0, none⟩) (Kd.R_types HO_210000.out BK235.out (by decide)) (fun _ hk => hk.2) (.slice Ao133 t228.length co133)) (fun _ hk => hk.2) (.int .i64 t231)) (fun _ hk => hk.2) (.int .i64 t232)) (fun _ hk => ⟨hk.1.1.1.1, ⟨hk.1.1.1.2, ⟨hk.1.1.2, hk.1.2⟩⟩⟩)))⟩; have n3_ : Aside0 (Kd.R (Kd.int .i64) 3 w139 w.heap.size (fun k_ => some k_ ≠ (.slice Ao20 t188.length co20 : Value).ownBlock ∧ some k_ ≠ (.slice Ao27 t218.length co27 : Value).ownBlock ∧ some k_ ≠ (.slice Ao35 t202.length co35 : Value).ownBlock ∧ some k_ ≠ (.slice Ao133 t228.length co133 : Value).ownBlock) (.slice Ao130 t223.length co130) t223) := ⟨(by rw [hw]; exact (by (with_reducible repeat (first | apply Kd.R_alloc | apply Kd.R_drewN | apply Kd.R_drew)); exact Kd.R_mono (Kd.R_far (p := ⟨gb235, 2, none⟩) (Kd.R_far (p := ⟨gb235, 1, none⟩) (Kd.R_far (p := ⟨gb235, 0, none⟩) (Kd.R_types HO225.out BK235.out (by decide)) (fun _ hk => hk.2) (.slice Ao133 t228.length co133)) (fun _ hk => hk.2) (.int .i64 t231)) (fun _ hk => hk.2) (.int .i64 t232)) (fun _ hk => ⟨hk.1.1.1.1.2, ⟨hk.1.1.1.2, ⟨hk.1.1.2, hk.1.2⟩⟩⟩)))⟩; have n4_ : Aside0 (Kd.R (Kd.int .i64) 3 w139 w.heap.size (fun k_ => some k_ ≠ (.slice Ao20 t188.length co20 : Value).ownBlock ∧ some k_ ≠ (.slice Ao27 t218.length co27 : Value).ownBlock ∧ some k_ ≠ (.slice Ao35 t202.length co35 : Value).ownBlock ∧ some k_ ≠ (.slice Ao130 t223.length co130 : Value).ownBlock) (.slice Ao133 t228.length co133) t228) := ⟨(by rw [hw]; exact (by (with_reducible repeat (first | apply Kd.R_alloc | apply Kd.R_drewN | apply Kd.R_drew)); exact Kd.R_mono (Kd.R_far (p := ⟨gb235, 2, none⟩) (Kd.R_far (p := ⟨gb235, 1, none⟩) (Kd.R_far (p := ⟨gb235, 0, none⟩) (Kd.R_types HO230.out BK235.out (by decide)) (fun _ hk => hk.2) (.slice Ao133 t228.length co133)) (fun _ hk => hk.2) (.int .i64 t231)) (fun _ hk => hk.2) (.int .i64 t232)) (fun _ hk => ⟨hk.1.1.1.1.2, ⟨hk.1.1.1.2, ⟨hk.1.1.2, hk.1.2⟩⟩⟩)))⟩; have n5_ : Aside0 (w139.heap[gb181]? = some (.cells #[.slice A0_0 l0_0.length c0_0, .int .i64 a0_1, .int .i64 a0_2] 24 (0, 0))) := ⟨(by rw [hw]; exact (by (with_reducible repeat (first | refine blk_drewN ?_ _ | refine blk_drew ?_ | refine blk_alloc ?_ _)); refine blk_far ?_ NB181_235.out _; (with_reducible repeat (first | refine blk_drewN ?_ _ | refine blk_drew ?_ | refine blk_alloc ?_ _)); refine blk_far ?_ NB181_235.out _; (with_reducible repeat (first | refine blk_drewN ?_ _ | refine blk_drew ?_ | refine blk_alloc ?_ _)); refine blk_far ?_ NB181_235.out _; (with_reducible repeat (first | refine blk_drewN ?_ _ | refine blk_drew ?_ | refine blk_alloc ?_ _)); exact BK181.out))⟩; have n6_ : Aside0 (w139.heap[gb195]? = some (.cells #[.slice Ao20 t188.length co20, .int .i64 t191, .int .i64 t192] 29 (0, 0))) := ⟨(by rw [hw]; exact (by (with_reducible repeat (first | refine blk_drewN ?_ _ | refine blk_drew ?_ | refine blk_alloc ?_ _)); refine blk_far ?_ NB195_235.out _; (with_reducible repeat (first | refine blk_drewN ?_ _ | refine blk_drew ?_ | refine blk_alloc ?_ _)); refine blk_far ?_ NB195_235.out _; (with_reducible repeat (first | refine blk_drewN ?_ _ | refine blk_drew ?_ | refine blk_alloc ?_ _)); refine blk_far ?_ NB195_235.out _; (with_reducible repeat (first | refine blk_drewN ?_ _ | refine blk_drew ?_ | refine blk_alloc ?_ _)); exact BK195.out))⟩; have n7_ : Aside0 (w139.heap[gb201]? = some (.cells #[.slice Ao27 t218.length co27, .int .i64 t199, .int .i64 t200] 29 (0, 0))) := ⟨(by rw [hw]; exact (by (with_reducible repeat (first | refine blk_drewN ?_ _ | refine blk_drew ?_ | refine blk_alloc ?_ _)); refine blk_far ?_ NB201_235.out _; (with_reducible repeat (first | refine blk_drewN ?_ _ | refine blk_drew ?_ | refine blk_alloc ?_ _)); refine blk_far ?_ NB201_235.out _; (with_reducible repeat (first | refine blk_drewN ?_ _ | refine blk_drew ?_ | refine blk_alloc ?_ _)); refine blk_far ?_ NB201_235.out _; (with_reducible repeat (first | refine blk_drewN ?_ _ | refine blk_drew ?_ | refine blk_alloc ?_ _)); exact BK201.out))⟩; have n8_ : Aside0 (w139.heap[gb209]? = some (.cells #[.slice Ao35 t202.length co35, .int .i64 t205, .int .i64 t206] 29 (0, 0))) := ⟨(by rw [hw]; exact (by (with_reducible repeat (first | refine blk_drewN ?_ _ | refine blk_drew ?_ | refine blk_alloc ?_ _)); refine blk_far ?_ NB209_235.out _; (with_reducible repeat (first | refine blk_drewN ?_ _ | refine blk_drew ?_ | refine blk_alloc ?_ _)); refine blk_far ?_ NB209_235.out _; (with_reducible repeat (first | refine blk_drewN ?_ _ | refine blk_drew ?_ | refine blk_alloc ?_ _)); refine blk_far ?_ NB209_235.out _; (with_reducible repeat (first | refine blk_drewN ?_ _ | refine blk_drew ?_ | refine blk_alloc ?_ _)); exact BK209.out))⟩; have n9_ : Aside0 (w139.heap[gb235]? = some (.cells #[.slice Ao133 t228.length co133, .int .i64 t231, .int .i64 t232] 29 (0, 0))) := ⟨(by rw [hw]; exact (by (with_reducible repeat (first | refine blk_drewN ?_ _ | refine blk_drew ?_ | refine blk_alloc ?_ _)); refine blk_put (cs := #[.slice Ao133 t228.length co133, .int .i64 t231, .int .i64 0]) ?_ 2 _ rfl; (with_reducible repeat (first | refine blk_drewN ?_ _ | refine blk_drew ?_ | refine blk_alloc ?_ _)); refine blk_put (cs := #[.slice Ao133 t228.length co133, .int .i64 0, .int .i64 0]) ?_ 1 _ rfl; (with_reducible repeat (first | refine blk_drewN ?_ _ | refine blk_drew ?_ | refine blk_alloc ?_ _)); refine blk_put (cs := #[.slice none 0 0, .int .i64 0, .int .i64 0]) ?_ 0 _ rfl; (with_reducible repeat (first | refine blk_drewN ?_ _ | refine blk_drew ?_ | refine blk_alloc ?_ _)); exact BK235.out))⟩; have n10_ : Aside0 (Below w.heap.size w w139) := ⟨(by rw [hw]; exact (by repeat (first | (with_reducible first | exact HB.out | apply below_alloc | apply pw_below_drewN | apply below_drew1 | refine below_set ?_ GE181.out | refine below_set ?_ GE195.out | refine below_set ?_ GE201.out | refine below_set ?_ GE209.out | refine below_set ?_ GE235.out) | exact HB.out)))⟩; clear hw; clear HO_196000; clear HO_202000; clear HO_210000; clear HO225; clear HO230; clear BK181; clear BK195; clear BK201; clear BK209; clear BK235; clear HB; have HO_196000 := n0_; have HO_202000 := n1_; have HO_210000 := n2_; have HO225 := n3_; have HO230 := n4_; have BK181 := n5_; have BK195 := n6_; have BK201 := n7_; have BK209 := n8_; have BK235 := n9_; have HB := n10_; clear n0_ n1_ n2_ n3_ n4_ n5_ n6_ n7_ n8_ n9_ n10_))
                      (try simp only [Act.put, List.setIfInBounds_toArray, List.set_cons_zero, List.set_cons_succ])
                      go_cut [108] (fun v108 wc => ∃ (kq : Nat) (x108_117 : Bool), v108 = .bool x108_117 ∧ Aside0 (laws_FnExactPopRing.j2 kq t220 x108_117 t221 t205 t206 = some r) ∧ Aside0 (kq ≤ kj72) ∧ Aside0 (Kd.R (Kd.int .i64) 3 wc w.heap.size (fun k_ => some k_ ≠ ((.slice Ao27 t218.length co27) : Value).ownBlock ∧ some k_ ≠ ((.slice Ao35 t202.length co35) : Value).ownBlock ∧ some k_ ≠ ((.slice Ao133 t228.length co133) : Value).ownBlock) (.slice Ao20 t188.length co20) t188) ∧ Aside0 (Kd.R (Kd.int .i64) 3 wc w.heap.size (fun k_ => some k_ ≠ ((.slice Ao20 t188.length co20) : Value).ownBlock ∧ some k_ ≠ ((.slice Ao35 t202.length co35) : Value).ownBlock ∧ some k_ ≠ ((.slice Ao133 t228.length co133) : Value).ownBlock) (.slice Ao27 t218.length co27) t218) ∧ Aside0 (Kd.R (Kd.int .i64) 3 wc w.heap.size (fun k_ => some k_ ≠ ((.slice Ao20 t188.length co20) : Value).ownBlock ∧ some k_ ≠ ((.slice Ao27 t218.length co27) : Value).ownBlock ∧ some k_ ≠ ((.slice Ao133 t228.length co133) : Value).ownBlock) (.slice Ao35 t202.length co35) t221) ∧ Aside0 (Kd.R (Kd.int .i64) 3 wc w.heap.size (fun k_ => some k_ ≠ ((.slice Ao20 t188.length co20) : Value).ownBlock ∧ some k_ ≠ ((.slice Ao27 t218.length co27) : Value).ownBlock ∧ some k_ ≠ ((.slice Ao35 t202.length co35) : Value).ownBlock) (.slice Ao133 t228.length co133) t228) ∧ Aside0 (wc.heap[gb181]? = some (.cells #[(.slice A0_0 l0_0.length c0_0), .int .i64 a0_1, .int .i64 a0_2] 24 (0, 0))) ∧ Aside0 (wc.heap[gb195]? = some (.cells #[(.slice Ao20 t188.length co20), .int .i64 t191, .int .i64 t192] 29 (0, 0))) ∧ Aside0 (wc.heap[gb201]? = some (.cells #[(.slice Ao27 t218.length co27), .int .i64 t199, .int .i64 t200] 29 (0, 0))) ∧ Aside0 (wc.heap[gb209]? = some (.cells #[(.slice Ao35 t202.length co35), .int .i64 t205, .int .i64 t206] 29 (0, 0))) ∧ Aside0 (wc.heap[gb235]? = some (.cells #[(.slice Ao133 t228.length co133), .int .i64 t231, .int .i64 t232] 29 (0, 0))) ∧ Aside0 (Below w.heap.size w wc))
                      case first =>
                        have H := HC118.out
                        clear HC118
                        replace H := Option.bind_eq_some_iff.mp H
                        obtain ⟨t236, A1400, H⟩ := H
                        replace H : (if t236 = true then (if t233 = t193 then (laws_FnExactPopRing.j2 kj72 t220 (t234 != t194) t221 t205 t206) else (laws_FnExactPopRing.j2 kj72 t220 true t221 t205 t206)) else (laws_FnExactPopRing.j2 kj72 t220 true t221 t205 t206)) = some r := H
                        have A140 := Aside0.mk A1400
                        clear A1400
                        by_cases c141 : t236 = true
                        · subst c141
                          have H1 : (if t233 = t193 then (laws_FnExactPopRing.j2 kj72 t220 (t234 != t194) t221 t205 t206) else (laws_FnExactPopRing.j2 kj72 t220 true t221 t205 t206)) = some r := by rw [if_pos rfl] at H; exact H
                          clear H
                          have H := H1
                          clear H1
                          by_cases c142 : t233 = t193
                          · rw [if_pos c142] at H
                            have c142b0 : (t233 == t193) = true := beq_iff_eq.mpr c142
                            have c142b1 : (t233 != t193) = false := bne_eq_false_iff_eq.mpr c142
                            clear c142
                            (first | rw [c142b0] | (simp only [i64_w, i32_w]; rw [c142b0]) | skip)
                            have H' := Aside0.mk H
                            clear H
                            have hnb143 := NB235_181.out
                            have hnc143 := NB181_235.out
                            have hnb144 := NB235_195.out
                            have hnc144 := NB195_235.out
                            have hnb145 := NB235_201.out
                            have hnc145 := NB201_235.out
                            have hnb146 := NB235_209.out
                            have hnc146 := NB209_235.out
                            have hcz147_0 : w139.cell? ⟨gb235, 0, none⟩ = some (.slice Ao133 t228.length co133) := (blk_cell BK235.out 0).trans rfl
                            have hcz147_1 : w139.cell? ⟨gb235, 1, none⟩ = some (.int .i64 t231) := (blk_cell BK235.out 1).trans rfl
                            have hcz147_2 : w139.cell? ⟨gb235, 2, none⟩ = some (.int .i64 t232) := (blk_cell BK235.out 2).trans rfl
                            have hfz147_0 := blk_frozen BK235.out 0
                            have hfz147_1 := blk_frozen BK235.out 1
                            have hfz147_2 := blk_frozen BK235.out 2
                            have hnb148 := NB195_181.out
                            have hnc148 := NB181_195.out
                            have hnb149 := NB195_201.out
                            have hnc149 := NB201_195.out
                            have hnb150 := NB195_209.out
                            have hnc150 := NB209_195.out
                            have hcz151_0 : w139.cell? ⟨gb195, 0, none⟩ = some (.slice Ao20 t188.length co20) := (blk_cell BK195.out 0).trans rfl
                            have hcz151_1 : w139.cell? ⟨gb195, 1, none⟩ = some (.int .i64 t191) := (blk_cell BK195.out 1).trans rfl
                            have hcz151_2 : w139.cell? ⟨gb195, 2, none⟩ = some (.int .i64 t192) := (blk_cell BK195.out 2).trans rfl
                            have hfz151_0 := blk_frozen BK195.out 0
                            have hfz151_1 := blk_frozen BK195.out 1
                            have hfz151_2 := blk_frozen BK195.out 2
                            go_wp2_with (first | ((with_reducible refine gate_callee (f := 19) rfl ?_); refine goesL_ (some 97) rfl rfl Try.func19 (by kernel_rfl) rfl #[.agg #[.slice Ao133 t228.length co133, .int .i64 t231, .int .i64 t232], .agg #[.slice Ao20 t188.length co20, .int .i64 t191, .int .i64 t192]] rfl (by (try simp only [List.map_toArray, List.map_cons, List.map_nil]); first | done | rfl | (simp only [List.length_drop, List.length_take]; rfl)) ?_; (with_reducible refine (laws_eqRing.calls kj72 _ _ t228 t231 t232 _ _ t188 t191 t192 true _ ?side1 ?side2 ?side3 ?side4 A140.out).mono ?_); (case side1 => repeat (first | exact (Kd.R_reads' HO230.out).2.2 | (with_reducible refine Kd.C_alloc ?_ _) | (with_reducible refine Kd.C_drewN ?_ _) | (with_reducible refine Kd.C_drew ?_))); (case side2 => exact (Kd.R_reads' HO230.out).2.1); (case side3 => repeat (first | exact (Kd.R_reads' HO_196000.out).2.2 | (with_reducible refine Kd.C_alloc ?_ _) | (with_reducible refine Kd.C_drewN ?_ _) | (with_reducible refine Kd.C_drew ?_))); (case side4 => exact (Kd.R_reads' HO_196000.out).2.1); rintro e w152 ⟨rfl, hb⟩; refine ⟨_, rfl, ?_⟩; have n0_ := Aside0.mk (Kd.R_below (by (with_reducible repeat (first | apply Kd.R_alloc | apply Kd.R_drewN | apply Kd.R_drew)); exact HO_196000.out) hb); have n1_ := Aside0.mk (Kd.R_below (by (with_reducible repeat (first | apply Kd.R_alloc | apply Kd.R_drewN | apply Kd.R_drew)); exact HO_202000.out) hb); have n2_ := Aside0.mk (Kd.R_below (by (with_reducible repeat (first | apply Kd.R_alloc | apply Kd.R_drewN | apply Kd.R_drew)); exact HO_210000.out) hb); have n3_ := Aside0.mk (Kd.R_below (by (with_reducible repeat (first | apply Kd.R_alloc | apply Kd.R_drewN | apply Kd.R_drew)); exact HO225.out) hb); have n4_ := Aside0.mk (Kd.R_below (by (with_reducible repeat (first | apply Kd.R_alloc | apply Kd.R_drewN | apply Kd.R_drew)); exact HO230.out) hb); have n5_ := Aside0.mk (blk_below (g := gb181) (o := .cells #[.slice A0_0 l0_0.length c0_0, .int .i64 a0_1, .int .i64 a0_2] 24 (0, 0)) (by (with_reducible repeat (first | refine blk_drewN ?_ _ | refine blk_drew ?_ | refine blk_alloc ?_ _)); exact BK181.out) hb); have n6_ := Aside0.mk (blk_below (g := gb195) (o := .cells #[.slice Ao20 t188.length co20, .int .i64 t191, .int .i64 t192] 29 (0, 0)) (by (with_reducible repeat (first | refine blk_drewN ?_ _ | refine blk_drew ?_ | refine blk_alloc ?_ _)); exact BK195.out) hb); have n7_ := Aside0.mk (blk_below (g := gb201) (o := .cells #[.slice Ao27 t218.length co27, .int .i64 t199, .int .i64 t200] 29 (0, 0)) (by (with_reducible repeat (first | refine blk_drewN ?_ _ | refine blk_drew ?_ | refine blk_alloc ?_ _)); exact BK201.out) hb); have n8_ := Aside0.mk (blk_below (g := gb209) (o := .cells #[.slice Ao35 t202.length co35, .int .i64 t205, .int .i64 t206] 29 (0, 0)) (by (with_reducible repeat (first | refine blk_drewN ?_ _ | refine blk_drew ?_ | refine blk_alloc ?_ _)); exact BK209.out) hb); have n9_ := Aside0.mk (blk_below (g := gb235) (o := .cells #[.slice Ao133 t228.length co133, .int .i64 t231, .int .i64 t232] 29 (0, 0)) (by (with_reducible repeat (first | refine blk_drewN ?_ _ | refine blk_drew ?_ | refine blk_alloc ?_ _)); exact BK235.out) hb); have n10_ := Aside0.mk (below_step (by repeat (first | (with_reducible first | exact HB.out | apply below_alloc | apply pw_below_drewN | apply below_drew1 | refine below_set ?_ GE181.out | refine below_set ?_ GE195.out | refine below_set ?_ GE201.out | refine below_set ?_ GE209.out | refine below_set ?_ GE235.out) | exact HB.out)) hb); clear HO_196000; clear HO_202000; clear HO_210000; clear HO225; clear HO230; clear BK181; clear BK195; clear BK201; clear BK209; clear BK235; clear HB; have HO_196000 := n0_; have HO_202000 := n1_; have HO_210000 := n2_; have HO225 := n3_; have HO230 := n4_; have BK181 := n5_; have BK195 := n6_; have BK201 := n7_; have BK209 := n8_; have BK235 := n9_; have HB := n10_; clear n0_ n1_ n2_ n3_ n4_ n5_ n6_ n7_ n8_ n9_ n10_; (try clear hb); (try clear hb2); (try clear hk); (try clear hi)))
                            go_meet
                            case rel => exact ⟨_, ((t234 != t194)), (by first | rfl | (simp; done) | (simp [*]; done)), H', ⟨by have := HJ10.out; have := HJ72.out; first | omega | exact Nat.le_refl _⟩, ⟨by (try simp only [hl202000_72]); (with_reducible repeat (first | apply Kd.R_alloc | apply Kd.R_drewN | apply Kd.R_drew)); exact Kd.R_mono HO_196000.out (fun _ hk => ⟨hk.1, ⟨hk.2.1, hk.2.2.2⟩⟩)⟩, ⟨by (try simp only [hl202000_72]); (with_reducible repeat (first | apply Kd.R_alloc | apply Kd.R_drewN | apply Kd.R_drew)); exact Kd.R_mono HO_202000.out (fun _ hk => ⟨hk.1, ⟨hk.2.1, hk.2.2.2⟩⟩)⟩, ⟨by (try simp only [hl202000_72]); (with_reducible repeat (first | apply Kd.R_alloc | apply Kd.R_drewN | apply Kd.R_drew)); exact Kd.R_mono HO_210000.out (fun _ hk => ⟨hk.1, ⟨hk.2.1, hk.2.2.2⟩⟩)⟩, ⟨by (try simp only [hl202000_72]); (with_reducible repeat (first | apply Kd.R_alloc | apply Kd.R_drewN | apply Kd.R_drew)); exact Kd.R_mono HO230.out (fun _ hk => ⟨hk.1, ⟨hk.2.1, hk.2.2.1⟩⟩)⟩, ⟨by (try simp only [hl202000_72]); (with_reducible repeat (first | refine blk_drewN ?_ _ | refine blk_drew ?_ | refine blk_alloc ?_ _)); exact BK181.out⟩, ⟨by (try simp only [hl202000_72]); (with_reducible repeat (first | refine blk_drewN ?_ _ | refine blk_drew ?_ | refine blk_alloc ?_ _)); exact BK195.out⟩, ⟨by (try simp only [hl202000_72]); (with_reducible repeat (first | refine blk_drewN ?_ _ | refine blk_drew ?_ | refine blk_alloc ?_ _)); exact BK201.out⟩, ⟨by (try simp only [hl202000_72]); (with_reducible repeat (first | refine blk_drewN ?_ _ | refine blk_drew ?_ | refine blk_alloc ?_ _)); exact BK209.out⟩, ⟨by (try simp only [hl202000_72]); (with_reducible repeat (first | refine blk_drewN ?_ _ | refine blk_drew ?_ | refine blk_alloc ?_ _)); exact BK235.out⟩, ⟨by repeat (first | (with_reducible first | exact HB.out | apply below_alloc | apply pw_below_drewN | apply below_drew1 | refine below_set ?_ GE181.out | refine below_set ?_ GE195.out | refine below_set ?_ GE201.out | refine below_set ?_ GE209.out | refine below_set ?_ GE235.out) | exact HB.out)⟩⟩
                          · rw [if_neg c142] at H
                            have c142b0 : (t233 == t193) = false := beq_eq_false_iff_ne.mpr c142
                            have c142b1 : (t233 != t193) = true := bne_iff_ne.mpr c142
                            (first | rw [c142b0] | (simp only [i64_w, i32_w]; rw [c142b0]) | skip)
                            have H' := Aside0.mk H
                            clear H
                            have hnb153 := NB235_181.out
                            have hnc153 := NB181_235.out
                            have hnb154 := NB235_195.out
                            have hnc154 := NB195_235.out
                            have hnb155 := NB235_201.out
                            have hnc155 := NB201_235.out
                            have hnb156 := NB235_209.out
                            have hnc156 := NB209_235.out
                            have hcz157_0 : w139.cell? ⟨gb235, 0, none⟩ = some (.slice Ao133 t228.length co133) := (blk_cell BK235.out 0).trans rfl
                            have hcz157_1 : w139.cell? ⟨gb235, 1, none⟩ = some (.int .i64 t231) := (blk_cell BK235.out 1).trans rfl
                            have hcz157_2 : w139.cell? ⟨gb235, 2, none⟩ = some (.int .i64 t232) := (blk_cell BK235.out 2).trans rfl
                            have hfz157_0 := blk_frozen BK235.out 0
                            have hfz157_1 := blk_frozen BK235.out 1
                            have hfz157_2 := blk_frozen BK235.out 2
                            have hnb158 := NB195_181.out
                            have hnc158 := NB181_195.out
                            have hnb159 := NB195_201.out
                            have hnc159 := NB201_195.out
                            have hnb160 := NB195_209.out
                            have hnc160 := NB209_195.out
                            have hcz161_0 : w139.cell? ⟨gb195, 0, none⟩ = some (.slice Ao20 t188.length co20) := (blk_cell BK195.out 0).trans rfl
                            have hcz161_1 : w139.cell? ⟨gb195, 1, none⟩ = some (.int .i64 t191) := (blk_cell BK195.out 1).trans rfl
                            have hcz161_2 : w139.cell? ⟨gb195, 2, none⟩ = some (.int .i64 t192) := (blk_cell BK195.out 2).trans rfl
                            have hfz161_0 := blk_frozen BK195.out 0
                            have hfz161_1 := blk_frozen BK195.out 1
                            have hfz161_2 := blk_frozen BK195.out 2
                            go_wp2_with (first | ((with_reducible refine gate_callee (f := 19) rfl ?_); refine goesL_ (some 97) rfl rfl Try.func19 (by kernel_rfl) rfl #[.agg #[.slice Ao133 t228.length co133, .int .i64 t231, .int .i64 t232], .agg #[.slice Ao20 t188.length co20, .int .i64 t191, .int .i64 t192]] rfl (by (try simp only [List.map_toArray, List.map_cons, List.map_nil]); first | done | rfl | (simp only [List.length_drop, List.length_take]; rfl)) ?_; (with_reducible refine (laws_eqRing.calls kj72 _ _ t228 t231 t232 _ _ t188 t191 t192 true _ ?side1 ?side2 ?side3 ?side4 A140.out).mono ?_); (case side1 => repeat (first | exact (Kd.R_reads' HO230.out).2.2 | (with_reducible refine Kd.C_alloc ?_ _) | (with_reducible refine Kd.C_drewN ?_ _) | (with_reducible refine Kd.C_drew ?_))); (case side2 => exact (Kd.R_reads' HO230.out).2.1); (case side3 => repeat (first | exact (Kd.R_reads' HO_196000.out).2.2 | (with_reducible refine Kd.C_alloc ?_ _) | (with_reducible refine Kd.C_drewN ?_ _) | (with_reducible refine Kd.C_drew ?_))); (case side4 => exact (Kd.R_reads' HO_196000.out).2.1); rintro e w162 ⟨rfl, hb⟩; refine ⟨_, rfl, ?_⟩; have n0_ := Aside0.mk (Kd.R_below (by (with_reducible repeat (first | apply Kd.R_alloc | apply Kd.R_drewN | apply Kd.R_drew)); exact HO_196000.out) hb); have n1_ := Aside0.mk (Kd.R_below (by (with_reducible repeat (first | apply Kd.R_alloc | apply Kd.R_drewN | apply Kd.R_drew)); exact HO_202000.out) hb); have n2_ := Aside0.mk (Kd.R_below (by (with_reducible repeat (first | apply Kd.R_alloc | apply Kd.R_drewN | apply Kd.R_drew)); exact HO_210000.out) hb); have n3_ := Aside0.mk (Kd.R_below (by (with_reducible repeat (first | apply Kd.R_alloc | apply Kd.R_drewN | apply Kd.R_drew)); exact HO225.out) hb); have n4_ := Aside0.mk (Kd.R_below (by (with_reducible repeat (first | apply Kd.R_alloc | apply Kd.R_drewN | apply Kd.R_drew)); exact HO230.out) hb); have n5_ := Aside0.mk (blk_below (g := gb181) (o := .cells #[.slice A0_0 l0_0.length c0_0, .int .i64 a0_1, .int .i64 a0_2] 24 (0, 0)) (by (with_reducible repeat (first | refine blk_drewN ?_ _ | refine blk_drew ?_ | refine blk_alloc ?_ _)); exact BK181.out) hb); have n6_ := Aside0.mk (blk_below (g := gb195) (o := .cells #[.slice Ao20 t188.length co20, .int .i64 t191, .int .i64 t192] 29 (0, 0)) (by (with_reducible repeat (first | refine blk_drewN ?_ _ | refine blk_drew ?_ | refine blk_alloc ?_ _)); exact BK195.out) hb); have n7_ := Aside0.mk (blk_below (g := gb201) (o := .cells #[.slice Ao27 t218.length co27, .int .i64 t199, .int .i64 t200] 29 (0, 0)) (by (with_reducible repeat (first | refine blk_drewN ?_ _ | refine blk_drew ?_ | refine blk_alloc ?_ _)); exact BK201.out) hb); have n8_ := Aside0.mk (blk_below (g := gb209) (o := .cells #[.slice Ao35 t202.length co35, .int .i64 t205, .int .i64 t206] 29 (0, 0)) (by (with_reducible repeat (first | refine blk_drewN ?_ _ | refine blk_drew ?_ | refine blk_alloc ?_ _)); exact BK209.out) hb); have n9_ := Aside0.mk (blk_below (g := gb235) (o := .cells #[.slice Ao133 t228.length co133, .int .i64 t231, .int .i64 t232] 29 (0, 0)) (by (with_reducible repeat (first | refine blk_drewN ?_ _ | refine blk_drew ?_ | refine blk_alloc ?_ _)); exact BK235.out) hb); have n10_ := Aside0.mk (below_step (by repeat (first | (with_reducible first | exact HB.out | apply below_alloc | apply pw_below_drewN | apply below_drew1 | refine below_set ?_ GE181.out | refine below_set ?_ GE195.out | refine below_set ?_ GE201.out | refine below_set ?_ GE209.out | refine below_set ?_ GE235.out) | exact HB.out)) hb); clear HO_196000; clear HO_202000; clear HO_210000; clear HO225; clear HO230; clear BK181; clear BK195; clear BK201; clear BK209; clear BK235; clear HB; have HO_196000 := n0_; have HO_202000 := n1_; have HO_210000 := n2_; have HO225 := n3_; have HO230 := n4_; have BK181 := n5_; have BK195 := n6_; have BK201 := n7_; have BK209 := n8_; have BK235 := n9_; have HB := n10_; clear n0_ n1_ n2_ n3_ n4_ n5_ n6_ n7_ n8_ n9_ n10_; (try clear hb); (try clear hb2); (try clear hk); (try clear hi)))
                            go_meet
                            case rel => exact ⟨_, (true), (by first | rfl | (simp; done) | (simp [*]; done)), H', ⟨by have := HJ10.out; have := HJ72.out; first | omega | exact Nat.le_refl _⟩, ⟨by (try simp only [hl202000_72]); (with_reducible repeat (first | apply Kd.R_alloc | apply Kd.R_drewN | apply Kd.R_drew)); exact Kd.R_mono HO_196000.out (fun _ hk => ⟨hk.1, ⟨hk.2.1, hk.2.2.2⟩⟩)⟩, ⟨by (try simp only [hl202000_72]); (with_reducible repeat (first | apply Kd.R_alloc | apply Kd.R_drewN | apply Kd.R_drew)); exact Kd.R_mono HO_202000.out (fun _ hk => ⟨hk.1, ⟨hk.2.1, hk.2.2.2⟩⟩)⟩, ⟨by (try simp only [hl202000_72]); (with_reducible repeat (first | apply Kd.R_alloc | apply Kd.R_drewN | apply Kd.R_drew)); exact Kd.R_mono HO_210000.out (fun _ hk => ⟨hk.1, ⟨hk.2.1, hk.2.2.2⟩⟩)⟩, ⟨by (try simp only [hl202000_72]); (with_reducible repeat (first | apply Kd.R_alloc | apply Kd.R_drewN | apply Kd.R_drew)); exact Kd.R_mono HO230.out (fun _ hk => ⟨hk.1, ⟨hk.2.1, hk.2.2.1⟩⟩)⟩, ⟨by (try simp only [hl202000_72]); (with_reducible repeat (first | refine blk_drewN ?_ _ | refine blk_drew ?_ | refine blk_alloc ?_ _)); exact BK181.out⟩, ⟨by (try simp only [hl202000_72]); (with_reducible repeat (first | refine blk_drewN ?_ _ | refine blk_drew ?_ | refine blk_alloc ?_ _)); exact BK195.out⟩, ⟨by (try simp only [hl202000_72]); (with_reducible repeat (first | refine blk_drewN ?_ _ | refine blk_drew ?_ | refine blk_alloc ?_ _)); exact BK201.out⟩, ⟨by (try simp only [hl202000_72]); (with_reducible repeat (first | refine blk_drewN ?_ _ | refine blk_drew ?_ | refine blk_alloc ?_ _)); exact BK209.out⟩, ⟨by (try simp only [hl202000_72]); (with_reducible repeat (first | refine blk_drewN ?_ _ | refine blk_drew ?_ | refine blk_alloc ?_ _)); exact BK235.out⟩, ⟨by repeat (first | (with_reducible first | exact HB.out | apply below_alloc | apply pw_below_drewN | apply below_drew1 | refine below_set ?_ GE181.out | refine below_set ?_ GE195.out | refine below_set ?_ GE201.out | refine below_set ?_ GE209.out | refine below_set ?_ GE235.out) | exact HB.out)⟩⟩
                        · replace c141 := Bool.eq_false_iff.mpr c141
                          subst c141
                          have H1 : (laws_FnExactPopRing.j2 kj72 t220 true t221 t205 t206) = some r := by rw [if_neg (show ¬ (false = true) by decide)] at H; exact H
                          clear H
                          have H := H1
                          clear H1
                          have H' := Aside0.mk H
                          clear H
                          have hnb163 := NB235_181.out
                          have hnc163 := NB181_235.out
                          have hnb164 := NB235_195.out
                          have hnc164 := NB195_235.out
                          have hnb165 := NB235_201.out
                          have hnc165 := NB201_235.out
                          have hnb166 := NB235_209.out
                          have hnc166 := NB209_235.out
                          have hcz167_0 : w139.cell? ⟨gb235, 0, none⟩ = some (.slice Ao133 t228.length co133) := (blk_cell BK235.out 0).trans rfl
                          have hcz167_1 : w139.cell? ⟨gb235, 1, none⟩ = some (.int .i64 t231) := (blk_cell BK235.out 1).trans rfl
                          have hcz167_2 : w139.cell? ⟨gb235, 2, none⟩ = some (.int .i64 t232) := (blk_cell BK235.out 2).trans rfl
                          have hfz167_0 := blk_frozen BK235.out 0
                          have hfz167_1 := blk_frozen BK235.out 1
                          have hfz167_2 := blk_frozen BK235.out 2
                          have hnb168 := NB195_181.out
                          have hnc168 := NB181_195.out
                          have hnb169 := NB195_201.out
                          have hnc169 := NB201_195.out
                          have hnb170 := NB195_209.out
                          have hnc170 := NB209_195.out
                          have hcz171_0 : w139.cell? ⟨gb195, 0, none⟩ = some (.slice Ao20 t188.length co20) := (blk_cell BK195.out 0).trans rfl
                          have hcz171_1 : w139.cell? ⟨gb195, 1, none⟩ = some (.int .i64 t191) := (blk_cell BK195.out 1).trans rfl
                          have hcz171_2 : w139.cell? ⟨gb195, 2, none⟩ = some (.int .i64 t192) := (blk_cell BK195.out 2).trans rfl
                          have hfz171_0 := blk_frozen BK195.out 0
                          have hfz171_1 := blk_frozen BK195.out 1
                          have hfz171_2 := blk_frozen BK195.out 2
                          go_wp2_with (first | ((with_reducible refine gate_callee (f := 19) rfl ?_); refine goesL_ (some 97) rfl rfl Try.func19 (by kernel_rfl) rfl #[.agg #[.slice Ao133 t228.length co133, .int .i64 t231, .int .i64 t232], .agg #[.slice Ao20 t188.length co20, .int .i64 t191, .int .i64 t192]] rfl (by (try simp only [List.map_toArray, List.map_cons, List.map_nil]); first | done | rfl | (simp only [List.length_drop, List.length_take]; rfl)) ?_; (with_reducible refine (laws_eqRing.calls kj72 _ _ t228 t231 t232 _ _ t188 t191 t192 false _ ?side1 ?side2 ?side3 ?side4 A140.out).mono ?_); (case side1 => repeat (first | exact (Kd.R_reads' HO230.out).2.2 | (with_reducible refine Kd.C_alloc ?_ _) | (with_reducible refine Kd.C_drewN ?_ _) | (with_reducible refine Kd.C_drew ?_))); (case side2 => exact (Kd.R_reads' HO230.out).2.1); (case side3 => repeat (first | exact (Kd.R_reads' HO_196000.out).2.2 | (with_reducible refine Kd.C_alloc ?_ _) | (with_reducible refine Kd.C_drewN ?_ _) | (with_reducible refine Kd.C_drew ?_))); (case side4 => exact (Kd.R_reads' HO_196000.out).2.1); rintro e w172 ⟨rfl, hb⟩; refine ⟨_, rfl, ?_⟩; have n0_ := Aside0.mk (Kd.R_below (by (with_reducible repeat (first | apply Kd.R_alloc | apply Kd.R_drewN | apply Kd.R_drew)); exact HO_196000.out) hb); have n1_ := Aside0.mk (Kd.R_below (by (with_reducible repeat (first | apply Kd.R_alloc | apply Kd.R_drewN | apply Kd.R_drew)); exact HO_202000.out) hb); have n2_ := Aside0.mk (Kd.R_below (by (with_reducible repeat (first | apply Kd.R_alloc | apply Kd.R_drewN | apply Kd.R_drew)); exact HO_210000.out) hb); have n3_ := Aside0.mk (Kd.R_below (by (with_reducible repeat (first | apply Kd.R_alloc | apply Kd.R_drewN | apply Kd.R_drew)); exact HO225.out) hb); have n4_ := Aside0.mk (Kd.R_below (by (with_reducible repeat (first | apply Kd.R_alloc | apply Kd.R_drewN | apply Kd.R_drew)); exact HO230.out) hb); have n5_ := Aside0.mk (blk_below (g := gb181) (o := .cells #[.slice A0_0 l0_0.length c0_0, .int .i64 a0_1, .int .i64 a0_2] 24 (0, 0)) (by (with_reducible repeat (first | refine blk_drewN ?_ _ | refine blk_drew ?_ | refine blk_alloc ?_ _)); exact BK181.out) hb); have n6_ := Aside0.mk (blk_below (g := gb195) (o := .cells #[.slice Ao20 t188.length co20, .int .i64 t191, .int .i64 t192] 29 (0, 0)) (by (with_reducible repeat (first | refine blk_drewN ?_ _ | refine blk_drew ?_ | refine blk_alloc ?_ _)); exact BK195.out) hb); have n7_ := Aside0.mk (blk_below (g := gb201) (o := .cells #[.slice Ao27 t218.length co27, .int .i64 t199, .int .i64 t200] 29 (0, 0)) (by (with_reducible repeat (first | refine blk_drewN ?_ _ | refine blk_drew ?_ | refine blk_alloc ?_ _)); exact BK201.out) hb); have n8_ := Aside0.mk (blk_below (g := gb209) (o := .cells #[.slice Ao35 t202.length co35, .int .i64 t205, .int .i64 t206] 29 (0, 0)) (by (with_reducible repeat (first | refine blk_drewN ?_ _ | refine blk_drew ?_ | refine blk_alloc ?_ _)); exact BK209.out) hb); have n9_ := Aside0.mk (blk_below (g := gb235) (o := .cells #[.slice Ao133 t228.length co133, .int .i64 t231, .int .i64 t232] 29 (0, 0)) (by (with_reducible repeat (first | refine blk_drewN ?_ _ | refine blk_drew ?_ | refine blk_alloc ?_ _)); exact BK235.out) hb); have n10_ := Aside0.mk (below_step (by repeat (first | (with_reducible first | exact HB.out | apply below_alloc | apply pw_below_drewN | apply below_drew1 | refine below_set ?_ GE181.out | refine below_set ?_ GE195.out | refine below_set ?_ GE201.out | refine below_set ?_ GE209.out | refine below_set ?_ GE235.out) | exact HB.out)) hb); clear HO_196000; clear HO_202000; clear HO_210000; clear HO225; clear HO230; clear BK181; clear BK195; clear BK201; clear BK209; clear BK235; clear HB; have HO_196000 := n0_; have HO_202000 := n1_; have HO_210000 := n2_; have HO225 := n3_; have HO230 := n4_; have BK181 := n5_; have BK195 := n6_; have BK201 := n7_; have BK209 := n8_; have BK235 := n9_; have HB := n10_; clear n0_ n1_ n2_ n3_ n4_ n5_ n6_ n7_ n8_ n9_ n10_; (try clear hb); (try clear hb2); (try clear hk); (try clear hi)))
                          go_meet
                          case rel => exact ⟨_, (true), (by first | rfl | (simp; done) | (simp [*]; done)), H', ⟨by have := HJ10.out; have := HJ72.out; first | omega | exact Nat.le_refl _⟩, ⟨by (try simp only [hl202000_72]); (with_reducible repeat (first | apply Kd.R_alloc | apply Kd.R_drewN | apply Kd.R_drew)); exact Kd.R_mono HO_196000.out (fun _ hk => ⟨hk.1, ⟨hk.2.1, hk.2.2.2⟩⟩)⟩, ⟨by (try simp only [hl202000_72]); (with_reducible repeat (first | apply Kd.R_alloc | apply Kd.R_drewN | apply Kd.R_drew)); exact Kd.R_mono HO_202000.out (fun _ hk => ⟨hk.1, ⟨hk.2.1, hk.2.2.2⟩⟩)⟩, ⟨by (try simp only [hl202000_72]); (with_reducible repeat (first | apply Kd.R_alloc | apply Kd.R_drewN | apply Kd.R_drew)); exact Kd.R_mono HO_210000.out (fun _ hk => ⟨hk.1, ⟨hk.2.1, hk.2.2.2⟩⟩)⟩, ⟨by (try simp only [hl202000_72]); (with_reducible repeat (first | apply Kd.R_alloc | apply Kd.R_drewN | apply Kd.R_drew)); exact Kd.R_mono HO230.out (fun _ hk => ⟨hk.1, ⟨hk.2.1, hk.2.2.1⟩⟩)⟩, ⟨by (try simp only [hl202000_72]); (with_reducible repeat (first | refine blk_drewN ?_ _ | refine blk_drew ?_ | refine blk_alloc ?_ _)); exact BK181.out⟩, ⟨by (try simp only [hl202000_72]); (with_reducible repeat (first | refine blk_drewN ?_ _ | refine blk_drew ?_ | refine blk_alloc ?_ _)); exact BK195.out⟩, ⟨by (try simp only [hl202000_72]); (with_reducible repeat (first | refine blk_drewN ?_ _ | refine blk_drew ?_ | refine blk_alloc ?_ _)); exact BK201.out⟩, ⟨by (try simp only [hl202000_72]); (with_reducible repeat (first | refine blk_drewN ?_ _ | refine blk_drew ?_ | refine blk_alloc ?_ _)); exact BK209.out⟩, ⟨by (try simp only [hl202000_72]); (with_reducible repeat (first | refine blk_drewN ?_ _ | refine blk_drew ?_ | refine blk_alloc ?_ _)); exact BK235.out⟩, ⟨by repeat (first | (with_reducible first | exact HB.out | apply below_alloc | apply pw_below_drewN | apply below_drew1 | refine below_set ?_ GE181.out | refine below_set ?_ GE195.out | refine below_set ?_ GE201.out | refine below_set ?_ GE209.out | refine below_set ?_ GE235.out) | exact HB.out)⟩⟩
                      case rest =>
                        clear HC118
                        try clear c1
                        try clear c2
                        try clear p2
                        try clear c3
                        try clear c3b0
                        try clear c4
                        try clear c5
                        try clear c6
                        try clear c7
                        try clear c8
                        try clear c9
                        try clear c10
                        try clear c11
                        try clear c12
                        try clear c13
                        try clear c14
                        try clear c15
                        try clear c16
                        try clear c17
                        try clear c19
                        try clear c21
                        try clear c28
                        try clear c29
                        try clear c36
                        try clear c37
                        try clear c38
                        try clear c42
                        try clear c43
                        try clear c43b0
                        try clear c43b1
                        try clear c44
                        try clear c45
                        try clear c46
                        try clear c48
                        try clear c49
                        try clear c52
                        try clear c53
                        try clear c54
                        try clear c56
                        try clear c57
                        try clear c60
                        try clear c61
                        try clear c62
                        try clear c64
                        try clear c65
                        try clear c68
                        try clear c71
                        try clear c78
                        try clear c79
                        try clear c80
                        try clear c83
                        try clear c83b0
                        try clear c85
                        try clear c86
                        try clear c86b0
                        try clear c86b1
                        try clear c87
                        try clear c88
                        try clear c89
                        try clear c91
                        try clear c92
                        try clear c95
                        try clear c96
                        try clear c97
                        try clear c99
                        try clear c100
                        try clear c103
                        try clear c104
                        try clear c105
                        try clear c107
                        try clear c108
                        try clear c111
                        try clear c114
                        try clear c114b0
                        try clear c115
                        try clear c115b0
                        try clear c115b1
                        try clear c119
                        try clear c120
                        try clear c121
                        try clear c126
                        try clear c127
                        try clear c134
                        try clear c135
                        try clear c136
                        try clear c137
                        try clear c141
                        try clear c142
                        try clear c142b0
                        try clear c142b1
                        try clear c143
                        try clear c144
                        try clear c145
                        try clear c146
                        try clear c148
                        try clear c149
                        try clear c150
                        try clear c153
                        try clear c154
                        try clear c155
                        try clear c156
                        try clear c158
                        try clear c159
                        try clear c160
                        try clear c163
                        try clear c164
                        try clear c165
                        try clear c166
                        try clear c168
                        try clear c169
                        try clear c170
                        try clear hcz101_0
                        try clear hcz101_1
                        try clear hcz101_2
                        try clear hcz106_0
                        try clear hcz106_1
                        try clear hcz106_2
                        try clear hcz109_0
                        try clear hcz109_1
                        try clear hcz109_2
                        try clear hcz122_0
                        try clear hcz122_1
                        try clear hcz122_2
                        try clear hcz124_0
                        try clear hcz124_1
                        try clear hcz124_2
                        try clear hcz128_0
                        try clear hcz128_1
                        try clear hcz128_2
                        try clear hcz138_0
                        try clear hcz138_1
                        try clear hcz138_2
                        try clear hcz13_0
                        try clear hcz13_1
                        try clear hcz13_2
                        try clear hcz147_0
                        try clear hcz147_1
                        try clear hcz147_2
                        try clear hcz151_0
                        try clear hcz151_1
                        try clear hcz151_2
                        try clear hcz157_0
                        try clear hcz157_1
                        try clear hcz157_2
                        try clear hcz15_0
                        try clear hcz15_1
                        try clear hcz15_2
                        try clear hcz161_0
                        try clear hcz161_1
                        try clear hcz161_2
                        try clear hcz167_0
                        try clear hcz167_1
                        try clear hcz167_2
                        try clear hcz171_0
                        try clear hcz171_1
                        try clear hcz171_2
                        try clear hcz22_0
                        try clear hcz22_1
                        try clear hcz22_2
                        try clear hcz24_0
                        try clear hcz24_1
                        try clear hcz24_2
                        try clear hcz30_0
                        try clear hcz30_1
                        try clear hcz30_2
                        try clear hcz32_0
                        try clear hcz32_1
                        try clear hcz32_2
                        try clear hcz39_0
                        try clear hcz39_1
                        try clear hcz39_2
                        try clear hcz47_0
                        try clear hcz47_1
                        try clear hcz47_2
                        try clear hcz50_0
                        try clear hcz50_1
                        try clear hcz50_2
                        try clear hcz55_0
                        try clear hcz55_1
                        try clear hcz55_2
                        try clear hcz58_0
                        try clear hcz58_1
                        try clear hcz58_2
                        try clear hcz5_0
                        try clear hcz5_1
                        try clear hcz5_2
                        try clear hcz63_0
                        try clear hcz63_1
                        try clear hcz63_2
                        try clear hcz66_0
                        try clear hcz66_1
                        try clear hcz66_2
                        try clear hcz81_0
                        try clear hcz81_1
                        try clear hcz81_2
                        try clear hcz90_0
                        try clear hcz90_1
                        try clear hcz90_2
                        try clear hcz93_0
                        try clear hcz93_1
                        try clear hcz93_2
                        try clear hcz98_0
                        try clear hcz98_1
                        try clear hcz98_2
                        try clear hfz101_0
                        try clear hfz101_1
                        try clear hfz101_2
                        try clear hfz106_0
                        try clear hfz106_1
                        try clear hfz106_2
                        try clear hfz109_0
                        try clear hfz109_1
                        try clear hfz109_2
                        try clear hfz122_0
                        try clear hfz122_1
                        try clear hfz122_2
                        try clear hfz124_0
                        try clear hfz124_1
                        try clear hfz124_2
                        try clear hfz128_0
                        try clear hfz128_1
                        try clear hfz128_2
                        try clear hfz138_0
                        try clear hfz138_1
                        try clear hfz138_2
                        try clear hfz13_0
                        try clear hfz13_1
                        try clear hfz13_2
                        try clear hfz147_0
                        try clear hfz147_1
                        try clear hfz147_2
                        try clear hfz151_0
                        try clear hfz151_1
                        try clear hfz151_2
                        try clear hfz157_0
                        try clear hfz157_1
                        try clear hfz157_2
                        try clear hfz15_0
                        try clear hfz15_1
                        try clear hfz15_2
                        try clear hfz161_0
                        try clear hfz161_1
                        try clear hfz161_2
                        try clear hfz167_0
                        try clear hfz167_1
                        try clear hfz167_2
                        try clear hfz171_0
                        try clear hfz171_1
                        try clear hfz171_2
                        try clear hfz22_0
                        try clear hfz22_1
                        try clear hfz22_2
                        try clear hfz24_0
                        try clear hfz24_1
                        try clear hfz24_2
                        try clear hfz30_0
                        try clear hfz30_1
                        try clear hfz30_2
                        try clear hfz32_0
                        try clear hfz32_1
                        try clear hfz32_2
                        try clear hfz39_0
                        try clear hfz39_1
                        try clear hfz39_2
                        try clear hfz47_0
                        try clear hfz47_1
                        try clear hfz47_2
                        try clear hfz50_0
                        try clear hfz50_1
                        try clear hfz50_2
                        try clear hfz55_0
                        try clear hfz55_1
                        try clear hfz55_2
                        try clear hfz58_0
                        try clear hfz58_1
                        try clear hfz58_2
                        try clear hfz5_0
                        try clear hfz5_1
                        try clear hfz5_2
                        try clear hfz63_0
                        try clear hfz63_1
                        try clear hfz63_2
                        try clear hfz66_0
                        try clear hfz66_1
                        try clear hfz66_2
                        try clear hfz81_0
                        try clear hfz81_1
                        try clear hfz81_2
                        try clear hfz90_0
                        try clear hfz90_1
                        try clear hfz90_2
                        try clear hfz93_0
                        try clear hfz93_1
                        try clear hfz93_2
                        try clear hfz98_0
                        try clear hfz98_1
                        try clear hfz98_2
                        try clear p2
                        obtain ⟨kq, x108_117, rfl, HA, HJ117, HO_196000, HO_202000, HO_210000, HO_236000, BK181, BK195, BK201, BK209, BK235, HB⟩ := hcut
                        have hl210000_117 := (Kd.R_reads' HO_210000.out).1
                        rw [hl210000_117] at HO_210000
                        (try simp only [hl210000_117])
                        (try simp only [hl210000_117] at BK181)
                        (try simp only [hl210000_117] at BK195)
                        (try simp only [hl210000_117] at BK201)
                        (try simp only [hl210000_117] at BK209)
                        (try simp only [hl210000_117] at BK235)
                        (try simp only [hl210000_117] at HO_196000)
                        (try simp only [hl210000_117] at HO_202000)
                        (try simp only [hl210000_117] at HO_236000)
                        cases kq with
                        | zero => exact absurd HA.out (by simp [laws_FnExactPopRing.j2])
                        | succ kj117 =>
                          have H := HA.out
                          clear HA
                          simp only [laws_FnExactPopRing.j2] at H
                          by_cases c173 : x108_117 = true
                          · subst c173
                            have H1 : (some false) = some r := by rw [if_pos rfl] at H; exact H
                            clear H
                            have H := H1
                            clear H1
                            exact absurd ((Option.some.inj H).trans hT.out) (by decide)
                          · replace c173 := Bool.eq_false_iff.mpr c173
                            subst c173
                            have H1 : ((laws_heldRing.f kj117 t221 t205 t206 1).bind fun t237 => (if t237 < 0 then (some false) else (if t237 = t220 then (some true) else (some false)))) = some r := by rw [if_neg (show ¬ (false = true) by decide)] at H; exact H
                            clear H
                            have H := H1
                            clear H1
                            replace H := Option.bind_eq_some_iff.mp H
                            obtain ⟨t237, A1740, H⟩ := H
                            replace H : (if t237 < 0 then (some false) else (if t237 = t220 then (some true) else (some false))) = some r := H
                            have A174 := Aside0.mk A1740
                            clear A1740
                            by_cases c175 : t237 < 0
                            · rw [if_pos c175] at H
                              have c175b0 : decide (t237 < 0) = true := decide_eq_true c175
                              clear c175
                              exact absurd ((Option.some.inj H).trans hT.out) (by decide)
                            · rw [if_neg c175] at H
                              have c175b0 : decide (t237 < 0) = false := decide_eq_false c175
                              clear c175
                              by_cases c176 : t237 = t220
                              · rw [if_pos c176] at H
                                have c176b0 : (t237 == t220) = true := beq_iff_eq.mpr c176
                                have c176b1 : (t237 != t220) = false := bne_eq_false_iff_eq.mpr c176
                                clear c176
                                obtain rfl := Option.some.inj H
                                have hnb177 := NB209_181.out
                                have hnc177 := NB181_209.out
                                have hnb178 := NB209_195.out
                                have hnc178 := NB195_209.out
                                have hnb179 := NB209_201.out
                                have hnc179 := NB201_209.out
                                have hnb180 := NB209_235.out
                                have hnc180 := NB235_209.out
                                have hcz181_0 : wc.cell? ⟨gb209, 0, none⟩ = some (.slice Ao35 t221.length co35) := (blk_cell BK209.out 0).trans rfl
                                have hcz181_1 : wc.cell? ⟨gb209, 1, none⟩ = some (.int .i64 t205) := (blk_cell BK209.out 1).trans rfl
                                have hcz181_2 : wc.cell? ⟨gb209, 2, none⟩ = some (.int .i64 t206) := (blk_cell BK209.out 2).trans rfl
                                have hfz181_0 := blk_frozen BK209.out 0
                                have hfz181_1 := blk_frozen BK209.out 1
                                have hfz181_2 := blk_frozen BK209.out 2
                                go_wp2_with (first | ((with_reducible refine gate_callee (f := 52) rfl ?_); refine goesL_ (some 111) rfl rfl Try.func52 (by kernel_rfl) rfl #[.agg #[.slice Ao35 t221.length co35, .int .i64 t205, .int .i64 t206], .int .i64 1] rfl (by (try simp only [List.map_toArray, List.map_cons, List.map_nil]); first | done | rfl | (simp only [List.length_drop, List.length_take]; rfl)) ?_; (with_reducible refine (laws_heldRing.calls kj117 _ _ t221 t205 t206 1 t237 _ ?side1 ?side2 A174.out).mono ?_); (case side1 => repeat (first | exact (Kd.R_reads' HO_210000.out).2.2 | (with_reducible refine Kd.C_alloc ?_ _) | (with_reducible refine Kd.C_drewN ?_ _) | (with_reducible refine Kd.C_drew ?_))); (case side2 => exact (Kd.R_reads' HO_210000.out).2.1); rintro e w182 ⟨rfl, hb⟩; refine ⟨_, rfl, ?_⟩; have n0_ := Aside0.mk (Kd.R_below (by (with_reducible repeat (first | apply Kd.R_alloc | apply Kd.R_drewN | apply Kd.R_drew)); exact HO_196000.out) hb); have n1_ := Aside0.mk (Kd.R_below (by (with_reducible repeat (first | apply Kd.R_alloc | apply Kd.R_drewN | apply Kd.R_drew)); exact HO_202000.out) hb); have n2_ := Aside0.mk (Kd.R_below (by (with_reducible repeat (first | apply Kd.R_alloc | apply Kd.R_drewN | apply Kd.R_drew)); exact HO_210000.out) hb); have n3_ := Aside0.mk (Kd.R_below (by (with_reducible repeat (first | apply Kd.R_alloc | apply Kd.R_drewN | apply Kd.R_drew)); exact HO_236000.out) hb); have n4_ := Aside0.mk (blk_below (g := gb181) (o := .cells #[.slice A0_0 l0_0.length c0_0, .int .i64 a0_1, .int .i64 a0_2] 24 (0, 0)) (by (with_reducible repeat (first | refine blk_drewN ?_ _ | refine blk_drew ?_ | refine blk_alloc ?_ _)); exact BK181.out) hb); have n5_ := Aside0.mk (blk_below (g := gb195) (o := .cells #[.slice Ao20 t188.length co20, .int .i64 t191, .int .i64 t192] 29 (0, 0)) (by (with_reducible repeat (first | refine blk_drewN ?_ _ | refine blk_drew ?_ | refine blk_alloc ?_ _)); exact BK195.out) hb); have n6_ := Aside0.mk (blk_below (g := gb201) (o := .cells #[.slice Ao27 t218.length co27, .int .i64 t199, .int .i64 t200] 29 (0, 0)) (by (with_reducible repeat (first | refine blk_drewN ?_ _ | refine blk_drew ?_ | refine blk_alloc ?_ _)); exact BK201.out) hb); have n7_ := Aside0.mk (blk_below (g := gb209) (o := .cells #[.slice Ao35 t221.length co35, .int .i64 t205, .int .i64 t206] 29 (0, 0)) (by (with_reducible repeat (first | refine blk_drewN ?_ _ | refine blk_drew ?_ | refine blk_alloc ?_ _)); exact BK209.out) hb); have n8_ := Aside0.mk (blk_below (g := gb235) (o := .cells #[.slice Ao133 t228.length co133, .int .i64 t231, .int .i64 t232] 29 (0, 0)) (by (with_reducible repeat (first | refine blk_drewN ?_ _ | refine blk_drew ?_ | refine blk_alloc ?_ _)); exact BK235.out) hb); have n9_ := Aside0.mk (below_step (by repeat (first | (with_reducible first | exact HB.out | apply below_alloc | apply pw_below_drewN | apply below_drew1 | refine below_set ?_ GE181.out | refine below_set ?_ GE195.out | refine below_set ?_ GE201.out | refine below_set ?_ GE209.out | refine below_set ?_ GE235.out) | exact HB.out)) hb); clear HO_196000; clear HO_202000; clear HO_210000; clear HO_236000; clear BK181; clear BK195; clear BK201; clear BK209; clear BK235; clear HB; have HO_196000 := n0_; have HO_202000 := n1_; have HO_210000 := n2_; have HO_236000 := n3_; have BK181 := n4_; have BK195 := n5_; have BK201 := n6_; have BK209 := n7_; have BK235 := n8_; have HB := n9_; clear n0_ n1_ n2_ n3_ n4_ n5_ n6_ n7_ n8_ n9_; (try clear hb); (try clear hb2); (try clear hk); (try clear hi)))
                                go_ret
                                exact ⟨by first | rfl | (simp [errW_none, errW_some] <;> rfl) | (simp [*, errW_none, errW_some] <;> rfl), by repeat (first | (with_reducible first | exact HB.out | apply below_alloc | apply pw_below_drewN | apply below_drew1 | refine below_set ?_ GE181.out | refine below_set ?_ GE195.out | refine below_set ?_ GE201.out | refine below_set ?_ GE209.out | refine below_set ?_ GE235.out) | exact HB.out)⟩
                              · rw [if_neg c176] at H
                                have c176b0 : (t237 == t220) = false := beq_eq_false_iff_ne.mpr c176
                                have c176b1 : (t237 != t220) = true := bne_iff_ne.mpr c176
                                exact absurd ((Option.some.inj H).trans hT.out) (by decide)
                    · rw [if_neg c115] at H
                      have c115b0 : (t222 == t220) = false := beq_eq_false_iff_ne.mpr c115
                      have c115b1 : (t222 != t220) = true := bne_iff_ne.mpr c115
                      exact absurd ((Option.some.inj H).trans hT.out) (by decide)
          · replace c71 := Bool.eq_false_iff.mpr c71
            subst c71
            have H1 : (some false) = some r := by rw [if_neg (show ¬ (false = true) by decide)] at H; exact H
            clear H
            have H := H1
            clear H1
            exact absurd ((Option.some.inj H).trans hT.out) (by decide)

end Go.Proofs.Ytoeiadanmfajoaa.QFnExactPopRing
