/- The machine side of a law: Lean functions with the Go functions' answers and the walks that show it. No condition. -/
import Derived.Test.YtoeiadanmfajoaaQFnExactPushRingx0
import Derived.Test.YtoeiadanmfajoaaQFnExactPushRingx1
import Derived.Test.YtoeiadanmfajoaaQFnExactPushRingx2
import Derived.Test.YtoeiadanmfajoaaQFnExactPushRingx3
import Derived.Test.YtoeiadanmfajoaaQFnExactPushRingx4
namespace Go.Proofs.Ytoeiadanmfajoaa.QFnExactPushRing
open Go.RowKit Go.Proofs.YtoeiadanmfajoaaW.PrintWords Go.Proofs.YtoeiadanmfajoaaW.PrintLast Go.Proofs.YtoeiadanmfajoaaW.PrintMore
attribute [local go_sem] max2_int min2_int max_two min_two max_three min_three max_four min_four   -- for this text's walks alone
set_option linter.unusedVariables false
set_option linter.unusedSimpArgs false

/-! ### laws_FnExactPushRing: function 9 -/
mutual
def laws_FnExactPushRing.j0 : Nat → Int → Bool → Bool → Bool → List Int → Int → Int → List Int → Int → Int → List Int → Int → Int → List Int → Int → Int → Option (Bool)
  | 0, _, _, _, _, _, _, _, _, _, _, _, _, _, _, _, _ => none
  | k + 1, x1, x7, x10, x44, x180000, x180001, x180002, x193000, x193001, x193002, x199000, x199001, x199002, x206000, x206001, x206002 => if x44 = true then (some false) else ((laws_toRing.f k x180000 x180001 x180002).bind fun bt207 => ((laws_eqRing.f k x199000 x199001 x199002 bt207.1 bt207.2.1 bt207.2.2).bind fun t212 => (if t212 = true then ((laws_markRing.f k x199000 x199001 x199002 1).bind fun bt213 => (if bt213.1 < 0 then (laws_FnExactPushRing.j1 k x1 x7 true x180000 x180001 x180002 x193000 x193001 x193002 x206000 x206001 x206002) else ((laws_eqRing.f k x206000 x206001 x206002 x193000 x193001 x193002).bind fun t215 => (if t215 = true then (laws_FnExactPushRing.j1 k x1 x7 (x10 != x7) x180000 x180001 x180002 x193000 x193001 x193002 x206000 x206001 x206002) else (laws_FnExactPushRing.j1 k x1 x7 true x180000 x180001 x180002 x193000 x193001 x193002 x206000 x206001 x206002))))) else (some false))))
def laws_FnExactPushRing.j1 : Nat → Int → Bool → Bool → List Int → Int → Int → List Int → Int → Int → List Int → Int → Int → Option (Bool)
  | 0, _, _, _, _, _, _, _, _, _, _, _, _ => none
  | k + 1, x1, x7, x65, x180000, x180001, x180002, x193000, x193001, x193002, x206000, x206001, x206002 => if x65 = true then (some false) else ((laws_markRing.f k x206000 x206001 x206002 1).bind fun bt216 => ((laws_heldRing.f k bt216.2 x206001 x206002 1).bind fun t218 => (if t218 < 0 then (some false) else (if t218 = bt216.1 then ((laws_toRing.f k x180000 x180001 x180002).bind fun bt219 => ((impl_PushRing.f k bt219.1 bt219.2.1 bt219.2.2 x1).bind fun bt224 => ((laws_eqRing.f k bt224.1 bt224.2.1 bt224.2.2.1 x193000 x193001 x193002).bind fun t231 => (if t231 = true then (laws_FnExactPushRing.j2 k bt216.1 (bt224.2.2.2 != x7) bt216.2 x206001 x206002) else (laws_FnExactPushRing.j2 k bt216.1 true bt216.2 x206001 x206002))))) else (some false)))))
def laws_FnExactPushRing.j2 : Nat → Int → Bool → List Int → Int → Int → Option (Bool)
  | 0, _, _, _, _, _ => none
  | k + 1, x12, x92, x206000, x206001, x206002 => if x92 = true then (some false) else ((laws_heldRing.f k x206000 x206001 x206002 1).bind fun t232 => (if t232 < 0 then (some false) else (if t232 = x12 then (some true) else (some false))))
end
def laws_FnExactPushRing.f (k : Nat) (l0_0 : List Int) (a0_1 : Int) (a0_2 : Int) (a1 : Int) : Option (Bool) := (laws_szRing.f l0_0 a0_1 a0_2 1048576).bind fun t180 => (if t180 < 0 then (some true) else ((laws_toRing.f k l0_0 a0_1 a0_2).bind fun bt181 => ((spec_PushRing.f k bt181.1 bt181.2.1 bt181.2.2 a1).bind fun bt186 => ((laws_toRing.f k l0_0 a0_1 a0_2).bind fun bt193 => ((impl_PushRing.f k bt193.1 bt193.2.1 bt193.2.2 a1).bind fun bt199 => ((laws_eqRing.f k bt199.1 bt199.2.1 bt199.2.2.1 bt186.1 bt186.2.1 bt186.2.2.1).bind fun t206 => (if t206 = true then (laws_FnExactPushRing.j0 k a1 bt186.2.2.2 bt199.2.2.2 (bt199.2.2.2 != bt186.2.2.2) l0_0 a0_1 a0_2 bt186.1 bt186.2.1 bt186.2.2.1 bt193.1 bt193.2.1 bt193.2.2 bt199.1 bt199.2.1 bt199.2.2.1) else (laws_FnExactPushRing.j0 k a1 bt186.2.2.2 bt199.2.2.2 true l0_0 a0_1 a0_2 bt186.1 bt186.2.1 bt186.2.2.1 bt193.1 bt193.2.1 bt193.2.2 bt199.1 bt199.2.1 bt199.2.2.1))))))))
theorem laws_FnExactPushRing.mono_l : ∀ k, (∀ y0 y1 y2 y3 y4 y5 y6 y7 y8 y9 y10 y11 y12 y13 y14 y15, LeO (laws_FnExactPushRing.j0 k y0 y1 y2 y3 y4 y5 y6 y7 y8 y9 y10 y11 y12 y13 y14 y15) (laws_FnExactPushRing.j0 (k + 1) y0 y1 y2 y3 y4 y5 y6 y7 y8 y9 y10 y11 y12 y13 y14 y15)) ∧ (∀ y0 y1 y2 y3 y4 y5 y6 y7 y8 y9 y10 y11, LeO (laws_FnExactPushRing.j1 k y0 y1 y2 y3 y4 y5 y6 y7 y8 y9 y10 y11) (laws_FnExactPushRing.j1 (k + 1) y0 y1 y2 y3 y4 y5 y6 y7 y8 y9 y10 y11)) ∧ (∀ y0 y1 y2 y3 y4, LeO (laws_FnExactPushRing.j2 k y0 y1 y2 y3 y4) (laws_FnExactPushRing.j2 (k + 1) y0 y1 y2 y3 y4))
  | 0 => ⟨fun _ _ _ _ _ _ _ _ _ _ _ _ _ _ _ _ r h => by simp [laws_FnExactPushRing.j0] at h, fun _ _ _ _ _ _ _ _ _ _ _ _ r h => by simp [laws_FnExactPushRing.j1] at h, fun _ _ _ _ _ r h => by simp [laws_FnExactPushRing.j2] at h⟩
  | k + 1 => by
    obtain ⟨ih0, ih1, ih2⟩ := laws_FnExactPushRing.mono_l k
    refine ⟨?_, ?_, ?_⟩
    · intro y0 y1 y2 y3 y4 y5 y6 y7 y8 y9 y10 y11 y12 y13 y14 y15
      unfold laws_FnExactPushRing.j0
      repeat' first
      | (with_reducible exact ih0 _ _ _ _ _ _ _ _ _ _ _ _ _ _ _ _)
      | (with_reducible exact ih1 _ _ _ _ _ _ _ _ _ _ _ _)
      | (with_reducible exact ih2 _ _ _ _ _)
      | (with_reducible exact impl_PushRing.mono _ _ _ _ _)
      | (with_reducible exact laws_eqRing.mono _ _ _ _ _ _ _)
      | (with_reducible exact laws_heldRing.mono _ _ _ _ _)
      | (with_reducible exact laws_markRing.mono _ _ _ _ _)
      | (with_reducible exact laws_toRing.mono _ _ _ _)
      | (with_reducible exact spec_PushRing.mono _ _ _ _ _)
      | (with_reducible exact LeO.refl _)
      | (with_reducible exact LeO.none _)
      | (with_reducible refine LeO.ite ?_ ?_)
      | (with_reducible refine LeO.bind ?_ (fun _ => ?_))
      | exact ih0 _ _ _ _ _ _ _ _ _ _ _ _ _ _ _ _
      | exact ih1 _ _ _ _ _ _ _ _ _ _ _ _
      | exact ih2 _ _ _ _ _
      | exact impl_PushRing.mono _ _ _ _ _
      | exact laws_eqRing.mono _ _ _ _ _ _ _
      | exact laws_heldRing.mono _ _ _ _ _
      | exact laws_markRing.mono _ _ _ _ _
      | exact laws_toRing.mono _ _ _ _
      | exact spec_PushRing.mono _ _ _ _ _
      | exact LeO.none _
      | refine LeO.ite ?_ ?_
      | refine LeO.bind ?_ (fun _ => ?_)
    · intro y0 y1 y2 y3 y4 y5 y6 y7 y8 y9 y10 y11
      unfold laws_FnExactPushRing.j1
      repeat' first
      | (with_reducible exact ih0 _ _ _ _ _ _ _ _ _ _ _ _ _ _ _ _)
      | (with_reducible exact ih1 _ _ _ _ _ _ _ _ _ _ _ _)
      | (with_reducible exact ih2 _ _ _ _ _)
      | (with_reducible exact impl_PushRing.mono _ _ _ _ _)
      | (with_reducible exact laws_eqRing.mono _ _ _ _ _ _ _)
      | (with_reducible exact laws_heldRing.mono _ _ _ _ _)
      | (with_reducible exact laws_markRing.mono _ _ _ _ _)
      | (with_reducible exact laws_toRing.mono _ _ _ _)
      | (with_reducible exact spec_PushRing.mono _ _ _ _ _)
      | (with_reducible exact LeO.refl _)
      | (with_reducible exact LeO.none _)
      | (with_reducible refine LeO.ite ?_ ?_)
      | (with_reducible refine LeO.bind ?_ (fun _ => ?_))
      | exact ih0 _ _ _ _ _ _ _ _ _ _ _ _ _ _ _ _
      | exact ih1 _ _ _ _ _ _ _ _ _ _ _ _
      | exact ih2 _ _ _ _ _
      | exact impl_PushRing.mono _ _ _ _ _
      | exact laws_eqRing.mono _ _ _ _ _ _ _
      | exact laws_heldRing.mono _ _ _ _ _
      | exact laws_markRing.mono _ _ _ _ _
      | exact laws_toRing.mono _ _ _ _
      | exact spec_PushRing.mono _ _ _ _ _
      | exact LeO.none _
      | refine LeO.ite ?_ ?_
      | refine LeO.bind ?_ (fun _ => ?_)
    · intro y0 y1 y2 y3 y4
      unfold laws_FnExactPushRing.j2
      repeat' first
      | (with_reducible exact ih0 _ _ _ _ _ _ _ _ _ _ _ _ _ _ _ _)
      | (with_reducible exact ih1 _ _ _ _ _ _ _ _ _ _ _ _)
      | (with_reducible exact ih2 _ _ _ _ _)
      | (with_reducible exact impl_PushRing.mono _ _ _ _ _)
      | (with_reducible exact laws_eqRing.mono _ _ _ _ _ _ _)
      | (with_reducible exact laws_heldRing.mono _ _ _ _ _)
      | (with_reducible exact laws_markRing.mono _ _ _ _ _)
      | (with_reducible exact laws_toRing.mono _ _ _ _)
      | (with_reducible exact spec_PushRing.mono _ _ _ _ _)
      | (with_reducible exact LeO.refl _)
      | (with_reducible exact LeO.none _)
      | (with_reducible refine LeO.ite ?_ ?_)
      | (with_reducible refine LeO.bind ?_ (fun _ => ?_))
      | exact ih0 _ _ _ _ _ _ _ _ _ _ _ _ _ _ _ _
      | exact ih1 _ _ _ _ _ _ _ _ _ _ _ _
      | exact ih2 _ _ _ _ _
      | exact impl_PushRing.mono _ _ _ _ _
      | exact laws_eqRing.mono _ _ _ _ _ _ _
      | exact laws_heldRing.mono _ _ _ _ _
      | exact laws_markRing.mono _ _ _ _ _
      | exact laws_toRing.mono _ _ _ _
      | exact spec_PushRing.mono _ _ _ _ _
      | exact LeO.none _
      | refine LeO.ite ?_ ?_
      | refine LeO.bind ?_ (fun _ => ?_)
theorem laws_FnExactPushRing.mono : ∀ a0 a1 a2 a3 k, LeO (laws_FnExactPushRing.f k a0 a1 a2 a3) (laws_FnExactPushRing.f (k + 1) a0 a1 a2 a3) := by
  intro a0 a1 a2 a3 k
  obtain ⟨ih0, ih1, ih2⟩ := laws_FnExactPushRing.mono_l k
  unfold laws_FnExactPushRing.f
  repeat' first
      | (with_reducible exact ih0 _ _ _ _ _ _ _ _ _ _ _ _ _ _ _ _)
      | (with_reducible exact ih1 _ _ _ _ _ _ _ _ _ _ _ _)
      | (with_reducible exact ih2 _ _ _ _ _)
      | (with_reducible exact impl_PushRing.mono _ _ _ _ _)
      | (with_reducible exact laws_eqRing.mono _ _ _ _ _ _ _)
      | (with_reducible exact laws_heldRing.mono _ _ _ _ _)
      | (with_reducible exact laws_markRing.mono _ _ _ _ _)
      | (with_reducible exact laws_toRing.mono _ _ _ _)
      | (with_reducible exact spec_PushRing.mono _ _ _ _ _)
      | (with_reducible exact LeO.refl _)
      | (with_reducible exact LeO.none _)
      | (with_reducible refine LeO.ite ?_ ?_)
      | (with_reducible refine LeO.bind ?_ (fun _ => ?_))
      | exact ih0 _ _ _ _ _ _ _ _ _ _ _ _ _ _ _ _
      | exact ih1 _ _ _ _ _ _ _ _ _ _ _ _
      | exact ih2 _ _ _ _ _
      | exact impl_PushRing.mono _ _ _ _ _
      | exact laws_eqRing.mono _ _ _ _ _ _ _
      | exact laws_heldRing.mono _ _ _ _ _
      | exact laws_markRing.mono _ _ _ _ _
      | exact laws_toRing.mono _ _ _ _
      | exact spec_PushRing.mono _ _ _ _ _
      | exact LeO.none _
      | refine LeO.ite ?_ ?_
      | refine LeO.bind ?_ (fun _ => ?_)
set_option maxHeartbeats 8000000 in
set_option maxRecDepth 100000 in
theorem laws_FnExactPushRing.calls (k : Nat) (A0_0 : Option Addr) (c0_0 : Nat) (l0_0 : List Int) (a0_1 : Int) (a0_2 : Int) (a1 : Int) (r : Bool) (w : World) (hr0_0 : Kd.C (Kd.int .i64) w A0_0 l0_0.length l0_0) (hc0_0 : l0_0.length ≤ c0_0) (hT : Aside0 (r = true)) (h : laws_FnExactPushRing.f k l0_0 a0_1 a0_2 a1 = some r) :
    Calls Try.prog 9 #[.agg #[.slice A0_0 l0_0.length c0_0, .int .i64 a0_1, .int .i64 a0_2], .int .i64 a1] w fun e w' => e = .returned (.bool r) ∧ Below w.heap.size w w' := by
  have hu24 := Try.underlying24
  have hu29 := Try.underlying29
  have HR0_0 := Aside0.mk hr0_0
  have HC0_0 := Aside0.mk hc0_0
  clear hr0_0 hc0_0
  have HB := Aside0.mk (Below.refl w.heap.size w)
  have H : ((laws_szRing.f l0_0 a0_1 a0_2 1048576).bind fun t180 => (if t180 < 0 then (some true) else ((laws_toRing.f k l0_0 a0_1 a0_2).bind fun bt181 => ((spec_PushRing.f k bt181.1 bt181.2.1 bt181.2.2 a1).bind fun bt186 => ((laws_toRing.f k l0_0 a0_1 a0_2).bind fun bt193 => ((impl_PushRing.f k bt193.1 bt193.2.1 bt193.2.2 a1).bind fun bt199 => ((laws_eqRing.f k bt199.1 bt199.2.1 bt199.2.2.1 bt186.1 bt186.2.1 bt186.2.2.1).bind fun t206 => (if t206 = true then (laws_FnExactPushRing.j0 k a1 bt186.2.2.2 bt199.2.2.2 (bt199.2.2.2 != bt186.2.2.2) l0_0 a0_1 a0_2 bt186.1 bt186.2.1 bt186.2.2.1 bt193.1 bt193.2.1 bt193.2.2 bt199.1 bt199.2.1 bt199.2.2.1) else (laws_FnExactPushRing.j0 k a1 bt186.2.2.2 bt199.2.2.2 true l0_0 a0_1 a0_2 bt186.1 bt186.2.1 bt186.2.2.1 bt193.1 bt193.2.1 bt193.2.2 bt199.1 bt199.2.1 bt199.2.2.1))))))))) = some r := h
  clear h
  replace H := Option.bind_eq_some_iff.mp H
  obtain ⟨t180, A30, H⟩ := H
  replace H : (if t180 < 0 then (some true) else ((laws_toRing.f k l0_0 a0_1 a0_2).bind fun bt181 => ((spec_PushRing.f k bt181.1 bt181.2.1 bt181.2.2 a1).bind fun bt186 => ((laws_toRing.f k l0_0 a0_1 a0_2).bind fun bt193 => ((impl_PushRing.f k bt193.1 bt193.2.1 bt193.2.2 a1).bind fun bt199 => ((laws_eqRing.f k bt199.1 bt199.2.1 bt199.2.2.1 bt186.1 bt186.2.1 bt186.2.2.1).bind fun t206 => (if t206 = true then (laws_FnExactPushRing.j0 k a1 bt186.2.2.2 bt199.2.2.2 (bt199.2.2.2 != bt186.2.2.2) l0_0 a0_1 a0_2 bt186.1 bt186.2.1 bt186.2.2.1 bt193.1 bt193.2.1 bt193.2.2 bt199.1 bt199.2.1 bt199.2.2.1) else (laws_FnExactPushRing.j0 k a1 bt186.2.2.2 bt199.2.2.2 true l0_0 a0_1 a0_2 bt186.1 bt186.2.1 bt186.2.2.1 bt193.1 bt193.2.1 bt193.2.2 bt199.1 bt199.2.1 bt199.2.2.1)))))))) = some r := H
  have A3 := Aside0.mk A30
  clear A30
  by_cases c4 : t180 < 0
  · rw [if_pos c4] at H
    have c4b0 : decide (t180 < 0) = true := decide_eq_true c4
    clear c4
    obtain rfl := Option.some.inj H
    go_enter Try.func9, Try.ntmps9
    go_wp2_with (first | ((with_reducible refine gate_dst (N := 2) rfl ?_); refine box_event ?hg (N := 2) ?hd (cs := #[.slice A0_0 l0_0.length c0_0, .int .i64 a0_1, .int .i64 a0_2]) (t := 24) ?hr ?_; (case hd => rfl); (case hg => rfl); (case hr => first | (go_simp; done) | (go_simp; rfl)); intro gb179 hg w5 hbox hb; have n0_ := Aside0.mk (below_step (by repeat (first | (with_reducible first | exact HB.out | apply below_alloc | apply pw_below_drewN | apply below_drew1) | exact HB.out)) hb); have n1_ := Aside0.mk (hbox); have n2_ := Aside0.mk ((by rw [hg]; exact (below_size (by repeat (first | (with_reducible first | exact HB.out | apply below_alloc | apply pw_below_drewN | apply below_drew1) | exact HB.out))) : w.heap.size ≤ gb179)); have n3_ := Aside0.mk ((by rw [hg]; exact (below_size (by repeat (first | (with_reducible first | exact HB.out | apply below_alloc | apply pw_below_drewN | apply below_drew1) | exact HB.out))) : w.heap.size ≤ gb179)); clear HB; have HB := n0_; have BK179 := n1_; have GW179 := n2_; have GE179 := n3_; clear n0_ n1_ n2_ n3_; clear hb hbox hg; have hcz6_0 : w5.cell? ⟨gb179, 0, none⟩ = some (.slice A0_0 l0_0.length c0_0) := (blk_cell BK179.out 0).trans rfl; have hcz6_1 : w5.cell? ⟨gb179, 1, none⟩ = some (.int .i64 a0_1) := (blk_cell BK179.out 1).trans rfl; have hcz6_2 : w5.cell? ⟨gb179, 2, none⟩ = some (.int .i64 a0_2) := (blk_cell BK179.out 2).trans rfl; have hfz6_0 := blk_frozen BK179.out 0; have hfz6_1 := blk_frozen BK179.out 1; have hfz6_2 := blk_frozen BK179.out 2) | ((with_reducible refine gate_callee (f := 14) rfl ?_); refine goesL_ (some 18) rfl rfl Try.func14 (by kernel_rfl) rfl #[.agg #[.slice A0_0 l0_0.length c0_0, .int .i64 a0_1, .int .i64 a0_2], .int .i64 1048576] rfl (by (try simp only [List.map_toArray, List.map_cons, List.map_nil]); first | done | rfl | (simp only [List.length_drop, List.length_take]; rfl)) ?_; (with_reducible refine (laws_szRing.calls _ _ l0_0 a0_1 a0_2 1048576 t180 _ ?side1 ?side2 A3.out).mono ?_); (case side1 => repeat (first | exact (Kd.C_below HR0_0.out HB.out) | (with_reducible refine Kd.C_alloc ?_ _) | (with_reducible refine Kd.C_drewN ?_ _) | (with_reducible refine Kd.C_drew ?_))); (case side2 => exact HC0_0.out); rintro e w7 ⟨rfl, hb⟩; refine ⟨_, rfl, ?_⟩; have n0_ := Aside0.mk (blk_below (g := gb179) (o := .cells #[.slice A0_0 l0_0.length c0_0, .int .i64 a0_1, .int .i64 a0_2] 24 (0, 0)) (by (with_reducible repeat (first | refine blk_drewN ?_ _ | refine blk_drew ?_ | refine blk_alloc ?_ _)); exact BK179.out) hb); have n1_ := Aside0.mk (below_step (by repeat (first | (with_reducible first | exact HB.out | apply below_alloc | apply pw_below_drewN | apply below_drew1 | refine below_set ?_ GE179.out) | exact HB.out)) hb); clear BK179; clear HB; have BK179 := n0_; have HB := n1_; clear n0_ n1_; (try clear hb); (try clear hb2); (try clear hk); (try clear hi)))
    go_ret
    exact ⟨by first | rfl | (simp [errW_none, errW_some] <;> rfl) | (simp [*, errW_none, errW_some] <;> rfl), by repeat (first | (with_reducible first | exact HB.out | apply below_alloc | apply pw_below_drewN | apply below_drew1 | refine below_set ?_ GE179.out) | exact HB.out)⟩
  · rw [if_neg c4] at H
    have c4b0 : decide (t180 < 0) = false := decide_eq_false c4
    clear c4
    replace H := Option.bind_eq_some_iff.mp H
    obtain ⟨⟨t181, t184, t185⟩, A80, H⟩ := H
    replace H : ((spec_PushRing.f k t181 t184 t185 a1).bind fun bt186 => ((laws_toRing.f k l0_0 a0_1 a0_2).bind fun bt193 => ((impl_PushRing.f k bt193.1 bt193.2.1 bt193.2.2 a1).bind fun bt199 => ((laws_eqRing.f k bt199.1 bt199.2.1 bt199.2.2.1 bt186.1 bt186.2.1 bt186.2.2.1).bind fun t206 => (if t206 = true then (laws_FnExactPushRing.j0 k a1 bt186.2.2.2 bt199.2.2.2 (bt199.2.2.2 != bt186.2.2.2) l0_0 a0_1 a0_2 bt186.1 bt186.2.1 bt186.2.2.1 bt193.1 bt193.2.1 bt193.2.2 bt199.1 bt199.2.1 bt199.2.2.1) else (laws_FnExactPushRing.j0 k a1 bt186.2.2.2 bt199.2.2.2 true l0_0 a0_1 a0_2 bt186.1 bt186.2.1 bt186.2.2.1 bt193.1 bt193.2.1 bt193.2.2 bt199.1 bt199.2.1 bt199.2.2.1)))))) = some r := H
    have A8 := Aside0.mk A80
    clear A80
    replace H := Option.bind_eq_some_iff.mp H
    obtain ⟨⟨t186, t189, t190, t191⟩, A90, H⟩ := H
    replace H : ((laws_toRing.f k l0_0 a0_1 a0_2).bind fun bt193 => ((impl_PushRing.f k bt193.1 bt193.2.1 bt193.2.2 a1).bind fun bt199 => ((laws_eqRing.f k bt199.1 bt199.2.1 bt199.2.2.1 t186 t189 t190).bind fun t206 => (if t206 = true then (laws_FnExactPushRing.j0 k a1 t191 bt199.2.2.2 (bt199.2.2.2 != t191) l0_0 a0_1 a0_2 t186 t189 t190 bt193.1 bt193.2.1 bt193.2.2 bt199.1 bt199.2.1 bt199.2.2.1) else (laws_FnExactPushRing.j0 k a1 t191 bt199.2.2.2 true l0_0 a0_1 a0_2 t186 t189 t190 bt193.1 bt193.2.1 bt193.2.2 bt199.1 bt199.2.1 bt199.2.2.1))))) = some r := H
    have A9 := Aside0.mk A90
    clear A90
    replace H := Option.bind_eq_some_iff.mp H
    obtain ⟨⟨t193, t196, t197⟩, A100, H⟩ := H
    replace H : ((impl_PushRing.f k t193 t196 t197 a1).bind fun bt199 => ((laws_eqRing.f k bt199.1 bt199.2.1 bt199.2.2.1 t186 t189 t190).bind fun t206 => (if t206 = true then (laws_FnExactPushRing.j0 k a1 t191 bt199.2.2.2 (bt199.2.2.2 != t191) l0_0 a0_1 a0_2 t186 t189 t190 t193 t196 t197 bt199.1 bt199.2.1 bt199.2.2.1) else (laws_FnExactPushRing.j0 k a1 t191 bt199.2.2.2 true l0_0 a0_1 a0_2 t186 t189 t190 t193 t196 t197 bt199.1 bt199.2.1 bt199.2.2.1)))) = some r := H
    have A10 := Aside0.mk A100
    clear A100
    replace H := Option.bind_eq_some_iff.mp H
    obtain ⟨⟨t199, t202, t203, t204⟩, A110, H⟩ := H
    replace H : ((laws_eqRing.f k t199 t202 t203 t186 t189 t190).bind fun t206 => (if t206 = true then (laws_FnExactPushRing.j0 k a1 t191 t204 (t204 != t191) l0_0 a0_1 a0_2 t186 t189 t190 t193 t196 t197 t199 t202 t203) else (laws_FnExactPushRing.j0 k a1 t191 t204 true l0_0 a0_1 a0_2 t186 t189 t190 t193 t196 t197 t199 t202 t203))) = some r := H
    have A11 := Aside0.mk A110
    clear A110
    have HC12 := Aside0.mk H
    clear H
    go_enter Try.func9, Try.ntmps9
    go_upto_region 8 with (first | ((with_reducible refine gate_dst (N := 2) rfl ?_); refine box_event ?hg (N := 2) ?hd (cs := #[.slice A0_0 l0_0.length c0_0, .int .i64 a0_1, .int .i64 a0_2]) (t := 24) ?hr ?_; (case hd => rfl); (case hg => rfl); (case hr => first | (go_simp; done) | (go_simp; rfl)); intro gb179 hg w13 hbox hb; have n0_ := Aside0.mk (below_step (by repeat (first | (with_reducible first | exact HB.out | apply below_alloc | apply pw_below_drewN | apply below_drew1) | exact HB.out)) hb); have n1_ := Aside0.mk (hbox); have n2_ := Aside0.mk ((by rw [hg]; exact (below_size (by repeat (first | (with_reducible first | exact HB.out | apply below_alloc | apply pw_below_drewN | apply below_drew1) | exact HB.out))) : w.heap.size ≤ gb179)); have n3_ := Aside0.mk ((by rw [hg]; exact (below_size (by repeat (first | (with_reducible first | exact HB.out | apply below_alloc | apply pw_below_drewN | apply below_drew1) | exact HB.out))) : w.heap.size ≤ gb179)); clear HB; have HB := n0_; have BK179 := n1_; have GW179 := n2_; have GE179 := n3_; clear n0_ n1_ n2_ n3_; clear hb hbox hg; have hcz14_0 : w13.cell? ⟨gb179, 0, none⟩ = some (.slice A0_0 l0_0.length c0_0) := (blk_cell BK179.out 0).trans rfl; have hcz14_1 : w13.cell? ⟨gb179, 1, none⟩ = some (.int .i64 a0_1) := (blk_cell BK179.out 1).trans rfl; have hcz14_2 : w13.cell? ⟨gb179, 2, none⟩ = some (.int .i64 a0_2) := (blk_cell BK179.out 2).trans rfl; have hfz14_0 := blk_frozen BK179.out 0; have hfz14_1 := blk_frozen BK179.out 1; have hfz14_2 := blk_frozen BK179.out 2) | ((with_reducible refine gate_callee (f := 14) rfl ?_); refine goesL_ (some 18) rfl rfl Try.func14 (by kernel_rfl) rfl #[.agg #[.slice A0_0 l0_0.length c0_0, .int .i64 a0_1, .int .i64 a0_2], .int .i64 1048576] rfl (by (try simp only [List.map_toArray, List.map_cons, List.map_nil]); first | done | rfl | (simp only [List.length_drop, List.length_take]; rfl)) ?_; (with_reducible refine (laws_szRing.calls _ _ l0_0 a0_1 a0_2 1048576 t180 _ ?side1 ?side2 A3.out).mono ?_); (case side1 => repeat (first | exact (Kd.C_below HR0_0.out HB.out) | (with_reducible refine Kd.C_alloc ?_ _) | (with_reducible refine Kd.C_drewN ?_ _) | (with_reducible refine Kd.C_drew ?_))); (case side2 => exact HC0_0.out); rintro e w15 ⟨rfl, hb⟩; refine ⟨_, rfl, ?_⟩; have n0_ := Aside0.mk (blk_below (g := gb179) (o := .cells #[.slice A0_0 l0_0.length c0_0, .int .i64 a0_1, .int .i64 a0_2] 24 (0, 0)) (by (with_reducible repeat (first | refine blk_drewN ?_ _ | refine blk_drew ?_ | refine blk_alloc ?_ _)); exact BK179.out) hb); have n1_ := Aside0.mk (below_step (by repeat (first | (with_reducible first | exact HB.out | apply below_alloc | apply pw_below_drewN | apply below_drew1 | refine below_set ?_ GE179.out) | exact HB.out)) hb); clear BK179; clear HB; have BK179 := n0_; have HB := n1_; clear n0_ n1_; (try clear hb); (try clear hb2); (try clear hk); (try clear hi); have hcz16_0 : w15.cell? ⟨gb179, 0, none⟩ = some (.slice A0_0 l0_0.length c0_0) := (blk_cell BK179.out 0).trans rfl; have hcz16_1 : w15.cell? ⟨gb179, 1, none⟩ = some (.int .i64 a0_1) := (blk_cell BK179.out 1).trans rfl; have hcz16_2 : w15.cell? ⟨gb179, 2, none⟩ = some (.int .i64 a0_2) := (blk_cell BK179.out 2).trans rfl; have hfz16_0 := blk_frozen BK179.out 0; have hfz16_1 := blk_frozen BK179.out 1; have hfz16_2 := blk_frozen BK179.out 2) | ((with_reducible refine gate_callee (f := 16) rfl ?_); refine goesL_ (some 23) rfl rfl Try.func16 (by kernel_rfl) rfl #[.agg #[.slice A0_0 l0_0.length c0_0, .int .i64 a0_1, .int .i64 a0_2]] rfl (by (try simp only [List.map_toArray, List.map_cons, List.map_nil]); first | done | rfl | (simp only [List.length_drop, List.length_take]; rfl)) ?_; (with_reducible refine (laws_toRing.calls k _ _ l0_0 a0_1 a0_2 t181 t184 t185 _ ?side1 ?side2 A8.out).mono ?_); (case side1 => repeat (first | exact (Kd.C_below HR0_0.out HB.out) | (with_reducible refine Kd.C_alloc ?_ _) | (with_reducible refine Kd.C_drewN ?_ _) | (with_reducible refine Kd.C_drew ?_))); (case side2 => exact HC0_0.out); rintro e w17 ⟨v182, rfl, ho0, hb⟩; refine ⟨_, rfl, ?_⟩; have n0_ := Aside0.mk (Kd.R_lower ho0 (below_size (by repeat (first | (with_reducible first | exact HB.out | apply below_alloc | apply pw_below_drewN | apply below_drew1 | refine below_set ?_ GE179.out) | exact HB.out)))); have n1_ := Aside0.mk (blk_below (g := gb179) (o := .cells #[.slice A0_0 l0_0.length c0_0, .int .i64 a0_1, .int .i64 a0_2] 24 (0, 0)) (by (with_reducible repeat (first | refine blk_drewN ?_ _ | refine blk_drew ?_ | refine blk_alloc ?_ _)); exact BK179.out) hb); have n2_ := Aside0.mk (below_step (by repeat (first | (with_reducible first | exact HB.out | apply below_alloc | apply pw_below_drewN | apply below_drew1 | refine below_set ?_ GE179.out) | exact HB.out)) hb); clear BK179; clear HB; have HO183 := n0_; have BK179 := n1_; have HB := n2_; clear n0_ n1_ n2_; (try clear hb); (try clear hb2); (try clear hk); (try clear hi); (try clear ho0); obtain ⟨Ao18, co18, eo18⟩ := Kd.R_slice HO183.out; subst eo18) | ((with_reducible refine gate_callee (f := 50) rfl ?_); refine goesL_ (some 25) rfl rfl Try.func50 (by kernel_rfl) rfl #[.agg #[.slice Ao18 t181.length co18, .int .i64 t184, .int .i64 t185], .int .i64 a1] rfl (by (try simp only [List.map_toArray, List.map_cons, List.map_nil]); first | done | rfl | (simp only [List.length_drop, List.length_take]; rfl)) ?_; (with_reducible refine (spec_PushRing.calls k _ _ t181 t184 t185 a1 t186 t189 t190 t191 _ ?side1 ?side2 A9.out).mono ?_); (case side1 => repeat (first | exact (Kd.R_reads' HO183.out).2.2 | (with_reducible refine Kd.C_alloc ?_ _) | (with_reducible refine Kd.C_drewN ?_ _) | (with_reducible refine Kd.C_drew ?_))); (case side2 => exact (Kd.R_reads' HO183.out).2.1); rintro e w19 ⟨v187, rfl, ho0, hb⟩; refine ⟨_, rfl, ?_⟩; have n0_ := Aside0.mk (Kd.R_elder' (by (with_reducible repeat (first | apply Kd.R_alloc | apply Kd.R_drewN | apply Kd.R_drew)); exact HO183.out) (Kd.R_base ho0) hb); have n1_ := Aside0.mk (Kd.R_lower (Kd.R_new' ho0 (Kd.R_lt (by (with_reducible repeat (first | apply Kd.R_alloc | apply Kd.R_drewN | apply Kd.R_drew)); exact HO183.out))) (below_size (by repeat (first | (with_reducible first | exact HB.out | apply below_alloc | apply pw_below_drewN | apply below_drew1 | refine below_set ?_ GE179.out) | exact HB.out)))); have n2_ := Aside0.mk (blk_below (g := gb179) (o := .cells #[.slice A0_0 l0_0.length c0_0, .int .i64 a0_1, .int .i64 a0_2] 24 (0, 0)) (by (with_reducible repeat (first | refine blk_drewN ?_ _ | refine blk_drew ?_ | refine blk_alloc ?_ _)); exact BK179.out) hb); have n3_ := Aside0.mk (below_step (by repeat (first | (with_reducible first | exact HB.out | apply below_alloc | apply pw_below_drewN | apply below_drew1 | refine below_set ?_ GE179.out) | exact HB.out)) hb); clear HO183; clear BK179; clear HB; have HO183 := n0_; have HO188 := n1_; have BK179 := n2_; have HB := n3_; clear n0_ n1_ n2_ n3_; (try clear hb); (try clear hb2); (try clear hk); (try clear hi); (try clear ho0)) | ((with_reducible refine gate_dst (N := 6) rfl ?_); refine box_event ?hg (N := 6) ?hd (cs := #[.slice none 0 0, .int .i64 0, .int .i64 0]) (t := 29) ?hr ?_; (case hd => rfl); (case hg => rfl); (case hr => first | (go_simp; done) | (go_simp; rfl)); intro gb192 hg w20 hbox hb; have n0_ := Aside0.mk (Kd.R_below (by (with_reducible repeat (first | apply Kd.R_alloc | apply Kd.R_drewN | apply Kd.R_drew)); exact HO183.out) hb); have n1_ := Aside0.mk (Kd.R_below (by (with_reducible repeat (first | apply Kd.R_alloc | apply Kd.R_drewN | apply Kd.R_drew)); exact HO188.out) hb); have n2_ := Aside0.mk (blk_below (g := gb179) (o := .cells #[.slice A0_0 l0_0.length c0_0, .int .i64 a0_1, .int .i64 a0_2] 24 (0, 0)) (by (with_reducible repeat (first | refine blk_drewN ?_ _ | refine blk_drew ?_ | refine blk_alloc ?_ _)); exact BK179.out) hb); have n3_ := Aside0.mk (below_step (by repeat (first | (with_reducible first | exact HB.out | apply below_alloc | apply pw_below_drewN | apply below_drew1 | refine below_set ?_ GE179.out) | exact HB.out)) hb); have n4_ := Aside0.mk (hbox); have n5_ := Aside0.mk ((by rw [hg]; exact (below_size (by repeat (first | (with_reducible first | exact HB.out | apply below_alloc | apply pw_below_drewN | apply below_drew1 | refine below_set ?_ GE179.out) | exact HB.out))) : w.heap.size ≤ gb192)); have n6_ := Aside0.mk ((by rw [hg]; exact (below_size (by repeat (first | (with_reducible first | exact HB.out | apply below_alloc | apply pw_below_drewN | apply below_drew1 | refine below_set ?_ GE179.out) | exact HB.out))) : w.heap.size ≤ gb192)); have n7_ := Aside0.mk ((by rw [hg]; exact Nat.ne_of_lt (blk_lt (g := gb179) (o := .cells #[.slice A0_0 l0_0.length c0_0, .int .i64 a0_1, .int .i64 a0_2] 24 (0, 0)) (by (with_reducible repeat (first | refine blk_drewN ?_ _ | refine blk_drew ?_ | refine blk_alloc ?_ _)); exact BK179.out)) : gb179 ≠ gb192)); have n8_ := Aside0.mk ((by rw [hg]; exact Nat.ne_of_gt (blk_lt (g := gb179) (o := .cells #[.slice A0_0 l0_0.length c0_0, .int .i64 a0_1, .int .i64 a0_2] 24 (0, 0)) (by (with_reducible repeat (first | refine blk_drewN ?_ _ | refine blk_drew ?_ | refine blk_alloc ?_ _)); exact BK179.out)) : gb192 ≠ gb179)); clear HO183; clear HO188; clear BK179; clear HB; have HO183 := n0_; have HO188 := n1_; have BK179 := n2_; have HB := n3_; have BK192 := n4_; have GW192 := n5_; have GE192 := n6_; have NB179_192 := n7_; have NB192_179 := n8_; clear n0_ n1_ n2_ n3_ n4_ n5_ n6_ n7_ n8_; clear hb hbox hg; obtain ⟨Ao21, co21, eo21⟩ := Kd.R_slice HO188.out; subst eo21; have hnb22 := NB192_179.out; have hnc22 := NB179_192.out; have hcz23_0 : w20.cell? ⟨gb192, 0, none⟩ = some (.slice none 0 0) := (blk_cell BK192.out 0).trans rfl; have hcz23_1 : w20.cell? ⟨gb192, 1, none⟩ = some (.int .i64 0) := (blk_cell BK192.out 1).trans rfl; have hcz23_2 : w20.cell? ⟨gb192, 2, none⟩ = some (.int .i64 0) := (blk_cell BK192.out 2).trans rfl; have hfz23_0 := blk_frozen BK192.out 0; have hfz23_1 := blk_frozen BK192.out 1; have hfz23_2 := blk_frozen BK192.out 2) | ((with_reducible refine gate_store (t := 29) (p := 6) rfl ?_); refine store_event (t := 29) (p := 6) (v := ?vo_w24) (w1 := (((w20.setCell ⟨gb192, 0, none⟩ (.slice Ao21 t186.length co21)).setCell ⟨gb192, 1, none⟩ (.int .i64 t189)).setCell ⟨gb192, 2, none⟩ (.int .i64 t190))) ?hg ?ho ?hn ?hr ?_; (case ho => rfl); (case hg => rfl); (case hn => rfl); (case hr => first | (go_simp; done) | (go_simp; rfl)); intro w24 hw; have n0_ : Aside0 (Kd.R (Kd.int .i64) 3 w24 w.heap.size (fun k_ => some k_ ≠ (.slice Ao21 t186.length co21 : Value).ownBlock) (.slice Ao18 t181.length co18) t181) := ⟨(by rw [hw]; exact (by (with_reducible repeat (first | apply Kd.R_alloc | apply Kd.R_drewN | apply Kd.R_drew)); exact Kd.R_mono (Kd.R_far (p := ⟨gb192, 2, none⟩) (Kd.R_far (p := ⟨gb192, 1, none⟩) (Kd.R_far (p := ⟨gb192, 0, none⟩) (Kd.R_types HO183.out BK192.out (by decide)) (fun _ hk => hk.2) (.slice Ao21 t186.length co21)) (fun _ hk => hk.2) (.int .i64 t189)) (fun _ hk => hk.2) (.int .i64 t190)) (fun _ hk => hk.1.2)))⟩; have n1_ : Aside0 (Kd.R (Kd.int .i64) 3 w24 w.heap.size (fun k_ => some k_ ≠ (.slice Ao18 t181.length co18 : Value).ownBlock) (.slice Ao21 t186.length co21) t186) := ⟨(by rw [hw]; exact (by (with_reducible repeat (first | apply Kd.R_alloc | apply Kd.R_drewN | apply Kd.R_drew)); exact Kd.R_mono (Kd.R_far (p := ⟨gb192, 2, none⟩) (Kd.R_far (p := ⟨gb192, 1, none⟩) (Kd.R_far (p := ⟨gb192, 0, none⟩) (Kd.R_types HO188.out BK192.out (by decide)) (fun _ hk => hk.2) (.slice Ao21 t186.length co21)) (fun _ hk => hk.2) (.int .i64 t189)) (fun _ hk => hk.2) (.int .i64 t190)) (fun _ hk => hk.1.2)))⟩; have n2_ : Aside0 (w24.heap[gb179]? = some (.cells #[.slice A0_0 l0_0.length c0_0, .int .i64 a0_1, .int .i64 a0_2] 24 (0, 0))) := ⟨(by rw [hw]; exact (by (with_reducible repeat (first | refine blk_drewN ?_ _ | refine blk_drew ?_ | refine blk_alloc ?_ _)); refine blk_far ?_ NB179_192.out _; (with_reducible repeat (first | refine blk_drewN ?_ _ | refine blk_drew ?_ | refine blk_alloc ?_ _)); refine blk_far ?_ NB179_192.out _; (with_reducible repeat (first | refine blk_drewN ?_ _ | refine blk_drew ?_ | refine blk_alloc ?_ _)); refine blk_far ?_ NB179_192.out _; (with_reducible repeat (first | refine blk_drewN ?_ _ | refine blk_drew ?_ | refine blk_alloc ?_ _)); exact BK179.out))⟩; have n3_ : Aside0 (w24.heap[gb192]? = some (.cells #[.slice Ao21 t186.length co21, .int .i64 t189, .int .i64 t190] 29 (0, 0))) := ⟨(by rw [hw]; exact (by (with_reducible repeat (first | refine blk_drewN ?_ _ | refine blk_drew ?_ | refine blk_alloc ?_ _)); refine blk_put (cs := #[.slice Ao21 t186.length co21, .int .i64 t189, .int .i64 0]) ?_ 2 _ rfl; (with_reducible repeat (first | refine blk_drewN ?_ _ | refine blk_drew ?_ | refine blk_alloc ?_ _)); refine blk_put (cs := #[.slice Ao21 t186.length co21, .int .i64 0, .int .i64 0]) ?_ 1 _ rfl; (with_reducible repeat (first | refine blk_drewN ?_ _ | refine blk_drew ?_ | refine blk_alloc ?_ _)); refine blk_put (cs := #[.slice none 0 0, .int .i64 0, .int .i64 0]) ?_ 0 _ rfl; (with_reducible repeat (first | refine blk_drewN ?_ _ | refine blk_drew ?_ | refine blk_alloc ?_ _)); exact BK192.out))⟩; have n4_ : Aside0 (Below w.heap.size w w24) := ⟨(by rw [hw]; exact (by repeat (first | (with_reducible first | exact HB.out | apply below_alloc | apply pw_below_drewN | apply below_drew1 | refine below_set ?_ GE179.out | refine below_set ?_ GE192.out) | exact HB.out)))⟩; clear hw; clear HO183; clear HO188; clear BK179; clear BK192; clear HB; have HO183 := n0_; have HO188 := n1_; have BK179 := n2_; have BK192 := n3_; have HB := n4_; clear n0_ n1_ n2_ n3_ n4_; have hcz25_0 : w24.cell? ⟨gb179, 0, none⟩ = some (.slice A0_0 l0_0.length c0_0) := (blk_cell BK179.out 0).trans rfl; have hcz25_1 : w24.cell? ⟨gb179, 1, none⟩ = some (.int .i64 a0_1) := (blk_cell BK179.out 1).trans rfl; have hcz25_2 : w24.cell? ⟨gb179, 2, none⟩ = some (.int .i64 a0_2) := (blk_cell BK179.out 2).trans rfl; have hfz25_0 := blk_frozen BK179.out 0; have hfz25_1 := blk_frozen BK179.out 1; have hfz25_2 := blk_frozen BK179.out 2) | ((with_reducible refine gate_callee (f := 16) rfl ?_); refine goesL_ (some 29) rfl rfl Try.func16 (by kernel_rfl) rfl #[.agg #[.slice A0_0 l0_0.length c0_0, .int .i64 a0_1, .int .i64 a0_2]] rfl (by (try simp only [List.map_toArray, List.map_cons, List.map_nil]); first | done | rfl | (simp only [List.length_drop, List.length_take]; rfl)) ?_; (with_reducible refine (laws_toRing.calls k _ _ l0_0 a0_1 a0_2 t193 t196 t197 _ ?side1 ?side2 A10.out).mono ?_); (case side1 => repeat (first | exact (Kd.C_below HR0_0.out HB.out) | (with_reducible refine Kd.C_alloc ?_ _) | (with_reducible refine Kd.C_drewN ?_ _) | (with_reducible refine Kd.C_drew ?_))); (case side2 => exact HC0_0.out); rintro e w26 ⟨v194, rfl, ho0, hb⟩; refine ⟨_, rfl, ?_⟩; have n0_ := Aside0.mk (Kd.R_elder' (by (with_reducible repeat (first | apply Kd.R_alloc | apply Kd.R_drewN | apply Kd.R_drew)); exact HO183.out) (Kd.R_base ho0) hb); have n1_ := Aside0.mk (Kd.R_elder' (by (with_reducible repeat (first | apply Kd.R_alloc | apply Kd.R_drewN | apply Kd.R_drew)); exact HO188.out) (Kd.R_base ho0) hb); have n2_ := Aside0.mk (Kd.R_lower (Kd.R_new' (Kd.R_new' ho0 (Kd.R_lt (by (with_reducible repeat (first | apply Kd.R_alloc | apply Kd.R_drewN | apply Kd.R_drew)); exact HO183.out))) (Kd.R_lt (by (with_reducible repeat (first | apply Kd.R_alloc | apply Kd.R_drewN | apply Kd.R_drew)); exact HO188.out))) (below_size (by repeat (first | (with_reducible first | exact HB.out | apply below_alloc | apply pw_below_drewN | apply below_drew1 | refine below_set ?_ GE179.out | refine below_set ?_ GE192.out) | exact HB.out)))); have n3_ := Aside0.mk (blk_below (g := gb179) (o := .cells #[.slice A0_0 l0_0.length c0_0, .int .i64 a0_1, .int .i64 a0_2] 24 (0, 0)) (by (with_reducible repeat (first | refine blk_drewN ?_ _ | refine blk_drew ?_ | refine blk_alloc ?_ _)); exact BK179.out) hb); have n4_ := Aside0.mk (blk_below (g := gb192) (o := .cells #[.slice Ao21 t186.length co21, .int .i64 t189, .int .i64 t190] 29 (0, 0)) (by (with_reducible repeat (first | refine blk_drewN ?_ _ | refine blk_drew ?_ | refine blk_alloc ?_ _)); exact BK192.out) hb); have n5_ := Aside0.mk (below_step (by repeat (first | (with_reducible first | exact HB.out | apply below_alloc | apply pw_below_drewN | apply below_drew1 | refine below_set ?_ GE179.out | refine below_set ?_ GE192.out) | exact HB.out)) hb); clear HO183; clear HO188; clear BK179; clear BK192; clear HB; have HO183 := n0_; have HO188 := n1_; have HO195 := n2_; have BK179 := n3_; have BK192 := n4_; have HB := n5_; clear n0_ n1_ n2_ n3_ n4_ n5_; (try clear hb); (try clear hb2); (try clear hk); (try clear hi); (try clear ho0)) | ((with_reducible refine gate_dst (N := 8) rfl ?_); refine box_event ?hg (N := 8) ?hd (cs := #[.slice none 0 0, .int .i64 0, .int .i64 0]) (t := 29) ?hr ?_; (case hd => rfl); (case hg => rfl); (case hr => first | (go_simp; done) | (go_simp; rfl)); intro gb198 hg w27 hbox hb; have n0_ := Aside0.mk (Kd.R_below (by (with_reducible repeat (first | apply Kd.R_alloc | apply Kd.R_drewN | apply Kd.R_drew)); exact HO183.out) hb); have n1_ := Aside0.mk (Kd.R_below (by (with_reducible repeat (first | apply Kd.R_alloc | apply Kd.R_drewN | apply Kd.R_drew)); exact HO188.out) hb); have n2_ := Aside0.mk (Kd.R_below (by (with_reducible repeat (first | apply Kd.R_alloc | apply Kd.R_drewN | apply Kd.R_drew)); exact HO195.out) hb); have n3_ := Aside0.mk (blk_below (g := gb179) (o := .cells #[.slice A0_0 l0_0.length c0_0, .int .i64 a0_1, .int .i64 a0_2] 24 (0, 0)) (by (with_reducible repeat (first | refine blk_drewN ?_ _ | refine blk_drew ?_ | refine blk_alloc ?_ _)); exact BK179.out) hb); have n4_ := Aside0.mk (blk_below (g := gb192) (o := .cells #[.slice Ao21 t186.length co21, .int .i64 t189, .int .i64 t190] 29 (0, 0)) (by (with_reducible repeat (first | refine blk_drewN ?_ _ | refine blk_drew ?_ | refine blk_alloc ?_ _)); exact BK192.out) hb); have n5_ := Aside0.mk (below_step (by repeat (first | (with_reducible first | exact HB.out | apply below_alloc | apply pw_below_drewN | apply below_drew1 | refine below_set ?_ GE179.out | refine below_set ?_ GE192.out) | exact HB.out)) hb); have n6_ := Aside0.mk (hbox); have n7_ := Aside0.mk ((by rw [hg]; exact (below_size (by repeat (first | (with_reducible first | exact HB.out | apply below_alloc | apply pw_below_drewN | apply below_drew1 | refine below_set ?_ GE179.out | refine below_set ?_ GE192.out) | exact HB.out))) : w.heap.size ≤ gb198)); have n8_ := Aside0.mk ((by rw [hg]; exact (below_size (by repeat (first | (with_reducible first | exact HB.out | apply below_alloc | apply pw_below_drewN | apply below_drew1 | refine below_set ?_ GE179.out | refine below_set ?_ GE192.out) | exact HB.out))) : w.heap.size ≤ gb198)); have n9_ := Aside0.mk ((by rw [hg]; exact Nat.ne_of_lt (blk_lt (g := gb179) (o := .cells #[.slice A0_0 l0_0.length c0_0, .int .i64 a0_1, .int .i64 a0_2] 24 (0, 0)) (by (with_reducible repeat (first | refine blk_drewN ?_ _ | refine blk_drew ?_ | refine blk_alloc ?_ _)); exact BK179.out)) : gb179 ≠ gb198)); have n10_ := Aside0.mk ((by rw [hg]; exact Nat.ne_of_gt (blk_lt (g := gb179) (o := .cells #[.slice A0_0 l0_0.length c0_0, .int .i64 a0_1, .int .i64 a0_2] 24 (0, 0)) (by (with_reducible repeat (first | refine blk_drewN ?_ _ | refine blk_drew ?_ | refine blk_alloc ?_ _)); exact BK179.out)) : gb198 ≠ gb179)); have n11_ := Aside0.mk ((by rw [hg]; exact Nat.ne_of_lt (blk_lt (g := gb192) (o := .cells #[.slice Ao21 t186.length co21, .int .i64 t189, .int .i64 t190] 29 (0, 0)) (by (with_reducible repeat (first | refine blk_drewN ?_ _ | refine blk_drew ?_ | refine blk_alloc ?_ _)); exact BK192.out)) : gb192 ≠ gb198)); have n12_ := Aside0.mk ((by rw [hg]; exact Nat.ne_of_gt (blk_lt (g := gb192) (o := .cells #[.slice Ao21 t186.length co21, .int .i64 t189, .int .i64 t190] 29 (0, 0)) (by (with_reducible repeat (first | refine blk_drewN ?_ _ | refine blk_drew ?_ | refine blk_alloc ?_ _)); exact BK192.out)) : gb198 ≠ gb192)); clear HO183; clear HO188; clear HO195; clear BK179; clear BK192; clear HB; have HO183 := n0_; have HO188 := n1_; have HO195 := n2_; have BK179 := n3_; have BK192 := n4_; have HB := n5_; have BK198 := n6_; have GW198 := n7_; have GE198 := n8_; have NB179_198 := n9_; have NB198_179 := n10_; have NB192_198 := n11_; have NB198_192 := n12_; clear n0_ n1_ n2_ n3_ n4_ n5_ n6_ n7_ n8_ n9_ n10_ n11_ n12_; clear hb hbox hg; obtain ⟨Ao28, co28, eo28⟩ := Kd.R_slice HO195.out; subst eo28; have hnb29 := NB198_179.out; have hnc29 := NB179_198.out; have hnb30 := NB198_192.out; have hnc30 := NB192_198.out; have hcz31_0 : w27.cell? ⟨gb198, 0, none⟩ = some (.slice none 0 0) := (blk_cell BK198.out 0).trans rfl; have hcz31_1 : w27.cell? ⟨gb198, 1, none⟩ = some (.int .i64 0) := (blk_cell BK198.out 1).trans rfl; have hcz31_2 : w27.cell? ⟨gb198, 2, none⟩ = some (.int .i64 0) := (blk_cell BK198.out 2).trans rfl; have hfz31_0 := blk_frozen BK198.out 0; have hfz31_1 := blk_frozen BK198.out 1; have hfz31_2 := blk_frozen BK198.out 2) | ((with_reducible refine gate_store (t := 29) (p := 8) rfl ?_); refine store_event (t := 29) (p := 8) (v := ?vo_w32) (w1 := (((w27.setCell ⟨gb198, 0, none⟩ (.slice Ao28 t193.length co28)).setCell ⟨gb198, 1, none⟩ (.int .i64 t196)).setCell ⟨gb198, 2, none⟩ (.int .i64 t197))) ?hg ?ho ?hn ?hr ?_; (case ho => rfl); (case hg => rfl); (case hn => rfl); (case hr => first | (go_simp; done) | (go_simp; rfl)); intro w32 hw; have n0_ : Aside0 (Kd.R (Kd.int .i64) 3 w32 w.heap.size (fun k_ => some k_ ≠ (.slice Ao21 t186.length co21 : Value).ownBlock ∧ some k_ ≠ (.slice Ao28 t193.length co28 : Value).ownBlock) (.slice Ao18 t181.length co18) t181) := ⟨(by rw [hw]; exact (by (with_reducible repeat (first | apply Kd.R_alloc | apply Kd.R_drewN | apply Kd.R_drew)); exact Kd.R_mono (Kd.R_far (p := ⟨gb198, 2, none⟩) (Kd.R_far (p := ⟨gb198, 1, none⟩) (Kd.R_far (p := ⟨gb198, 0, none⟩) (Kd.R_types HO183.out BK198.out (by decide)) (fun _ hk => hk.2) (.slice Ao28 t193.length co28)) (fun _ hk => hk.2) (.int .i64 t196)) (fun _ hk => hk.2) (.int .i64 t197)) (fun _ hk => ⟨hk.1.1, hk.1.2⟩)))⟩; have n1_ : Aside0 (Kd.R (Kd.int .i64) 3 w32 w.heap.size (fun k_ => some k_ ≠ (.slice Ao18 t181.length co18 : Value).ownBlock ∧ some k_ ≠ (.slice Ao28 t193.length co28 : Value).ownBlock) (.slice Ao21 t186.length co21) t186) := ⟨(by rw [hw]; exact (by (with_reducible repeat (first | apply Kd.R_alloc | apply Kd.R_drewN | apply Kd.R_drew)); exact Kd.R_mono (Kd.R_far (p := ⟨gb198, 2, none⟩) (Kd.R_far (p := ⟨gb198, 1, none⟩) (Kd.R_far (p := ⟨gb198, 0, none⟩) (Kd.R_types HO188.out BK198.out (by decide)) (fun _ hk => hk.2) (.slice Ao28 t193.length co28)) (fun _ hk => hk.2) (.int .i64 t196)) (fun _ hk => hk.2) (.int .i64 t197)) (fun _ hk => ⟨hk.1.1, hk.1.2⟩)))⟩; have n2_ : Aside0 (Kd.R (Kd.int .i64) 3 w32 w.heap.size (fun k_ => some k_ ≠ (.slice Ao18 t181.length co18 : Value).ownBlock ∧ some k_ ≠ (.slice Ao21 t186.length co21 : Value).ownBlock) (.slice Ao28 t193.length co28) t193) := ⟨(by rw [hw]; exact (by (with_reducible repeat (first | apply Kd.R_alloc | apply Kd.R_drewN | apply Kd.R_drew)); exact Kd.R_mono (Kd.R_far (p := ⟨gb198, 2, none⟩) (Kd.R_far (p := ⟨gb198, 1, none⟩) (Kd.R_far (p := ⟨gb198, 0, none⟩) (Kd.R_types HO195.out BK198.out (by decide)) (fun _ hk => hk.2) (.slice Ao28 t193.length co28)) (fun _ hk => hk.2) (.int .i64 t196)) (fun _ hk => hk.2) (.int .i64 t197)) (fun _ hk => ⟨hk.1.1.2, hk.1.2⟩)))⟩; have n3_ : Aside0 (w32.heap[gb179]? = some (.cells #[.slice A0_0 l0_0.length c0_0, .int .i64 a0_1, .int .i64 a0_2] 24 (0, 0))) := ⟨(by rw [hw]; exact (by (with_reducible repeat (first | refine blk_drewN ?_ _ | refine blk_drew ?_ | refine blk_alloc ?_ _)); refine blk_far ?_ NB179_198.out _; (with_reducible repeat (first | refine blk_drewN ?_ _ | refine blk_drew ?_ | refine blk_alloc ?_ _)); refine blk_far ?_ NB179_198.out _; (with_reducible repeat (first | refine blk_drewN ?_ _ | refine blk_drew ?_ | refine blk_alloc ?_ _)); refine blk_far ?_ NB179_198.out _; (with_reducible repeat (first | refine blk_drewN ?_ _ | refine blk_drew ?_ | refine blk_alloc ?_ _)); exact BK179.out))⟩; have n4_ : Aside0 (w32.heap[gb192]? = some (.cells #[.slice Ao21 t186.length co21, .int .i64 t189, .int .i64 t190] 29 (0, 0))) := ⟨(by rw [hw]; exact (by (with_reducible repeat (first | refine blk_drewN ?_ _ | refine blk_drew ?_ | refine blk_alloc ?_ _)); refine blk_far ?_ NB192_198.out _; (with_reducible repeat (first | refine blk_drewN ?_ _ | refine blk_drew ?_ | refine blk_alloc ?_ _)); refine blk_far ?_ NB192_198.out _; (with_reducible repeat (first | refine blk_drewN ?_ _ | refine blk_drew ?_ | refine blk_alloc ?_ _)); refine blk_far ?_ NB192_198.out _; (with_reducible repeat (first | refine blk_drewN ?_ _ | refine blk_drew ?_ | refine blk_alloc ?_ _)); exact BK192.out))⟩; have n5_ : Aside0 (w32.heap[gb198]? = some (.cells #[.slice Ao28 t193.length co28, .int .i64 t196, .int .i64 t197] 29 (0, 0))) := ⟨(by rw [hw]; exact (by (with_reducible repeat (first | refine blk_drewN ?_ _ | refine blk_drew ?_ | refine blk_alloc ?_ _)); refine blk_put (cs := #[.slice Ao28 t193.length co28, .int .i64 t196, .int .i64 0]) ?_ 2 _ rfl; (with_reducible repeat (first | refine blk_drewN ?_ _ | refine blk_drew ?_ | refine blk_alloc ?_ _)); refine blk_put (cs := #[.slice Ao28 t193.length co28, .int .i64 0, .int .i64 0]) ?_ 1 _ rfl; (with_reducible repeat (first | refine blk_drewN ?_ _ | refine blk_drew ?_ | refine blk_alloc ?_ _)); refine blk_put (cs := #[.slice none 0 0, .int .i64 0, .int .i64 0]) ?_ 0 _ rfl; (with_reducible repeat (first | refine blk_drewN ?_ _ | refine blk_drew ?_ | refine blk_alloc ?_ _)); exact BK198.out))⟩; have n6_ : Aside0 (Below w.heap.size w w32) := ⟨(by rw [hw]; exact (by repeat (first | (with_reducible first | exact HB.out | apply below_alloc | apply pw_below_drewN | apply below_drew1 | refine below_set ?_ GE179.out | refine below_set ?_ GE192.out | refine below_set ?_ GE198.out) | exact HB.out)))⟩; clear hw; clear HO183; clear HO188; clear HO195; clear BK179; clear BK192; clear BK198; clear HB; have HO183 := n0_; have HO188 := n1_; have HO195 := n2_; have BK179 := n3_; have BK192 := n4_; have BK198 := n5_; have HB := n6_; clear n0_ n1_ n2_ n3_ n4_ n5_ n6_; have hcz33_0 : w32.cell? ⟨gb198, 0, none⟩ = some (.slice Ao28 t193.length co28) := (blk_cell BK198.out 0).trans rfl; have hcz33_1 : w32.cell? ⟨gb198, 1, none⟩ = some (.int .i64 t196) := (blk_cell BK198.out 1).trans rfl; have hcz33_2 : w32.cell? ⟨gb198, 2, none⟩ = some (.int .i64 t197) := (blk_cell BK198.out 2).trans rfl; have hfz33_0 := blk_frozen BK198.out 0; have hfz33_1 := blk_frozen BK198.out 1; have hfz33_2 := blk_frozen BK198.out 2) | ((with_reducible refine gate_callee (f := 51) rfl ?_); refine goesL_ (some 33) rfl rfl Try.func51 (by kernel_rfl) rfl #[.agg #[.slice Ao28 t193.length co28, .int .i64 t196, .int .i64 t197], .int .i64 a1] rfl (by (try simp only [List.map_toArray, List.map_cons, List.map_nil]); first | done | rfl | (simp only [List.length_drop, List.length_take]; rfl)) ?_; (with_reducible refine (impl_PushRing.calls k _ _ t193 t196 t197 a1 t199 t202 t203 t204 _ ?side1 ?side2 A11.out).mono ?_); (case side1 => repeat (first | exact (Kd.R_reads' HO195.out).2.2 | (with_reducible refine Kd.C_alloc ?_ _) | (with_reducible refine Kd.C_drewN ?_ _) | (with_reducible refine Kd.C_drew ?_))); (case side2 => exact (Kd.R_reads' HO195.out).2.1); rintro e w34 ⟨v200, rfl, ho0, hb⟩; refine ⟨_, rfl, ?_⟩; have n0_ := Aside0.mk (Kd.R_elder' (by (with_reducible repeat (first | apply Kd.R_alloc | apply Kd.R_drewN | apply Kd.R_drew)); exact HO183.out) (Kd.R_base ho0) hb); have n1_ := Aside0.mk (Kd.R_elder' (by (with_reducible repeat (first | apply Kd.R_alloc | apply Kd.R_drewN | apply Kd.R_drew)); exact HO188.out) (Kd.R_base ho0) hb); have n2_ := Aside0.mk (Kd.R_elder' (by (with_reducible repeat (first | apply Kd.R_alloc | apply Kd.R_drewN | apply Kd.R_drew)); exact HO195.out) (Kd.R_base ho0) hb); have n3_ := Aside0.mk (Kd.R_lower (Kd.R_new' (Kd.R_new' (Kd.R_new' ho0 (Kd.R_lt (by (with_reducible repeat (first | apply Kd.R_alloc | apply Kd.R_drewN | apply Kd.R_drew)); exact HO183.out))) (Kd.R_lt (by (with_reducible repeat (first | apply Kd.R_alloc | apply Kd.R_drewN | apply Kd.R_drew)); exact HO188.out))) (Kd.R_lt (by (with_reducible repeat (first | apply Kd.R_alloc | apply Kd.R_drewN | apply Kd.R_drew)); exact HO195.out))) (below_size (by repeat (first | (with_reducible first | exact HB.out | apply below_alloc | apply pw_below_drewN | apply below_drew1 | refine below_set ?_ GE179.out | refine below_set ?_ GE192.out | refine below_set ?_ GE198.out) | exact HB.out)))); have n4_ := Aside0.mk (blk_below (g := gb179) (o := .cells #[.slice A0_0 l0_0.length c0_0, .int .i64 a0_1, .int .i64 a0_2] 24 (0, 0)) (by (with_reducible repeat (first | refine blk_drewN ?_ _ | refine blk_drew ?_ | refine blk_alloc ?_ _)); exact BK179.out) hb); have n5_ := Aside0.mk (blk_below (g := gb192) (o := .cells #[.slice Ao21 t186.length co21, .int .i64 t189, .int .i64 t190] 29 (0, 0)) (by (with_reducible repeat (first | refine blk_drewN ?_ _ | refine blk_drew ?_ | refine blk_alloc ?_ _)); exact BK192.out) hb); have n6_ := Aside0.mk (blk_below (g := gb198) (o := .cells #[.slice Ao28 t193.length co28, .int .i64 t196, .int .i64 t197] 29 (0, 0)) (by (with_reducible repeat (first | refine blk_drewN ?_ _ | refine blk_drew ?_ | refine blk_alloc ?_ _)); exact BK198.out) hb); have n7_ := Aside0.mk (below_step (by repeat (first | (with_reducible first | exact HB.out | apply below_alloc | apply pw_below_drewN | apply below_drew1 | refine below_set ?_ GE179.out | refine below_set ?_ GE192.out | refine below_set ?_ GE198.out) | exact HB.out)) hb); clear HO183; clear HO188; clear HO195; clear BK179; clear BK192; clear BK198; clear HB; have HO183 := n0_; have HO188 := n1_; have HO195 := n2_; have HO201 := n3_; have BK179 := n4_; have BK192 := n5_; have BK198 := n6_; have HB := n7_; clear n0_ n1_ n2_ n3_ n4_ n5_ n6_ n7_; (try clear hb); (try clear hb2); (try clear hk); (try clear hi); (try clear ho0)) | ((with_reducible refine gate_dst (N := 9) rfl ?_); refine box_event ?hg (N := 9) ?hd (cs := #[.slice none 0 0, .int .i64 0, .int .i64 0]) (t := 29) ?hr ?_; (case hd => rfl); (case hg => rfl); (case hr => first | (go_simp; done) | (go_simp; rfl)); intro gb205 hg w35 hbox hb; have n0_ := Aside0.mk (Kd.R_below (by (with_reducible repeat (first | apply Kd.R_alloc | apply Kd.R_drewN | apply Kd.R_drew)); exact HO183.out) hb); have n1_ := Aside0.mk (Kd.R_below (by (with_reducible repeat (first | apply Kd.R_alloc | apply Kd.R_drewN | apply Kd.R_drew)); exact HO188.out) hb); have n2_ := Aside0.mk (Kd.R_below (by (with_reducible repeat (first | apply Kd.R_alloc | apply Kd.R_drewN | apply Kd.R_drew)); exact HO195.out) hb); have n3_ := Aside0.mk (Kd.R_below (by (with_reducible repeat (first | apply Kd.R_alloc | apply Kd.R_drewN | apply Kd.R_drew)); exact HO201.out) hb); have n4_ := Aside0.mk (blk_below (g := gb179) (o := .cells #[.slice A0_0 l0_0.length c0_0, .int .i64 a0_1, .int .i64 a0_2] 24 (0, 0)) (by (with_reducible repeat (first | refine blk_drewN ?_ _ | refine blk_drew ?_ | refine blk_alloc ?_ _)); exact BK179.out) hb); have n5_ := Aside0.mk (blk_below (g := gb192) (o := .cells #[.slice Ao21 t186.length co21, .int .i64 t189, .int .i64 t190] 29 (0, 0)) (by (with_reducible repeat (first | refine blk_drewN ?_ _ | refine blk_drew ?_ | refine blk_alloc ?_ _)); exact BK192.out) hb); have n6_ := Aside0.mk (blk_below (g := gb198) (o := .cells #[.slice Ao28 t193.length co28, .int .i64 t196, .int .i64 t197] 29 (0, 0)) (by (with_reducible repeat (first | refine blk_drewN ?_ _ | refine blk_drew ?_ | refine blk_alloc ?_ _)); exact BK198.out) hb); have n7_ := Aside0.mk (below_step (by repeat (first | (with_reducible first | exact HB.out | apply below_alloc | apply pw_below_drewN | apply below_drew1 | refine below_set ?_ GE179.out | refine below_set ?_ GE192.out | refine below_set ?_ GE198.out) | exact HB.out)) hb); have n8_ := Aside0.mk (hbox); have n9_ := Aside0.mk ((by rw [hg]; exact (below_size (by repeat (first | (with_reducible first | exact HB.out | apply below_alloc | apply pw_below_drewN | apply below_drew1 | refine below_set ?_ GE179.out | refine below_set ?_ GE192.out | refine below_set ?_ GE198.out) | exact HB.out))) : w.heap.size ≤ gb205)); have n10_ := Aside0.mk ((by rw [hg]; exact (below_size (by repeat (first | (with_reducible first | exact HB.out | apply below_alloc | apply pw_below_drewN | apply below_drew1 | refine below_set ?_ GE179.out | refine below_set ?_ GE192.out | refine below_set ?_ GE198.out) | exact HB.out))) : w.heap.size ≤ gb205)); have n11_ := Aside0.mk ((by rw [hg]; exact Nat.ne_of_lt (blk_lt (g := gb179) (o := .cells #[.slice A0_0 l0_0.length c0_0, .int .i64 a0_1, .int .i64 a0_2] 24 (0, 0)) (by (with_reducible repeat (first | refine blk_drewN ?_ _ | refine blk_drew ?_ | refine blk_alloc ?_ _)); exact BK179.out)) : gb179 ≠ gb205)); have n12_ := Aside0.mk ((by rw [hg]; exact Nat.ne_of_gt (blk_lt (g := gb179) (o := .cells #[.slice A0_0 l0_0.length c0_0, .int .i64 a0_1, .int .i64 a0_2] 24 (0, 0)) (by (with_reducible repeat (first | refine blk_drewN ?_ _ | refine blk_drew ?_ | refine blk_alloc ?_ _)); exact BK179.out)) : gb205 ≠ gb179)); have n13_ := Aside0.mk ((by rw [hg]; exact Nat.ne_of_lt (blk_lt (g := gb192) (o := .cells #[.slice Ao21 t186.length co21, .int .i64 t189, .int .i64 t190] 29 (0, 0)) (by (with_reducible repeat (first | refine blk_drewN ?_ _ | refine blk_drew ?_ | refine blk_alloc ?_ _)); exact BK192.out)) : gb192 ≠ gb205)); have n14_ := Aside0.mk ((by rw [hg]; exact Nat.ne_of_gt (blk_lt (g := gb192) (o := .cells #[.slice Ao21 t186.length co21, .int .i64 t189, .int .i64 t190] 29 (0, 0)) (by (with_reducible repeat (first | refine blk_drewN ?_ _ | refine blk_drew ?_ | refine blk_alloc ?_ _)); exact BK192.out)) : gb205 ≠ gb192)); have n15_ := Aside0.mk ((by rw [hg]; exact Nat.ne_of_lt (blk_lt (g := gb198) (o := .cells #[.slice Ao28 t193.length co28, .int .i64 t196, .int .i64 t197] 29 (0, 0)) (by (with_reducible repeat (first | refine blk_drewN ?_ _ | refine blk_drew ?_ | refine blk_alloc ?_ _)); exact BK198.out)) : gb198 ≠ gb205)); have n16_ := Aside0.mk ((by rw [hg]; exact Nat.ne_of_gt (blk_lt (g := gb198) (o := .cells #[.slice Ao28 t193.length co28, .int .i64 t196, .int .i64 t197] 29 (0, 0)) (by (with_reducible repeat (first | refine blk_drewN ?_ _ | refine blk_drew ?_ | refine blk_alloc ?_ _)); exact BK198.out)) : gb205 ≠ gb198)); clear HO183; clear HO188; clear HO195; clear HO201; clear BK179; clear BK192; clear BK198; clear HB; have HO183 := n0_; have HO188 := n1_; have HO195 := n2_; have HO201 := n3_; have BK179 := n4_; have BK192 := n5_; have BK198 := n6_; have HB := n7_; have BK205 := n8_; have GW205 := n9_; have GE205 := n10_; have NB179_205 := n11_; have NB205_179 := n12_; have NB192_205 := n13_; have NB205_192 := n14_; have NB198_205 := n15_; have NB205_198 := n16_; clear n0_ n1_ n2_ n3_ n4_ n5_ n6_ n7_ n8_ n9_ n10_ n11_ n12_ n13_ n14_ n15_ n16_; clear hb hbox hg; obtain ⟨Ao36, co36, eo36⟩ := Kd.R_slice HO201.out; subst eo36; have hnb37 := NB205_179.out; have hnc37 := NB179_205.out; have hnb38 := NB205_192.out; have hnc38 := NB192_205.out; have hnb39 := NB205_198.out; have hnc39 := NB198_205.out; have hcz40_0 : w35.cell? ⟨gb205, 0, none⟩ = some (.slice none 0 0) := (blk_cell BK205.out 0).trans rfl; have hcz40_1 : w35.cell? ⟨gb205, 1, none⟩ = some (.int .i64 0) := (blk_cell BK205.out 1).trans rfl; have hcz40_2 : w35.cell? ⟨gb205, 2, none⟩ = some (.int .i64 0) := (blk_cell BK205.out 2).trans rfl; have hfz40_0 := blk_frozen BK205.out 0; have hfz40_1 := blk_frozen BK205.out 1; have hfz40_2 := blk_frozen BK205.out 2) | ((with_reducible refine gate_store (t := 29) (p := 9) rfl ?_); refine store_event (t := 29) (p := 9) (v := ?vo_w41) (w1 := (((w35.setCell ⟨gb205, 0, none⟩ (.slice Ao36 t199.length co36)).setCell ⟨gb205, 1, none⟩ (.int .i64 t202)).setCell ⟨gb205, 2, none⟩ (.int .i64 t203))) ?hg ?ho ?hn ?hr ?_; (case ho => rfl); (case hg => rfl); (case hn => rfl); (case hr => first | (go_simp; done) | (go_simp; rfl)); intro w41 hw; have n0_ : Aside0 (Kd.R (Kd.int .i64) 3 w41 w.heap.size (fun k_ => some k_ ≠ (.slice Ao21 t186.length co21 : Value).ownBlock ∧ some k_ ≠ (.slice Ao28 t193.length co28 : Value).ownBlock ∧ some k_ ≠ (.slice Ao36 t199.length co36 : Value).ownBlock) (.slice Ao18 t181.length co18) t181) := ⟨(by rw [hw]; exact (by (with_reducible repeat (first | apply Kd.R_alloc | apply Kd.R_drewN | apply Kd.R_drew)); exact Kd.R_mono (Kd.R_far (p := ⟨gb205, 2, none⟩) (Kd.R_far (p := ⟨gb205, 1, none⟩) (Kd.R_far (p := ⟨gb205, 0, none⟩) (Kd.R_types HO183.out BK205.out (by decide)) (fun _ hk => hk.2) (.slice Ao36 t199.length co36)) (fun _ hk => hk.2) (.int .i64 t202)) (fun _ hk => hk.2) (.int .i64 t203)) (fun _ hk => ⟨hk.1.1.1, ⟨hk.1.1.2, hk.1.2⟩⟩)))⟩; have n1_ : Aside0 (Kd.R (Kd.int .i64) 3 w41 w.heap.size (fun k_ => some k_ ≠ (.slice Ao18 t181.length co18 : Value).ownBlock ∧ some k_ ≠ (.slice Ao28 t193.length co28 : Value).ownBlock ∧ some k_ ≠ (.slice Ao36 t199.length co36 : Value).ownBlock) (.slice Ao21 t186.length co21) t186) := ⟨(by rw [hw]; exact (by (with_reducible repeat (first | apply Kd.R_alloc | apply Kd.R_drewN | apply Kd.R_drew)); exact Kd.R_mono (Kd.R_far (p := ⟨gb205, 2, none⟩) (Kd.R_far (p := ⟨gb205, 1, none⟩) (Kd.R_far (p := ⟨gb205, 0, none⟩) (Kd.R_types HO188.out BK205.out (by decide)) (fun _ hk => hk.2) (.slice Ao36 t199.length co36)) (fun _ hk => hk.2) (.int .i64 t202)) (fun _ hk => hk.2) (.int .i64 t203)) (fun _ hk => ⟨hk.1.1.1, ⟨hk.1.1.2, hk.1.2⟩⟩)))⟩; have n2_ : Aside0 (Kd.R (Kd.int .i64) 3 w41 w.heap.size (fun k_ => some k_ ≠ (.slice Ao18 t181.length co18 : Value).ownBlock ∧ some k_ ≠ (.slice Ao21 t186.length co21 : Value).ownBlock ∧ some k_ ≠ (.slice Ao36 t199.length co36 : Value).ownBlock) (.slice Ao28 t193.length co28) t193) := ⟨(by rw [hw]; exact (by (with_reducible repeat (first | apply Kd.R_alloc | apply Kd.R_drewN | apply Kd.R_drew)); exact Kd.R_mono (Kd.R_far (p := ⟨gb205, 2, none⟩) (Kd.R_far (p := ⟨gb205, 1, none⟩) (Kd.R_far (p := ⟨gb205, 0, none⟩) (Kd.R_types HO195.out BK205.out (by decide)) (fun _ hk => hk.2) (.slice Ao36 t199.length co36)) (fun _ hk => hk.2) (.int .i64 t202)) (fun _ hk => hk.2) (.int .i64 t203)) (fun _ hk => ⟨hk.1.1.1, ⟨hk.1.1.2, hk.1.2⟩⟩)))⟩; have n3_ : Aside0 (Kd.R (Kd.int .i64) 3 w41 w.heap.size (fun k_ => some k_ ≠ (.slice Ao18 t181.length co18 : Value).ownBlock ∧ some k_ ≠ (.slice Ao21 t186.length co21 : Value).ownBlock ∧ some k_ ≠ (.slice Ao28 t193.length co28 : Value).ownBlock) (.slice Ao36 t199.length co36) t199) := ⟨(by rw [hw]; exact (by (with_reducible repeat (first | apply Kd.R_alloc | apply Kd.R_drewN | apply Kd.R_drew)); exact Kd.R_mono (Kd.R_far (p := ⟨gb205, 2, none⟩) (Kd.R_far (p := ⟨gb205, 1, none⟩) (Kd.R_far (p := ⟨gb205, 0, none⟩) (Kd.R_types HO201.out BK205.out (by decide)) (fun _ hk => hk.2) (.slice Ao36 t199.length co36)) (fun _ hk => hk.2) (.int .i64 t202)) (fun _ hk => hk.2) (.int .i64 t203)) (fun _ hk => ⟨hk.1.1.1.2, ⟨hk.1.1.2, hk.1.2⟩⟩)))⟩; have n4_ : Aside0 (w41.heap[gb179]? = some (.cells #[.slice A0_0 l0_0.length c0_0, .int .i64 a0_1, .int .i64 a0_2] 24 (0, 0))) := ⟨(by rw [hw]; exact (by (with_reducible repeat (first | refine blk_drewN ?_ _ | refine blk_drew ?_ | refine blk_alloc ?_ _)); refine blk_far ?_ NB179_205.out _; (with_reducible repeat (first | refine blk_drewN ?_ _ | refine blk_drew ?_ | refine blk_alloc ?_ _)); refine blk_far ?_ NB179_205.out _; (with_reducible repeat (first | refine blk_drewN ?_ _ | refine blk_drew ?_ | refine blk_alloc ?_ _)); refine blk_far ?_ NB179_205.out _; (with_reducible repeat (first | refine blk_drewN ?_ _ | refine blk_drew ?_ | refine blk_alloc ?_ _)); exact BK179.out))⟩; have n5_ : Aside0 (w41.heap[gb192]? = some (.cells #[.slice Ao21 t186.length co21, .int .i64 t189, .int .i64 t190] 29 (0, 0))) := ⟨(by rw [hw]; exact (by (with_reducible repeat (first | refine blk_drewN ?_ _ | refine blk_drew ?_ | refine blk_alloc ?_ _)); refine blk_far ?_ NB192_205.out _; (with_reducible repeat (first | refine blk_drewN ?_ _ | refine blk_drew ?_ | refine blk_alloc ?_ _)); refine blk_far ?_ NB192_205.out _; (with_reducible repeat (first | refine blk_drewN ?_ _ | refine blk_drew ?_ | refine blk_alloc ?_ _)); refine blk_far ?_ NB192_205.out _; (with_reducible repeat (first | refine blk_drewN ?_ _ | refine blk_drew ?_ | refine blk_alloc ?_ _)); exact BK192.out))⟩; have n6_ : Aside0 (w41.heap[gb198]? = some (.cells #[.slice Ao28 t193.length co28, .int .i64 t196, .int .i64 t197] 29 (0, 0))) := ⟨(by rw [hw]; exact (by (with_reducible repeat (first | refine blk_drewN ?_ _ | refine blk_drew ?_ | refine blk_alloc ?_ _)); refine blk_far ?_ NB198_205.out _; (with_reducible repeat (first | refine blk_drewN ?_ _ | refine blk_drew ?_ | refine blk_alloc ?_ _)); refine blk_far ?_ NB198_205.out _; (with_reducible repeat (first | refine blk_drewN ?_ _ | refine blk_drew ?_ | refine blk_alloc ?_ _)); refine blk_far ?_ NB198_205.out _; (with_reducible repeat (first | refine blk_drewN ?_ _ | refine blk_drew ?_ | refine blk_alloc ?_ _)); exact BK198.out))⟩; have n7_ : Aside0 (w41.heap[gb205]? = some (.cells #[.slice Ao36 t199.length co36, .int .i64 t202, .int .i64 t203] 29 (0, 0))) := ⟨(by rw [hw]; exact (by (with_reducible repeat (first | refine blk_drewN ?_ _ | refine blk_drew ?_ | refine blk_alloc ?_ _)); refine blk_put (cs := #[.slice Ao36 t199.length co36, .int .i64 t202, .int .i64 0]) ?_ 2 _ rfl; (with_reducible repeat (first | refine blk_drewN ?_ _ | refine blk_drew ?_ | refine blk_alloc ?_ _)); refine blk_put (cs := #[.slice Ao36 t199.length co36, .int .i64 0, .int .i64 0]) ?_ 1 _ rfl; (with_reducible repeat (first | refine blk_drewN ?_ _ | refine blk_drew ?_ | refine blk_alloc ?_ _)); refine blk_put (cs := #[.slice none 0 0, .int .i64 0, .int .i64 0]) ?_ 0 _ rfl; (with_reducible repeat (first | refine blk_drewN ?_ _ | refine blk_drew ?_ | refine blk_alloc ?_ _)); exact BK205.out))⟩; have n8_ : Aside0 (Below w.heap.size w w41) := ⟨(by rw [hw]; exact (by repeat (first | (with_reducible first | exact HB.out | apply below_alloc | apply pw_below_drewN | apply below_drew1 | refine below_set ?_ GE179.out | refine below_set ?_ GE192.out | refine below_set ?_ GE198.out | refine below_set ?_ GE205.out) | exact HB.out)))⟩; clear hw; clear HO183; clear HO188; clear HO195; clear HO201; clear BK179; clear BK192; clear BK198; clear BK205; clear HB; have HO183 := n0_; have HO188 := n1_; have HO195 := n2_; have HO201 := n3_; have BK179 := n4_; have BK192 := n5_; have BK198 := n6_; have BK205 := n7_; have HB := n8_; clear n0_ n1_ n2_ n3_ n4_ n5_ n6_ n7_ n8_))
    (try simp only [Act.put, List.setIfInBounds_toArray, List.set_cons_zero, List.set_cons_succ])
    go_cut [44] (fun v44 wc => ∃ (kq : Nat) (x44_11 : Bool), v44 = .bool x44_11 ∧ Aside0 (laws_FnExactPushRing.j0 kq a1 t191 t204 x44_11 l0_0 a0_1 a0_2 t186 t189 t190 t193 t196 t197 t199 t202 t203 = some r) ∧ Aside0 (kq ≤ k) ∧ Aside0 (Kd.R (Kd.int .i64) 3 wc w.heap.size (fun k_ => some k_ ≠ ((.slice Ao28 t193.length co28) : Value).ownBlock ∧ some k_ ≠ ((.slice Ao36 t199.length co36) : Value).ownBlock) (.slice Ao21 t186.length co21) t186) ∧ Aside0 (Kd.R (Kd.int .i64) 3 wc w.heap.size (fun k_ => some k_ ≠ ((.slice Ao21 t186.length co21) : Value).ownBlock ∧ some k_ ≠ ((.slice Ao36 t199.length co36) : Value).ownBlock) (.slice Ao28 t193.length co28) t193) ∧ Aside0 (Kd.R (Kd.int .i64) 3 wc w.heap.size (fun k_ => some k_ ≠ ((.slice Ao21 t186.length co21) : Value).ownBlock ∧ some k_ ≠ ((.slice Ao28 t193.length co28) : Value).ownBlock) (.slice Ao36 t199.length co36) t199) ∧ Aside0 (wc.heap[gb179]? = some (.cells #[(.slice A0_0 l0_0.length c0_0), .int .i64 a0_1, .int .i64 a0_2] 24 (0, 0))) ∧ Aside0 (wc.heap[gb192]? = some (.cells #[(.slice Ao21 t186.length co21), .int .i64 t189, .int .i64 t190] 29 (0, 0))) ∧ Aside0 (wc.heap[gb198]? = some (.cells #[(.slice Ao28 t193.length co28), .int .i64 t196, .int .i64 t197] 29 (0, 0))) ∧ Aside0 (wc.heap[gb205]? = some (.cells #[(.slice Ao36 t199.length co36), .int .i64 t202, .int .i64 t203] 29 (0, 0))) ∧ Aside0 (Below w.heap.size w wc))
    case first =>
      have H := HC12.out
      clear HC12
      replace H := Option.bind_eq_some_iff.mp H
      obtain ⟨t206, A420, H⟩ := H
      replace H : (if t206 = true then (laws_FnExactPushRing.j0 k a1 t191 t204 (t204 != t191) l0_0 a0_1 a0_2 t186 t189 t190 t193 t196 t197 t199 t202 t203) else (laws_FnExactPushRing.j0 k a1 t191 t204 true l0_0 a0_1 a0_2 t186 t189 t190 t193 t196 t197 t199 t202 t203)) = some r := H
      have A42 := Aside0.mk A420
      clear A420
      by_cases c43 : t206 = true
      · subst c43
        have H1 : (laws_FnExactPushRing.j0 k a1 t191 t204 (t204 != t191) l0_0 a0_1 a0_2 t186 t189 t190 t193 t196 t197 t199 t202 t203) = some r := by rw [if_pos rfl] at H; exact H
        clear H
        have H := H1
        clear H1
        have H' := Aside0.mk H
        clear H
        have hnb44 := NB205_179.out
        have hnc44 := NB179_205.out
        have hnb45 := NB205_192.out
        have hnc45 := NB192_205.out
        have hnb46 := NB205_198.out
        have hnc46 := NB198_205.out
        have hcz47_0 : w41.cell? ⟨gb205, 0, none⟩ = some (.slice Ao36 t199.length co36) := (blk_cell BK205.out 0).trans rfl
        have hcz47_1 : w41.cell? ⟨gb205, 1, none⟩ = some (.int .i64 t202) := (blk_cell BK205.out 1).trans rfl
        have hcz47_2 : w41.cell? ⟨gb205, 2, none⟩ = some (.int .i64 t203) := (blk_cell BK205.out 2).trans rfl
        have hfz47_0 := blk_frozen BK205.out 0
        have hfz47_1 := blk_frozen BK205.out 1
        have hfz47_2 := blk_frozen BK205.out 2
        have hnb48 := NB192_179.out
        have hnc48 := NB179_192.out
        have hnb49 := NB192_198.out
        have hnc49 := NB198_192.out
        have hcz50_0 : w41.cell? ⟨gb192, 0, none⟩ = some (.slice Ao21 t186.length co21) := (blk_cell BK192.out 0).trans rfl
        have hcz50_1 : w41.cell? ⟨gb192, 1, none⟩ = some (.int .i64 t189) := (blk_cell BK192.out 1).trans rfl
        have hcz50_2 : w41.cell? ⟨gb192, 2, none⟩ = some (.int .i64 t190) := (blk_cell BK192.out 2).trans rfl
        have hfz50_0 := blk_frozen BK192.out 0
        have hfz50_1 := blk_frozen BK192.out 1
        have hfz50_2 := blk_frozen BK192.out 2
        go_wp2_with (first | ((with_reducible refine gate_callee (f := 19) rfl ?_); refine goesL_ (some 38) rfl rfl Try.func19 (by kernel_rfl) rfl #[.agg #[.slice Ao36 t199.length co36, .int .i64 t202, .int .i64 t203], .agg #[.slice Ao21 t186.length co21, .int .i64 t189, .int .i64 t190]] rfl (by (try simp only [List.map_toArray, List.map_cons, List.map_nil]); first | done | rfl | (simp only [List.length_drop, List.length_take]; rfl)) ?_; (with_reducible refine (laws_eqRing.calls k _ _ t199 t202 t203 _ _ t186 t189 t190 true _ ?side1 ?side2 ?side3 ?side4 A42.out).mono ?_); (case side1 => repeat (first | exact (Kd.R_reads' HO201.out).2.2 | (with_reducible refine Kd.C_alloc ?_ _) | (with_reducible refine Kd.C_drewN ?_ _) | (with_reducible refine Kd.C_drew ?_))); (case side2 => exact (Kd.R_reads' HO201.out).2.1); (case side3 => repeat (first | exact (Kd.R_reads' HO188.out).2.2 | (with_reducible refine Kd.C_alloc ?_ _) | (with_reducible refine Kd.C_drewN ?_ _) | (with_reducible refine Kd.C_drew ?_))); (case side4 => exact (Kd.R_reads' HO188.out).2.1); rintro e w51 ⟨rfl, hb⟩; refine ⟨_, rfl, ?_⟩; have n0_ := Aside0.mk (Kd.R_below (by (with_reducible repeat (first | apply Kd.R_alloc | apply Kd.R_drewN | apply Kd.R_drew)); exact HO183.out) hb); have n1_ := Aside0.mk (Kd.R_below (by (with_reducible repeat (first | apply Kd.R_alloc | apply Kd.R_drewN | apply Kd.R_drew)); exact HO188.out) hb); have n2_ := Aside0.mk (Kd.R_below (by (with_reducible repeat (first | apply Kd.R_alloc | apply Kd.R_drewN | apply Kd.R_drew)); exact HO195.out) hb); have n3_ := Aside0.mk (Kd.R_below (by (with_reducible repeat (first | apply Kd.R_alloc | apply Kd.R_drewN | apply Kd.R_drew)); exact HO201.out) hb); have n4_ := Aside0.mk (blk_below (g := gb179) (o := .cells #[.slice A0_0 l0_0.length c0_0, .int .i64 a0_1, .int .i64 a0_2] 24 (0, 0)) (by (with_reducible repeat (first | refine blk_drewN ?_ _ | refine blk_drew ?_ | refine blk_alloc ?_ _)); exact BK179.out) hb); have n5_ := Aside0.mk (blk_below (g := gb192) (o := .cells #[.slice Ao21 t186.length co21, .int .i64 t189, .int .i64 t190] 29 (0, 0)) (by (with_reducible repeat (first | refine blk_drewN ?_ _ | refine blk_drew ?_ | refine blk_alloc ?_ _)); exact BK192.out) hb); have n6_ := Aside0.mk (blk_below (g := gb198) (o := .cells #[.slice Ao28 t193.length co28, .int .i64 t196, .int .i64 t197] 29 (0, 0)) (by (with_reducible repeat (first | refine blk_drewN ?_ _ | refine blk_drew ?_ | refine blk_alloc ?_ _)); exact BK198.out) hb); have n7_ := Aside0.mk (blk_below (g := gb205) (o := .cells #[.slice Ao36 t199.length co36, .int .i64 t202, .int .i64 t203] 29 (0, 0)) (by (with_reducible repeat (first | refine blk_drewN ?_ _ | refine blk_drew ?_ | refine blk_alloc ?_ _)); exact BK205.out) hb); have n8_ := Aside0.mk (below_step (by repeat (first | (with_reducible first | exact HB.out | apply below_alloc | apply pw_below_drewN | apply below_drew1 | refine below_set ?_ GE179.out | refine below_set ?_ GE192.out | refine below_set ?_ GE198.out | refine below_set ?_ GE205.out) | exact HB.out)) hb); clear HO183; clear HO188; clear HO195; clear HO201; clear BK179; clear BK192; clear BK198; clear BK205; clear HB; have HO183 := n0_; have HO188 := n1_; have HO195 := n2_; have HO201 := n3_; have BK179 := n4_; have BK192 := n5_; have BK198 := n6_; have BK205 := n7_; have HB := n8_; clear n0_ n1_ n2_ n3_ n4_ n5_ n6_ n7_ n8_; (try clear hb); (try clear hb2); (try clear hk); (try clear hi)))
        go_meet
        case rel => exact ⟨_, ((t204 != t191)), (by first | rfl | (simp; done) | (simp [*]; done)), H', ⟨by first | omega | exact Nat.le_refl _⟩, ⟨by (with_reducible repeat (first | apply Kd.R_alloc | apply Kd.R_drewN | apply Kd.R_drew)); exact Kd.R_mono HO188.out (fun _ hk => ⟨hk.2.1, hk.2.2⟩)⟩, ⟨by (with_reducible repeat (first | apply Kd.R_alloc | apply Kd.R_drewN | apply Kd.R_drew)); exact Kd.R_mono HO195.out (fun _ hk => ⟨hk.2.1, hk.2.2⟩)⟩, ⟨by (with_reducible repeat (first | apply Kd.R_alloc | apply Kd.R_drewN | apply Kd.R_drew)); exact Kd.R_mono HO201.out (fun _ hk => ⟨hk.2.1, hk.2.2⟩)⟩, ⟨by (with_reducible repeat (first | refine blk_drewN ?_ _ | refine blk_drew ?_ | refine blk_alloc ?_ _)); exact BK179.out⟩, ⟨by (with_reducible repeat (first | refine blk_drewN ?_ _ | refine blk_drew ?_ | refine blk_alloc ?_ _)); exact BK192.out⟩, ⟨by (with_reducible repeat (first | refine blk_drewN ?_ _ | refine blk_drew ?_ | refine blk_alloc ?_ _)); exact BK198.out⟩, ⟨by (with_reducible repeat (first | refine blk_drewN ?_ _ | refine blk_drew ?_ | refine blk_alloc ?_ _)); exact BK205.out⟩, ⟨by repeat (first | (with_reducible first | exact HB.out | apply below_alloc | apply pw_below_drewN | apply below_drew1 | refine below_set ?_ GE179.out | refine below_set ?_ GE192.out | refine below_set ?_ GE198.out | refine below_set ?_ GE205.out) | exact HB.out)⟩⟩
      · replace c43 := Bool.eq_false_iff.mpr c43
        subst c43
        have H1 : (laws_FnExactPushRing.j0 k a1 t191 t204 true l0_0 a0_1 a0_2 t186 t189 t190 t193 t196 t197 t199 t202 t203) = some r := by rw [if_neg (show ¬ (false = true) by decide)] at H; exact H
        clear H
        have H := H1
        clear H1
        have H' := Aside0.mk H
        clear H
        have hnb52 := NB205_179.out
        have hnc52 := NB179_205.out
        have hnb53 := NB205_192.out
        have hnc53 := NB192_205.out
        have hnb54 := NB205_198.out
        have hnc54 := NB198_205.out
        have hcz55_0 : w41.cell? ⟨gb205, 0, none⟩ = some (.slice Ao36 t199.length co36) := (blk_cell BK205.out 0).trans rfl
        have hcz55_1 : w41.cell? ⟨gb205, 1, none⟩ = some (.int .i64 t202) := (blk_cell BK205.out 1).trans rfl
        have hcz55_2 : w41.cell? ⟨gb205, 2, none⟩ = some (.int .i64 t203) := (blk_cell BK205.out 2).trans rfl
        have hfz55_0 := blk_frozen BK205.out 0
        have hfz55_1 := blk_frozen BK205.out 1
        have hfz55_2 := blk_frozen BK205.out 2
        have hnb56 := NB192_179.out
        have hnc56 := NB179_192.out
        have hnb57 := NB192_198.out
        have hnc57 := NB198_192.out
        have hcz58_0 : w41.cell? ⟨gb192, 0, none⟩ = some (.slice Ao21 t186.length co21) := (blk_cell BK192.out 0).trans rfl
        have hcz58_1 : w41.cell? ⟨gb192, 1, none⟩ = some (.int .i64 t189) := (blk_cell BK192.out 1).trans rfl
        have hcz58_2 : w41.cell? ⟨gb192, 2, none⟩ = some (.int .i64 t190) := (blk_cell BK192.out 2).trans rfl
        have hfz58_0 := blk_frozen BK192.out 0
        have hfz58_1 := blk_frozen BK192.out 1
        have hfz58_2 := blk_frozen BK192.out 2
        go_wp2_with (first | ((with_reducible refine gate_callee (f := 19) rfl ?_); refine goesL_ (some 38) rfl rfl Try.func19 (by kernel_rfl) rfl #[.agg #[.slice Ao36 t199.length co36, .int .i64 t202, .int .i64 t203], .agg #[.slice Ao21 t186.length co21, .int .i64 t189, .int .i64 t190]] rfl (by (try simp only [List.map_toArray, List.map_cons, List.map_nil]); first | done | rfl | (simp only [List.length_drop, List.length_take]; rfl)) ?_; (with_reducible refine (laws_eqRing.calls k _ _ t199 t202 t203 _ _ t186 t189 t190 false _ ?side1 ?side2 ?side3 ?side4 A42.out).mono ?_); (case side1 => repeat (first | exact (Kd.R_reads' HO201.out).2.2 | (with_reducible refine Kd.C_alloc ?_ _) | (with_reducible refine Kd.C_drewN ?_ _) | (with_reducible refine Kd.C_drew ?_))); (case side2 => exact (Kd.R_reads' HO201.out).2.1); (case side3 => repeat (first | exact (Kd.R_reads' HO188.out).2.2 | (with_reducible refine Kd.C_alloc ?_ _) | (with_reducible refine Kd.C_drewN ?_ _) | (with_reducible refine Kd.C_drew ?_))); (case side4 => exact (Kd.R_reads' HO188.out).2.1); rintro e w59 ⟨rfl, hb⟩; refine ⟨_, rfl, ?_⟩; have n0_ := Aside0.mk (Kd.R_below (by (with_reducible repeat (first | apply Kd.R_alloc | apply Kd.R_drewN | apply Kd.R_drew)); exact HO183.out) hb); have n1_ := Aside0.mk (Kd.R_below (by (with_reducible repeat (first | apply Kd.R_alloc | apply Kd.R_drewN | apply Kd.R_drew)); exact HO188.out) hb); have n2_ := Aside0.mk (Kd.R_below (by (with_reducible repeat (first | apply Kd.R_alloc | apply Kd.R_drewN | apply Kd.R_drew)); exact HO195.out) hb); have n3_ := Aside0.mk (Kd.R_below (by (with_reducible repeat (first | apply Kd.R_alloc | apply Kd.R_drewN | apply Kd.R_drew)); exact HO201.out) hb); have n4_ := Aside0.mk (blk_below (g := gb179) (o := .cells #[.slice A0_0 l0_0.length c0_0, .int .i64 a0_1, .int .i64 a0_2] 24 (0, 0)) (by (with_reducible repeat (first | refine blk_drewN ?_ _ | refine blk_drew ?_ | refine blk_alloc ?_ _)); exact BK179.out) hb); have n5_ := Aside0.mk (blk_below (g := gb192) (o := .cells #[.slice Ao21 t186.length co21, .int .i64 t189, .int .i64 t190] 29 (0, 0)) (by (with_reducible repeat (first | refine blk_drewN ?_ _ | refine blk_drew ?_ | refine blk_alloc ?_ _)); exact BK192.out) hb); have n6_ := Aside0.mk (blk_below (g := gb198) (o := .cells #[.slice Ao28 t193.length co28, .int .i64 t196, .int .i64 t197] 29 (0, 0)) (by (with_reducible repeat (first | refine blk_drewN ?_ _ | refine blk_drew ?_ | refine blk_alloc ?_ _)); exact BK198.out) hb); have n7_ := Aside0.mk (blk_below (g := gb205) (o := .cells #[.slice Ao36 t199.length co36, .int .i64 t202, .int .i64 t203] 29 (0, 0)) (by (with_reducible repeat (first | refine blk_drewN ?_ _ | refine blk_drew ?_ | refine blk_alloc ?_ _)); exact BK205.out) hb); have n8_ := Aside0.mk (below_step (by repeat (first | (with_reducible first | exact HB.out | apply below_alloc | apply pw_below_drewN | apply below_drew1 | refine below_set ?_ GE179.out | refine below_set ?_ GE192.out | refine below_set ?_ GE198.out | refine below_set ?_ GE205.out) | exact HB.out)) hb); clear HO183; clear HO188; clear HO195; clear HO201; clear BK179; clear BK192; clear BK198; clear BK205; clear HB; have HO183 := n0_; have HO188 := n1_; have HO195 := n2_; have HO201 := n3_; have BK179 := n4_; have BK192 := n5_; have BK198 := n6_; have BK205 := n7_; have HB := n8_; clear n0_ n1_ n2_ n3_ n4_ n5_ n6_ n7_ n8_; (try clear hb); (try clear hb2); (try clear hk); (try clear hi)))
        go_meet
        case rel => exact ⟨_, (true), (by first | rfl | (simp; done) | (simp [*]; done)), H', ⟨by first | omega | exact Nat.le_refl _⟩, ⟨by (with_reducible repeat (first | apply Kd.R_alloc | apply Kd.R_drewN | apply Kd.R_drew)); exact Kd.R_mono HO188.out (fun _ hk => ⟨hk.2.1, hk.2.2⟩)⟩, ⟨by (with_reducible repeat (first | apply Kd.R_alloc | apply Kd.R_drewN | apply Kd.R_drew)); exact Kd.R_mono HO195.out (fun _ hk => ⟨hk.2.1, hk.2.2⟩)⟩, ⟨by (with_reducible repeat (first | apply Kd.R_alloc | apply Kd.R_drewN | apply Kd.R_drew)); exact Kd.R_mono HO201.out (fun _ hk => ⟨hk.2.1, hk.2.2⟩)⟩, ⟨by (with_reducible repeat (first | refine blk_drewN ?_ _ | refine blk_drew ?_ | refine blk_alloc ?_ _)); exact BK179.out⟩, ⟨by (with_reducible repeat (first | refine blk_drewN ?_ _ | refine blk_drew ?_ | refine blk_alloc ?_ _)); exact BK192.out⟩, ⟨by (with_reducible repeat (first | refine blk_drewN ?_ _ | refine blk_drew ?_ | refine blk_alloc ?_ _)); exact BK198.out⟩, ⟨by (with_reducible repeat (first | refine blk_drewN ?_ _ | refine blk_drew ?_ | refine blk_alloc ?_ _)); exact BK205.out⟩, ⟨by repeat (first | (with_reducible first | exact HB.out | apply below_alloc | apply pw_below_drewN | apply below_drew1 | refine below_set ?_ GE179.out | refine below_set ?_ GE192.out | refine below_set ?_ GE198.out | refine below_set ?_ GE205.out) | exact HB.out)⟩⟩
    case rest =>
      clear HC12
      try clear c1
      try clear c2
      try clear p2
      try clear c3
      try clear c4
      try clear c4b0
      try clear c5
      try clear c9
      try clear c14
      try clear c16
      try clear c19
      try clear c22
      try clear c29
      try clear c30
      try clear c37
      try clear c38
      try clear c39
      try clear c43
      try clear c44
      try clear c45
      try clear c46
      try clear c48
      try clear c49
      try clear c50
      try clear c51
      try clear c52
      try clear c53
      try clear c54
      try clear c56
      try clear c57
      try clear hcz14_0
      try clear hcz14_1
      try clear hcz14_2
      try clear hcz16_0
      try clear hcz16_1
      try clear hcz16_2
      try clear hcz23_0
      try clear hcz23_1
      try clear hcz23_2
      try clear hcz25_0
      try clear hcz25_1
      try clear hcz25_2
      try clear hcz31_0
      try clear hcz31_1
      try clear hcz31_2
      try clear hcz33_0
      try clear hcz33_1
      try clear hcz33_2
      try clear hcz40_0
      try clear hcz40_1
      try clear hcz40_2
      try clear hcz47_0
      try clear hcz47_1
      try clear hcz47_2
      try clear hcz50_0
      try clear hcz50_1
      try clear hcz50_2
      try clear hcz55_0
      try clear hcz55_1
      try clear hcz55_2
      try clear hcz58_0
      try clear hcz58_1
      try clear hcz58_2
      try clear hcz6_0
      try clear hcz6_1
      try clear hcz6_2
      try clear hfz14_0
      try clear hfz14_1
      try clear hfz14_2
      try clear hfz16_0
      try clear hfz16_1
      try clear hfz16_2
      try clear hfz23_0
      try clear hfz23_1
      try clear hfz23_2
      try clear hfz25_0
      try clear hfz25_1
      try clear hfz25_2
      try clear hfz31_0
      try clear hfz31_1
      try clear hfz31_2
      try clear hfz33_0
      try clear hfz33_1
      try clear hfz33_2
      try clear hfz40_0
      try clear hfz40_1
      try clear hfz40_2
      try clear hfz47_0
      try clear hfz47_1
      try clear hfz47_2
      try clear hfz50_0
      try clear hfz50_1
      try clear hfz50_2
      try clear hfz55_0
      try clear hfz55_1
      try clear hfz55_2
      try clear hfz58_0
      try clear hfz58_1
      try clear hfz58_2
      try clear hfz6_0
      try clear hfz6_1
      try clear hfz6_2
      obtain ⟨kq, x44_11, rfl, HA, HJ11, HO_193000, HO_199000, HO_206000, BK179, BK192, BK198, BK205, HB⟩ := hcut
      cases kq with
      | zero => exact absurd HA.out (by simp [laws_FnExactPushRing.j0])
      | succ kj11 =>
        have H := HA.out
        clear HA
        simp only [laws_FnExactPushRing.j0] at H
        by_cases c60 : x44_11 = true
        · subst c60
          have H1 : (some false) = some r := by rw [if_pos rfl] at H; exact H
          clear H
          have H := H1
          clear H1
          exact absurd ((Option.some.inj H).trans hT.out) (by decide)
        · replace c60 := Bool.eq_false_iff.mpr c60
          subst c60
          have H1 : ((laws_toRing.f kj11 l0_0 a0_1 a0_2).bind fun bt207 => ((laws_eqRing.f kj11 t193 t196 t197 bt207.1 bt207.2.1 bt207.2.2).bind fun t212 => (if t212 = true then ((laws_markRing.f kj11 t193 t196 t197 1).bind fun bt213 => (if bt213.1 < 0 then (laws_FnExactPushRing.j1 kj11 a1 t191 true l0_0 a0_1 a0_2 t186 t189 t190 t199 t202 t203) else ((laws_eqRing.f kj11 t199 t202 t203 t186 t189 t190).bind fun t215 => (if t215 = true then (laws_FnExactPushRing.j1 kj11 a1 t191 (t204 != t191) l0_0 a0_1 a0_2 t186 t189 t190 t199 t202 t203) else (laws_FnExactPushRing.j1 kj11 a1 t191 true l0_0 a0_1 a0_2 t186 t189 t190 t199 t202 t203))))) else (some false)))) = some r := by rw [if_neg (show ¬ (false = true) by decide)] at H; exact H
          clear H
          have H := H1
          clear H1
          replace H := Option.bind_eq_some_iff.mp H
          obtain ⟨⟨t207, t210, t211⟩, A610, H⟩ := H
          replace H : ((laws_eqRing.f kj11 t193 t196 t197 t207 t210 t211).bind fun t212 => (if t212 = true then ((laws_markRing.f kj11 t193 t196 t197 1).bind fun bt213 => (if bt213.1 < 0 then (laws_FnExactPushRing.j1 kj11 a1 t191 true l0_0 a0_1 a0_2 t186 t189 t190 t199 t202 t203) else ((laws_eqRing.f kj11 t199 t202 t203 t186 t189 t190).bind fun t215 => (if t215 = true then (laws_FnExactPushRing.j1 kj11 a1 t191 (t204 != t191) l0_0 a0_1 a0_2 t186 t189 t190 t199 t202 t203) else (laws_FnExactPushRing.j1 kj11 a1 t191 true l0_0 a0_1 a0_2 t186 t189 t190 t199 t202 t203))))) else (some false))) = some r := H
          have A61 := Aside0.mk A610
          clear A610
          replace H := Option.bind_eq_some_iff.mp H
          obtain ⟨t212, A620, H⟩ := H
          replace H : (if t212 = true then ((laws_markRing.f kj11 t193 t196 t197 1).bind fun bt213 => (if bt213.1 < 0 then (laws_FnExactPushRing.j1 kj11 a1 t191 true l0_0 a0_1 a0_2 t186 t189 t190 t199 t202 t203) else ((laws_eqRing.f kj11 t199 t202 t203 t186 t189 t190).bind fun t215 => (if t215 = true then (laws_FnExactPushRing.j1 kj11 a1 t191 (t204 != t191) l0_0 a0_1 a0_2 t186 t189 t190 t199 t202 t203) else (laws_FnExactPushRing.j1 kj11 a1 t191 true l0_0 a0_1 a0_2 t186 t189 t190 t199 t202 t203))))) else (some false)) = some r := H
          have A62 := Aside0.mk A620
          clear A620
          by_cases c63 : t212 = true
          · subst c63
            have H1 : ((laws_markRing.f kj11 t193 t196 t197 1).bind fun bt213 => (if bt213.1 < 0 then (laws_FnExactPushRing.j1 kj11 a1 t191 true l0_0 a0_1 a0_2 t186 t189 t190 t199 t202 t203) else ((laws_eqRing.f kj11 t199 t202 t203 t186 t189 t190).bind fun t215 => (if t215 = true then (laws_FnExactPushRing.j1 kj11 a1 t191 (t204 != t191) l0_0 a0_1 a0_2 t186 t189 t190 t199 t202 t203) else (laws_FnExactPushRing.j1 kj11 a1 t191 true l0_0 a0_1 a0_2 t186 t189 t190 t199 t202 t203))))) = some r := by rw [if_pos rfl] at H; exact H
            clear H
            have H := H1
            clear H1
            replace H := Option.bind_eq_some_iff.mp H
            obtain ⟨⟨t213, t214⟩, A640, H⟩ := H
            replace H : (if t213 < 0 then (laws_FnExactPushRing.j1 kj11 a1 t191 true l0_0 a0_1 a0_2 t186 t189 t190 t199 t202 t203) else ((laws_eqRing.f kj11 t199 t202 t203 t186 t189 t190).bind fun t215 => (if t215 = true then (laws_FnExactPushRing.j1 kj11 a1 t191 (t204 != t191) l0_0 a0_1 a0_2 t186 t189 t190 t199 t202 t203) else (laws_FnExactPushRing.j1 kj11 a1 t191 true l0_0 a0_1 a0_2 t186 t189 t190 t199 t202 t203)))) = some r := H
            have A64 := Aside0.mk A640
            clear A640
            have HC65 := Aside0.mk H
            clear H
            try go_wp2
            have n0_ := Aside0.mk (Kd.R_drew HO_193000.out)
            have n1_ := Aside0.mk (Kd.R_drew HO_199000.out)
            have n2_ := Aside0.mk (Kd.R_drew HO_206000.out)
            have n3_ := Aside0.mk (blk_drew BK179.out)
            have n4_ := Aside0.mk (blk_drew BK192.out)
            have n5_ := Aside0.mk (blk_drew BK198.out)
            have n6_ := Aside0.mk (blk_drew BK205.out)
            have n7_ := Aside0.mk (below_drew1 HB.out)
            clear HO_193000
            clear HO_199000
            clear HO_206000
            clear BK179
            clear BK192
            clear BK198
            clear BK205
            clear HB
            have HO_193000 := n0_
            have HO_199000 := n1_
            have HO_206000 := n2_
            have BK179 := n3_
            have BK192 := n4_
            have BK198 := n5_
            have BK205 := n6_
            have HB := n7_
            clear n0_ n1_ n2_ n3_ n4_ n5_ n6_ n7_
            refine start_ (n := 5) (S := fun w' => w'.cell? ⟨gb198, 0, none⟩ = some (.slice Ao28 t193.length co28) ∧ w'.cell? ⟨gb198, 1, none⟩ = some (.int .i64 t196) ∧ w'.cell? ⟨gb198, 2, none⟩ = some (.int .i64 t197) ∧ w'.cell? ⟨gb179, 0, none⟩ = some (.slice A0_0 l0_0.length c0_0) ∧ w'.cell? ⟨gb179, 1, none⟩ = some (.int .i64 a0_1) ∧ w'.cell? ⟨gb179, 2, none⟩ = some (.int .i64 a0_2)) (ds := []) #[false, false, false, false, false] (by kernel_rfl) rfl rfl ⟨(blk_cell BK198.out 0).trans rfl, (blk_cell BK198.out 1).trans rfl, (blk_cell BK198.out 2).trans rfl, (blk_cell BK179.out 0).trans rfl, (blk_cell BK179.out 1).trans rfl, (blk_cell BK179.out 2).trans rfl⟩ (fun hHeld => ?_)
            generalize wc.drew = w66 at HO_193000 HO_199000 HO_206000 BK179 BK192 BK198 BK205 HB hHeld ⊢
            refine take_ (i := 0) (N := some 45) (v := ?_) (a' := ?_) #[true, false, false, false, false] rfl rfl (by kernel_rfl) (fun _ _ _ h => h) (Or.inl ⟨by rfl, ?_⟩) hHeld ?_ ?_
            rotate_left
            · rintro w' ⟨s0, s1, s2, s3, s4, s5⟩
              go_simp
              with_reducible rfl
            rotate_left
            · simp only [Act.put, List.setIfInBounds_toArray, List.set_cons_zero, List.set_cons_succ, i64_w, i32_w]
              rfl
            refine take_ (i := 1) (N := some 46) (v := ?_) (a' := ?_) #[true, true, false, false, false] rfl rfl (by kernel_rfl) (fun _ _ _ h => h) (Or.inl ⟨by rfl, ?_⟩) hHeld ?_ ?_
            rotate_left
            · rintro w' ⟨s0, s1, s2, s3, s4, s5⟩
              go_simp
              with_reducible rfl
            rotate_left
            · simp only [Act.put, List.setIfInBounds_toArray, List.set_cons_zero, List.set_cons_succ, i64_w, i32_w]
              rfl
            refine one_ (i := 2) (N := some 47) #[true, true, true, false, false] rfl rfl (by kernel_rfl) (by decide) (fun K hK => ?_)
            refine goes_ Try.func16 (by kernel_rfl) rfl #[.agg #[.slice A0_0 l0_0.length c0_0, .int .i64 a0_1, .int .i64 a0_2]] (by rfl) rfl rfl (by (try simp only [List.map_toArray, List.map_cons, List.map_nil]); first | done | rfl | (simp only [List.length_drop, List.length_take]; rfl)) ?_
            with_reducible refine (laws_toRing.calls kj11 _ _ l0_0 a0_1 a0_2 t207 t210 t211 _ ?side1 ?side2 A61.out).mono ?_
            (case side1 => repeat (first | exact (Kd.C_below HR0_0.out HB.out) | (with_reducible refine Kd.C_alloc ?_ _) | (with_reducible refine Kd.C_drewN ?_ _) | (with_reducible refine Kd.C_drew ?_)))
            (case side2 => exact HC0_0.out)
            rintro e w67 ⟨v208, rfl, ho0, hb⟩
            refine ⟨_, rfl, ?_⟩
            have n0_ := Aside0.mk (Kd.R_elder' (by (with_reducible repeat (first | apply Kd.R_alloc | apply Kd.R_drewN | apply Kd.R_drew)); exact HO_193000.out) (Kd.R_base ho0) hb)
            have n1_ := Aside0.mk (Kd.R_elder' (by (with_reducible repeat (first | apply Kd.R_alloc | apply Kd.R_drewN | apply Kd.R_drew)); exact HO_199000.out) (Kd.R_base ho0) hb)
            have n2_ := Aside0.mk (Kd.R_elder' (by (with_reducible repeat (first | apply Kd.R_alloc | apply Kd.R_drewN | apply Kd.R_drew)); exact HO_206000.out) (Kd.R_base ho0) hb)
            have n3_ := Aside0.mk (Kd.R_lower (Kd.R_new' (Kd.R_new' (Kd.R_new' ho0 (Kd.R_lt (by (with_reducible repeat (first | apply Kd.R_alloc | apply Kd.R_drewN | apply Kd.R_drew)); exact HO_193000.out))) (Kd.R_lt (by (with_reducible repeat (first | apply Kd.R_alloc | apply Kd.R_drewN | apply Kd.R_drew)); exact HO_199000.out))) (Kd.R_lt (by (with_reducible repeat (first | apply Kd.R_alloc | apply Kd.R_drewN | apply Kd.R_drew)); exact HO_206000.out))) (below_size (by repeat (first | (with_reducible first | exact HB.out | apply below_alloc | apply pw_below_drewN | apply below_drew1 | refine below_set ?_ GE179.out | refine below_set ?_ GE192.out | refine below_set ?_ GE198.out | refine below_set ?_ GE205.out) | exact HB.out))))
            have n4_ := Aside0.mk (blk_below (g := gb179) (o := .cells #[.slice A0_0 l0_0.length c0_0, .int .i64 a0_1, .int .i64 a0_2] 24 (0, 0)) (by (with_reducible repeat (first | refine blk_drewN ?_ _ | refine blk_drew ?_ | refine blk_alloc ?_ _)); exact BK179.out) hb)
            have n5_ := Aside0.mk (blk_below (g := gb192) (o := .cells #[.slice Ao21 t186.length co21, .int .i64 t189, .int .i64 t190] 29 (0, 0)) (by (with_reducible repeat (first | refine blk_drewN ?_ _ | refine blk_drew ?_ | refine blk_alloc ?_ _)); exact BK192.out) hb)
            have n6_ := Aside0.mk (blk_below (g := gb198) (o := .cells #[.slice Ao28 t193.length co28, .int .i64 t196, .int .i64 t197] 29 (0, 0)) (by (with_reducible repeat (first | refine blk_drewN ?_ _ | refine blk_drew ?_ | refine blk_alloc ?_ _)); exact BK198.out) hb)
            have n7_ := Aside0.mk (blk_below (g := gb205) (o := .cells #[.slice Ao36 t199.length co36, .int .i64 t202, .int .i64 t203] 29 (0, 0)) (by (with_reducible repeat (first | refine blk_drewN ?_ _ | refine blk_drew ?_ | refine blk_alloc ?_ _)); exact BK205.out) hb)
            have n8_ := Aside0.mk (below_step (by repeat (first | (with_reducible first | exact HB.out | apply below_alloc | apply pw_below_drewN | apply below_drew1 | refine below_set ?_ GE179.out | refine below_set ?_ GE192.out | refine below_set ?_ GE198.out | refine below_set ?_ GE205.out) | exact HB.out)) hb)
            clear HO_193000
            clear HO_199000
            clear HO_206000
            clear BK179
            clear BK192
            clear BK198
            clear BK205
            clear HB
            have HO_193000 := n0_
            have HO_199000 := n1_
            have HO_206000 := n2_
            have HO209 := n3_
            have BK179 := n4_
            have BK192 := n5_
            have BK198 := n6_
            have BK205 := n7_
            have HB := n8_
            clear n0_ n1_ n2_ n3_ n4_ n5_ n6_ n7_ n8_
            (try clear hb)
            (try clear hb2)
            (try clear hk)
            (try clear hi)
            (try clear ho0)
            obtain ⟨Ao68, co68, eo68⟩ := Kd.R_slice HO209.out
            (first | subst eo68 | (injection eo68 with f1_ f2_ f3_; have f4_ := f1_.symm; have f5_ := f3_.symm; clear f1_ f2_ f3_; subst f4_; subst f5_))
            refine hK.out _ _ ⟨(blk_cell BK198.out 0).trans rfl, (blk_cell BK198.out 1).trans rfl, (blk_cell BK198.out 2).trans rfl, (blk_cell BK179.out 0).trans rfl, (blk_cell BK179.out 1).trans rfl, (blk_cell BK179.out 2).trans rfl⟩ (fun hHeld => ?_)
            clear hK K
            refine norm_ (a' := ?_) ?_ ?_
            rotate_left
            · show Act.put _ (some 47) _ = _
              simp only [Act.put, List.setIfInBounds_toArray, List.set_cons_zero, List.set_cons_succ, i64_w, i32_w]
              rfl
            refine one_ (i := 3) (N := some 48) #[true, true, true, true, false] rfl rfl (by kernel_rfl) (by decide) (fun K hK => ?_)
            refine goes_ Try.func19 (by kernel_rfl) rfl #[.agg #[.slice Ao28 t193.length co28, .int .i64 t196, .int .i64 t197], .agg #[.slice Ao68 t207.length co68, .int .i64 t210, .int .i64 t211]] (by rfl) rfl rfl (by (try simp only [List.map_toArray, List.map_cons, List.map_nil]); first | done | rfl | (simp only [List.length_drop, List.length_take]; rfl)) ?_
            with_reducible refine (laws_eqRing.calls kj11 _ _ t193 t196 t197 _ _ t207 t210 t211 true _ ?side1 ?side2 ?side3 ?side4 A62.out).mono ?_
            (case side1 => repeat (first | exact (Kd.R_reads' HO_199000.out).2.2 | (with_reducible refine Kd.C_alloc ?_ _) | (with_reducible refine Kd.C_drewN ?_ _) | (with_reducible refine Kd.C_drew ?_)))
            (case side2 => exact (Kd.R_reads' HO_199000.out).2.1)
            (case side3 => repeat (first | exact (Kd.R_reads' HO209.out).2.2 | (with_reducible refine Kd.C_alloc ?_ _) | (with_reducible refine Kd.C_drewN ?_ _) | (with_reducible refine Kd.C_drew ?_)))
            (case side4 => exact (Kd.R_reads' HO209.out).2.1)
            rintro e w69 ⟨rfl, hb⟩
            refine ⟨_, rfl, ?_⟩
            have n0_ := Aside0.mk (Kd.R_below (by (with_reducible repeat (first | apply Kd.R_alloc | apply Kd.R_drewN | apply Kd.R_drew)); exact HO_193000.out) hb)
            have n1_ := Aside0.mk (Kd.R_below (by (with_reducible repeat (first | apply Kd.R_alloc | apply Kd.R_drewN | apply Kd.R_drew)); exact HO_199000.out) hb)
            have n2_ := Aside0.mk (Kd.R_below (by (with_reducible repeat (first | apply Kd.R_alloc | apply Kd.R_drewN | apply Kd.R_drew)); exact HO_206000.out) hb)
            have n3_ := Aside0.mk (Kd.R_below (by (with_reducible repeat (first | apply Kd.R_alloc | apply Kd.R_drewN | apply Kd.R_drew)); exact HO209.out) hb)
            have n4_ := Aside0.mk (blk_below (g := gb179) (o := .cells #[.slice A0_0 l0_0.length c0_0, .int .i64 a0_1, .int .i64 a0_2] 24 (0, 0)) (by (with_reducible repeat (first | refine blk_drewN ?_ _ | refine blk_drew ?_ | refine blk_alloc ?_ _)); exact BK179.out) hb)
            have n5_ := Aside0.mk (blk_below (g := gb192) (o := .cells #[.slice Ao21 t186.length co21, .int .i64 t189, .int .i64 t190] 29 (0, 0)) (by (with_reducible repeat (first | refine blk_drewN ?_ _ | refine blk_drew ?_ | refine blk_alloc ?_ _)); exact BK192.out) hb)
            have n6_ := Aside0.mk (blk_below (g := gb198) (o := .cells #[.slice Ao28 t193.length co28, .int .i64 t196, .int .i64 t197] 29 (0, 0)) (by (with_reducible repeat (first | refine blk_drewN ?_ _ | refine blk_drew ?_ | refine blk_alloc ?_ _)); exact BK198.out) hb)
            have n7_ := Aside0.mk (blk_below (g := gb205) (o := .cells #[.slice Ao36 t199.length co36, .int .i64 t202, .int .i64 t203] 29 (0, 0)) (by (with_reducible repeat (first | refine blk_drewN ?_ _ | refine blk_drew ?_ | refine blk_alloc ?_ _)); exact BK205.out) hb)
            have n8_ := Aside0.mk (below_step (by repeat (first | (with_reducible first | exact HB.out | apply below_alloc | apply pw_below_drewN | apply below_drew1 | refine below_set ?_ GE179.out | refine below_set ?_ GE192.out | refine below_set ?_ GE198.out | refine below_set ?_ GE205.out) | exact HB.out)) hb)
            clear HO_193000
            clear HO_199000
            clear HO_206000
            clear HO209
            clear BK179
            clear BK192
            clear BK198
            clear BK205
            clear HB
            have HO_193000 := n0_
            have HO_199000 := n1_
            have HO_206000 := n2_
            have HO209 := n3_
            have BK179 := n4_
            have BK192 := n5_
            have BK198 := n6_
            have BK205 := n7_
            have HB := n8_
            clear n0_ n1_ n2_ n3_ n4_ n5_ n6_ n7_ n8_
            (try clear hb)
            (try clear hb2)
            (try clear hk)
            (try clear hi)
            refine hK.out _ _ ⟨(blk_cell BK198.out 0).trans rfl, (blk_cell BK198.out 1).trans rfl, (blk_cell BK198.out 2).trans rfl, (blk_cell BK179.out 0).trans rfl, (blk_cell BK179.out 1).trans rfl, (blk_cell BK179.out 2).trans rfl⟩ (fun hHeld => ?_)
            clear hK K
            refine norm_ (a' := ?_) ?_ ?_
            rotate_left
            · show Act.put _ (some 48) _ = _
              simp only [Act.put, List.setIfInBounds_toArray, List.set_cons_zero, List.set_cons_succ, i64_w, i32_w]
              rfl
            refine pure_ (i := 4) (N := some 49) (v := ?_) (a' := ?_) #[true, true, true, true, true] rfl rfl (by kernel_rfl) (fun _ _ _ h => h) (Or.inl ⟨by rfl, ?_⟩) ?_ ?_
            rotate_left
            · intro w'
              go_simp
              with_reducible rfl
            rotate_left
            · simp only [Act.put, List.setIfInBounds_toArray, List.set_cons_zero, List.set_cons_succ, i64_w, i32_w]
              rfl
            refine done_ (by kernel_rfl) ?_
            have hnb70 := NB198_179.out
            have hnc70 := NB179_198.out
            have hnb71 := NB198_192.out
            have hnc71 := NB192_198.out
            have hnb72 := NB198_205.out
            have hnc72 := NB205_198.out
            have hcz73_0 : w69.cell? ⟨gb198, 0, none⟩ = some (.slice Ao28 t193.length co28) := (blk_cell BK198.out 0).trans rfl
            have hcz73_1 : w69.cell? ⟨gb198, 1, none⟩ = some (.int .i64 t196) := (blk_cell BK198.out 1).trans rfl
            have hcz73_2 : w69.cell? ⟨gb198, 2, none⟩ = some (.int .i64 t197) := (blk_cell BK198.out 2).trans rfl
            have hfz73_0 := blk_frozen BK198.out 0
            have hfz73_1 := blk_frozen BK198.out 1
            have hfz73_2 := blk_frozen BK198.out 2
            go_upto_region 14 with (first | ((with_reducible refine gate_callee (f := 43) rfl ?_); refine goesL_ (some 52) rfl rfl Try.func43 (by kernel_rfl) rfl #[.agg #[.slice Ao28 t193.length co28, .int .i64 t196, .int .i64 t197], .int .i64 1] rfl (by (try simp only [List.map_toArray, List.map_cons, List.map_nil]); first | done | rfl | (simp only [List.length_drop, List.length_take]; rfl)) ?_; (with_reducible refine (laws_markRing.calls kj11 (fun k_ => some k_ = (.slice Ao28 t193.length co28 : Value).ownBlock) (.slice Ao28 t193.length co28) t193 t196 t197 1 t213 t214 w _ ?side1 ?side2 A64.out).mono ?_); (case side1 => repeat (first | (with_reducible first | exact HB.out | apply below_alloc | apply pw_below_drewN | apply below_drew1 | refine below_set ?_ GE179.out | refine below_set ?_ GE192.out | refine below_set ?_ GE198.out | refine below_set ?_ GE205.out) | exact HB.out)); (case side2 => exact Kd.R_tight rfl HO_199000.out); rintro e w74 ⟨rfl, hy0, hb, hkp⟩; refine ⟨_, rfl, ?_⟩; have n0_ := Aside0.mk (Kd.R_mono (ok' := fun k_ => some k_ ≠ (.slice Ao28 t193.length co28 : Value).ownBlock ∧ some k_ ≠ (.slice Ao36 t199.length co36 : Value).ownBlock ∧ some k_ ≠ (.slice Ao68 t207.length co68 : Value).ownBlock) (Kd.R_keptB (HO_193000.out) hkp (fun k_ hk_ hs_ => (hk_.1.1) hs_)) (fun k_ hk_ => ⟨hk_.1.1.1, hk_.1.1.2, hk_.1.2⟩)); have n1_ := Aside0.mk (Kd.R_reok rfl hy0 (fun k_ e_ => HO_199000.out.1 k_ e_)); have n2_ := Aside0.mk (Kd.R_mono (ok' := fun k_ => some k_ ≠ (.slice Ao21 t186.length co21 : Value).ownBlock ∧ some k_ ≠ (.slice Ao28 t193.length co28 : Value).ownBlock ∧ some k_ ≠ (.slice Ao68 t207.length co68 : Value).ownBlock) (Kd.R_keptB (HO_206000.out) hkp (fun k_ hk_ hs_ => (hk_.1.2) hs_)) (fun k_ hk_ => ⟨hk_.1.1.1, hk_.1.1.2, hk_.1.2⟩)); have n3_ := Aside0.mk (blk_kept (by (with_reducible repeat (first | refine blk_drewN ?_ _ | refine blk_drew ?_ | refine blk_alloc ?_ _)); exact BK179.out) hkp (fun hs_ => (fun e_ => (Kd.R_ne HO_199000.out BK179.out (by decide)) e_) hs_)); have n4_ := Aside0.mk (blk_kept (by (with_reducible repeat (first | refine blk_drewN ?_ _ | refine blk_drew ?_ | refine blk_alloc ?_ _)); exact BK192.out) hkp (fun hs_ => (fun e_ => (Kd.R_ne HO_199000.out BK192.out (by decide)) e_) hs_)); have n5_ := Aside0.mk (blk_kept (by (with_reducible repeat (first | refine blk_drewN ?_ _ | refine blk_drew ?_ | refine blk_alloc ?_ _)); exact BK198.out) hkp (fun hs_ => (fun e_ => (Kd.R_ne HO_199000.out BK198.out (by decide)) e_) hs_)); have n6_ := Aside0.mk (blk_kept (by (with_reducible repeat (first | refine blk_drewN ?_ _ | refine blk_drew ?_ | refine blk_alloc ?_ _)); exact BK205.out) hkp (fun hs_ => (fun e_ => (Kd.R_ne HO_199000.out BK205.out (by decide)) e_) hs_)); have n7_ := Aside0.mk (Kd.R_mono (ok' := fun k_ => some k_ ≠ (.slice Ao21 t186.length co21 : Value).ownBlock ∧ some k_ ≠ (.slice Ao28 t193.length co28 : Value).ownBlock ∧ some k_ ≠ (.slice Ao36 t199.length co36 : Value).ownBlock) (Kd.R_keptB (HO209.out) hkp (fun k_ hk_ hs_ => (hk_.1.2) hs_)) (fun k_ hk_ => ⟨hk_.1.1.1.2, hk_.1.1.2, hk_.1.2⟩)); have n8_ := Aside0.mk (hb); clear HO_193000; clear HO_199000; clear HO_206000; clear BK179; clear BK192; clear BK198; clear BK205; clear HO209; clear HB; have HO_193000 := n0_; have HO_199000 := n1_; have HO_206000 := n2_; have BK179 := n3_; have BK192 := n4_; have BK198 := n5_; have BK205 := n6_; have HO209 := n7_; have HB := n8_; clear n0_ n1_ n2_ n3_ n4_ n5_ n6_ n7_ n8_; (try clear hb); (try clear hkp); (try clear hy0)))
            (try simp only [Act.put, List.setIfInBounds_toArray, List.set_cons_zero, List.set_cons_succ])
            go_cut [65] (fun v65 wc => ∃ (kq : Nat) (x65_64 : Bool), v65 = .bool x65_64 ∧ Aside0 (laws_FnExactPushRing.j1 kq a1 t191 x65_64 l0_0 a0_1 a0_2 t186 t189 t190 t199 t202 t203 = some r) ∧ Aside0 (kq ≤ kj11) ∧ Aside0 (Kd.R (Kd.int .i64) 3 wc w.heap.size (fun k_ => some k_ ≠ ((.slice Ao28 t193.length co28) : Value).ownBlock ∧ some k_ ≠ ((.slice Ao36 t199.length co36) : Value).ownBlock) (.slice Ao21 t186.length co21) t186) ∧ Aside0 (Kd.R (Kd.int .i64) 3 wc w.heap.size (fun k_ => some k_ ≠ ((.slice Ao21 t186.length co21) : Value).ownBlock ∧ some k_ ≠ ((.slice Ao36 t199.length co36) : Value).ownBlock) (.slice Ao28 t193.length co28) t214) ∧ Aside0 (Kd.R (Kd.int .i64) 3 wc w.heap.size (fun k_ => some k_ ≠ ((.slice Ao21 t186.length co21) : Value).ownBlock ∧ some k_ ≠ ((.slice Ao28 t193.length co28) : Value).ownBlock) (.slice Ao36 t199.length co36) t199) ∧ Aside0 (wc.heap[gb179]? = some (.cells #[(.slice A0_0 l0_0.length c0_0), .int .i64 a0_1, .int .i64 a0_2] 24 (0, 0))) ∧ Aside0 (wc.heap[gb192]? = some (.cells #[(.slice Ao21 t186.length co21), .int .i64 t189, .int .i64 t190] 29 (0, 0))) ∧ Aside0 (wc.heap[gb198]? = some (.cells #[(.slice Ao28 t193.length co28), .int .i64 t196, .int .i64 t197] 29 (0, 0))) ∧ Aside0 (wc.heap[gb205]? = some (.cells #[(.slice Ao36 t199.length co36), .int .i64 t202, .int .i64 t203] 29 (0, 0))) ∧ Aside0 (Below w.heap.size w wc))
            case first =>
              have H := HC65.out
              clear HC65
              by_cases c75 : t213 < 0
              · rw [if_pos c75] at H
                have c75b0 : decide (t213 < 0) = true := decide_eq_true c75
                clear c75
                (first | rw [c75b0] | (simp only [i64_w, i32_w]; rw [c75b0]) | skip)
                have H' := Aside0.mk H
                clear H
                go_wp2
                go_meet
                case rel => exact ⟨_, (true), (by first | rfl | (simp; done) | (simp [*]; done)), H', ⟨by have := HJ11.out; first | omega | exact Nat.le_refl _⟩, ⟨by (with_reducible repeat (first | apply Kd.R_alloc | apply Kd.R_drewN | apply Kd.R_drew)); exact Kd.R_mono HO_193000.out (fun _ hk => ⟨hk.1, hk.2.1⟩)⟩, ⟨by (with_reducible repeat (first | apply Kd.R_alloc | apply Kd.R_drewN | apply Kd.R_drew)); exact Kd.R_mono HO_199000.out (fun _ hk => ⟨hk.1.1, hk.1.2⟩)⟩, ⟨by (with_reducible repeat (first | apply Kd.R_alloc | apply Kd.R_drewN | apply Kd.R_drew)); exact Kd.R_mono HO_206000.out (fun _ hk => ⟨hk.1, hk.2.1⟩)⟩, ⟨by (with_reducible repeat (first | refine blk_drewN ?_ _ | refine blk_drew ?_ | refine blk_alloc ?_ _)); exact BK179.out⟩, ⟨by (with_reducible repeat (first | refine blk_drewN ?_ _ | refine blk_drew ?_ | refine blk_alloc ?_ _)); exact BK192.out⟩, ⟨by (with_reducible repeat (first | refine blk_drewN ?_ _ | refine blk_drew ?_ | refine blk_alloc ?_ _)); exact BK198.out⟩, ⟨by (with_reducible repeat (first | refine blk_drewN ?_ _ | refine blk_drew ?_ | refine blk_alloc ?_ _)); exact BK205.out⟩, ⟨by repeat (first | (with_reducible first | exact HB.out | apply below_alloc | apply pw_below_drewN | apply below_drew1 | refine below_set ?_ GE179.out | refine below_set ?_ GE192.out | refine below_set ?_ GE198.out | refine below_set ?_ GE205.out) | exact HB.out)⟩⟩
              · rw [if_neg c75] at H
                have c75b0 : decide (t213 < 0) = false := decide_eq_false c75
                clear c75
                (first | rw [c75b0] | (simp only [i64_w, i32_w]; rw [c75b0]) | skip)
                replace H := Option.bind_eq_some_iff.mp H
                obtain ⟨t215, A760, H⟩ := H
                replace H : (if t215 = true then (laws_FnExactPushRing.j1 kj11 a1 t191 (t204 != t191) l0_0 a0_1 a0_2 t186 t189 t190 t199 t202 t203) else (laws_FnExactPushRing.j1 kj11 a1 t191 true l0_0 a0_1 a0_2 t186 t189 t190 t199 t202 t203)) = some r := H
                have A76 := Aside0.mk A760
                clear A760
                by_cases c77 : t215 = true
                · subst c77
                  have H1 : (laws_FnExactPushRing.j1 kj11 a1 t191 (t204 != t191) l0_0 a0_1 a0_2 t186 t189 t190 t199 t202 t203) = some r := by rw [if_pos rfl] at H; exact H
                  clear H
                  have H := H1
                  clear H1
                  have H' := Aside0.mk H
                  clear H
                  have hnb78 := NB205_179.out
                  have hnc78 := NB179_205.out
                  have hnb79 := NB205_192.out
                  have hnc79 := NB192_205.out
                  have hnb80 := NB205_198.out
                  have hnc80 := NB198_205.out
                  have hcz81_0 : w74.cell? ⟨gb205, 0, none⟩ = some (.slice Ao36 t199.length co36) := (blk_cell BK205.out 0).trans rfl
                  have hcz81_1 : w74.cell? ⟨gb205, 1, none⟩ = some (.int .i64 t202) := (blk_cell BK205.out 1).trans rfl
                  have hcz81_2 : w74.cell? ⟨gb205, 2, none⟩ = some (.int .i64 t203) := (blk_cell BK205.out 2).trans rfl
                  have hfz81_0 := blk_frozen BK205.out 0
                  have hfz81_1 := blk_frozen BK205.out 1
                  have hfz81_2 := blk_frozen BK205.out 2
                  have hnb82 := NB192_179.out
                  have hnc82 := NB179_192.out
                  have hnb83 := NB192_198.out
                  have hnc83 := NB198_192.out
                  have hcz84_0 : w74.cell? ⟨gb192, 0, none⟩ = some (.slice Ao21 t186.length co21) := (blk_cell BK192.out 0).trans rfl
                  have hcz84_1 : w74.cell? ⟨gb192, 1, none⟩ = some (.int .i64 t189) := (blk_cell BK192.out 1).trans rfl
                  have hcz84_2 : w74.cell? ⟨gb192, 2, none⟩ = some (.int .i64 t190) := (blk_cell BK192.out 2).trans rfl
                  have hfz84_0 := blk_frozen BK192.out 0
                  have hfz84_1 := blk_frozen BK192.out 1
                  have hfz84_2 := blk_frozen BK192.out 2
                  go_wp2_with (first | (go_at_call 19; (with_reducible refine (laws_eqRing.calls kj11 _ _ t199 t202 t203 _ _ t186 t189 t190 true _ ?side1 ?side2 ?side3 ?side4 A76.out).mono ?_); (case side1 => repeat (first | exact (Kd.R_reads' HO_206000.out).2.2 | (with_reducible refine Kd.C_alloc ?_ _) | (with_reducible refine Kd.C_drewN ?_ _) | (with_reducible refine Kd.C_drew ?_))); (case side2 => exact (Kd.R_reads' HO_206000.out).2.1); (case side3 => repeat (first | exact (Kd.R_reads' HO_193000.out).2.2 | (with_reducible refine Kd.C_alloc ?_ _) | (with_reducible refine Kd.C_drewN ?_ _) | (with_reducible refine Kd.C_drew ?_))); (case side4 => exact (Kd.R_reads' HO_193000.out).2.1); rintro e w85 ⟨rfl, hb⟩; have n0_ := Aside0.mk (Kd.R_below (by (with_reducible repeat (first | apply Kd.R_alloc | apply Kd.R_drewN | apply Kd.R_drew)); exact HO_193000.out) hb); have n1_ := Aside0.mk (Kd.R_below (by (with_reducible repeat (first | apply Kd.R_alloc | apply Kd.R_drewN | apply Kd.R_drew)); exact HO_199000.out) hb); have n2_ := Aside0.mk (Kd.R_below (by (with_reducible repeat (first | apply Kd.R_alloc | apply Kd.R_drewN | apply Kd.R_drew)); exact HO_206000.out) hb); have n3_ := Aside0.mk (Kd.R_below (by (with_reducible repeat (first | apply Kd.R_alloc | apply Kd.R_drewN | apply Kd.R_drew)); exact HO209.out) hb); have n4_ := Aside0.mk (blk_below (g := gb179) (o := .cells #[.slice A0_0 l0_0.length c0_0, .int .i64 a0_1, .int .i64 a0_2] 24 (0, 0)) (by (with_reducible repeat (first | refine blk_drewN ?_ _ | refine blk_drew ?_ | refine blk_alloc ?_ _)); exact BK179.out) hb); have n5_ := Aside0.mk (blk_below (g := gb192) (o := .cells #[.slice Ao21 t186.length co21, .int .i64 t189, .int .i64 t190] 29 (0, 0)) (by (with_reducible repeat (first | refine blk_drewN ?_ _ | refine blk_drew ?_ | refine blk_alloc ?_ _)); exact BK192.out) hb); have n6_ := Aside0.mk (blk_below (g := gb198) (o := .cells #[.slice Ao28 t193.length co28, .int .i64 t196, .int .i64 t197] 29 (0, 0)) (by (with_reducible repeat (first | refine blk_drewN ?_ _ | refine blk_drew ?_ | refine blk_alloc ?_ _)); exact BK198.out) hb); have n7_ := Aside0.mk (blk_below (g := gb205) (o := .cells #[.slice Ao36 t199.length co36, .int .i64 t202, .int .i64 t203] 29 (0, 0)) (by (with_reducible repeat (first | refine blk_drewN ?_ _ | refine blk_drew ?_ | refine blk_alloc ?_ _)); exact BK205.out) hb); have n8_ := Aside0.mk (below_step (by repeat (first | (with_reducible first | exact HB.out | apply below_alloc | apply pw_below_drewN | apply below_drew1 | refine below_set ?_ GE179.out | refine below_set ?_ GE192.out | refine below_set ?_ GE198.out | refine below_set ?_ GE205.out) | exact HB.out)) hb); clear HO_193000; clear HO_199000; clear HO_206000; clear HO209; clear BK179; clear BK192; clear BK198; clear BK205; clear HB; have HO_193000 := n0_; have HO_199000 := n1_; have HO_206000 := n2_; have HO209 := n3_; have BK179 := n4_; have BK192 := n5_; have BK198 := n6_; have BK205 := n7_; have HB := n8_; clear n0_ n1_ n2_ n3_ n4_ n5_ n6_ n7_ n8_; (try clear hb); (try clear hb2); (try clear hk); (try clear hi)))
                  go_meet
                  case rel => exact ⟨_, ((t204 != t191)), (by first | rfl | (simp; done) | (simp [*]; done)), H', ⟨by have := HJ11.out; first | omega | exact Nat.le_refl _⟩, ⟨by (with_reducible repeat (first | apply Kd.R_alloc | apply Kd.R_drewN | apply Kd.R_drew)); exact Kd.R_mono HO_193000.out (fun _ hk => ⟨hk.1, hk.2.1⟩)⟩, ⟨by (with_reducible repeat (first | apply Kd.R_alloc | apply Kd.R_drewN | apply Kd.R_drew)); exact Kd.R_mono HO_199000.out (fun _ hk => ⟨hk.1.1, hk.1.2⟩)⟩, ⟨by (with_reducible repeat (first | apply Kd.R_alloc | apply Kd.R_drewN | apply Kd.R_drew)); exact Kd.R_mono HO_206000.out (fun _ hk => ⟨hk.1, hk.2.1⟩)⟩, ⟨by (with_reducible repeat (first | refine blk_drewN ?_ _ | refine blk_drew ?_ | refine blk_alloc ?_ _)); exact BK179.out⟩, ⟨by (with_reducible repeat (first | refine blk_drewN ?_ _ | refine blk_drew ?_ | refine blk_alloc ?_ _)); exact BK192.out⟩, ⟨by (with_reducible repeat (first | refine blk_drewN ?_ _ | refine blk_drew ?_ | refine blk_alloc ?_ _)); exact BK198.out⟩, ⟨by (with_reducible repeat (first | refine blk_drewN ?_ _ | refine blk_drew ?_ | refine blk_alloc ?_ _)); exact BK205.out⟩, ⟨by repeat (first | (with_reducible first | exact HB.out | apply below_alloc | apply pw_below_drewN | apply below_drew1 | refine below_set ?_ GE179.out | refine below_set ?_ GE192.out | refine below_set ?_ GE198.out | refine below_set ?_ GE205.out) | exact HB.out)⟩⟩
                · replace c77 := Bool.eq_false_iff.mpr c77
                  subst c77
                  have H1 : (laws_FnExactPushRing.j1 kj11 a1 t191 true l0_0 a0_1 a0_2 t186 t189 t190 t199 t202 t203) = some r := by rw [if_neg (show ¬ (false = true) by decide)] at H; exact H
                  clear H
                  have H := H1
                  clear H1
                  have H' := Aside0.mk H
                  clear H
                  have hnb86 := NB205_179.out
                  have hnc86 := NB179_205.out
                  have hnb87 := NB205_192.out
                  have hnc87 := NB192_205.out
                  have hnb88 := NB205_198.out
                  have hnc88 := NB198_205.out
                  have hcz89_0 : w74.cell? ⟨gb205, 0, none⟩ = some (.slice Ao36 t199.length co36) := (blk_cell BK205.out 0).trans rfl
                  have hcz89_1 : w74.cell? ⟨gb205, 1, none⟩ = some (.int .i64 t202) := (blk_cell BK205.out 1).trans rfl
                  have hcz89_2 : w74.cell? ⟨gb205, 2, none⟩ = some (.int .i64 t203) := (blk_cell BK205.out 2).trans rfl
                  have hfz89_0 := blk_frozen BK205.out 0
                  have hfz89_1 := blk_frozen BK205.out 1
                  have hfz89_2 := blk_frozen BK205.out 2
                  have hnb90 := NB192_179.out
                  have hnc90 := NB179_192.out
                  have hnb91 := NB192_198.out
                  have hnc91 := NB198_192.out
                  have hcz92_0 : w74.cell? ⟨gb192, 0, none⟩ = some (.slice Ao21 t186.length co21) := (blk_cell BK192.out 0).trans rfl
                  have hcz92_1 : w74.cell? ⟨gb192, 1, none⟩ = some (.int .i64 t189) := (blk_cell BK192.out 1).trans rfl
                  have hcz92_2 : w74.cell? ⟨gb192, 2, none⟩ = some (.int .i64 t190) := (blk_cell BK192.out 2).trans rfl
                  have hfz92_0 := blk_frozen BK192.out 0
                  have hfz92_1 := blk_frozen BK192.out 1
                  have hfz92_2 := blk_frozen BK192.out 2
                  go_wp2_with (first | (go_at_call 19; (with_reducible refine (laws_eqRing.calls kj11 _ _ t199 t202 t203 _ _ t186 t189 t190 false _ ?side1 ?side2 ?side3 ?side4 A76.out).mono ?_); (case side1 => repeat (first | exact (Kd.R_reads' HO_206000.out).2.2 | (with_reducible refine Kd.C_alloc ?_ _) | (with_reducible refine Kd.C_drewN ?_ _) | (with_reducible refine Kd.C_drew ?_))); (case side2 => exact (Kd.R_reads' HO_206000.out).2.1); (case side3 => repeat (first | exact (Kd.R_reads' HO_193000.out).2.2 | (with_reducible refine Kd.C_alloc ?_ _) | (with_reducible refine Kd.C_drewN ?_ _) | (with_reducible refine Kd.C_drew ?_))); (case side4 => exact (Kd.R_reads' HO_193000.out).2.1); rintro e w93 ⟨rfl, hb⟩; have n0_ := Aside0.mk (Kd.R_below (by (with_reducible repeat (first | apply Kd.R_alloc | apply Kd.R_drewN | apply Kd.R_drew)); exact HO_193000.out) hb); have n1_ := Aside0.mk (Kd.R_below (by (with_reducible repeat (first | apply Kd.R_alloc | apply Kd.R_drewN | apply Kd.R_drew)); exact HO_199000.out) hb); have n2_ := Aside0.mk (Kd.R_below (by (with_reducible repeat (first | apply Kd.R_alloc | apply Kd.R_drewN | apply Kd.R_drew)); exact HO_206000.out) hb); have n3_ := Aside0.mk (Kd.R_below (by (with_reducible repeat (first | apply Kd.R_alloc | apply Kd.R_drewN | apply Kd.R_drew)); exact HO209.out) hb); have n4_ := Aside0.mk (blk_below (g := gb179) (o := .cells #[.slice A0_0 l0_0.length c0_0, .int .i64 a0_1, .int .i64 a0_2] 24 (0, 0)) (by (with_reducible repeat (first | refine blk_drewN ?_ _ | refine blk_drew ?_ | refine blk_alloc ?_ _)); exact BK179.out) hb); have n5_ := Aside0.mk (blk_below (g := gb192) (o := .cells #[.slice Ao21 t186.length co21, .int .i64 t189, .int .i64 t190] 29 (0, 0)) (by (with_reducible repeat (first | refine blk_drewN ?_ _ | refine blk_drew ?_ | refine blk_alloc ?_ _)); exact BK192.out) hb); have n6_ := Aside0.mk (blk_below (g := gb198) (o := .cells #[.slice Ao28 t193.length co28, .int .i64 t196, .int .i64 t197] 29 (0, 0)) (by (with_reducible repeat (first | refine blk_drewN ?_ _ | refine blk_drew ?_ | refine blk_alloc ?_ _)); exact BK198.out) hb); have n7_ := Aside0.mk (blk_below (g := gb205) (o := .cells #[.slice Ao36 t199.length co36, .int .i64 t202, .int .i64 t203] 29 (0, 0)) (by (with_reducible repeat (first | refine blk_drewN ?_ _ | refine blk_drew ?_ | refine blk_alloc ?_ _)); exact BK205.out) hb); have n8_ := Aside0.mk (below_step (by repeat (first | (with_reducible first | exact HB.out | apply below_alloc | apply pw_below_drewN | apply below_drew1 | refine below_set ?_ GE179.out | refine below_set ?_ GE192.out | refine below_set ?_ GE198.out | refine below_set ?_ GE205.out) | exact HB.out)) hb); clear HO_193000; clear HO_199000; clear HO_206000; clear HO209; clear BK179; clear BK192; clear BK198; clear BK205; clear HB; have HO_193000 := n0_; have HO_199000 := n1_; have HO_206000 := n2_; have HO209 := n3_; have BK179 := n4_; have BK192 := n5_; have BK198 := n6_; have BK205 := n7_; have HB := n8_; clear n0_ n1_ n2_ n3_ n4_ n5_ n6_ n7_ n8_; (try clear hb); (try clear hb2); (try clear hk); (try clear hi)))
                  go_meet
                  case rel => exact ⟨_, (true), (by first | rfl | (simp; done) | (simp [*]; done)), H', ⟨by have := HJ11.out; first | omega | exact Nat.le_refl _⟩, ⟨by (with_reducible repeat (first | apply Kd.R_alloc | apply Kd.R_drewN | apply Kd.R_drew)); exact Kd.R_mono HO_193000.out (fun _ hk => ⟨hk.1, hk.2.1⟩)⟩, ⟨by (with_reducible repeat (first | apply Kd.R_alloc | apply Kd.R_drewN | apply Kd.R_drew)); exact Kd.R_mono HO_199000.out (fun _ hk => ⟨hk.1.1, hk.1.2⟩)⟩, ⟨by (with_reducible repeat (first | apply Kd.R_alloc | apply Kd.R_drewN | apply Kd.R_drew)); exact Kd.R_mono HO_206000.out (fun _ hk => ⟨hk.1, hk.2.1⟩)⟩, ⟨by (with_reducible repeat (first | refine blk_drewN ?_ _ | refine blk_drew ?_ | refine blk_alloc ?_ _)); exact BK179.out⟩, ⟨by (with_reducible repeat (first | refine blk_drewN ?_ _ | refine blk_drew ?_ | refine blk_alloc ?_ _)); exact BK192.out⟩, ⟨by (with_reducible repeat (first | refine blk_drewN ?_ _ | refine blk_drew ?_ | refine blk_alloc ?_ _)); exact BK198.out⟩, ⟨by (with_reducible repeat (first | refine blk_drewN ?_ _ | refine blk_drew ?_ | refine blk_alloc ?_ _)); exact BK205.out⟩, ⟨by repeat (first | (with_reducible first | exact HB.out | apply below_alloc | apply pw_below_drewN | apply below_drew1 | refine below_set ?_ GE179.out | refine below_set ?_ GE192.out | refine below_set ?_ GE198.out | refine below_set ?_ GE205.out) | exact HB.out)⟩⟩
            case rest =>
              clear HC65
              try clear c1
              try clear c2
              try clear p2
              try clear c3
              try clear c4
              try clear c4b0
              try clear c5
              try clear c6
              try clear c7
              try clear c8
              try clear c9
              try clear c14
              try clear c16
              try clear c19
              try clear c22
              try clear c29
              try clear c30
              try clear c37
              try clear c38
              try clear c39
              try clear c43
              try clear c44
              try clear c45
              try clear c46
              try clear c48
              try clear c49
              try clear c50
              try clear c51
              try clear c52
              try clear c53
              try clear c54
              try clear c56
              try clear c57
              try clear c60
              try clear c63
              try clear c70
              try clear c71
              try clear c72
              try clear c75
              try clear c75b0
              try clear c77
              try clear c78
              try clear c79
              try clear c80
              try clear c82
              try clear c83
              try clear c86
              try clear c87
              try clear c88
              try clear c90
              try clear c91
              try clear hcz14_0
              try clear hcz14_1
              try clear hcz14_2
              try clear hcz16_0
              try clear hcz16_1
              try clear hcz16_2
              try clear hcz23_0
              try clear hcz23_1
              try clear hcz23_2
              try clear hcz25_0
              try clear hcz25_1
              try clear hcz25_2
              try clear hcz31_0
              try clear hcz31_1
              try clear hcz31_2
              try clear hcz33_0
              try clear hcz33_1
              try clear hcz33_2
              try clear hcz40_0
              try clear hcz40_1
              try clear hcz40_2
              try clear hcz47_0
              try clear hcz47_1
              try clear hcz47_2
              try clear hcz50_0
              try clear hcz50_1
              try clear hcz50_2
              try clear hcz55_0
              try clear hcz55_1
              try clear hcz55_2
              try clear hcz58_0
              try clear hcz58_1
              try clear hcz58_2
              try clear hcz6_0
              try clear hcz6_1
              try clear hcz6_2
              try clear hcz73_0
              try clear hcz73_1
              try clear hcz73_2
              try clear hcz81_0
              try clear hcz81_1
              try clear hcz81_2
              try clear hcz84_0
              try clear hcz84_1
              try clear hcz84_2
              try clear hcz89_0
              try clear hcz89_1
              try clear hcz89_2
              try clear hcz92_0
              try clear hcz92_1
              try clear hcz92_2
              try clear hfz14_0
              try clear hfz14_1
              try clear hfz14_2
              try clear hfz16_0
              try clear hfz16_1
              try clear hfz16_2
              try clear hfz23_0
              try clear hfz23_1
              try clear hfz23_2
              try clear hfz25_0
              try clear hfz25_1
              try clear hfz25_2
              try clear hfz31_0
              try clear hfz31_1
              try clear hfz31_2
              try clear hfz33_0
              try clear hfz33_1
              try clear hfz33_2
              try clear hfz40_0
              try clear hfz40_1
              try clear hfz40_2
              try clear hfz47_0
              try clear hfz47_1
              try clear hfz47_2
              try clear hfz50_0
              try clear hfz50_1
              try clear hfz50_2
              try clear hfz55_0
              try clear hfz55_1
              try clear hfz55_2
              try clear hfz58_0
              try clear hfz58_1
              try clear hfz58_2
              try clear hfz6_0
              try clear hfz6_1
              try clear hfz6_2
              try clear hfz73_0
              try clear hfz73_1
              try clear hfz73_2
              try clear hfz81_0
              try clear hfz81_1
              try clear hfz81_2
              try clear hfz84_0
              try clear hfz84_1
              try clear hfz84_2
              try clear hfz89_0
              try clear hfz89_1
              try clear hfz89_2
              try clear hfz92_0
              try clear hfz92_1
              try clear hfz92_2
              try clear p2
              obtain ⟨kq, x65_64, rfl, HA, HJ64, HO_193000, HO_199000, HO_206000, BK179, BK192, BK198, BK205, HB⟩ := hcut
              have hl199000_64 := (Kd.R_reads' HO_199000.out).1
              rw [hl199000_64] at HO_199000
              (try simp only [hl199000_64])
              (try simp only [hl199000_64] at BK179)
              (try simp only [hl199000_64] at BK192)
              (try simp only [hl199000_64] at BK198)
              (try simp only [hl199000_64] at BK205)
              (try simp only [hl199000_64] at HO_193000)
              (try simp only [hl199000_64] at HO_206000)
              cases kq with
              | zero => exact absurd HA.out (by simp [laws_FnExactPushRing.j1])
              | succ kj64 =>
                have H := HA.out
                clear HA
                simp only [laws_FnExactPushRing.j1] at H
                by_cases c94 : x65_64 = true
                · subst c94
                  have H1 : (some false) = some r := by rw [if_pos rfl] at H; exact H
                  clear H
                  have H := H1
                  clear H1
                  exact absurd ((Option.some.inj H).trans hT.out) (by decide)
                · replace c94 := Bool.eq_false_iff.mpr c94
                  subst c94
                  have H1 : ((laws_markRing.f kj64 t199 t202 t203 1).bind fun bt216 => ((laws_heldRing.f kj64 bt216.2 t202 t203 1).bind fun t218 => (if t218 < 0 then (some false) else (if t218 = bt216.1 then ((laws_toRing.f kj64 l0_0 a0_1 a0_2).bind fun bt219 => ((impl_PushRing.f kj64 bt219.1 bt219.2.1 bt219.2.2 a1).bind fun bt224 => ((laws_eqRing.f kj64 bt224.1 bt224.2.1 bt224.2.2.1 t186 t189 t190).bind fun t231 => (if t231 = true then (laws_FnExactPushRing.j2 kj64 bt216.1 (bt224.2.2.2 != t191) bt216.2 t202 t203) else (laws_FnExactPushRing.j2 kj64 bt216.1 true bt216.2 t202 t203))))) else (some false))))) = some r := by rw [if_neg (show ¬ (false = true) by decide)] at H; exact H
                  clear H
                  have H := H1
                  clear H1
                  replace H := Option.bind_eq_some_iff.mp H
                  obtain ⟨⟨t216, t217⟩, A950, H⟩ := H
                  replace H : ((laws_heldRing.f kj64 t217 t202 t203 1).bind fun t218 => (if t218 < 0 then (some false) else (if t218 = t216 then ((laws_toRing.f kj64 l0_0 a0_1 a0_2).bind fun bt219 => ((impl_PushRing.f kj64 bt219.1 bt219.2.1 bt219.2.2 a1).bind fun bt224 => ((laws_eqRing.f kj64 bt224.1 bt224.2.1 bt224.2.2.1 t186 t189 t190).bind fun t231 => (if t231 = true then (laws_FnExactPushRing.j2 kj64 t216 (bt224.2.2.2 != t191) t217 t202 t203) else (laws_FnExactPushRing.j2 kj64 t216 true t217 t202 t203))))) else (some false)))) = some r := H
                  have A95 := Aside0.mk A950
                  clear A950
                  replace H := Option.bind_eq_some_iff.mp H
                  obtain ⟨t218, A960, H⟩ := H
                  replace H : (if t218 < 0 then (some false) else (if t218 = t216 then ((laws_toRing.f kj64 l0_0 a0_1 a0_2).bind fun bt219 => ((impl_PushRing.f kj64 bt219.1 bt219.2.1 bt219.2.2 a1).bind fun bt224 => ((laws_eqRing.f kj64 bt224.1 bt224.2.1 bt224.2.2.1 t186 t189 t190).bind fun t231 => (if t231 = true then (laws_FnExactPushRing.j2 kj64 t216 (bt224.2.2.2 != t191) t217 t202 t203) else (laws_FnExactPushRing.j2 kj64 t216 true t217 t202 t203))))) else (some false))) = some r := H
                  have A96 := Aside0.mk A960
                  clear A960
                  by_cases c97 : t218 < 0
                  · rw [if_pos c97] at H
                    have c97b0 : decide (t218 < 0) = true := decide_eq_true c97
                    clear c97
                    exact absurd ((Option.some.inj H).trans hT.out) (by decide)
                  · rw [if_neg c97] at H
                    have c97b0 : decide (t218 < 0) = false := decide_eq_false c97
                    clear c97
                    by_cases c98 : t218 = t216
                    · rw [if_pos c98] at H
                      have c98b0 : (t218 == t216) = true := beq_iff_eq.mpr c98
                      have c98b1 : (t218 != t216) = false := bne_eq_false_iff_eq.mpr c98
                      clear c98
                      replace H := Option.bind_eq_some_iff.mp H
                      obtain ⟨⟨t219, t222, t223⟩, A990, H⟩ := H
                      replace H : ((impl_PushRing.f kj64 t219 t222 t223 a1).bind fun bt224 => ((laws_eqRing.f kj64 bt224.1 bt224.2.1 bt224.2.2.1 t186 t189 t190).bind fun t231 => (if t231 = true then (laws_FnExactPushRing.j2 kj64 t216 (bt224.2.2.2 != t191) t217 t202 t203) else (laws_FnExactPushRing.j2 kj64 t216 true t217 t202 t203)))) = some r := H
                      have A99 := Aside0.mk A990
                      clear A990
                      replace H := Option.bind_eq_some_iff.mp H
                      obtain ⟨⟨t224, t227, t228, t229⟩, A1000, H⟩ := H
                      replace H : ((laws_eqRing.f kj64 t224 t227 t228 t186 t189 t190).bind fun t231 => (if t231 = true then (laws_FnExactPushRing.j2 kj64 t216 (t229 != t191) t217 t202 t203) else (laws_FnExactPushRing.j2 kj64 t216 true t217 t202 t203))) = some r := H
                      have A100 := Aside0.mk A1000
                      clear A1000
                      have HC101 := Aside0.mk H
                      clear H
                      have hnb102 := NB205_179.out
                      have hnc102 := NB179_205.out
                      have hnb103 := NB205_192.out
                      have hnc103 := NB192_205.out
                      have hnb104 := NB205_198.out
                      have hnc104 := NB198_205.out
                      have hcz105_0 : wc.cell? ⟨gb205, 0, none⟩ = some (.slice Ao36 t199.length co36) := (blk_cell BK205.out 0).trans rfl
                      have hcz105_1 : wc.cell? ⟨gb205, 1, none⟩ = some (.int .i64 t202) := (blk_cell BK205.out 1).trans rfl
                      have hcz105_2 : wc.cell? ⟨gb205, 2, none⟩ = some (.int .i64 t203) := (blk_cell BK205.out 2).trans rfl
                      have hfz105_0 := blk_frozen BK205.out 0
                      have hfz105_1 := blk_frozen BK205.out 1
                      have hfz105_2 := blk_frozen BK205.out 2
                      go_upto_region 25 with (first | ((with_reducible refine gate_callee (f := 43) rfl ?_); refine goesL_ (some 68) rfl rfl Try.func43 (by kernel_rfl) rfl #[.agg #[.slice Ao36 t199.length co36, .int .i64 t202, .int .i64 t203], .int .i64 1] rfl (by (try simp only [List.map_toArray, List.map_cons, List.map_nil]); first | done | rfl | (simp only [List.length_drop, List.length_take]; rfl)) ?_; (with_reducible refine (laws_markRing.calls kj64 (fun k_ => some k_ = (.slice Ao36 t199.length co36 : Value).ownBlock) (.slice Ao36 t199.length co36) t199 t202 t203 1 t216 t217 w _ ?side1 ?side2 A95.out).mono ?_); (case side1 => repeat (first | (with_reducible first | exact HB.out | apply below_alloc | apply pw_below_drewN | apply below_drew1 | refine below_set ?_ GE179.out | refine below_set ?_ GE192.out | refine below_set ?_ GE198.out | refine below_set ?_ GE205.out) | exact HB.out)); (case side2 => exact Kd.R_tight rfl HO_206000.out); rintro e w106 ⟨rfl, hy0, hb, hkp⟩; refine ⟨_, rfl, ?_⟩; have n0_ := Aside0.mk (Kd.R_mono (ok' := fun k_ => some k_ ≠ (.slice Ao28 t214.length co28 : Value).ownBlock ∧ some k_ ≠ (.slice Ao36 t199.length co36 : Value).ownBlock) (Kd.R_keptB (HO_193000.out) hkp (fun k_ hk_ hs_ => (hk_.2) hs_)) (fun k_ hk_ => ⟨hk_.1.1, hk_.1.2⟩)); have n1_ := Aside0.mk (Kd.R_mono (ok' := fun k_ => some k_ ≠ (.slice Ao21 t186.length co21 : Value).ownBlock ∧ some k_ ≠ (.slice Ao36 t199.length co36 : Value).ownBlock) (Kd.R_keptB (HO_199000.out) hkp (fun k_ hk_ hs_ => (hk_.2) hs_)) (fun k_ hk_ => ⟨hk_.1.1, hk_.1.2⟩)); have n2_ := Aside0.mk (Kd.R_reok rfl hy0 (fun k_ e_ => HO_206000.out.1 k_ e_)); have n3_ := Aside0.mk (blk_kept (by (with_reducible repeat (first | refine blk_drewN ?_ _ | refine blk_drew ?_ | refine blk_alloc ?_ _)); exact BK179.out) hkp (fun hs_ => (fun e_ => (Kd.R_ne HO_206000.out BK179.out (by decide)) e_) hs_)); have n4_ := Aside0.mk (blk_kept (by (with_reducible repeat (first | refine blk_drewN ?_ _ | refine blk_drew ?_ | refine blk_alloc ?_ _)); exact BK192.out) hkp (fun hs_ => (fun e_ => (Kd.R_ne HO_206000.out BK192.out (by decide)) e_) hs_)); have n5_ := Aside0.mk (blk_kept (by (with_reducible repeat (first | refine blk_drewN ?_ _ | refine blk_drew ?_ | refine blk_alloc ?_ _)); exact BK198.out) hkp (fun hs_ => (fun e_ => (Kd.R_ne HO_206000.out BK198.out (by decide)) e_) hs_)); have n6_ := Aside0.mk (blk_kept (by (with_reducible repeat (first | refine blk_drewN ?_ _ | refine blk_drew ?_ | refine blk_alloc ?_ _)); exact BK205.out) hkp (fun hs_ => (fun e_ => (Kd.R_ne HO_206000.out BK205.out (by decide)) e_) hs_)); have n7_ := Aside0.mk (hb); clear HO_193000; clear HO_199000; clear HO_206000; clear BK179; clear BK192; clear BK198; clear BK205; clear HB; have HO_193000 := n0_; have HO_199000 := n1_; have HO_206000 := n2_; have BK179 := n3_; have BK192 := n4_; have BK198 := n5_; have BK205 := n6_; have HB := n7_; clear n0_ n1_ n2_ n3_ n4_ n5_ n6_ n7_; (try clear hb); (try clear hkp); (try clear hy0); have hcz107_0 : w106.cell? ⟨gb205, 0, none⟩ = some (.slice Ao36 t199.length co36) := (blk_cell BK205.out 0).trans rfl; have hcz107_1 : w106.cell? ⟨gb205, 1, none⟩ = some (.int .i64 t202) := (blk_cell BK205.out 1).trans rfl; have hcz107_2 : w106.cell? ⟨gb205, 2, none⟩ = some (.int .i64 t203) := (blk_cell BK205.out 2).trans rfl; have hfz107_0 := blk_frozen BK205.out 0; have hfz107_1 := blk_frozen BK205.out 1; have hfz107_2 := blk_frozen BK205.out 2) | ((with_reducible refine gate_callee (f := 52) rfl ?_); refine goesL_ (some 71) rfl rfl Try.func52 (by kernel_rfl) rfl #[.agg #[.slice Ao36 t217.length co36, .int .i64 t202, .int .i64 t203], .int .i64 1] rfl (by (try simp only [List.map_toArray, List.map_cons, List.map_nil]); first | done | (rw [show t217.length = t199.length from (Kd.R_reads' HO_206000.out).1.symm] <;> rfl) | rfl | (simp only [List.length_drop, List.length_take]; rfl)) ?_; (with_reducible refine (laws_heldRing.calls kj64 _ _ t217 t202 t203 1 t218 _ ?side1 ?side2 A96.out).mono ?_); (case side1 => repeat (first | exact (Kd.R_reads' HO_206000.out).2.2 | (with_reducible refine Kd.C_alloc ?_ _) | (with_reducible refine Kd.C_drewN ?_ _) | (with_reducible refine Kd.C_drew ?_))); (case side2 => rw [show t217.length = t199.length from (Kd.R_reads' HO_206000.out).1.symm]; exact (Kd.R_reads' HO_206000.out).2.1); rintro e w108 ⟨rfl, hb⟩; refine ⟨_, rfl, ?_⟩; have n0_ := Aside0.mk (Kd.R_below (by (with_reducible repeat (first | apply Kd.R_alloc | apply Kd.R_drewN | apply Kd.R_drew)); exact HO_193000.out) hb); have n1_ := Aside0.mk (Kd.R_below (by (with_reducible repeat (first | apply Kd.R_alloc | apply Kd.R_drewN | apply Kd.R_drew)); exact HO_199000.out) hb); have n2_ := Aside0.mk (Kd.R_below (by (with_reducible repeat (first | apply Kd.R_alloc | apply Kd.R_drewN | apply Kd.R_drew)); exact HO_206000.out) hb); have n3_ := Aside0.mk (blk_below (g := gb179) (o := .cells #[.slice A0_0 l0_0.length c0_0, .int .i64 a0_1, .int .i64 a0_2] 24 (0, 0)) (by (with_reducible repeat (first | refine blk_drewN ?_ _ | refine blk_drew ?_ | refine blk_alloc ?_ _)); exact BK179.out) hb); have n4_ := Aside0.mk (blk_below (g := gb192) (o := .cells #[.slice Ao21 t186.length co21, .int .i64 t189, .int .i64 t190] 29 (0, 0)) (by (with_reducible repeat (first | refine blk_drewN ?_ _ | refine blk_drew ?_ | refine blk_alloc ?_ _)); exact BK192.out) hb); have n5_ := Aside0.mk (blk_below (g := gb198) (o := .cells #[.slice Ao28 t214.length co28, .int .i64 t196, .int .i64 t197] 29 (0, 0)) (by (with_reducible repeat (first | refine blk_drewN ?_ _ | refine blk_drew ?_ | refine blk_alloc ?_ _)); exact BK198.out) hb); have n6_ := Aside0.mk (blk_below (g := gb205) (o := .cells #[.slice Ao36 t199.length co36, .int .i64 t202, .int .i64 t203] 29 (0, 0)) (by (with_reducible repeat (first | refine blk_drewN ?_ _ | refine blk_drew ?_ | refine blk_alloc ?_ _)); exact BK205.out) hb); have n7_ := Aside0.mk (below_step (by repeat (first | (with_reducible first | exact HB.out | apply below_alloc | apply pw_below_drewN | apply below_drew1 | refine below_set ?_ GE179.out | refine below_set ?_ GE192.out | refine below_set ?_ GE198.out | refine below_set ?_ GE205.out) | exact HB.out)) hb); clear HO_193000; clear HO_199000; clear HO_206000; clear BK179; clear BK192; clear BK198; clear BK205; clear HB; have HO_193000 := n0_; have HO_199000 := n1_; have HO_206000 := n2_; have BK179 := n3_; have BK192 := n4_; have BK198 := n5_; have BK205 := n6_; have HB := n7_; clear n0_ n1_ n2_ n3_ n4_ n5_ n6_ n7_; (try clear hb); (try clear hb2); (try clear hk); (try clear hi); have hnb109 := NB179_192.out; have hnc109 := NB192_179.out; have hnb110 := NB179_198.out; have hnc110 := NB198_179.out; have hcz111_0 : w108.cell? ⟨gb179, 0, none⟩ = some (.slice A0_0 l0_0.length c0_0) := (blk_cell BK179.out 0).trans rfl; have hcz111_1 : w108.cell? ⟨gb179, 1, none⟩ = some (.int .i64 a0_1) := (blk_cell BK179.out 1).trans rfl; have hcz111_2 : w108.cell? ⟨gb179, 2, none⟩ = some (.int .i64 a0_2) := (blk_cell BK179.out 2).trans rfl; have hfz111_0 := blk_frozen BK179.out 0; have hfz111_1 := blk_frozen BK179.out 1; have hfz111_2 := blk_frozen BK179.out 2) | ((with_reducible refine gate_callee (f := 16) rfl ?_); refine goesL_ (some 79) rfl rfl Try.func16 (by kernel_rfl) rfl #[.agg #[.slice A0_0 l0_0.length c0_0, .int .i64 a0_1, .int .i64 a0_2]] rfl (by (try simp only [List.map_toArray, List.map_cons, List.map_nil]); first | done | rfl | (simp only [List.length_drop, List.length_take]; rfl)) ?_; (with_reducible refine (laws_toRing.calls kj64 _ _ l0_0 a0_1 a0_2 t219 t222 t223 _ ?side1 ?side2 A99.out).mono ?_); (case side1 => repeat (first | exact (Kd.C_below HR0_0.out HB.out) | (with_reducible refine Kd.C_alloc ?_ _) | (with_reducible refine Kd.C_drewN ?_ _) | (with_reducible refine Kd.C_drew ?_))); (case side2 => exact HC0_0.out); rintro e w112 ⟨v220, rfl, ho0, hb⟩; refine ⟨_, rfl, ?_⟩; have n0_ := Aside0.mk (Kd.R_elder' (by (with_reducible repeat (first | apply Kd.R_alloc | apply Kd.R_drewN | apply Kd.R_drew)); exact HO_193000.out) (Kd.R_base ho0) hb); have n1_ := Aside0.mk (Kd.R_elder' (by (with_reducible repeat (first | apply Kd.R_alloc | apply Kd.R_drewN | apply Kd.R_drew)); exact HO_199000.out) (Kd.R_base ho0) hb); have n2_ := Aside0.mk (Kd.R_elder' (by (with_reducible repeat (first | apply Kd.R_alloc | apply Kd.R_drewN | apply Kd.R_drew)); exact HO_206000.out) (Kd.R_base ho0) hb); have n3_ := Aside0.mk (Kd.R_lower (Kd.R_new' (Kd.R_new' (Kd.R_new' ho0 (Kd.R_lt (by (with_reducible repeat (first | apply Kd.R_alloc | apply Kd.R_drewN | apply Kd.R_drew)); exact HO_193000.out))) (Kd.R_lt (by (with_reducible repeat (first | apply Kd.R_alloc | apply Kd.R_drewN | apply Kd.R_drew)); exact HO_199000.out))) (Kd.R_lt (by (with_reducible repeat (first | apply Kd.R_alloc | apply Kd.R_drewN | apply Kd.R_drew)); exact HO_206000.out))) (below_size (by repeat (first | (with_reducible first | exact HB.out | apply below_alloc | apply pw_below_drewN | apply below_drew1 | refine below_set ?_ GE179.out | refine below_set ?_ GE192.out | refine below_set ?_ GE198.out | refine below_set ?_ GE205.out) | exact HB.out)))); have n4_ := Aside0.mk (blk_below (g := gb179) (o := .cells #[.slice A0_0 l0_0.length c0_0, .int .i64 a0_1, .int .i64 a0_2] 24 (0, 0)) (by (with_reducible repeat (first | refine blk_drewN ?_ _ | refine blk_drew ?_ | refine blk_alloc ?_ _)); exact BK179.out) hb); have n5_ := Aside0.mk (blk_below (g := gb192) (o := .cells #[.slice Ao21 t186.length co21, .int .i64 t189, .int .i64 t190] 29 (0, 0)) (by (with_reducible repeat (first | refine blk_drewN ?_ _ | refine blk_drew ?_ | refine blk_alloc ?_ _)); exact BK192.out) hb); have n6_ := Aside0.mk (blk_below (g := gb198) (o := .cells #[.slice Ao28 t214.length co28, .int .i64 t196, .int .i64 t197] 29 (0, 0)) (by (with_reducible repeat (first | refine blk_drewN ?_ _ | refine blk_drew ?_ | refine blk_alloc ?_ _)); exact BK198.out) hb); have n7_ := Aside0.mk (blk_below (g := gb205) (o := .cells #[.slice Ao36 t199.length co36, .int .i64 t202, .int .i64 t203] 29 (0, 0)) (by (with_reducible repeat (first | refine blk_drewN ?_ _ | refine blk_drew ?_ | refine blk_alloc ?_ _)); exact BK205.out) hb); have n8_ := Aside0.mk (below_step (by repeat (first | (with_reducible first | exact HB.out | apply below_alloc | apply pw_below_drewN | apply below_drew1 | refine below_set ?_ GE179.out | refine below_set ?_ GE192.out | refine below_set ?_ GE198.out | refine below_set ?_ GE205.out) | exact HB.out)) hb); clear HO_193000; clear HO_199000; clear HO_206000; clear BK179; clear BK192; clear BK198; clear BK205; clear HB; have HO_193000 := n0_; have HO_199000 := n1_; have HO_206000 := n2_; have HO221 := n3_; have BK179 := n4_; have BK192 := n5_; have BK198 := n6_; have BK205 := n7_; have HB := n8_; clear n0_ n1_ n2_ n3_ n4_ n5_ n6_ n7_ n8_; (try clear hb); (try clear hb2); (try clear hk); (try clear hi); (try clear ho0); obtain ⟨Ao113, co113, eo113⟩ := Kd.R_slice HO221.out; subst eo113) | ((with_reducible refine gate_callee (f := 51) rfl ?_); refine goesL_ (some 81) rfl rfl Try.func51 (by kernel_rfl) rfl #[.agg #[.slice Ao113 t219.length co113, .int .i64 t222, .int .i64 t223], .int .i64 a1] rfl (by (try simp only [List.map_toArray, List.map_cons, List.map_nil]); first | done | rfl | (simp only [List.length_drop, List.length_take]; rfl)) ?_; (with_reducible refine (impl_PushRing.calls kj64 _ _ t219 t222 t223 a1 t224 t227 t228 t229 _ ?side1 ?side2 A100.out).mono ?_); (case side1 => repeat (first | exact (Kd.R_reads' HO221.out).2.2 | (with_reducible refine Kd.C_alloc ?_ _) | (with_reducible refine Kd.C_drewN ?_ _) | (with_reducible refine Kd.C_drew ?_))); (case side2 => exact (Kd.R_reads' HO221.out).2.1); rintro e w114 ⟨v225, rfl, ho0, hb⟩; refine ⟨_, rfl, ?_⟩; have n0_ := Aside0.mk (Kd.R_elder' (by (with_reducible repeat (first | apply Kd.R_alloc | apply Kd.R_drewN | apply Kd.R_drew)); exact HO_193000.out) (Kd.R_base ho0) hb); have n1_ := Aside0.mk (Kd.R_elder' (by (with_reducible repeat (first | apply Kd.R_alloc | apply Kd.R_drewN | apply Kd.R_drew)); exact HO_199000.out) (Kd.R_base ho0) hb); have n2_ := Aside0.mk (Kd.R_elder' (by (with_reducible repeat (first | apply Kd.R_alloc | apply Kd.R_drewN | apply Kd.R_drew)); exact HO_206000.out) (Kd.R_base ho0) hb); have n3_ := Aside0.mk (Kd.R_elder' (by (with_reducible repeat (first | apply Kd.R_alloc | apply Kd.R_drewN | apply Kd.R_drew)); exact HO221.out) (Kd.R_base ho0) hb); have n4_ := Aside0.mk (Kd.R_lower (Kd.R_new' (Kd.R_new' (Kd.R_new' (Kd.R_new' ho0 (Kd.R_lt (by (with_reducible repeat (first | apply Kd.R_alloc | apply Kd.R_drewN | apply Kd.R_drew)); exact HO_193000.out))) (Kd.R_lt (by (with_reducible repeat (first | apply Kd.R_alloc | apply Kd.R_drewN | apply Kd.R_drew)); exact HO_199000.out))) (Kd.R_lt (by (with_reducible repeat (first | apply Kd.R_alloc | apply Kd.R_drewN | apply Kd.R_drew)); exact HO_206000.out))) (Kd.R_lt (by (with_reducible repeat (first | apply Kd.R_alloc | apply Kd.R_drewN | apply Kd.R_drew)); exact HO221.out))) (below_size (by repeat (first | (with_reducible first | exact HB.out | apply below_alloc | apply pw_below_drewN | apply below_drew1 | refine below_set ?_ GE179.out | refine below_set ?_ GE192.out | refine below_set ?_ GE198.out | refine below_set ?_ GE205.out) | exact HB.out)))); have n5_ := Aside0.mk (blk_below (g := gb179) (o := .cells #[.slice A0_0 l0_0.length c0_0, .int .i64 a0_1, .int .i64 a0_2] 24 (0, 0)) (by (with_reducible repeat (first | refine blk_drewN ?_ _ | refine blk_drew ?_ | refine blk_alloc ?_ _)); exact BK179.out) hb); have n6_ := Aside0.mk (blk_below (g := gb192) (o := .cells #[.slice Ao21 t186.length co21, .int .i64 t189, .int .i64 t190] 29 (0, 0)) (by (with_reducible repeat (first | refine blk_drewN ?_ _ | refine blk_drew ?_ | refine blk_alloc ?_ _)); exact BK192.out) hb); have n7_ := Aside0.mk (blk_below (g := gb198) (o := .cells #[.slice Ao28 t214.length co28, .int .i64 t196, .int .i64 t197] 29 (0, 0)) (by (with_reducible repeat (first | refine blk_drewN ?_ _ | refine blk_drew ?_ | refine blk_alloc ?_ _)); exact BK198.out) hb); have n8_ := Aside0.mk (blk_below (g := gb205) (o := .cells #[.slice Ao36 t199.length co36, .int .i64 t202, .int .i64 t203] 29 (0, 0)) (by (with_reducible repeat (first | refine blk_drewN ?_ _ | refine blk_drew ?_ | refine blk_alloc ?_ _)); exact BK205.out) hb); have n9_ := Aside0.mk (below_step (by repeat (first | (with_reducible first | exact HB.out | apply below_alloc | apply pw_below_drewN | apply below_drew1 | refine below_set ?_ GE179.out | refine below_set ?_ GE192.out | refine below_set ?_ GE198.out | refine below_set ?_ GE205.out) | exact HB.out)) hb); clear HO_193000; clear HO_199000; clear HO_206000; clear HO221; clear BK179; clear BK192; clear BK198; clear BK205; clear HB; have HO_193000 := n0_; have HO_199000 := n1_; have HO_206000 := n2_; have HO221 := n3_; have HO226 := n4_; have BK179 := n5_; have BK192 := n6_; have BK198 := n7_; have BK205 := n8_; have HB := n9_; clear n0_ n1_ n2_ n3_ n4_ n5_ n6_ n7_ n8_ n9_; (try clear hb); (try clear hb2); (try clear hk); (try clear hi); (try clear ho0)) | ((with_reducible refine gate_dst (N := 14) rfl ?_); refine box_event ?hg (N := 14) ?hd (cs := #[.slice none 0 0, .int .i64 0, .int .i64 0]) (t := 29) ?hr ?_; (case hd => rfl); (case hg => rfl); (case hr => first | (go_simp; done) | (go_simp; rfl)); intro gb230 hg w115 hbox hb; have n0_ := Aside0.mk (Kd.R_below (by (with_reducible repeat (first | apply Kd.R_alloc | apply Kd.R_drewN | apply Kd.R_drew)); exact HO_193000.out) hb); have n1_ := Aside0.mk (Kd.R_below (by (with_reducible repeat (first | apply Kd.R_alloc | apply Kd.R_drewN | apply Kd.R_drew)); exact HO_199000.out) hb); have n2_ := Aside0.mk (Kd.R_below (by (with_reducible repeat (first | apply Kd.R_alloc | apply Kd.R_drewN | apply Kd.R_drew)); exact HO_206000.out) hb); have n3_ := Aside0.mk (Kd.R_below (by (with_reducible repeat (first | apply Kd.R_alloc | apply Kd.R_drewN | apply Kd.R_drew)); exact HO221.out) hb); have n4_ := Aside0.mk (Kd.R_below (by (with_reducible repeat (first | apply Kd.R_alloc | apply Kd.R_drewN | apply Kd.R_drew)); exact HO226.out) hb); have n5_ := Aside0.mk (blk_below (g := gb179) (o := .cells #[.slice A0_0 l0_0.length c0_0, .int .i64 a0_1, .int .i64 a0_2] 24 (0, 0)) (by (with_reducible repeat (first | refine blk_drewN ?_ _ | refine blk_drew ?_ | refine blk_alloc ?_ _)); exact BK179.out) hb); have n6_ := Aside0.mk (blk_below (g := gb192) (o := .cells #[.slice Ao21 t186.length co21, .int .i64 t189, .int .i64 t190] 29 (0, 0)) (by (with_reducible repeat (first | refine blk_drewN ?_ _ | refine blk_drew ?_ | refine blk_alloc ?_ _)); exact BK192.out) hb); have n7_ := Aside0.mk (blk_below (g := gb198) (o := .cells #[.slice Ao28 t214.length co28, .int .i64 t196, .int .i64 t197] 29 (0, 0)) (by (with_reducible repeat (first | refine blk_drewN ?_ _ | refine blk_drew ?_ | refine blk_alloc ?_ _)); exact BK198.out) hb); have n8_ := Aside0.mk (blk_below (g := gb205) (o := .cells #[.slice Ao36 t199.length co36, .int .i64 t202, .int .i64 t203] 29 (0, 0)) (by (with_reducible repeat (first | refine blk_drewN ?_ _ | refine blk_drew ?_ | refine blk_alloc ?_ _)); exact BK205.out) hb); have n9_ := Aside0.mk (below_step (by repeat (first | (with_reducible first | exact HB.out | apply below_alloc | apply pw_below_drewN | apply below_drew1 | refine below_set ?_ GE179.out | refine below_set ?_ GE192.out | refine below_set ?_ GE198.out | refine below_set ?_ GE205.out) | exact HB.out)) hb); have n10_ := Aside0.mk (hbox); have n11_ := Aside0.mk ((by rw [hg]; exact (below_size (by repeat (first | (with_reducible first | exact HB.out | apply below_alloc | apply pw_below_drewN | apply below_drew1 | refine below_set ?_ GE179.out | refine below_set ?_ GE192.out | refine below_set ?_ GE198.out | refine below_set ?_ GE205.out) | exact HB.out))) : w.heap.size ≤ gb230)); have n12_ := Aside0.mk ((by rw [hg]; exact (below_size (by repeat (first | (with_reducible first | exact HB.out | apply below_alloc | apply pw_below_drewN | apply below_drew1 | refine below_set ?_ GE179.out | refine below_set ?_ GE192.out | refine below_set ?_ GE198.out | refine below_set ?_ GE205.out) | exact HB.out))) : w.heap.size ≤ gb230)); have n13_ := Aside0.mk ((by rw [hg]; exact Nat.ne_of_lt (blk_lt (g := gb179) (o := .cells #[.slice A0_0 l0_0.length c0_0, .int .i64 a0_1, .int .i64 a0_2] 24 (0, 0)) (by (with_reducible repeat (first | refine blk_drewN ?_ _ | refine blk_drew ?_ | refine blk_alloc ?_ _)); exact BK179.out)) : gb179 ≠ gb230)); have n14_ := Aside0.mk ((by rw [hg]; exact Nat.ne_of_gt (blk_lt (g := gb179) (o := .cells #[.slice A0_0 l0_0.length c0_0, .int .i64 a0_1, .int .i64 a0_2] 24 (0, 0)) (by (with_reducible repeat (first | refine blk_drewN ?_ _ | refine blk_drew ?_ | refine blk_alloc ?_ _)); exact BK179.out)) : gb230 ≠ gb179)); have n15_ := Aside0.mk ((by rw [hg]; exact Nat.ne_of_lt (blk_lt (g := gb192) (o := .cells #[.slice Ao21 t186.length co21, .int .i64 t189, .int .i64 t190] 29 (0, 0)) (by (with_reducible repeat (first | refine blk_drewN ?_ _ | refine blk_drew ?_ | refine blk_alloc ?_ _)); exact BK192.out)) : gb192 ≠ gb230)); have n16_ := Aside0.mk ((by rw [hg]; exact Nat.ne_of_gt (blk_lt (g := gb192) (o := .cells #[.slice Ao21 t186.length co21, .int .i64 t189, .int .i64 t190] 29 (0, 0)) (by (with_reducible repeat (first | refine blk_drewN ?_ _ | refine blk_drew ?_ | refine blk_alloc ?_ _)); exact BK192.out)) : gb230 ≠ gb192)); have n17_ := Aside0.mk ((by rw [hg]; exact Nat.ne_of_lt (blk_lt (g := gb198) (o := .cells #[.slice Ao28 t214.length co28, .int .i64 t196, .int .i64 t197] 29 (0, 0)) (by (with_reducible repeat (first | refine blk_drewN ?_ _ | refine blk_drew ?_ | refine blk_alloc ?_ _)); exact BK198.out)) : gb198 ≠ gb230)); have n18_ := Aside0.mk ((by rw [hg]; exact Nat.ne_of_gt (blk_lt (g := gb198) (o := .cells #[.slice Ao28 t214.length co28, .int .i64 t196, .int .i64 t197] 29 (0, 0)) (by (with_reducible repeat (first | refine blk_drewN ?_ _ | refine blk_drew ?_ | refine blk_alloc ?_ _)); exact BK198.out)) : gb230 ≠ gb198)); have n19_ := Aside0.mk ((by rw [hg]; exact Nat.ne_of_lt (blk_lt (g := gb205) (o := .cells #[.slice Ao36 t199.length co36, .int .i64 t202, .int .i64 t203] 29 (0, 0)) (by (with_reducible repeat (first | refine blk_drewN ?_ _ | refine blk_drew ?_ | refine blk_alloc ?_ _)); exact BK205.out)) : gb205 ≠ gb230)); have n20_ := Aside0.mk ((by rw [hg]; exact Nat.ne_of_gt (blk_lt (g := gb205) (o := .cells #[.slice Ao36 t199.length co36, .int .i64 t202, .int .i64 t203] 29 (0, 0)) (by (with_reducible repeat (first | refine blk_drewN ?_ _ | refine blk_drew ?_ | refine blk_alloc ?_ _)); exact BK205.out)) : gb230 ≠ gb205)); clear HO_193000; clear HO_199000; clear HO_206000; clear HO221; clear HO226; clear BK179; clear BK192; clear BK198; clear BK205; clear HB; have HO_193000 := n0_; have HO_199000 := n1_; have HO_206000 := n2_; have HO221 := n3_; have HO226 := n4_; have BK179 := n5_; have BK192 := n6_; have BK198 := n7_; have BK205 := n8_; have HB := n9_; have BK230 := n10_; have GW230 := n11_; have GE230 := n12_; have NB179_230 := n13_; have NB230_179 := n14_; have NB192_230 := n15_; have NB230_192 := n16_; have NB198_230 := n17_; have NB230_198 := n18_; have NB205_230 := n19_; have NB230_205 := n20_; clear n0_ n1_ n2_ n3_ n4_ n5_ n6_ n7_ n8_ n9_ n10_ n11_ n12_ n13_ n14_ n15_ n16_ n17_ n18_ n19_ n20_; clear hb hbox hg; obtain ⟨Ao116, co116, eo116⟩ := Kd.R_slice HO226.out; subst eo116; have hnb117 := NB230_179.out; have hnc117 := NB179_230.out; have hnb118 := NB230_192.out; have hnc118 := NB192_230.out; have hnb119 := NB230_198.out; have hnc119 := NB198_230.out; have hnb120 := NB230_205.out; have hnc120 := NB205_230.out; have hcz121_0 : w115.cell? ⟨gb230, 0, none⟩ = some (.slice none 0 0) := (blk_cell BK230.out 0).trans rfl; have hcz121_1 : w115.cell? ⟨gb230, 1, none⟩ = some (.int .i64 0) := (blk_cell BK230.out 1).trans rfl; have hcz121_2 : w115.cell? ⟨gb230, 2, none⟩ = some (.int .i64 0) := (blk_cell BK230.out 2).trans rfl; have hfz121_0 := blk_frozen BK230.out 0; have hfz121_1 := blk_frozen BK230.out 1; have hfz121_2 := blk_frozen BK230.out 2) | ((with_reducible refine gate_store (t := 29) (p := 14) rfl ?_); refine store_event (t := 29) (p := 14) (v := ?vo_w122) (w1 := (((w115.setCell ⟨gb230, 0, none⟩ (.slice Ao116 t224.length co116)).setCell ⟨gb230, 1, none⟩ (.int .i64 t227)).setCell ⟨gb230, 2, none⟩ (.int .i64 t228))) ?hg ?ho ?hn ?hr ?_; (case ho => rfl); (case hg => rfl); (case hn => rfl); (case hr => first | (go_simp; done) | (go_simp; rfl)); intro w122 hw; have n0_ : Aside0 (Kd.R (Kd.int .i64) 3 w122 w.heap.size (fun k_ => some k_ ≠ (.slice Ao28 t214.length co28 : Value).ownBlock ∧ some k_ ≠ (.slice Ao36 t199.length co36 : Value).ownBlock ∧ some k_ ≠ (.slice Ao113 t219.length co113 : Value).ownBlock ∧ some k_ ≠ (.slice Ao116 t224.length co116 : Value).ownBlock) (.slice Ao21 t186.length co21) t186) := ⟨(by rw [hw]; exact (by (with_reducible repeat (first | apply Kd.R_alloc | apply Kd.R_drewN | apply Kd.R_drew)); exact Kd.R_mono (Kd.R_far (p := ⟨gb230, 2, none⟩) (Kd.R_far (p := ⟨gb230, 1, none⟩) (Kd.R_far (p := ⟨gb230, 0, none⟩) (Kd.R_types HO_193000.out BK230.out (by decide)) (fun _ hk => hk.2) (.slice Ao116 t224.length co116)) (fun _ hk => hk.2) (.int .i64 t227)) (fun _ hk => hk.2) (.int .i64 t228)) (fun _ hk => ⟨hk.1.1.1.1, ⟨hk.1.1.1.2, ⟨hk.1.1.2, hk.1.2⟩⟩⟩)))⟩; have n1_ : Aside0 (Kd.R (Kd.int .i64) 3 w122 w.heap.size (fun k_ => some k_ ≠ (.slice Ao21 t186.length co21 : Value).ownBlock ∧ some k_ ≠ (.slice Ao36 t199.length co36 : Value).ownBlock ∧ some k_ ≠ (.slice Ao113 t219.length co113 : Value).ownBlock ∧ some k_ ≠ (.slice Ao116 t224.length co116 : Value).ownBlock) (.slice Ao28 t214.length co28) t214) := ⟨(by rw [hw]; exact (by (with_reducible repeat (first | apply Kd.R_alloc | apply Kd.R_drewN | apply Kd.R_drew)); exact Kd.R_mono (Kd.R_far (p := ⟨gb230, 2, none⟩) (Kd.R_far (p := ⟨gb230, 1, none⟩) (Kd.R_far (p := ⟨gb230, 0, none⟩) (Kd.R_types HO_199000.out BK230.out (by decide)) (fun _ hk => hk.2) (.slice Ao116 t224.length co116)) (fun _ hk => hk.2) (.int .i64 t227)) (fun _ hk => hk.2) (.int .i64 t228)) (fun _ hk => ⟨hk.1.1.1.1, ⟨hk.1.1.1.2, ⟨hk.1.1.2, hk.1.2⟩⟩⟩)))⟩; have n2_ : Aside0 (Kd.R (Kd.int .i64) 3 w122 w.heap.size (fun k_ => some k_ ≠ (.slice Ao21 t186.length co21 : Value).ownBlock ∧ some k_ ≠ (.slice Ao28 t214.length co28 : Value).ownBlock ∧ some k_ ≠ (.slice Ao113 t219.length co113 : Value).ownBlock ∧ some k_ ≠ (.slice Ao116 t224.length co116 : Value).ownBlock) (.slice Ao36 t199.length co36) t217) := ⟨(by rw [hw]; exact (by (with_reducible repeat (first | apply Kd.R_alloc | apply Kd.R_drewN | apply Kd.R_drew)); exact Kd.R_mono (Kd.R_far (p := ⟨gb230, 2, none⟩) (Kd.R_far (p := ⟨gb230, 1, none⟩) (Kd.R_far (p := ⟨gb230, 0, none⟩) (Kd.R_types HO_206000.out BK230.out (by decide)) (fun _ hk => hk.2) (.slice Ao116 t224.length co116)) (fun _ hk => hk.2) (.int .i64 t227)) (fun _ hk => hk.2) (.int .i64 t228)) (fun _ hk => ⟨hk.1.1.1.1, ⟨hk.1.1.1.2, ⟨hk.1.1.2, hk.1.2⟩⟩⟩)))⟩; have n3_ : Aside0 (Kd.R (Kd.int .i64) 3 w122 w.heap.size (fun k_ => some k_ ≠ (.slice Ao21 t186.length co21 : Value).ownBlock ∧ some k_ ≠ (.slice Ao28 t214.length co28 : Value).ownBlock ∧ some k_ ≠ (.slice Ao36 t199.length co36 : Value).ownBlock ∧ some k_ ≠ (.slice Ao116 t224.length co116 : Value).ownBlock) (.slice Ao113 t219.length co113) t219) := ⟨(by rw [hw]; exact (by (with_reducible repeat (first | apply Kd.R_alloc | apply Kd.R_drewN | apply Kd.R_drew)); exact Kd.R_mono (Kd.R_far (p := ⟨gb230, 2, none⟩) (Kd.R_far (p := ⟨gb230, 1, none⟩) (Kd.R_far (p := ⟨gb230, 0, none⟩) (Kd.R_types HO221.out BK230.out (by decide)) (fun _ hk => hk.2) (.slice Ao116 t224.length co116)) (fun _ hk => hk.2) (.int .i64 t227)) (fun _ hk => hk.2) (.int .i64 t228)) (fun _ hk => ⟨hk.1.1.1.1.2, ⟨hk.1.1.1.2, ⟨hk.1.1.2, hk.1.2⟩⟩⟩)))⟩; have n4_ : Aside0 (Kd.R (Kd.int .i64) 3 w122 w.heap.size (fun k_ => some k_ ≠ (.slice Ao21 t186.length co21 : Value).ownBlock ∧ some k_ ≠ (.slice Ao28 t214.length co28 : Value).ownBlock ∧ some k_ ≠ (.slice Ao36 t199.length co36 : Value).ownBlock ∧ some k_ ≠ (.slice Ao113 t219.length co113 : Value).ownBlock) (.slice Ao116 t224.length co116) t224) := ⟨(by rw [hw]; exact (by (with_reducible repeat (first | apply Kd.R_alloc | apply Kd.R_drewN | apply Kd.R_drew)); exact Kd.R_mono (Kd.R_far (p := ⟨gb230, 2, none⟩) (Kd.R_far (p := ⟨gb230, 1, none⟩) (Kd.R_far (p := ⟨gb230, 0, none⟩) (Kd.R_types HO226.out BK230.out (by decide)) (fun _ hk => hk.2) (.slice Ao116 t224.length co116)) (fun _ hk => hk.2) (.int .i64 t227)) (fun _ hk => hk.2) (.int .i64 t228)) (fun _ hk => ⟨hk.1.1.1.1.2, ⟨hk.1.1.1.2, ⟨hk.1.1.2, hk.1.2⟩⟩⟩)))⟩; have n5_ : Aside0 (w122.heap[gb179]? = some (.cells #[.slice A0_0 l0_0.length c0_0, .int .i64 a0_1, .int .i64 a0_2] 24 (0, 0))) := ⟨(by rw [hw]; exact (by (with_reducible repeat (first | refine blk_drewN ?_ _ | refine blk_drew ?_ | refine blk_alloc ?_ _)); refine blk_far ?_ NB179_230.out _; (with_reducible repeat (first | refine blk_drewN ?_ _ | refine blk_drew ?_ | refine blk_alloc ?_ _)); refine blk_far ?_ NB179_230.out _; (with_reducible repeat (first | refine blk_drewN ?_ _ | refine blk_drew ?_ | refine blk_alloc ?_ _)); refine blk_far ?_ NB179_230.out _; (with_reducible repeat (first | refine blk_drewN ?_ _ | refine blk_drew ?_ | refine blk_alloc ?_ _)); exact BK179.out))⟩; have n6_ : Aside0 (w122.heap[gb192]? = some (.cells #[.slice Ao21 t186.length co21, .int .i64 t189, .int .i64 t190] 29 (0, 0))) := ⟨(by rw [hw]; exact (by (with_reducible repeat (first | refine blk_drewN ?_ _ | refine blk_drew ?_ | refine blk_alloc ?_ _)); refine blk_far ?_ NB192_230.out _; (with_reducible repeat (first | refine blk_drewN ?_ _ | refine blk_drew ?_ | refine blk_alloc ?_ _)); refine blk_far ?_ NB192_230.out _; (with_reducible repeat (first | refine blk_drewN ?_ _ | refine blk_drew ?_ | refine blk_alloc ?_ _)); refine blk_far ?_ NB192_230.out _; (with_reducible repeat (first | refine blk_drewN ?_ _ | refine blk_drew ?_ | refine blk_alloc ?_ _)); exact BK192.out))⟩; have n7_ : Aside0 (w122.heap[gb198]? = some (.cells #[.slice Ao28 t214.length co28, .int .i64 t196, .int .i64 t197] 29 (0, 0))) := ⟨(by rw [hw]; exact (by (with_reducible repeat (first | refine blk_drewN ?_ _ | refine blk_drew ?_ | refine blk_alloc ?_ _)); refine blk_far ?_ NB198_230.out _; (with_reducible repeat (first | refine blk_drewN ?_ _ | refine blk_drew ?_ | refine blk_alloc ?_ _)); refine blk_far ?_ NB198_230.out _; (with_reducible repeat (first | refine blk_drewN ?_ _ | refine blk_drew ?_ | refine blk_alloc ?_ _)); refine blk_far ?_ NB198_230.out _; (with_reducible repeat (first | refine blk_drewN ?_ _ | refine blk_drew ?_ | refine blk_alloc ?_ _)); exact BK198.out))⟩; have n8_ : Aside0 (w122.heap[gb205]? = some (.cells #[.slice Ao36 t199.length co36, .int .i64 t202, .int .i64 t203] 29 (0, 0))) := ⟨(by rw [hw]; exact (by (with_reducible repeat (first | refine blk_drewN ?_ _ | refine blk_drew ?_ | refine blk_alloc ?_ _)); refine blk_far ?_ NB205_230.out _; (with_reducible repeat (first | refine blk_drewN ?_ _ | refine blk_drew ?_ | refine blk_alloc ?_ _)); refine blk_far ?_ NB205_230.out _; (with_reducible repeat (first | refine blk_drewN ?_ _ | refine blk_drew ?_ | refine blk_alloc ?_ _)); refine blk_far ?_ NB205_230.out _; (with_reducible repeat (first | refine blk_drewN ?_ _ | refine blk_drew ?_ | refine blk_alloc ?_ _)); exact BK205.out))⟩; have n9_ : Aside0 (w122.heap[gb230]? = some (.cells #[.slice Ao116 t224.length co116, .int .i64 t227, .int .i64 t228] 29 (0, 0))) := ⟨(by rw [hw]; exact (by (with_reducible repeat (first | refine blk_drewN ?_ _ | refine blk_drew ?_ | refine blk_alloc ?_ _)); refine blk_put (cs := #[.slice Ao116 t224.length co116, .int .i64 t227, .int .i64 0]) ?_ 2 _ rfl; (with_reducible repeat (first | refine blk_drewN ?_ _ | refine blk_drew ?_ | refine blk_alloc ?_ _)); refine blk_put (cs := #[.slice Ao116 t224.length co116, .int .i64 0, .int .i64 0]) ?_ 1 _ rfl; (with_reducible repeat (first | refine blk_drewN ?_ _ | refine blk_drew ?_ | refine blk_alloc ?_ _)); refine blk_put (cs := #[.slice none 0 0, .int .i64 0, .int .i64 0]) ?_ 0 _ rfl; (with_reducible repeat (first | refine blk_drewN ?_ _ | refine blk_drew ?_ | refine blk_alloc ?_ _)); exact BK230.out))⟩; have n10_ : Aside0 (Below w.heap.size w w122) := ⟨(by rw [hw]; exact (by repeat (first | (with_reducible first | exact HB.out | apply below_alloc | apply pw_below_drewN | apply below_drew1 | refine below_set ?_ GE179.out | refine below_set ?_ GE192.out | refine below_set ?_ GE198.out | refine below_set ?_ GE205.out | refine below_set ?_ GE230.out) | exact HB.out)))⟩; clear hw; clear HO_193000; clear HO_199000; clear HO_206000; clear HO221; clear HO226; clear BK179; clear BK192; clear BK198; clear BK205; clear BK230; clear HB; have HO_193000 := n0_; have HO_199000 := n1_; have HO_206000 := n2_; have HO221 := n3_; have HO226 := n4_; have BK179 := n5_; have BK192 := n6_; have BK198 := n7_; have BK205 := n8_; have BK230 := n9_; have HB := n10_; clear n0_ n1_ n2_ n3_ n4_ n5_ n6_ n7_ n8_ n9_ n10_))
                      (try simp only [Act.put, List.setIfInBounds_toArray, List.set_cons_zero, List.set_cons_succ])
                      go_cut [92] (fun v92 wc => ∃ (kq : Nat) (x92_100 : Bool), v92 = .bool x92_100 ∧ Aside0 (laws_FnExactPushRing.j2 kq t216 x92_100 t217 t202 t203 = some r) ∧ Aside0 (kq ≤ kj64) ∧ Aside0 (Kd.R (Kd.int .i64) 3 wc w.heap.size (fun k_ => some k_ ≠ ((.slice Ao28 t214.length co28) : Value).ownBlock ∧ some k_ ≠ ((.slice Ao36 t199.length co36) : Value).ownBlock ∧ some k_ ≠ ((.slice Ao116 t224.length co116) : Value).ownBlock) (.slice Ao21 t186.length co21) t186) ∧ Aside0 (Kd.R (Kd.int .i64) 3 wc w.heap.size (fun k_ => some k_ ≠ ((.slice Ao21 t186.length co21) : Value).ownBlock ∧ some k_ ≠ ((.slice Ao36 t199.length co36) : Value).ownBlock ∧ some k_ ≠ ((.slice Ao116 t224.length co116) : Value).ownBlock) (.slice Ao28 t214.length co28) t214) ∧ Aside0 (Kd.R (Kd.int .i64) 3 wc w.heap.size (fun k_ => some k_ ≠ ((.slice Ao21 t186.length co21) : Value).ownBlock ∧ some k_ ≠ ((.slice Ao28 t214.length co28) : Value).ownBlock ∧ some k_ ≠ ((.slice Ao116 t224.length co116) : Value).ownBlock) (.slice Ao36 t199.length co36) t217) ∧ Aside0 (Kd.R (Kd.int .i64) 3 wc w.heap.size (fun k_ => some k_ ≠ ((.slice Ao21 t186.length co21) : Value).ownBlock ∧ some k_ ≠ ((.slice Ao28 t214.length co28) : Value).ownBlock ∧ some k_ ≠ ((.slice Ao36 t199.length co36) : Value).ownBlock) (.slice Ao116 t224.length co116) t224) ∧ Aside0 (wc.heap[gb179]? = some (.cells #[(.slice A0_0 l0_0.length c0_0), .int .i64 a0_1, .int .i64 a0_2] 24 (0, 0))) ∧ Aside0 (wc.heap[gb192]? = some (.cells #[(.slice Ao21 t186.length co21), .int .i64 t189, .int .i64 t190] 29 (0, 0))) ∧ Aside0 (wc.heap[gb198]? = some (.cells #[(.slice Ao28 t214.length co28), .int .i64 t196, .int .i64 t197] 29 (0, 0))) ∧ Aside0 (wc.heap[gb205]? = some (.cells #[(.slice Ao36 t199.length co36), .int .i64 t202, .int .i64 t203] 29 (0, 0))) ∧ Aside0 (wc.heap[gb230]? = some (.cells #[(.slice Ao116 t224.length co116), .int .i64 t227, .int .i64 t228] 29 (0, 0))) ∧ Aside0 (Below w.heap.size w wc))
                      case first =>
                        have H := HC101.out
                        clear HC101
                        replace H := Option.bind_eq_some_iff.mp H
                        obtain ⟨t231, A1230, H⟩ := H
                        replace H : (if t231 = true then (laws_FnExactPushRing.j2 kj64 t216 (t229 != t191) t217 t202 t203) else (laws_FnExactPushRing.j2 kj64 t216 true t217 t202 t203)) = some r := H
                        have A123 := Aside0.mk A1230
                        clear A1230
                        by_cases c124 : t231 = true
                        · subst c124
                          have H1 : (laws_FnExactPushRing.j2 kj64 t216 (t229 != t191) t217 t202 t203) = some r := by rw [if_pos rfl] at H; exact H
                          clear H
                          have H := H1
                          clear H1
                          have H' := Aside0.mk H
                          clear H
                          have hnb125 := NB230_179.out
                          have hnc125 := NB179_230.out
                          have hnb126 := NB230_192.out
                          have hnc126 := NB192_230.out
                          have hnb127 := NB230_198.out
                          have hnc127 := NB198_230.out
                          have hnb128 := NB230_205.out
                          have hnc128 := NB205_230.out
                          have hcz129_0 : w122.cell? ⟨gb230, 0, none⟩ = some (.slice Ao116 t224.length co116) := (blk_cell BK230.out 0).trans rfl
                          have hcz129_1 : w122.cell? ⟨gb230, 1, none⟩ = some (.int .i64 t227) := (blk_cell BK230.out 1).trans rfl
                          have hcz129_2 : w122.cell? ⟨gb230, 2, none⟩ = some (.int .i64 t228) := (blk_cell BK230.out 2).trans rfl
                          have hfz129_0 := blk_frozen BK230.out 0
                          have hfz129_1 := blk_frozen BK230.out 1
                          have hfz129_2 := blk_frozen BK230.out 2
                          have hnb130 := NB192_179.out
                          have hnc130 := NB179_192.out
                          have hnb131 := NB192_198.out
                          have hnc131 := NB198_192.out
                          have hnb132 := NB192_205.out
                          have hnc132 := NB205_192.out
                          have hcz133_0 : w122.cell? ⟨gb192, 0, none⟩ = some (.slice Ao21 t186.length co21) := (blk_cell BK192.out 0).trans rfl
                          have hcz133_1 : w122.cell? ⟨gb192, 1, none⟩ = some (.int .i64 t189) := (blk_cell BK192.out 1).trans rfl
                          have hcz133_2 : w122.cell? ⟨gb192, 2, none⟩ = some (.int .i64 t190) := (blk_cell BK192.out 2).trans rfl
                          have hfz133_0 := blk_frozen BK192.out 0
                          have hfz133_1 := blk_frozen BK192.out 1
                          have hfz133_2 := blk_frozen BK192.out 2
                          go_wp2_with (first | ((with_reducible refine gate_callee (f := 19) rfl ?_); refine goesL_ (some 86) rfl rfl Try.func19 (by kernel_rfl) rfl #[.agg #[.slice Ao116 t224.length co116, .int .i64 t227, .int .i64 t228], .agg #[.slice Ao21 t186.length co21, .int .i64 t189, .int .i64 t190]] rfl (by (try simp only [List.map_toArray, List.map_cons, List.map_nil]); first | done | rfl | (simp only [List.length_drop, List.length_take]; rfl)) ?_; (with_reducible refine (laws_eqRing.calls kj64 _ _ t224 t227 t228 _ _ t186 t189 t190 true _ ?side1 ?side2 ?side3 ?side4 A123.out).mono ?_); (case side1 => repeat (first | exact (Kd.R_reads' HO226.out).2.2 | (with_reducible refine Kd.C_alloc ?_ _) | (with_reducible refine Kd.C_drewN ?_ _) | (with_reducible refine Kd.C_drew ?_))); (case side2 => exact (Kd.R_reads' HO226.out).2.1); (case side3 => repeat (first | exact (Kd.R_reads' HO_193000.out).2.2 | (with_reducible refine Kd.C_alloc ?_ _) | (with_reducible refine Kd.C_drewN ?_ _) | (with_reducible refine Kd.C_drew ?_))); (case side4 => exact (Kd.R_reads' HO_193000.out).2.1); rintro e w134 ⟨rfl, hb⟩; refine ⟨_, rfl, ?_⟩; have n0_ := Aside0.mk (Kd.R_below (by (with_reducible repeat (first | apply Kd.R_alloc | apply Kd.R_drewN | apply Kd.R_drew)); exact HO_193000.out) hb); have n1_ := Aside0.mk (Kd.R_below (by (with_reducible repeat (first | apply Kd.R_alloc | apply Kd.R_drewN | apply Kd.R_drew)); exact HO_199000.out) hb); have n2_ := Aside0.mk (Kd.R_below (by (with_reducible repeat (first | apply Kd.R_alloc | apply Kd.R_drewN | apply Kd.R_drew)); exact HO_206000.out) hb); have n3_ := Aside0.mk (Kd.R_below (by (with_reducible repeat (first | apply Kd.R_alloc | apply Kd.R_drewN | apply Kd.R_drew)); exact HO221.out) hb); have n4_ := Aside0.mk (Kd.R_below (by (with_reducible repeat (first | apply Kd.R_alloc | apply Kd.R_drewN | apply Kd.R_drew)); exact HO226.out) hb); have n5_ := Aside0.mk (blk_below (g := gb179) (o := .cells #[.slice A0_0 l0_0.length c0_0, .int .i64 a0_1, .int .i64 a0_2] 24 (0, 0)) (by (with_reducible repeat (first | refine blk_drewN ?_ _ | refine blk_drew ?_ | refine blk_alloc ?_ _)); exact BK179.out) hb); have n6_ := Aside0.mk (blk_below (g := gb192) (o := .cells #[.slice Ao21 t186.length co21, .int .i64 t189, .int .i64 t190] 29 (0, 0)) (by (with_reducible repeat (first | refine blk_drewN ?_ _ | refine blk_drew ?_ | refine blk_alloc ?_ _)); exact BK192.out) hb); have n7_ := Aside0.mk (blk_below (g := gb198) (o := .cells #[.slice Ao28 t214.length co28, .int .i64 t196, .int .i64 t197] 29 (0, 0)) (by (with_reducible repeat (first | refine blk_drewN ?_ _ | refine blk_drew ?_ | refine blk_alloc ?_ _)); exact BK198.out) hb); have n8_ := Aside0.mk (blk_below (g := gb205) (o := .cells #[.slice Ao36 t199.length co36, .int .i64 t202, .int .i64 t203] 29 (0, 0)) (by (with_reducible repeat (first | refine blk_drewN ?_ _ | refine blk_drew ?_ | refine blk_alloc ?_ _)); exact BK205.out) hb); have n9_ := Aside0.mk (blk_below (g := gb230) (o := .cells #[.slice Ao116 t224.length co116, .int .i64 t227, .int .i64 t228] 29 (0, 0)) (by (with_reducible repeat (first | refine blk_drewN ?_ _ | refine blk_drew ?_ | refine blk_alloc ?_ _)); exact BK230.out) hb); have n10_ := Aside0.mk (below_step (by repeat (first | (with_reducible first | exact HB.out | apply below_alloc | apply pw_below_drewN | apply below_drew1 | refine below_set ?_ GE179.out | refine below_set ?_ GE192.out | refine below_set ?_ GE198.out | refine below_set ?_ GE205.out | refine below_set ?_ GE230.out) | exact HB.out)) hb); clear HO_193000; clear HO_199000; clear HO_206000; clear HO221; clear HO226; clear BK179; clear BK192; clear BK198; clear BK205; clear BK230; clear HB; have HO_193000 := n0_; have HO_199000 := n1_; have HO_206000 := n2_; have HO221 := n3_; have HO226 := n4_; have BK179 := n5_; have BK192 := n6_; have BK198 := n7_; have BK205 := n8_; have BK230 := n9_; have HB := n10_; clear n0_ n1_ n2_ n3_ n4_ n5_ n6_ n7_ n8_ n9_ n10_; (try clear hb); (try clear hb2); (try clear hk); (try clear hi)))
                          go_meet
                          case rel => exact ⟨_, ((t229 != t191)), (by first | rfl | (simp; done) | (simp [*]; done)), H', ⟨by have := HJ11.out; have := HJ64.out; first | omega | exact Nat.le_refl _⟩, ⟨by (try simp only [hl199000_64]); (with_reducible repeat (first | apply Kd.R_alloc | apply Kd.R_drewN | apply Kd.R_drew)); exact Kd.R_mono HO_193000.out (fun _ hk => ⟨hk.1, ⟨hk.2.1, hk.2.2.2⟩⟩)⟩, ⟨by (try simp only [hl199000_64]); (with_reducible repeat (first | apply Kd.R_alloc | apply Kd.R_drewN | apply Kd.R_drew)); exact Kd.R_mono HO_199000.out (fun _ hk => ⟨hk.1, ⟨hk.2.1, hk.2.2.2⟩⟩)⟩, ⟨by (try simp only [hl199000_64]); (with_reducible repeat (first | apply Kd.R_alloc | apply Kd.R_drewN | apply Kd.R_drew)); exact Kd.R_mono HO_206000.out (fun _ hk => ⟨hk.1, ⟨hk.2.1, hk.2.2.2⟩⟩)⟩, ⟨by (try simp only [hl199000_64]); (with_reducible repeat (first | apply Kd.R_alloc | apply Kd.R_drewN | apply Kd.R_drew)); exact Kd.R_mono HO226.out (fun _ hk => ⟨hk.1, ⟨hk.2.1, hk.2.2.1⟩⟩)⟩, ⟨by (try simp only [hl199000_64]); (with_reducible repeat (first | refine blk_drewN ?_ _ | refine blk_drew ?_ | refine blk_alloc ?_ _)); exact BK179.out⟩, ⟨by (try simp only [hl199000_64]); (with_reducible repeat (first | refine blk_drewN ?_ _ | refine blk_drew ?_ | refine blk_alloc ?_ _)); exact BK192.out⟩, ⟨by (try simp only [hl199000_64]); (with_reducible repeat (first | refine blk_drewN ?_ _ | refine blk_drew ?_ | refine blk_alloc ?_ _)); exact BK198.out⟩, ⟨by (try simp only [hl199000_64]); (with_reducible repeat (first | refine blk_drewN ?_ _ | refine blk_drew ?_ | refine blk_alloc ?_ _)); exact BK205.out⟩, ⟨by (try simp only [hl199000_64]); (with_reducible repeat (first | refine blk_drewN ?_ _ | refine blk_drew ?_ | refine blk_alloc ?_ _)); exact BK230.out⟩, ⟨by repeat (first | (with_reducible first | exact HB.out | apply below_alloc | apply pw_below_drewN | apply below_drew1 | refine below_set ?_ GE179.out | refine below_set ?_ GE192.out | refine below_set ?_ GE198.out | refine below_set ?_ GE205.out | refine below_set ?_ GE230.out) | exact HB.out)⟩⟩
                        · replace c124 := Bool.eq_false_iff.mpr c124
                          subst c124
                          have H1 : (laws_FnExactPushRing.j2 kj64 t216 true t217 t202 t203) = some r := by rw [if_neg (show ¬ (false = true) by decide)] at H; exact H
                          clear H
                          have H := H1
                          clear H1
                          have H' := Aside0.mk H
                          clear H
                          have hnb135 := NB230_179.out
                          have hnc135 := NB179_230.out
                          have hnb136 := NB230_192.out
                          have hnc136 := NB192_230.out
                          have hnb137 := NB230_198.out
                          have hnc137 := NB198_230.out
                          have hnb138 := NB230_205.out
                          have hnc138 := NB205_230.out
                          have hcz139_0 : w122.cell? ⟨gb230, 0, none⟩ = some (.slice Ao116 t224.length co116) := (blk_cell BK230.out 0).trans rfl
                          have hcz139_1 : w122.cell? ⟨gb230, 1, none⟩ = some (.int .i64 t227) := (blk_cell BK230.out 1).trans rfl
                          have hcz139_2 : w122.cell? ⟨gb230, 2, none⟩ = some (.int .i64 t228) := (blk_cell BK230.out 2).trans rfl
                          have hfz139_0 := blk_frozen BK230.out 0
                          have hfz139_1 := blk_frozen BK230.out 1
                          have hfz139_2 := blk_frozen BK230.out 2
                          have hnb140 := NB192_179.out
                          have hnc140 := NB179_192.out
                          have hnb141 := NB192_198.out
                          have hnc141 := NB198_192.out
                          have hnb142 := NB192_205.out
                          have hnc142 := NB205_192.out
                          have hcz143_0 : w122.cell? ⟨gb192, 0, none⟩ = some (.slice Ao21 t186.length co21) := (blk_cell BK192.out 0).trans rfl
                          have hcz143_1 : w122.cell? ⟨gb192, 1, none⟩ = some (.int .i64 t189) := (blk_cell BK192.out 1).trans rfl
                          have hcz143_2 : w122.cell? ⟨gb192, 2, none⟩ = some (.int .i64 t190) := (blk_cell BK192.out 2).trans rfl
                          have hfz143_0 := blk_frozen BK192.out 0
                          have hfz143_1 := blk_frozen BK192.out 1
                          have hfz143_2 := blk_frozen BK192.out 2
                          go_wp2_with (first | ((with_reducible refine gate_callee (f := 19) rfl ?_); refine goesL_ (some 86) rfl rfl Try.func19 (by kernel_rfl) rfl #[.agg #[.slice Ao116 t224.length co116, .int .i64 t227, .int .i64 t228], .agg #[.slice Ao21 t186.length co21, .int .i64 t189, .int .i64 t190]] rfl (by (try simp only [List.map_toArray, List.map_cons, List.map_nil]); first | done | rfl | (simp only [List.length_drop, List.length_take]; rfl)) ?_; (with_reducible refine (laws_eqRing.calls kj64 _ _ t224 t227 t228 _ _ t186 t189 t190 false _ ?side1 ?side2 ?side3 ?side4 A123.out).mono ?_); (case side1 => repeat (first | exact (Kd.R_reads' HO226.out).2.2 | (with_reducible refine Kd.C_alloc ?_ _) | (with_reducible refine Kd.C_drewN ?_ _) | (with_reducible refine Kd.C_drew ?_))); (case side2 => exact (Kd.R_reads' HO226.out).2.1); (case side3 => repeat (first | exact (Kd.R_reads' HO_193000.out).2.2 | (with_reducible refine Kd.C_alloc ?_ _) | (with_reducible refine Kd.C_drewN ?_ _) | (with_reducible refine Kd.C_drew ?_))); (case side4 => exact (Kd.R_reads' HO_193000.out).2.1); rintro e w144 ⟨rfl, hb⟩; refine ⟨_, rfl, ?_⟩; have n0_ := Aside0.mk (Kd.R_below (by (with_reducible repeat (first | apply Kd.R_alloc | apply Kd.R_drewN | apply Kd.R_drew)); exact HO_193000.out) hb); have n1_ := Aside0.mk (Kd.R_below (by (with_reducible repeat (first | apply Kd.R_alloc | apply Kd.R_drewN | apply Kd.R_drew)); exact HO_199000.out) hb); have n2_ := Aside0.mk (Kd.R_below (by (with_reducible repeat (first | apply Kd.R_alloc | apply Kd.R_drewN | apply Kd.R_drew)); exact HO_206000.out) hb); have n3_ := Aside0.mk (Kd.R_below (by (with_reducible repeat (first | apply Kd.R_alloc | apply Kd.R_drewN | apply Kd.R_drew)); exact HO221.out) hb); have n4_ := Aside0.mk (Kd.R_below (by (with_reducible repeat (first | apply Kd.R_alloc | apply Kd.R_drewN | apply Kd.R_drew)); exact HO226.out) hb); have n5_ := Aside0.mk (blk_below (g := gb179) (o := .cells #[.slice A0_0 l0_0.length c0_0, .int .i64 a0_1, .int .i64 a0_2] 24 (0, 0)) (by (with_reducible repeat (first | refine blk_drewN ?_ _ | refine blk_drew ?_ | refine blk_alloc ?_ _)); exact BK179.out) hb); have n6_ := Aside0.mk (blk_below (g := gb192) (o := .cells #[.slice Ao21 t186.length co21, .int .i64 t189, .int .i64 t190] 29 (0, 0)) (by (with_reducible repeat (first | refine blk_drewN ?_ _ | refine blk_drew ?_ | refine blk_alloc ?_ _)); exact BK192.out) hb); have n7_ := Aside0.mk (blk_below (g := gb198) (o := .cells #[.slice Ao28 t214.length co28, .int .i64 t196, .int .i64 t197] 29 (0, 0)) (by (with_reducible repeat (first | refine blk_drewN ?_ _ | refine blk_drew ?_ | refine blk_alloc ?_ _)); exact BK198.out) hb); have n8_ := Aside0.mk (blk_below (g := gb205) (o := .cells #[.slice Ao36 t199.length co36, .int .i64 t202, .int .i64 t203] 29 (0, 0)) (by (with_reducible repeat (first | refine blk_drewN ?_ _ | refine blk_drew ?_ | refine blk_alloc ?_ _)); exact BK205.out) hb); have n9_ := Aside0.mk (blk_below (g := gb230) (o := .cells #[.slice Ao116 t224.length co116, .int .i64 t227, .int .i64 t228] 29 (0, 0)) (by (with_reducible repeat (first | refine blk_drewN ?_ _ | refine blk_drew ?_ | refine blk_alloc ?_ _)); exact BK230.out) hb); have n10_ := Aside0.mk (below_step (by repeat (first | (with_reducible first | exact HB.out | apply below_alloc | apply pw_below_drewN | apply below_drew1 | refine below_set ?_ GE179.out | refine below_set ?_ GE192.out | refine below_set ?_ GE198.out | refine below_set ?_ GE205.out | refine below_set ?_ GE230.out) | exact HB.out)) hb); clear HO_193000; clear HO_199000; clear HO_206000; clear HO221; clear HO226; clear BK179; clear BK192; clear BK198; clear BK205; clear BK230; clear HB; have HO_193000 := n0_; have HO_199000 := n1_; have HO_206000 := n2_; have HO221 := n3_; have HO226 := n4_; have BK179 := n5_; have BK192 := n6_; have BK198 := n7_; have BK205 := n8_; have BK230 := n9_; have HB := n10_; clear n0_ n1_ n2_ n3_ n4_ n5_ n6_ n7_ n8_ n9_ n10_; (try clear hb); (try clear hb2); (try clear hk); (try clear hi)))
                          go_meet
                          case rel => exact ⟨_, (true), (by first | rfl | (simp; done) | (simp [*]; done)), H', ⟨by have := HJ11.out; have := HJ64.out; first | omega | exact Nat.le_refl _⟩, ⟨by (try simp only [hl199000_64]); (with_reducible repeat (first | apply Kd.R_alloc | apply Kd.R_drewN | apply Kd.R_drew)); exact Kd.R_mono HO_193000.out (fun _ hk => ⟨hk.1, ⟨hk.2.1, hk.2.2.2⟩⟩)⟩, ⟨by (try simp only [hl199000_64]); (with_reducible repeat (first | apply Kd.R_alloc | apply Kd.R_drewN | apply Kd.R_drew)); exact Kd.R_mono HO_199000.out (fun _ hk => ⟨hk.1, ⟨hk.2.1, hk.2.2.2⟩⟩)⟩, ⟨by (try simp only [hl199000_64]); (with_reducible repeat (first | apply Kd.R_alloc | apply Kd.R_drewN | apply Kd.R_drew)); exact Kd.R_mono HO_206000.out (fun _ hk => ⟨hk.1, ⟨hk.2.1, hk.2.2.2⟩⟩)⟩, ⟨by (try simp only [hl199000_64]); (with_reducible repeat (first | apply Kd.R_alloc | apply Kd.R_drewN | apply Kd.R_drew)); exact Kd.R_mono HO226.out (fun _ hk => ⟨hk.1, ⟨hk.2.1, hk.2.2.1⟩⟩)⟩, ⟨by (try simp only [hl199000_64]); (with_reducible repeat (first | refine blk_drewN ?_ _ | refine blk_drew ?_ | refine blk_alloc ?_ _)); exact BK179.out⟩, ⟨by (try simp only [hl199000_64]); (with_reducible repeat (first | refine blk_drewN ?_ _ | refine blk_drew ?_ | refine blk_alloc ?_ _)); exact BK192.out⟩, ⟨by (try simp only [hl199000_64]); (with_reducible repeat (first | refine blk_drewN ?_ _ | refine blk_drew ?_ | refine blk_alloc ?_ _)); exact BK198.out⟩, ⟨by (try simp only [hl199000_64]); (with_reducible repeat (first | refine blk_drewN ?_ _ | refine blk_drew ?_ | refine blk_alloc ?_ _)); exact BK205.out⟩, ⟨by (try simp only [hl199000_64]); (with_reducible repeat (first | refine blk_drewN ?_ _ | refine blk_drew ?_ | refine blk_alloc ?_ _)); exact BK230.out⟩, ⟨by repeat (first | (with_reducible first | exact HB.out | apply below_alloc | apply pw_below_drewN | apply below_drew1 | refine below_set ?_ GE179.out | refine below_set ?_ GE192.out | refine below_set ?_ GE198.out | refine below_set ?_ GE205.out | refine below_set ?_ GE230.out) | exact HB.out)⟩⟩
                      case rest =>
                        clear HC101
                        try clear c1
                        try clear c2
                        try clear p2
                        try clear c3
                        try clear c4
                        try clear c4b0
                        try clear c5
                        try clear c6
                        try clear c7
                        try clear c8
                        try clear c9
                        try clear c10
                        try clear c11
                        try clear c12
                        try clear c13
                        try clear c14
                        try clear c16
                        try clear c19
                        try clear c22
                        try clear c29
                        try clear c30
                        try clear c37
                        try clear c38
                        try clear c39
                        try clear c43
                        try clear c44
                        try clear c45
                        try clear c46
                        try clear c48
                        try clear c49
                        try clear c50
                        try clear c51
                        try clear c52
                        try clear c53
                        try clear c54
                        try clear c56
                        try clear c57
                        try clear c60
                        try clear c63
                        try clear c70
                        try clear c71
                        try clear c72
                        try clear c75
                        try clear c75b0
                        try clear c77
                        try clear c78
                        try clear c79
                        try clear c80
                        try clear c82
                        try clear c83
                        try clear c86
                        try clear c87
                        try clear c88
                        try clear c90
                        try clear c91
                        try clear c94
                        try clear c97
                        try clear c97b0
                        try clear c98
                        try clear c98b0
                        try clear c98b1
                        try clear c102
                        try clear c103
                        try clear c104
                        try clear c109
                        try clear c110
                        try clear c117
                        try clear c118
                        try clear c119
                        try clear c120
                        try clear c124
                        try clear c125
                        try clear c126
                        try clear c127
                        try clear c128
                        try clear c130
                        try clear c131
                        try clear c132
                        try clear c135
                        try clear c136
                        try clear c137
                        try clear c138
                        try clear c140
                        try clear c141
                        try clear c142
                        try clear hcz105_0
                        try clear hcz105_1
                        try clear hcz105_2
                        try clear hcz107_0
                        try clear hcz107_1
                        try clear hcz107_2
                        try clear hcz111_0
                        try clear hcz111_1
                        try clear hcz111_2
                        try clear hcz121_0
                        try clear hcz121_1
                        try clear hcz121_2
                        try clear hcz129_0
                        try clear hcz129_1
                        try clear hcz129_2
                        try clear hcz133_0
                        try clear hcz133_1
                        try clear hcz133_2
                        try clear hcz139_0
                        try clear hcz139_1
                        try clear hcz139_2
                        try clear hcz143_0
                        try clear hcz143_1
                        try clear hcz143_2
                        try clear hcz14_0
                        try clear hcz14_1
                        try clear hcz14_2
                        try clear hcz16_0
                        try clear hcz16_1
                        try clear hcz16_2
                        try clear hcz23_0
                        try clear hcz23_1
                        try clear hcz23_2
                        try clear hcz25_0
                        try clear hcz25_1
                        try clear hcz25_2
                        try clear hcz31_0
                        try clear hcz31_1
                        try clear hcz31_2
                        try clear hcz33_0
                        try clear hcz33_1
                        try clear hcz33_2
                        try clear hcz40_0
                        try clear hcz40_1
                        try clear hcz40_2
                        try clear hcz47_0
                        try clear hcz47_1
                        try clear hcz47_2
                        try clear hcz50_0
                        try clear hcz50_1
                        try clear hcz50_2
                        try clear hcz55_0
                        try clear hcz55_1
                        try clear hcz55_2
                        try clear hcz58_0
                        try clear hcz58_1
                        try clear hcz58_2
                        try clear hcz6_0
                        try clear hcz6_1
                        try clear hcz6_2
                        try clear hcz73_0
                        try clear hcz73_1
                        try clear hcz73_2
                        try clear hcz81_0
                        try clear hcz81_1
                        try clear hcz81_2
                        try clear hcz84_0
                        try clear hcz84_1
                        try clear hcz84_2
                        try clear hcz89_0
                        try clear hcz89_1
                        try clear hcz89_2
                        try clear hcz92_0
                        try clear hcz92_1
                        try clear hcz92_2
                        try clear hfz105_0
                        try clear hfz105_1
                        try clear hfz105_2
                        try clear hfz107_0
                        try clear hfz107_1
                        try clear hfz107_2
                        try clear hfz111_0
                        try clear hfz111_1
                        try clear hfz111_2
                        try clear hfz121_0
                        try clear hfz121_1
                        try clear hfz121_2
                        try clear hfz129_0
                        try clear hfz129_1
                        try clear hfz129_2
                        try clear hfz133_0
                        try clear hfz133_1
                        try clear hfz133_2
                        try clear hfz139_0
                        try clear hfz139_1
                        try clear hfz139_2
                        try clear hfz143_0
                        try clear hfz143_1
                        try clear hfz143_2
                        try clear hfz14_0
                        try clear hfz14_1
                        try clear hfz14_2
                        try clear hfz16_0
                        try clear hfz16_1
                        try clear hfz16_2
                        try clear hfz23_0
                        try clear hfz23_1
                        try clear hfz23_2
                        try clear hfz25_0
                        try clear hfz25_1
                        try clear hfz25_2
                        try clear hfz31_0
                        try clear hfz31_1
                        try clear hfz31_2
                        try clear hfz33_0
                        try clear hfz33_1
                        try clear hfz33_2
                        try clear hfz40_0
                        try clear hfz40_1
                        try clear hfz40_2
                        try clear hfz47_0
                        try clear hfz47_1
                        try clear hfz47_2
                        try clear hfz50_0
                        try clear hfz50_1
                        try clear hfz50_2
                        try clear hfz55_0
                        try clear hfz55_1
                        try clear hfz55_2
                        try clear hfz58_0
                        try clear hfz58_1
                        try clear hfz58_2
                        try clear hfz6_0
                        try clear hfz6_1
                        try clear hfz6_2
                        try clear hfz73_0
                        try clear hfz73_1
                        try clear hfz73_2
                        try clear hfz81_0
                        try clear hfz81_1
                        try clear hfz81_2
                        try clear hfz84_0
                        try clear hfz84_1
                        try clear hfz84_2
                        try clear hfz89_0
                        try clear hfz89_1
                        try clear hfz89_2
                        try clear hfz92_0
                        try clear hfz92_1
                        try clear hfz92_2
                        try clear p2
                        obtain ⟨kq, x92_100, rfl, HA, HJ100, HO_193000, HO_199000, HO_206000, HO_231000, BK179, BK192, BK198, BK205, BK230, HB⟩ := hcut
                        have hl206000_100 := (Kd.R_reads' HO_206000.out).1
                        rw [hl206000_100] at HO_206000
                        (try simp only [hl206000_100])
                        (try simp only [hl206000_100] at BK179)
                        (try simp only [hl206000_100] at BK192)
                        (try simp only [hl206000_100] at BK198)
                        (try simp only [hl206000_100] at BK205)
                        (try simp only [hl206000_100] at BK230)
                        (try simp only [hl206000_100] at HO_193000)
                        (try simp only [hl206000_100] at HO_199000)
                        (try simp only [hl206000_100] at HO_231000)
                        cases kq with
                        | zero => exact absurd HA.out (by simp [laws_FnExactPushRing.j2])
                        | succ kj100 =>
                          have H := HA.out
                          clear HA
                          simp only [laws_FnExactPushRing.j2] at H
                          by_cases c145 : x92_100 = true
                          · subst c145
                            have H1 : (some false) = some r := by rw [if_pos rfl] at H; exact H
                            clear H
                            have H := H1
                            clear H1
                            exact absurd ((Option.some.inj H).trans hT.out) (by decide)
                          · replace c145 := Bool.eq_false_iff.mpr c145
                            subst c145
                            have H1 : ((laws_heldRing.f kj100 t217 t202 t203 1).bind fun t232 => (if t232 < 0 then (some false) else (if t232 = t216 then (some true) else (some false)))) = some r := by rw [if_neg (show ¬ (false = true) by decide)] at H; exact H
                            clear H
                            have H := H1
                            clear H1
                            replace H := Option.bind_eq_some_iff.mp H
                            obtain ⟨t232, A1460, H⟩ := H
                            replace H : (if t232 < 0 then (some false) else (if t232 = t216 then (some true) else (some false))) = some r := H
                            have A146 := Aside0.mk A1460
                            clear A1460
                            by_cases c147 : t232 < 0
                            · rw [if_pos c147] at H
                              have c147b0 : decide (t232 < 0) = true := decide_eq_true c147
                              clear c147
                              exact absurd ((Option.some.inj H).trans hT.out) (by decide)
                            · rw [if_neg c147] at H
                              have c147b0 : decide (t232 < 0) = false := decide_eq_false c147
                              clear c147
                              by_cases c148 : t232 = t216
                              · rw [if_pos c148] at H
                                have c148b0 : (t232 == t216) = true := beq_iff_eq.mpr c148
                                have c148b1 : (t232 != t216) = false := bne_eq_false_iff_eq.mpr c148
                                clear c148
                                obtain rfl := Option.some.inj H
                                have hnb149 := NB205_179.out
                                have hnc149 := NB179_205.out
                                have hnb150 := NB205_192.out
                                have hnc150 := NB192_205.out
                                have hnb151 := NB205_198.out
                                have hnc151 := NB198_205.out
                                have hnb152 := NB205_230.out
                                have hnc152 := NB230_205.out
                                have hcz153_0 : wc.cell? ⟨gb205, 0, none⟩ = some (.slice Ao36 t217.length co36) := (blk_cell BK205.out 0).trans rfl
                                have hcz153_1 : wc.cell? ⟨gb205, 1, none⟩ = some (.int .i64 t202) := (blk_cell BK205.out 1).trans rfl
                                have hcz153_2 : wc.cell? ⟨gb205, 2, none⟩ = some (.int .i64 t203) := (blk_cell BK205.out 2).trans rfl
                                have hfz153_0 := blk_frozen BK205.out 0
                                have hfz153_1 := blk_frozen BK205.out 1
                                have hfz153_2 := blk_frozen BK205.out 2
                                go_wp2_with (first | ((with_reducible refine gate_callee (f := 52) rfl ?_); refine goesL_ (some 95) rfl rfl Try.func52 (by kernel_rfl) rfl #[.agg #[.slice Ao36 t217.length co36, .int .i64 t202, .int .i64 t203], .int .i64 1] rfl (by (try simp only [List.map_toArray, List.map_cons, List.map_nil]); first | done | rfl | (simp only [List.length_drop, List.length_take]; rfl)) ?_; (with_reducible refine (laws_heldRing.calls kj100 _ _ t217 t202 t203 1 t232 _ ?side1 ?side2 A146.out).mono ?_); (case side1 => repeat (first | exact (Kd.R_reads' HO_206000.out).2.2 | (with_reducible refine Kd.C_alloc ?_ _) | (with_reducible refine Kd.C_drewN ?_ _) | (with_reducible refine Kd.C_drew ?_))); (case side2 => exact (Kd.R_reads' HO_206000.out).2.1); rintro e w154 ⟨rfl, hb⟩; refine ⟨_, rfl, ?_⟩; have n0_ := Aside0.mk (Kd.R_below (by (with_reducible repeat (first | apply Kd.R_alloc | apply Kd.R_drewN | apply Kd.R_drew)); exact HO_193000.out) hb); have n1_ := Aside0.mk (Kd.R_below (by (with_reducible repeat (first | apply Kd.R_alloc | apply Kd.R_drewN | apply Kd.R_drew)); exact HO_199000.out) hb); have n2_ := Aside0.mk (Kd.R_below (by (with_reducible repeat (first | apply Kd.R_alloc | apply Kd.R_drewN | apply Kd.R_drew)); exact HO_206000.out) hb); have n3_ := Aside0.mk (Kd.R_below (by (with_reducible repeat (first | apply Kd.R_alloc | apply Kd.R_drewN | apply Kd.R_drew)); exact HO_231000.out) hb); have n4_ := Aside0.mk (blk_below (g := gb179) (o := .cells #[.slice A0_0 l0_0.length c0_0, .int .i64 a0_1, .int .i64 a0_2] 24 (0, 0)) (by (with_reducible repeat (first | refine blk_drewN ?_ _ | refine blk_drew ?_ | refine blk_alloc ?_ _)); exact BK179.out) hb); have n5_ := Aside0.mk (blk_below (g := gb192) (o := .cells #[.slice Ao21 t186.length co21, .int .i64 t189, .int .i64 t190] 29 (0, 0)) (by (with_reducible repeat (first | refine blk_drewN ?_ _ | refine blk_drew ?_ | refine blk_alloc ?_ _)); exact BK192.out) hb); have n6_ := Aside0.mk (blk_below (g := gb198) (o := .cells #[.slice Ao28 t214.length co28, .int .i64 t196, .int .i64 t197] 29 (0, 0)) (by (with_reducible repeat (first | refine blk_drewN ?_ _ | refine blk_drew ?_ | refine blk_alloc ?_ _)); exact BK198.out) hb); have n7_ := Aside0.mk (blk_below (g := gb205) (o := .cells #[.slice Ao36 t217.length co36, .int .i64 t202, .int .i64 t203] 29 (0, 0)) (by (with_reducible repeat (first | refine blk_drewN ?_ _ | refine blk_drew ?_ | refine blk_alloc ?_ _)); exact BK205.out) hb); have n8_ := Aside0.mk (blk_below (g := gb230) (o := .cells #[.slice Ao116 t224.length co116, .int .i64 t227, .int .i64 t228] 29 (0, 0)) (by (with_reducible repeat (first | refine blk_drewN ?_ _ | refine blk_drew ?_ | refine blk_alloc ?_ _)); exact BK230.out) hb); have n9_ := Aside0.mk (below_step (by repeat (first | (with_reducible first | exact HB.out | apply below_alloc | apply pw_below_drewN | apply below_drew1 | refine below_set ?_ GE179.out | refine below_set ?_ GE192.out | refine below_set ?_ GE198.out | refine below_set ?_ GE205.out | refine below_set ?_ GE230.out) | exact HB.out)) hb); clear HO_193000; clear HO_199000; clear HO_206000; clear HO_231000; clear BK179; clear BK192; clear BK198; clear BK205; clear BK230; clear HB; have HO_193000 := n0_; have HO_199000 := n1_; have HO_206000 := n2_; have HO_231000 := n3_; have BK179 := n4_; have BK192 := n5_; have BK198 := n6_; have BK205 := n7_; have BK230 := n8_; have HB := n9_; clear n0_ n1_ n2_ n3_ n4_ n5_ n6_ n7_ n8_ n9_; (try clear hb); (try clear hb2); (try clear hk); (try clear hi)))
                                go_ret
                                exact ⟨by first | rfl | (simp [errW_none, errW_some] <;> rfl) | (simp [*, errW_none, errW_some] <;> rfl), by repeat (first | (with_reducible first | exact HB.out | apply below_alloc | apply pw_below_drewN | apply below_drew1 | refine below_set ?_ GE179.out | refine below_set ?_ GE192.out | refine below_set ?_ GE198.out | refine below_set ?_ GE205.out | refine below_set ?_ GE230.out) | exact HB.out)⟩
                              · rw [if_neg c148] at H
                                have c148b0 : (t232 == t216) = false := beq_eq_false_iff_ne.mpr c148
                                have c148b1 : (t232 != t216) = true := bne_iff_ne.mpr c148
                                exact absurd ((Option.some.inj H).trans hT.out) (by decide)
                    · rw [if_neg c98] at H
                      have c98b0 : (t218 == t216) = false := beq_eq_false_iff_ne.mpr c98
                      have c98b1 : (t218 != t216) = true := bne_iff_ne.mpr c98
                      exact absurd ((Option.some.inj H).trans hT.out) (by decide)
          · replace c63 := Bool.eq_false_iff.mpr c63
            subst c63
            have H1 : (some false) = some r := by rw [if_neg (show ¬ (false = true) by decide)] at H; exact H
            clear H
            have H := H1
            clear H1
            exact absurd ((Option.some.inj H).trans hT.out) (by decide)

end Go.Proofs.Ytoeiadanmfajoaa.QFnExactPushRing
