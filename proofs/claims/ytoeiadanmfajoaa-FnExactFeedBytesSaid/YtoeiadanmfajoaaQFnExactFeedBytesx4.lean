/- The machine side of a law: Lean functions with the Go functions' answers and the walks that show it. No condition. -/
import Derived.Test.YtoeiadanmfajoaaQFnExactFeedBytesx0
import Derived.Test.YtoeiadanmfajoaaQFnExactFeedBytesx1
import Derived.Test.YtoeiadanmfajoaaQFnExactFeedBytesx2
import Derived.Test.YtoeiadanmfajoaaQFnExactFeedBytesx3
namespace Go.Proofs.Ytoeiadanmfajoaa.QFnExactFeedBytes
open Go.RowKit Go.Proofs.YtoeiadanmfajoaaW.PrintWords Go.Proofs.YtoeiadanmfajoaaW.PrintLast Go.Proofs.YtoeiadanmfajoaaW.PrintMore
attribute [local go_sem] max2_int min2_int max_two min_two max_three min_three max_four min_four   -- for this text's walks alone
set_option linter.unusedVariables false
set_option linter.unusedSimpArgs false

/-! ### laws_FnExactFeedBytes: function 6 -/
mutual
def laws_FnExactFeedBytes.j0 : Nat → List Int → Bool → List Int → Bool → Bool → List Int → Bool → List Int → Bool → List Int → Bool → List Int → Bool → Option (Bool)
  | 0, _, _, _, _, _, _, _, _, _, _, _, _, _ => none
  | k + 1, x1, x7, x9, x11, x51, x175000, x175001, x189000, x189001, x194000, x194001, x203000, x203001 => if x51 = true then (some false) else ((laws_toDecoder.f k x175000 x175001).bind fun bt204 => ((laws_eqDecoder.f k x194000 x194001 bt204.1 bt204.2).bind fun t208 => (if t208 = true then ((laws_toByteS.f k x1).bind fun t209 => ((laws_eqByteS.f k x9 t209).bind fun t212 => (if t212 = true then ((laws_markDecoder.f k x194000 x194001 1).bind fun bt213 => ((laws_markByteS.f k x9 bt213.1).bind fun bt215 => (if bt215.1 < 0 then (laws_FnExactFeedBytes.j1 k x1 x7 true x175000 x175001 x189000 x189001 x203000 x203001) else ((laws_eqDecoder.f k x203000 x203001 x189000 x189001).bind fun t217 => (if t217 = true then (laws_FnExactFeedBytes.j1 k x1 x7 (x11 != x7) x175000 x175001 x189000 x189001 x203000 x203001) else (laws_FnExactFeedBytes.j1 k x1 x7 true x175000 x175001 x189000 x189001 x203000 x203001)))))) else (some false)))) else (some false))))
def laws_FnExactFeedBytes.j1 : Nat → List Int → Bool → Bool → List Int → Bool → List Int → Bool → List Int → Bool → Option (Bool)
  | 0, _, _, _, _, _, _, _, _, _ => none
  | k + 1, x1, x7, x80, x175000, x175001, x189000, x189001, x203000, x203001 => if x80 = true then (some false) else ((laws_markDecoder.f k x203000 x203001 1).bind fun bt218 => ((laws_heldDecoder.f k bt218.2 x203001 1).bind fun t220 => (if t220 < 0 then (some false) else (if t220 = bt218.1 then ((laws_toDecoder.f k x175000 x175001).bind fun bt221 => ((laws_toByteS.f k x1).bind fun t225 => ((impl_FeedBytes.f bt221.1 bt221.2 t225).bind fun bt228 => ((laws_eqDecoder.f k bt228.1 bt228.2.1 x189000 x189001).bind fun t234 => (if t234 = true then (laws_FnExactFeedBytes.j2 k bt218.1 (bt228.2.2 != x7) bt218.2 x203001) else (laws_FnExactFeedBytes.j2 k bt218.1 true bt218.2 x203001)))))) else (some false)))))
def laws_FnExactFeedBytes.j2 : Nat → Int → Bool → List Int → Bool → Option (Bool)
  | 0, _, _, _, _ => none
  | k + 1, x13, x108, x203000, x203001 => if x108 = true then (some false) else ((laws_heldDecoder.f k x203000 x203001 1).bind fun t235 => (if t235 < 0 then (some false) else (if t235 = x13 then (some true) else (some false))))
end
def laws_FnExactFeedBytes.f (k : Nat) (l0_0 : List Int) (a0_1 : Bool) (l1 : List Int) : Option (Bool) := if (l1.length : Int) > 1048576 then (some true) else ((laws_szDecoder.f l0_0 a0_1 1048576).bind fun t175 => (if t175 < 0 then (some true) else ((laws_toDecoder.f k l0_0 a0_1).bind fun bt176 => ((laws_toByteS.f k l1).bind fun t180 => ((spec_FeedBytes.f k bt176.1 bt176.2 t180).bind fun bt183 => ((laws_toDecoder.f k l0_0 a0_1).bind fun bt189 => ((laws_toByteS.f k l1).bind fun t194 => ((impl_FeedBytes.f bt189.1 bt189.2 t194).bind fun bt197 => ((laws_eqDecoder.f k bt197.1 bt197.2.1 bt183.1 bt183.2.1).bind fun t203 => (if t203 = true then (laws_FnExactFeedBytes.j0 k l1 bt183.2.2 t194 bt197.2.2 (bt197.2.2 != bt183.2.2) l0_0 a0_1 bt183.1 bt183.2.1 bt189.1 bt189.2 bt197.1 bt197.2.1) else (laws_FnExactFeedBytes.j0 k l1 bt183.2.2 t194 bt197.2.2 true l0_0 a0_1 bt183.1 bt183.2.1 bt189.1 bt189.2 bt197.1 bt197.2.1)))))))))))
theorem laws_FnExactFeedBytes.mono_l : ∀ k, (∀ y0 y1 y2 y3 y4 y5 y6 y7 y8 y9 y10 y11 y12, LeO (laws_FnExactFeedBytes.j0 k y0 y1 y2 y3 y4 y5 y6 y7 y8 y9 y10 y11 y12) (laws_FnExactFeedBytes.j0 (k + 1) y0 y1 y2 y3 y4 y5 y6 y7 y8 y9 y10 y11 y12)) ∧ (∀ y0 y1 y2 y3 y4 y5 y6 y7 y8, LeO (laws_FnExactFeedBytes.j1 k y0 y1 y2 y3 y4 y5 y6 y7 y8) (laws_FnExactFeedBytes.j1 (k + 1) y0 y1 y2 y3 y4 y5 y6 y7 y8)) ∧ (∀ y0 y1 y2 y3, LeO (laws_FnExactFeedBytes.j2 k y0 y1 y2 y3) (laws_FnExactFeedBytes.j2 (k + 1) y0 y1 y2 y3))
  | 0 => ⟨fun _ _ _ _ _ _ _ _ _ _ _ _ _ r h => by simp [laws_FnExactFeedBytes.j0] at h, fun _ _ _ _ _ _ _ _ _ r h => by simp [laws_FnExactFeedBytes.j1] at h, fun _ _ _ _ r h => by simp [laws_FnExactFeedBytes.j2] at h⟩
  | k + 1 => by
    obtain ⟨ih0, ih1, ih2⟩ := laws_FnExactFeedBytes.mono_l k
    refine ⟨?_, ?_, ?_⟩
    · intro y0 y1 y2 y3 y4 y5 y6 y7 y8 y9 y10 y11 y12
      unfold laws_FnExactFeedBytes.j0
      repeat' first
      | (with_reducible exact ih0 _ _ _ _ _ _ _ _ _ _ _ _ _)
      | (with_reducible exact ih1 _ _ _ _ _ _ _ _ _)
      | (with_reducible exact ih2 _ _ _ _)
      | (with_reducible exact laws_eqByteS.mono _ _ _)
      | (with_reducible exact laws_eqDecoder.mono _ _ _ _ _)
      | (with_reducible exact laws_heldDecoder.mono _ _ _ _)
      | (with_reducible exact laws_markByteS.mono _ _ _)
      | (with_reducible exact laws_markDecoder.mono _ _ _ _)
      | (with_reducible exact laws_toByteS.mono _ _)
      | (with_reducible exact laws_toDecoder.mono _ _ _)
      | (with_reducible exact spec_FeedBytes.mono _ _ _ _)
      | (with_reducible exact LeO.refl _)
      | (with_reducible exact LeO.none _)
      | (with_reducible refine LeO.ite ?_ ?_)
      | (with_reducible refine LeO.bind ?_ (fun _ => ?_))
      | exact ih0 _ _ _ _ _ _ _ _ _ _ _ _ _
      | exact ih1 _ _ _ _ _ _ _ _ _
      | exact ih2 _ _ _ _
      | exact laws_eqByteS.mono _ _ _
      | exact laws_eqDecoder.mono _ _ _ _ _
      | exact laws_heldDecoder.mono _ _ _ _
      | exact laws_markByteS.mono _ _ _
      | exact laws_markDecoder.mono _ _ _ _
      | exact laws_toByteS.mono _ _
      | exact laws_toDecoder.mono _ _ _
      | exact spec_FeedBytes.mono _ _ _ _
      | exact LeO.none _
      | refine LeO.ite ?_ ?_
      | refine LeO.bind ?_ (fun _ => ?_)
    · intro y0 y1 y2 y3 y4 y5 y6 y7 y8
      unfold laws_FnExactFeedBytes.j1
      repeat' first
      | (with_reducible exact ih0 _ _ _ _ _ _ _ _ _ _ _ _ _)
      | (with_reducible exact ih1 _ _ _ _ _ _ _ _ _)
      | (with_reducible exact ih2 _ _ _ _)
      | (with_reducible exact laws_eqByteS.mono _ _ _)
      | (with_reducible exact laws_eqDecoder.mono _ _ _ _ _)
      | (with_reducible exact laws_heldDecoder.mono _ _ _ _)
      | (with_reducible exact laws_markByteS.mono _ _ _)
      | (with_reducible exact laws_markDecoder.mono _ _ _ _)
      | (with_reducible exact laws_toByteS.mono _ _)
      | (with_reducible exact laws_toDecoder.mono _ _ _)
      | (with_reducible exact spec_FeedBytes.mono _ _ _ _)
      | (with_reducible exact LeO.refl _)
      | (with_reducible exact LeO.none _)
      | (with_reducible refine LeO.ite ?_ ?_)
      | (with_reducible refine LeO.bind ?_ (fun _ => ?_))
      | exact ih0 _ _ _ _ _ _ _ _ _ _ _ _ _
      | exact ih1 _ _ _ _ _ _ _ _ _
      | exact ih2 _ _ _ _
      | exact laws_eqByteS.mono _ _ _
      | exact laws_eqDecoder.mono _ _ _ _ _
      | exact laws_heldDecoder.mono _ _ _ _
      | exact laws_markByteS.mono _ _ _
      | exact laws_markDecoder.mono _ _ _ _
      | exact laws_toByteS.mono _ _
      | exact laws_toDecoder.mono _ _ _
      | exact spec_FeedBytes.mono _ _ _ _
      | exact LeO.none _
      | refine LeO.ite ?_ ?_
      | refine LeO.bind ?_ (fun _ => ?_)
    · intro y0 y1 y2 y3
      unfold laws_FnExactFeedBytes.j2
      repeat' first
      | (with_reducible exact ih0 _ _ _ _ _ _ _ _ _ _ _ _ _)
      | (with_reducible exact ih1 _ _ _ _ _ _ _ _ _)
      | (with_reducible exact ih2 _ _ _ _)
      | (with_reducible exact laws_eqByteS.mono _ _ _)
      | (with_reducible exact laws_eqDecoder.mono _ _ _ _ _)
      | (with_reducible exact laws_heldDecoder.mono _ _ _ _)
      | (with_reducible exact laws_markByteS.mono _ _ _)
      | (with_reducible exact laws_markDecoder.mono _ _ _ _)
      | (with_reducible exact laws_toByteS.mono _ _)
      | (with_reducible exact laws_toDecoder.mono _ _ _)
      | (with_reducible exact spec_FeedBytes.mono _ _ _ _)
      | (with_reducible exact LeO.refl _)
      | (with_reducible exact LeO.none _)
      | (with_reducible refine LeO.ite ?_ ?_)
      | (with_reducible refine LeO.bind ?_ (fun _ => ?_))
      | exact ih0 _ _ _ _ _ _ _ _ _ _ _ _ _
      | exact ih1 _ _ _ _ _ _ _ _ _
      | exact ih2 _ _ _ _
      | exact laws_eqByteS.mono _ _ _
      | exact laws_eqDecoder.mono _ _ _ _ _
      | exact laws_heldDecoder.mono _ _ _ _
      | exact laws_markByteS.mono _ _ _
      | exact laws_markDecoder.mono _ _ _ _
      | exact laws_toByteS.mono _ _
      | exact laws_toDecoder.mono _ _ _
      | exact spec_FeedBytes.mono _ _ _ _
      | exact LeO.none _
      | refine LeO.ite ?_ ?_
      | refine LeO.bind ?_ (fun _ => ?_)
theorem laws_FnExactFeedBytes.mono : ∀ a0 a1 a2 k, LeO (laws_FnExactFeedBytes.f k a0 a1 a2) (laws_FnExactFeedBytes.f (k + 1) a0 a1 a2) := by
  intro a0 a1 a2 k
  obtain ⟨ih0, ih1, ih2⟩ := laws_FnExactFeedBytes.mono_l k
  unfold laws_FnExactFeedBytes.f
  repeat' first
      | (with_reducible exact ih0 _ _ _ _ _ _ _ _ _ _ _ _ _)
      | (with_reducible exact ih1 _ _ _ _ _ _ _ _ _)
      | (with_reducible exact ih2 _ _ _ _)
      | (with_reducible exact laws_eqByteS.mono _ _ _)
      | (with_reducible exact laws_eqDecoder.mono _ _ _ _ _)
      | (with_reducible exact laws_heldDecoder.mono _ _ _ _)
      | (with_reducible exact laws_markByteS.mono _ _ _)
      | (with_reducible exact laws_markDecoder.mono _ _ _ _)
      | (with_reducible exact laws_toByteS.mono _ _)
      | (with_reducible exact laws_toDecoder.mono _ _ _)
      | (with_reducible exact spec_FeedBytes.mono _ _ _ _)
      | (with_reducible exact LeO.refl _)
      | (with_reducible exact LeO.none _)
      | (with_reducible refine LeO.ite ?_ ?_)
      | (with_reducible refine LeO.bind ?_ (fun _ => ?_))
      | exact ih0 _ _ _ _ _ _ _ _ _ _ _ _ _
      | exact ih1 _ _ _ _ _ _ _ _ _
      | exact ih2 _ _ _ _
      | exact laws_eqByteS.mono _ _ _
      | exact laws_eqDecoder.mono _ _ _ _ _
      | exact laws_heldDecoder.mono _ _ _ _
      | exact laws_markByteS.mono _ _ _
      | exact laws_markDecoder.mono _ _ _ _
      | exact laws_toByteS.mono _ _
      | exact laws_toDecoder.mono _ _ _
      | exact spec_FeedBytes.mono _ _ _ _
      | exact LeO.none _
      | refine LeO.ite ?_ ?_
      | refine LeO.bind ?_ (fun _ => ?_)
set_option maxHeartbeats 8000000 in
set_option maxRecDepth 100000 in
theorem laws_FnExactFeedBytes.calls (k : Nat) (A0_0 : Option Addr) (c0_0 : Nat) (l0_0 : List Int) (a0_1 : Bool) (A1 : Option Addr) (c1 : Nat) (l1 : List Int) (r : Bool) (w : World) (hr0_0 : Kd.C (Kd.int .u8) w A0_0 l0_0.length l0_0) (hc0_0 : l0_0.length ≤ c0_0) (hr1 : Kd.C (Kd.int .u8) w A1 l1.length l1) (hc1 : l1.length ≤ c1) (hT : Aside0 (r = true)) (h : laws_FnExactFeedBytes.f k l0_0 a0_1 l1 = some r) :
    Calls Try.prog 6 #[.agg #[.slice A0_0 l0_0.length c0_0, .bool a0_1], .slice A1 l1.length c1] w fun e w' => e = .returned (.bool r) ∧ Below w.heap.size w w' := by
  have hu51 := Try.underlying51
  have hu53 := Try.underlying53
  have HR0_0 := Aside0.mk hr0_0
  have HC0_0 := Aside0.mk hc0_0
  clear hr0_0 hc0_0
  have HR1 := Aside0.mk hr1
  have HC1 := Aside0.mk hc1
  clear hr1 hc1
  have HB := Aside0.mk (Below.refl w.heap.size w)
  have H : (if (l1.length : Int) > 1048576 then (some true) else ((laws_szDecoder.f l0_0 a0_1 1048576).bind fun t175 => (if t175 < 0 then (some true) else ((laws_toDecoder.f k l0_0 a0_1).bind fun bt176 => ((laws_toByteS.f k l1).bind fun t180 => ((spec_FeedBytes.f k bt176.1 bt176.2 t180).bind fun bt183 => ((laws_toDecoder.f k l0_0 a0_1).bind fun bt189 => ((laws_toByteS.f k l1).bind fun t194 => ((impl_FeedBytes.f bt189.1 bt189.2 t194).bind fun bt197 => ((laws_eqDecoder.f k bt197.1 bt197.2.1 bt183.1 bt183.2.1).bind fun t203 => (if t203 = true then (laws_FnExactFeedBytes.j0 k l1 bt183.2.2 t194 bt197.2.2 (bt197.2.2 != bt183.2.2) l0_0 a0_1 bt183.1 bt183.2.1 bt189.1 bt189.2 bt197.1 bt197.2.1) else (laws_FnExactFeedBytes.j0 k l1 bt183.2.2 t194 bt197.2.2 true l0_0 a0_1 bt183.1 bt183.2.1 bt189.1 bt189.2 bt197.1 bt197.2.1)))))))))))) = some r := h
  clear h
  by_cases c3 : (l1.length : Int) > 1048576
  · rw [if_pos c3] at H
    have c3b0 : decide (1048576 < (l1.length : Int)) = true := decide_eq_true c3
    have c3b1 : decide (1048576 < l1.length) = true := decide_eq_true (by omega)
    clear c3
    obtain rfl := Option.some.inj H
    go_enter Try.func6, Try.ntmps6
    go_wp2_with (first | ((with_reducible refine gate_dst (N := 2) rfl ?_); refine box_event ?hg (N := 2) ?hd (cs := #[.slice A0_0 l0_0.length c0_0, .bool a0_1]) (t := 51) ?hr ?_; (case hd => rfl); (case hg => rfl); (case hr => first | (go_simp; done) | (go_simp; rfl)); intro gb174 hg w4 hbox hb; have n0_ := Aside0.mk (below_step (by repeat (first | (with_reducible first | exact HB.out | apply below_alloc | apply pw_below_drewN | apply below_drew1) | exact HB.out)) hb); have n1_ := Aside0.mk (hbox); have n2_ := Aside0.mk ((by rw [hg]; exact (below_size (by repeat (first | (with_reducible first | exact HB.out | apply below_alloc | apply pw_below_drewN | apply below_drew1) | exact HB.out))) : w.heap.size ≤ gb174)); have n3_ := Aside0.mk ((by rw [hg]; exact (below_size (by repeat (first | (with_reducible first | exact HB.out | apply below_alloc | apply pw_below_drewN | apply below_drew1) | exact HB.out))) : w.heap.size ≤ gb174)); clear HB; have HB := n0_; have BK174 := n1_; have GW174 := n2_; have GE174 := n3_; clear n0_ n1_ n2_ n3_; clear hb hbox hg))
    go_ret
    exact ⟨by first | rfl | (simp [errW_none, errW_some] <;> rfl) | (simp [*, errW_none, errW_some] <;> rfl), by repeat (first | (with_reducible first | exact HB.out | apply below_alloc | apply pw_below_drewN | apply below_drew1 | refine below_set ?_ GE174.out) | exact HB.out)⟩
  · rw [if_neg c3] at H
    have c3b0 : decide (1048576 < (l1.length : Int)) = false := decide_eq_false c3
    have c3b1 : decide (1048576 < l1.length) = false := decide_eq_false (by omega)
    clear c3
    replace H := Option.bind_eq_some_iff.mp H
    obtain ⟨t175, A50, H⟩ := H
    replace H : (if t175 < 0 then (some true) else ((laws_toDecoder.f k l0_0 a0_1).bind fun bt176 => ((laws_toByteS.f k l1).bind fun t180 => ((spec_FeedBytes.f k bt176.1 bt176.2 t180).bind fun bt183 => ((laws_toDecoder.f k l0_0 a0_1).bind fun bt189 => ((laws_toByteS.f k l1).bind fun t194 => ((impl_FeedBytes.f bt189.1 bt189.2 t194).bind fun bt197 => ((laws_eqDecoder.f k bt197.1 bt197.2.1 bt183.1 bt183.2.1).bind fun t203 => (if t203 = true then (laws_FnExactFeedBytes.j0 k l1 bt183.2.2 t194 bt197.2.2 (bt197.2.2 != bt183.2.2) l0_0 a0_1 bt183.1 bt183.2.1 bt189.1 bt189.2 bt197.1 bt197.2.1) else (laws_FnExactFeedBytes.j0 k l1 bt183.2.2 t194 bt197.2.2 true l0_0 a0_1 bt183.1 bt183.2.1 bt189.1 bt189.2 bt197.1 bt197.2.1)))))))))) = some r := H
    have A5 := Aside0.mk A50
    clear A50
    by_cases c6 : t175 < 0
    · rw [if_pos c6] at H
      have c6b0 : decide (t175 < 0) = true := decide_eq_true c6
      clear c6
      obtain rfl := Option.some.inj H
      go_enter Try.func6, Try.ntmps6
      go_wp2_with (first | ((with_reducible refine gate_dst (N := 2) rfl ?_); refine box_event ?hg (N := 2) ?hd (cs := #[.slice A0_0 l0_0.length c0_0, .bool a0_1]) (t := 51) ?hr ?_; (case hd => rfl); (case hg => rfl); (case hr => first | (go_simp; done) | (go_simp; rfl)); intro gb174 hg w7 hbox hb; have n0_ := Aside0.mk (below_step (by repeat (first | (with_reducible first | exact HB.out | apply below_alloc | apply pw_below_drewN | apply below_drew1) | exact HB.out)) hb); have n1_ := Aside0.mk (hbox); have n2_ := Aside0.mk ((by rw [hg]; exact (below_size (by repeat (first | (with_reducible first | exact HB.out | apply below_alloc | apply pw_below_drewN | apply below_drew1) | exact HB.out))) : w.heap.size ≤ gb174)); have n3_ := Aside0.mk ((by rw [hg]; exact (below_size (by repeat (first | (with_reducible first | exact HB.out | apply below_alloc | apply pw_below_drewN | apply below_drew1) | exact HB.out))) : w.heap.size ≤ gb174)); clear HB; have HB := n0_; have BK174 := n1_; have GW174 := n2_; have GE174 := n3_; clear n0_ n1_ n2_ n3_; clear hb hbox hg; have hcz8_0 : w7.cell? ⟨gb174, 0, none⟩ = some (.slice A0_0 l0_0.length c0_0) := (blk_cell BK174.out 0).trans rfl; have hcz8_1 : w7.cell? ⟨gb174, 1, none⟩ = some (.bool a0_1) := (blk_cell BK174.out 1).trans rfl; have hfz8_0 := blk_frozen BK174.out 0; have hfz8_1 := blk_frozen BK174.out 1) | ((with_reducible refine gate_callee (f := 30) rfl ?_); refine goesL_ (some 22) rfl rfl Try.func30 (by kernel_rfl) rfl #[.agg #[.slice A0_0 l0_0.length c0_0, .bool a0_1], .int .i64 1048576] rfl (by (try simp only [List.map_toArray, List.map_cons, List.map_nil]); first | done | rfl | (simp only [List.length_drop, List.length_take]; rfl)) ?_; (with_reducible refine (laws_szDecoder.calls _ _ l0_0 a0_1 1048576 t175 _ ?side1 ?side2 A5.out).mono ?_); (case side1 => repeat (first | exact (Kd.C_below HR0_0.out HB.out) | (with_reducible refine Kd.C_alloc ?_ _) | (with_reducible refine Kd.C_drewN ?_ _) | (with_reducible refine Kd.C_drew ?_))); (case side2 => exact HC0_0.out); rintro e w9 ⟨rfl, hb⟩; refine ⟨_, rfl, ?_⟩; have n0_ := Aside0.mk (blk_below (g := gb174) (o := .cells #[.slice A0_0 l0_0.length c0_0, .bool a0_1] 51 (0, 0)) (by (with_reducible repeat (first | refine blk_drewN ?_ _ | refine blk_drew ?_ | refine blk_alloc ?_ _)); exact BK174.out) hb); have n1_ := Aside0.mk (below_step (by repeat (first | (with_reducible first | exact HB.out | apply below_alloc | apply pw_below_drewN | apply below_drew1 | refine below_set ?_ GE174.out) | exact HB.out)) hb); clear BK174; clear HB; have BK174 := n0_; have HB := n1_; clear n0_ n1_; (try clear hb); (try clear hb2); (try clear hk); (try clear hi)))
      go_ret
      exact ⟨by first | rfl | (simp [errW_none, errW_some] <;> rfl) | (simp [*, errW_none, errW_some] <;> rfl), by repeat (first | (with_reducible first | exact HB.out | apply below_alloc | apply pw_below_drewN | apply below_drew1 | refine below_set ?_ GE174.out) | exact HB.out)⟩
    · rw [if_neg c6] at H
      have c6b0 : decide (t175 < 0) = false := decide_eq_false c6
      clear c6
      replace H := Option.bind_eq_some_iff.mp H
      obtain ⟨⟨t176, t179⟩, A100, H⟩ := H
      replace H : ((laws_toByteS.f k l1).bind fun t180 => ((spec_FeedBytes.f k t176 t179 t180).bind fun bt183 => ((laws_toDecoder.f k l0_0 a0_1).bind fun bt189 => ((laws_toByteS.f k l1).bind fun t194 => ((impl_FeedBytes.f bt189.1 bt189.2 t194).bind fun bt197 => ((laws_eqDecoder.f k bt197.1 bt197.2.1 bt183.1 bt183.2.1).bind fun t203 => (if t203 = true then (laws_FnExactFeedBytes.j0 k l1 bt183.2.2 t194 bt197.2.2 (bt197.2.2 != bt183.2.2) l0_0 a0_1 bt183.1 bt183.2.1 bt189.1 bt189.2 bt197.1 bt197.2.1) else (laws_FnExactFeedBytes.j0 k l1 bt183.2.2 t194 bt197.2.2 true l0_0 a0_1 bt183.1 bt183.2.1 bt189.1 bt189.2 bt197.1 bt197.2.1)))))))) = some r := H
      have A10 := Aside0.mk A100
      clear A100
      replace H := Option.bind_eq_some_iff.mp H
      obtain ⟨t180, A110, H⟩ := H
      replace H : ((spec_FeedBytes.f k t176 t179 t180).bind fun bt183 => ((laws_toDecoder.f k l0_0 a0_1).bind fun bt189 => ((laws_toByteS.f k l1).bind fun t194 => ((impl_FeedBytes.f bt189.1 bt189.2 t194).bind fun bt197 => ((laws_eqDecoder.f k bt197.1 bt197.2.1 bt183.1 bt183.2.1).bind fun t203 => (if t203 = true then (laws_FnExactFeedBytes.j0 k l1 bt183.2.2 t194 bt197.2.2 (bt197.2.2 != bt183.2.2) l0_0 a0_1 bt183.1 bt183.2.1 bt189.1 bt189.2 bt197.1 bt197.2.1) else (laws_FnExactFeedBytes.j0 k l1 bt183.2.2 t194 bt197.2.2 true l0_0 a0_1 bt183.1 bt183.2.1 bt189.1 bt189.2 bt197.1 bt197.2.1))))))) = some r := H
      have A11 := Aside0.mk A110
      clear A110
      replace H := Option.bind_eq_some_iff.mp H
      obtain ⟨⟨t183, t186, t187⟩, A120, H⟩ := H
      replace H : ((laws_toDecoder.f k l0_0 a0_1).bind fun bt189 => ((laws_toByteS.f k l1).bind fun t194 => ((impl_FeedBytes.f bt189.1 bt189.2 t194).bind fun bt197 => ((laws_eqDecoder.f k bt197.1 bt197.2.1 t183 t186).bind fun t203 => (if t203 = true then (laws_FnExactFeedBytes.j0 k l1 t187 t194 bt197.2.2 (bt197.2.2 != t187) l0_0 a0_1 t183 t186 bt189.1 bt189.2 bt197.1 bt197.2.1) else (laws_FnExactFeedBytes.j0 k l1 t187 t194 bt197.2.2 true l0_0 a0_1 t183 t186 bt189.1 bt189.2 bt197.1 bt197.2.1)))))) = some r := H
      have A12 := Aside0.mk A120
      clear A120
      replace H := Option.bind_eq_some_iff.mp H
      obtain ⟨⟨t189, t192⟩, A130, H⟩ := H
      replace H : ((laws_toByteS.f k l1).bind fun t194 => ((impl_FeedBytes.f t189 t192 t194).bind fun bt197 => ((laws_eqDecoder.f k bt197.1 bt197.2.1 t183 t186).bind fun t203 => (if t203 = true then (laws_FnExactFeedBytes.j0 k l1 t187 t194 bt197.2.2 (bt197.2.2 != t187) l0_0 a0_1 t183 t186 t189 t192 bt197.1 bt197.2.1) else (laws_FnExactFeedBytes.j0 k l1 t187 t194 bt197.2.2 true l0_0 a0_1 t183 t186 t189 t192 bt197.1 bt197.2.1))))) = some r := H
      have A13 := Aside0.mk A130
      clear A130
      replace H := Option.bind_eq_some_iff.mp H
      obtain ⟨t194, A140, H⟩ := H
      replace H : ((impl_FeedBytes.f t189 t192 t194).bind fun bt197 => ((laws_eqDecoder.f k bt197.1 bt197.2.1 t183 t186).bind fun t203 => (if t203 = true then (laws_FnExactFeedBytes.j0 k l1 t187 t194 bt197.2.2 (bt197.2.2 != t187) l0_0 a0_1 t183 t186 t189 t192 bt197.1 bt197.2.1) else (laws_FnExactFeedBytes.j0 k l1 t187 t194 bt197.2.2 true l0_0 a0_1 t183 t186 t189 t192 bt197.1 bt197.2.1)))) = some r := H
      have A14 := Aside0.mk A140
      clear A140
      replace H := Option.bind_eq_some_iff.mp H
      obtain ⟨⟨t197, t200, t201⟩, A150, H⟩ := H
      replace H : ((laws_eqDecoder.f k t197 t200 t183 t186).bind fun t203 => (if t203 = true then (laws_FnExactFeedBytes.j0 k l1 t187 t194 t201 (t201 != t187) l0_0 a0_1 t183 t186 t189 t192 t197 t200) else (laws_FnExactFeedBytes.j0 k l1 t187 t194 t201 true l0_0 a0_1 t183 t186 t189 t192 t197 t200))) = some r := H
      have A15 := Aside0.mk A150
      clear A150
      have HC16 := Aside0.mk H
      clear H
      go_enter Try.func6, Try.ntmps6
      go_upto_region 11 with (first | ((with_reducible refine gate_dst (N := 2) rfl ?_); refine box_event ?hg (N := 2) ?hd (cs := #[.slice A0_0 l0_0.length c0_0, .bool a0_1]) (t := 51) ?hr ?_; (case hd => rfl); (case hg => rfl); (case hr => first | (go_simp; done) | (go_simp; rfl)); intro gb174 hg w17 hbox hb; have n0_ := Aside0.mk (below_step (by repeat (first | (with_reducible first | exact HB.out | apply below_alloc | apply pw_below_drewN | apply below_drew1) | exact HB.out)) hb); have n1_ := Aside0.mk (hbox); have n2_ := Aside0.mk ((by rw [hg]; exact (below_size (by repeat (first | (with_reducible first | exact HB.out | apply below_alloc | apply pw_below_drewN | apply below_drew1) | exact HB.out))) : w.heap.size ≤ gb174)); have n3_ := Aside0.mk ((by rw [hg]; exact (below_size (by repeat (first | (with_reducible first | exact HB.out | apply below_alloc | apply pw_below_drewN | apply below_drew1) | exact HB.out))) : w.heap.size ≤ gb174)); clear HB; have HB := n0_; have BK174 := n1_; have GW174 := n2_; have GE174 := n3_; clear n0_ n1_ n2_ n3_; clear hb hbox hg; have hcz18_0 : w17.cell? ⟨gb174, 0, none⟩ = some (.slice A0_0 l0_0.length c0_0) := (blk_cell BK174.out 0).trans rfl; have hcz18_1 : w17.cell? ⟨gb174, 1, none⟩ = some (.bool a0_1) := (blk_cell BK174.out 1).trans rfl; have hfz18_0 := blk_frozen BK174.out 0; have hfz18_1 := blk_frozen BK174.out 1) | ((with_reducible refine gate_callee (f := 30) rfl ?_); refine goesL_ (some 22) rfl rfl Try.func30 (by kernel_rfl) rfl #[.agg #[.slice A0_0 l0_0.length c0_0, .bool a0_1], .int .i64 1048576] rfl (by (try simp only [List.map_toArray, List.map_cons, List.map_nil]); first | done | rfl | (simp only [List.length_drop, List.length_take]; rfl)) ?_; (with_reducible refine (laws_szDecoder.calls _ _ l0_0 a0_1 1048576 t175 _ ?side1 ?side2 A5.out).mono ?_); (case side1 => repeat (first | exact (Kd.C_below HR0_0.out HB.out) | (with_reducible refine Kd.C_alloc ?_ _) | (with_reducible refine Kd.C_drewN ?_ _) | (with_reducible refine Kd.C_drew ?_))); (case side2 => exact HC0_0.out); rintro e w19 ⟨rfl, hb⟩; refine ⟨_, rfl, ?_⟩; have n0_ := Aside0.mk (blk_below (g := gb174) (o := .cells #[.slice A0_0 l0_0.length c0_0, .bool a0_1] 51 (0, 0)) (by (with_reducible repeat (first | refine blk_drewN ?_ _ | refine blk_drew ?_ | refine blk_alloc ?_ _)); exact BK174.out) hb); have n1_ := Aside0.mk (below_step (by repeat (first | (with_reducible first | exact HB.out | apply below_alloc | apply pw_below_drewN | apply below_drew1 | refine below_set ?_ GE174.out) | exact HB.out)) hb); clear BK174; clear HB; have BK174 := n0_; have HB := n1_; clear n0_ n1_; (try clear hb); (try clear hb2); (try clear hk); (try clear hi); have hcz20_0 : w19.cell? ⟨gb174, 0, none⟩ = some (.slice A0_0 l0_0.length c0_0) := (blk_cell BK174.out 0).trans rfl; have hcz20_1 : w19.cell? ⟨gb174, 1, none⟩ = some (.bool a0_1) := (blk_cell BK174.out 1).trans rfl; have hfz20_0 := blk_frozen BK174.out 0; have hfz20_1 := blk_frozen BK174.out 1) | ((with_reducible refine gate_callee (f := 32) rfl ?_); refine goesL_ (some 27) rfl rfl Try.func32 (by kernel_rfl) rfl #[.agg #[.slice A0_0 l0_0.length c0_0, .bool a0_1]] rfl (by (try simp only [List.map_toArray, List.map_cons, List.map_nil]); first | done | rfl | (simp only [List.length_drop, List.length_take]; rfl)) ?_; (with_reducible refine (laws_toDecoder.calls k _ _ l0_0 a0_1 t176 t179 _ ?side1 ?side2 A10.out).mono ?_); (case side1 => repeat (first | exact (Kd.C_below HR0_0.out HB.out) | (with_reducible refine Kd.C_alloc ?_ _) | (with_reducible refine Kd.C_drewN ?_ _) | (with_reducible refine Kd.C_drew ?_))); (case side2 => exact HC0_0.out); rintro e w21 ⟨v177, rfl, ho0, hb⟩; refine ⟨_, rfl, ?_⟩; have n0_ := Aside0.mk (Kd.R_lower ho0 (below_size (by repeat (first | (with_reducible first | exact HB.out | apply below_alloc | apply pw_below_drewN | apply below_drew1 | refine below_set ?_ GE174.out) | exact HB.out)))); have n1_ := Aside0.mk (blk_below (g := gb174) (o := .cells #[.slice A0_0 l0_0.length c0_0, .bool a0_1] 51 (0, 0)) (by (with_reducible repeat (first | refine blk_drewN ?_ _ | refine blk_drew ?_ | refine blk_alloc ?_ _)); exact BK174.out) hb); have n2_ := Aside0.mk (below_step (by repeat (first | (with_reducible first | exact HB.out | apply below_alloc | apply pw_below_drewN | apply below_drew1 | refine below_set ?_ GE174.out) | exact HB.out)) hb); clear BK174; clear HB; have HO178 := n0_; have BK174 := n1_; have HB := n2_; clear n0_ n1_ n2_; (try clear hb); (try clear hb2); (try clear hk); (try clear hi); (try clear ho0)) | ((with_reducible refine gate_callee (f := 33) rfl ?_); refine goesL_ (some 29) rfl rfl Try.func33 (by kernel_rfl) rfl #[.slice A1 l1.length c1] rfl (by (try simp only [List.map_toArray, List.map_cons, List.map_nil]); first | done | rfl | (simp only [List.length_drop, List.length_take]; rfl)) ?_; (with_reducible refine (laws_toByteS.calls k _ _ l1 t180 _ ?side1 ?side2 A11.out).mono ?_); (case side1 => repeat (first | exact (Kd.C_below HR1.out HB.out) | (with_reducible refine Kd.C_alloc ?_ _) | (with_reducible refine Kd.C_drewN ?_ _) | (with_reducible refine Kd.C_drew ?_))); (case side2 => exact HC1.out); rintro e w22 ⟨v181, rfl, ho0, hb⟩; refine ⟨_, rfl, ?_⟩; have n0_ := Aside0.mk (Kd.R_elder' (by (with_reducible repeat (first | apply Kd.R_alloc | apply Kd.R_drewN | apply Kd.R_drew)); exact HO178.out) (Kd.R_base ho0) hb); have n1_ := Aside0.mk (Kd.R_lower (Kd.R_new' ho0 (Kd.R_lt (by (with_reducible repeat (first | apply Kd.R_alloc | apply Kd.R_drewN | apply Kd.R_drew)); exact HO178.out))) (below_size (by repeat (first | (with_reducible first | exact HB.out | apply below_alloc | apply pw_below_drewN | apply below_drew1 | refine below_set ?_ GE174.out) | exact HB.out)))); have n2_ := Aside0.mk (blk_below (g := gb174) (o := .cells #[.slice A0_0 l0_0.length c0_0, .bool a0_1] 51 (0, 0)) (by (with_reducible repeat (first | refine blk_drewN ?_ _ | refine blk_drew ?_ | refine blk_alloc ?_ _)); exact BK174.out) hb); have n3_ := Aside0.mk (below_step (by repeat (first | (with_reducible first | exact HB.out | apply below_alloc | apply pw_below_drewN | apply below_drew1 | refine below_set ?_ GE174.out) | exact HB.out)) hb); clear HO178; clear BK174; clear HB; have HO178 := n0_; have HO182 := n1_; have BK174 := n2_; have HB := n3_; clear n0_ n1_ n2_ n3_; (try clear hb); (try clear hb2); (try clear hk); (try clear hi); (try clear ho0); obtain ⟨Ao23, co23, eo23⟩ := Kd.R_slice HO178.out; subst eo23; obtain ⟨Ao24, co24, eo24⟩ := Kd.R_slice HO182.out; subst eo24) | ((with_reducible refine gate_callee (f := 31) rfl ?_); refine goesL_ (some 30) rfl rfl Try.func31 (by kernel_rfl) rfl #[.agg #[.slice Ao23 t176.length co23, .bool t179], .slice Ao24 t180.length co24] rfl (by (try simp only [List.map_toArray, List.map_cons, List.map_nil]); first | done | rfl | (simp only [List.length_drop, List.length_take]; rfl)) ?_; (with_reducible refine (spec_FeedBytes.calls k _ _ t176 t179 _ _ t180 t183 t186 t187 _ ?side1 ?side2 ?side3 ?side4 A12.out).mono ?_); (case side1 => repeat (first | exact (Kd.R_reads' HO178.out).2.2 | (with_reducible refine Kd.C_alloc ?_ _) | (with_reducible refine Kd.C_drewN ?_ _) | (with_reducible refine Kd.C_drew ?_))); (case side2 => exact (Kd.R_reads' HO178.out).2.1); (case side3 => repeat (first | exact (Kd.R_reads' HO182.out).2.2 | (with_reducible refine Kd.C_alloc ?_ _) | (with_reducible refine Kd.C_drewN ?_ _) | (with_reducible refine Kd.C_drew ?_))); (case side4 => exact (Kd.R_reads' HO182.out).2.1); rintro e w25 ⟨v184, rfl, ho0, hb⟩; refine ⟨_, rfl, ?_⟩; have n0_ := Aside0.mk (Kd.R_elder' (by (with_reducible repeat (first | apply Kd.R_alloc | apply Kd.R_drewN | apply Kd.R_drew)); exact HO178.out) (Kd.R_base ho0) hb); have n1_ := Aside0.mk (Kd.R_elder' (by (with_reducible repeat (first | apply Kd.R_alloc | apply Kd.R_drewN | apply Kd.R_drew)); exact HO182.out) (Kd.R_base ho0) hb); have n2_ := Aside0.mk (Kd.R_lower (Kd.R_new' (Kd.R_new' ho0 (Kd.R_lt (by (with_reducible repeat (first | apply Kd.R_alloc | apply Kd.R_drewN | apply Kd.R_drew)); exact HO178.out))) (Kd.R_lt (by (with_reducible repeat (first | apply Kd.R_alloc | apply Kd.R_drewN | apply Kd.R_drew)); exact HO182.out))) (below_size (by repeat (first | (with_reducible first | exact HB.out | apply below_alloc | apply pw_below_drewN | apply below_drew1 | refine below_set ?_ GE174.out) | exact HB.out)))); have n3_ := Aside0.mk (blk_below (g := gb174) (o := .cells #[.slice A0_0 l0_0.length c0_0, .bool a0_1] 51 (0, 0)) (by (with_reducible repeat (first | refine blk_drewN ?_ _ | refine blk_drew ?_ | refine blk_alloc ?_ _)); exact BK174.out) hb); have n4_ := Aside0.mk (below_step (by repeat (first | (with_reducible first | exact HB.out | apply below_alloc | apply pw_below_drewN | apply below_drew1 | refine below_set ?_ GE174.out) | exact HB.out)) hb); clear HO178; clear HO182; clear BK174; clear HB; have HO178 := n0_; have HO182 := n1_; have HO185 := n2_; have BK174 := n3_; have HB := n4_; clear n0_ n1_ n2_ n3_ n4_; (try clear hb); (try clear hb2); (try clear hk); (try clear hi); (try clear ho0)) | ((with_reducible refine gate_dst (N := 6) rfl ?_); refine box_event ?hg (N := 6) ?hd (cs := #[.slice none 0 0, .bool false]) (t := 53) ?hr ?_; (case hd => rfl); (case hg => rfl); (case hr => first | (go_simp; done) | (go_simp; rfl)); intro gb188 hg w26 hbox hb; have n0_ := Aside0.mk (Kd.R_below (by (with_reducible repeat (first | apply Kd.R_alloc | apply Kd.R_drewN | apply Kd.R_drew)); exact HO178.out) hb); have n1_ := Aside0.mk (Kd.R_below (by (with_reducible repeat (first | apply Kd.R_alloc | apply Kd.R_drewN | apply Kd.R_drew)); exact HO182.out) hb); have n2_ := Aside0.mk (Kd.R_below (by (with_reducible repeat (first | apply Kd.R_alloc | apply Kd.R_drewN | apply Kd.R_drew)); exact HO185.out) hb); have n3_ := Aside0.mk (blk_below (g := gb174) (o := .cells #[.slice A0_0 l0_0.length c0_0, .bool a0_1] 51 (0, 0)) (by (with_reducible repeat (first | refine blk_drewN ?_ _ | refine blk_drew ?_ | refine blk_alloc ?_ _)); exact BK174.out) hb); have n4_ := Aside0.mk (below_step (by repeat (first | (with_reducible first | exact HB.out | apply below_alloc | apply pw_below_drewN | apply below_drew1 | refine below_set ?_ GE174.out) | exact HB.out)) hb); have n5_ := Aside0.mk (hbox); have n6_ := Aside0.mk ((by rw [hg]; exact (below_size (by repeat (first | (with_reducible first | exact HB.out | apply below_alloc | apply pw_below_drewN | apply below_drew1 | refine below_set ?_ GE174.out) | exact HB.out))) : w.heap.size ≤ gb188)); have n7_ := Aside0.mk ((by rw [hg]; exact (below_size (by repeat (first | (with_reducible first | exact HB.out | apply below_alloc | apply pw_below_drewN | apply below_drew1 | refine below_set ?_ GE174.out) | exact HB.out))) : w.heap.size ≤ gb188)); have n8_ := Aside0.mk ((by rw [hg]; exact Nat.ne_of_lt (blk_lt (g := gb174) (o := .cells #[.slice A0_0 l0_0.length c0_0, .bool a0_1] 51 (0, 0)) (by (with_reducible repeat (first | refine blk_drewN ?_ _ | refine blk_drew ?_ | refine blk_alloc ?_ _)); exact BK174.out)) : gb174 ≠ gb188)); have n9_ := Aside0.mk ((by rw [hg]; exact Nat.ne_of_gt (blk_lt (g := gb174) (o := .cells #[.slice A0_0 l0_0.length c0_0, .bool a0_1] 51 (0, 0)) (by (with_reducible repeat (first | refine blk_drewN ?_ _ | refine blk_drew ?_ | refine blk_alloc ?_ _)); exact BK174.out)) : gb188 ≠ gb174)); clear HO178; clear HO182; clear HO185; clear BK174; clear HB; have HO178 := n0_; have HO182 := n1_; have HO185 := n2_; have BK174 := n3_; have HB := n4_; have BK188 := n5_; have GW188 := n6_; have GE188 := n7_; have NB174_188 := n8_; have NB188_174 := n9_; clear n0_ n1_ n2_ n3_ n4_ n5_ n6_ n7_ n8_ n9_; clear hb hbox hg; obtain ⟨Ao27, co27, eo27⟩ := Kd.R_slice HO185.out; subst eo27; have hnb28 := NB188_174.out; have hnc28 := NB174_188.out; have hcz29_0 : w26.cell? ⟨gb188, 0, none⟩ = some (.slice none 0 0) := (blk_cell BK188.out 0).trans rfl; have hcz29_1 : w26.cell? ⟨gb188, 1, none⟩ = some (.bool false) := (blk_cell BK188.out 1).trans rfl; have hfz29_0 := blk_frozen BK188.out 0; have hfz29_1 := blk_frozen BK188.out 1) | ((with_reducible refine gate_store (t := 53) (p := 6) rfl ?_); refine store_event (t := 53) (p := 6) (v := ?vo_w30) (w1 := ((w26.setCell ⟨gb188, 0, none⟩ (.slice Ao27 t183.length co27)).setCell ⟨gb188, 1, none⟩ (.bool t186))) ?hg ?ho ?hn ?hr ?_; (case ho => rfl); (case hg => rfl); (case hn => rfl); (case hr => first | (go_simp; done) | (go_simp; rfl)); intro w30 hw; have n0_ : Aside0 (Kd.R (Kd.int .u8) 5 w30 w.heap.size (fun k_ => some k_ ≠ (.slice Ao24 t180.length co24 : Value).ownBlock ∧ some k_ ≠ (.slice Ao27 t183.length co27 : Value).ownBlock) (.slice Ao23 t176.length co23) t176) := ⟨(by rw [hw]; exact (by (with_reducible repeat (first | apply Kd.R_alloc | apply Kd.R_drewN | apply Kd.R_drew)); exact Kd.R_mono (Kd.R_far (p := ⟨gb188, 1, none⟩) (Kd.R_far (p := ⟨gb188, 0, none⟩) (Kd.R_types HO178.out BK188.out (by decide)) (fun _ hk => by first | exact hk.2 | grind) (.slice Ao27 t183.length co27)) (fun _ hk => by first | exact hk.2 | grind) (.bool t186)) (fun _ hk => by first | exact ⟨hk.1.1.2, hk.1.2⟩ | grind)))⟩; have n1_ : Aside0 (Kd.R (Kd.int .u8) 5 w30 w.heap.size (fun k_ => some k_ ≠ (.slice Ao23 t176.length co23 : Value).ownBlock ∧ some k_ ≠ (.slice Ao27 t183.length co27 : Value).ownBlock) (.slice Ao24 t180.length co24) t180) := ⟨(by rw [hw]; exact (by (with_reducible repeat (first | apply Kd.R_alloc | apply Kd.R_drewN | apply Kd.R_drew)); exact Kd.R_mono (Kd.R_far (p := ⟨gb188, 1, none⟩) (Kd.R_far (p := ⟨gb188, 0, none⟩) (Kd.R_types HO182.out BK188.out (by decide)) (fun _ hk => by first | exact hk.2 | grind) (.slice Ao27 t183.length co27)) (fun _ hk => by first | exact hk.2 | grind) (.bool t186)) (fun _ hk => by first | exact ⟨hk.1.1.2, hk.1.2⟩ | grind)))⟩; have n2_ : Aside0 (Kd.R (Kd.int .u8) 5 w30 w.heap.size (fun k_ => some k_ ≠ (.slice Ao23 t176.length co23 : Value).ownBlock ∧ some k_ ≠ (.slice Ao24 t180.length co24 : Value).ownBlock) (.slice Ao27 t183.length co27) t183) := ⟨(by rw [hw]; exact (by (with_reducible repeat (first | apply Kd.R_alloc | apply Kd.R_drewN | apply Kd.R_drew)); exact Kd.R_mono (Kd.R_far (p := ⟨gb188, 1, none⟩) (Kd.R_far (p := ⟨gb188, 0, none⟩) (Kd.R_types HO185.out BK188.out (by decide)) (fun _ hk => by first | exact hk.2 | grind) (.slice Ao27 t183.length co27)) (fun _ hk => by first | exact hk.2 | grind) (.bool t186)) (fun _ hk => by first | exact ⟨hk.1.1.2, hk.1.2⟩ | grind)))⟩; have n3_ : Aside0 (w30.heap[gb174]? = some (.cells #[.slice A0_0 l0_0.length c0_0, .bool a0_1] 51 (0, 0))) := ⟨(by rw [hw]; exact (by (with_reducible repeat (first | refine blk_drewN ?_ _ | refine blk_drew ?_ | refine blk_alloc ?_ _)); refine blk_far ?_ NB174_188.out _; (with_reducible repeat (first | refine blk_drewN ?_ _ | refine blk_drew ?_ | refine blk_alloc ?_ _)); refine blk_far ?_ NB174_188.out _; (with_reducible repeat (first | refine blk_drewN ?_ _ | refine blk_drew ?_ | refine blk_alloc ?_ _)); exact BK174.out))⟩; have n4_ : Aside0 (w30.heap[gb188]? = some (.cells #[.slice Ao27 t183.length co27, .bool t186] 53 (0, 0))) := ⟨(by rw [hw]; exact (by (with_reducible repeat (first | refine blk_drewN ?_ _ | refine blk_drew ?_ | refine blk_alloc ?_ _)); refine blk_put (cs := #[.slice Ao27 t183.length co27, .bool false]) ?_ 1 _ rfl; (with_reducible repeat (first | refine blk_drewN ?_ _ | refine blk_drew ?_ | refine blk_alloc ?_ _)); refine blk_put (cs := #[.slice none 0 0, .bool false]) ?_ 0 _ rfl; (with_reducible repeat (first | refine blk_drewN ?_ _ | refine blk_drew ?_ | refine blk_alloc ?_ _)); exact BK188.out))⟩; have n5_ : Aside0 (Below w.heap.size w w30) := ⟨(by rw [hw]; exact (by repeat (first | (with_reducible first | exact HB.out | apply below_alloc | apply pw_below_drewN | apply below_drew1 | refine below_set ?_ GE174.out | refine below_set ?_ GE188.out) | exact HB.out)))⟩; clear hw; clear HO178; clear HO182; clear HO185; clear BK174; clear BK188; clear HB; have HO178 := n0_; have HO182 := n1_; have HO185 := n2_; have BK174 := n3_; have BK188 := n4_; have HB := n5_; clear n0_ n1_ n2_ n3_ n4_ n5_; have hcz31_0 : w30.cell? ⟨gb174, 0, none⟩ = some (.slice A0_0 l0_0.length c0_0) := (blk_cell BK174.out 0).trans rfl; have hcz31_1 : w30.cell? ⟨gb174, 1, none⟩ = some (.bool a0_1) := (blk_cell BK174.out 1).trans rfl; have hfz31_0 := blk_frozen BK174.out 0; have hfz31_1 := blk_frozen BK174.out 1) | ((with_reducible refine gate_callee (f := 32) rfl ?_); refine goesL_ (some 34) rfl rfl Try.func32 (by kernel_rfl) rfl #[.agg #[.slice A0_0 l0_0.length c0_0, .bool a0_1]] rfl (by (try simp only [List.map_toArray, List.map_cons, List.map_nil]); first | done | rfl | (simp only [List.length_drop, List.length_take]; rfl)) ?_; (with_reducible refine (laws_toDecoder.calls k _ _ l0_0 a0_1 t189 t192 _ ?side1 ?side2 A13.out).mono ?_); (case side1 => repeat (first | exact (Kd.C_below HR0_0.out HB.out) | (with_reducible refine Kd.C_alloc ?_ _) | (with_reducible refine Kd.C_drewN ?_ _) | (with_reducible refine Kd.C_drew ?_))); (case side2 => exact HC0_0.out); rintro e w32 ⟨v190, rfl, ho0, hb⟩; refine ⟨_, rfl, ?_⟩; have n0_ := Aside0.mk (Kd.R_elder' (by (with_reducible repeat (first | apply Kd.R_alloc | apply Kd.R_drewN | apply Kd.R_drew)); exact HO178.out) (Kd.R_base ho0) hb); have n1_ := Aside0.mk (Kd.R_elder' (by (with_reducible repeat (first | apply Kd.R_alloc | apply Kd.R_drewN | apply Kd.R_drew)); exact HO182.out) (Kd.R_base ho0) hb); have n2_ := Aside0.mk (Kd.R_elder' (by (with_reducible repeat (first | apply Kd.R_alloc | apply Kd.R_drewN | apply Kd.R_drew)); exact HO185.out) (Kd.R_base ho0) hb); have n3_ := Aside0.mk (Kd.R_lower (Kd.R_new' (Kd.R_new' (Kd.R_new' ho0 (Kd.R_lt (by (with_reducible repeat (first | apply Kd.R_alloc | apply Kd.R_drewN | apply Kd.R_drew)); exact HO178.out))) (Kd.R_lt (by (with_reducible repeat (first | apply Kd.R_alloc | apply Kd.R_drewN | apply Kd.R_drew)); exact HO182.out))) (Kd.R_lt (by (with_reducible repeat (first | apply Kd.R_alloc | apply Kd.R_drewN | apply Kd.R_drew)); exact HO185.out))) (below_size (by repeat (first | (with_reducible first | exact HB.out | apply below_alloc | apply pw_below_drewN | apply below_drew1 | refine below_set ?_ GE174.out | refine below_set ?_ GE188.out) | exact HB.out)))); have n4_ := Aside0.mk (blk_below (g := gb174) (o := .cells #[.slice A0_0 l0_0.length c0_0, .bool a0_1] 51 (0, 0)) (by (with_reducible repeat (first | refine blk_drewN ?_ _ | refine blk_drew ?_ | refine blk_alloc ?_ _)); exact BK174.out) hb); have n5_ := Aside0.mk (blk_below (g := gb188) (o := .cells #[.slice Ao27 t183.length co27, .bool t186] 53 (0, 0)) (by (with_reducible repeat (first | refine blk_drewN ?_ _ | refine blk_drew ?_ | refine blk_alloc ?_ _)); exact BK188.out) hb); have n6_ := Aside0.mk (below_step (by repeat (first | (with_reducible first | exact HB.out | apply below_alloc | apply pw_below_drewN | apply below_drew1 | refine below_set ?_ GE174.out | refine below_set ?_ GE188.out) | exact HB.out)) hb); clear HO178; clear HO182; clear HO185; clear BK174; clear BK188; clear HB; have HO178 := n0_; have HO182 := n1_; have HO185 := n2_; have HO191 := n3_; have BK174 := n4_; have BK188 := n5_; have HB := n6_; clear n0_ n1_ n2_ n3_ n4_ n5_ n6_; (try clear hb); (try clear hb2); (try clear hk); (try clear hi); (try clear ho0)) | ((with_reducible refine gate_dst (N := 8) rfl ?_); refine box_event ?hg (N := 8) ?hd (cs := #[.slice none 0 0, .bool false]) (t := 53) ?hr ?_; (case hd => rfl); (case hg => rfl); (case hr => first | (go_simp; done) | (go_simp; rfl)); intro gb193 hg w33 hbox hb; have n0_ := Aside0.mk (Kd.R_below (by (with_reducible repeat (first | apply Kd.R_alloc | apply Kd.R_drewN | apply Kd.R_drew)); exact HO178.out) hb); have n1_ := Aside0.mk (Kd.R_below (by (with_reducible repeat (first | apply Kd.R_alloc | apply Kd.R_drewN | apply Kd.R_drew)); exact HO182.out) hb); have n2_ := Aside0.mk (Kd.R_below (by (with_reducible repeat (first | apply Kd.R_alloc | apply Kd.R_drewN | apply Kd.R_drew)); exact HO185.out) hb); have n3_ := Aside0.mk (Kd.R_below (by (with_reducible repeat (first | apply Kd.R_alloc | apply Kd.R_drewN | apply Kd.R_drew)); exact HO191.out) hb); have n4_ := Aside0.mk (blk_below (g := gb174) (o := .cells #[.slice A0_0 l0_0.length c0_0, .bool a0_1] 51 (0, 0)) (by (with_reducible repeat (first | refine blk_drewN ?_ _ | refine blk_drew ?_ | refine blk_alloc ?_ _)); exact BK174.out) hb); have n5_ := Aside0.mk (blk_below (g := gb188) (o := .cells #[.slice Ao27 t183.length co27, .bool t186] 53 (0, 0)) (by (with_reducible repeat (first | refine blk_drewN ?_ _ | refine blk_drew ?_ | refine blk_alloc ?_ _)); exact BK188.out) hb); have n6_ := Aside0.mk (below_step (by repeat (first | (with_reducible first | exact HB.out | apply below_alloc | apply pw_below_drewN | apply below_drew1 | refine below_set ?_ GE174.out | refine below_set ?_ GE188.out) | exact HB.out)) hb); have n7_ := Aside0.mk (hbox); have n8_ := Aside0.mk ((by rw [hg]; exact (below_size (by repeat (first | (with_reducible first | exact HB.out | apply below_alloc | apply pw_below_drewN | apply below_drew1 | refine below_set ?_ GE174.out | refine below_set ?_ GE188.out) | exact HB.out))) : w.heap.size ≤ gb193)); have n9_ := Aside0.mk ((by rw [hg]; exact (below_size (by repeat (first | (with_reducible first | exact HB.out | apply below_alloc | apply pw_below_drewN | apply below_drew1 | refine below_set ?_ GE174.out | refine below_set ?_ GE188.out) | exact HB.out))) : w.heap.size ≤ gb193)); have n10_ := Aside0.mk ((by rw [hg]; exact Nat.ne_of_lt (blk_lt (g := gb174) (o := .cells #[.slice A0_0 l0_0.length c0_0, .bool a0_1] 51 (0, 0)) (by (with_reducible repeat (first | refine blk_drewN ?_ _ | refine blk_drew ?_ | refine blk_alloc ?_ _)); exact BK174.out)) : gb174 ≠ gb193)); have n11_ := Aside0.mk ((by rw [hg]; exact Nat.ne_of_gt (blk_lt (g := gb174) (o := .cells #[.slice A0_0 l0_0.length c0_0, .bool a0_1] 51 (0, 0)) (by (with_reducible repeat (first | refine blk_drewN ?_ _ | refine blk_drew ?_ | refine blk_alloc ?_ _)); exact BK174.out)) : gb193 ≠ gb174)); have n12_ := Aside0.mk ((by rw [hg]; exact Nat.ne_of_lt (blk_lt (g := gb188) (o := .cells #[.slice Ao27 t183.length co27, .bool t186] 53 (0, 0)) (by (with_reducible repeat (first | refine blk_drewN ?_ _ | refine blk_drew ?_ | refine blk_alloc ?_ _)); exact BK188.out)) : gb188 ≠ gb193)); have n13_ := Aside0.mk ((by rw [hg]; exact Nat.ne_of_gt (blk_lt (g := gb188) (o := .cells #[.slice Ao27 t183.length co27, .bool t186] 53 (0, 0)) (by (with_reducible repeat (first | refine blk_drewN ?_ _ | refine blk_drew ?_ | refine blk_alloc ?_ _)); exact BK188.out)) : gb193 ≠ gb188)); clear HO178; clear HO182; clear HO185; clear HO191; clear BK174; clear BK188; clear HB; have HO178 := n0_; have HO182 := n1_; have HO185 := n2_; have HO191 := n3_; have BK174 := n4_; have BK188 := n5_; have HB := n6_; have BK193 := n7_; have GW193 := n8_; have GE193 := n9_; have NB174_193 := n10_; have NB193_174 := n11_; have NB188_193 := n12_; have NB193_188 := n13_; clear n0_ n1_ n2_ n3_ n4_ n5_ n6_ n7_ n8_ n9_ n10_ n11_ n12_ n13_; clear hb hbox hg; obtain ⟨Ao34, co34, eo34⟩ := Kd.R_slice HO191.out; subst eo34; have hnb35 := NB193_174.out; have hnc35 := NB174_193.out; have hnb36 := NB193_188.out; have hnc36 := NB188_193.out; have hcz37_0 : w33.cell? ⟨gb193, 0, none⟩ = some (.slice none 0 0) := (blk_cell BK193.out 0).trans rfl; have hcz37_1 : w33.cell? ⟨gb193, 1, none⟩ = some (.bool false) := (blk_cell BK193.out 1).trans rfl; have hfz37_0 := blk_frozen BK193.out 0; have hfz37_1 := blk_frozen BK193.out 1) | ((with_reducible refine gate_store (t := 53) (p := 8) rfl ?_); refine store_event (t := 53) (p := 8) (v := ?vo_w38) (w1 := ((w33.setCell ⟨gb193, 0, none⟩ (.slice Ao34 t189.length co34)).setCell ⟨gb193, 1, none⟩ (.bool t192))) ?hg ?ho ?hn ?hr ?_; (case ho => rfl); (case hg => rfl); (case hn => rfl); (case hr => first | (go_simp; done) | (go_simp; rfl)); intro w38 hw; have n0_ : Aside0 (Kd.R (Kd.int .u8) 5 w38 w.heap.size (fun k_ => some k_ ≠ (.slice Ao24 t180.length co24 : Value).ownBlock ∧ some k_ ≠ (.slice Ao27 t183.length co27 : Value).ownBlock ∧ some k_ ≠ (.slice Ao34 t189.length co34 : Value).ownBlock) (.slice Ao23 t176.length co23) t176) := ⟨(by rw [hw]; exact (by (with_reducible repeat (first | apply Kd.R_alloc | apply Kd.R_drewN | apply Kd.R_drew)); exact Kd.R_mono (Kd.R_far (p := ⟨gb193, 1, none⟩) (Kd.R_far (p := ⟨gb193, 0, none⟩) (Kd.R_types HO178.out BK193.out (by decide)) (fun _ hk => by first | exact hk.2 | grind) (.slice Ao34 t189.length co34)) (fun _ hk => by first | exact hk.2 | grind) (.bool t192)) (fun _ hk => by first | exact ⟨hk.1.1.1, ⟨hk.1.1.2, hk.1.2⟩⟩ | grind)))⟩; have n1_ : Aside0 (Kd.R (Kd.int .u8) 5 w38 w.heap.size (fun k_ => some k_ ≠ (.slice Ao23 t176.length co23 : Value).ownBlock ∧ some k_ ≠ (.slice Ao27 t183.length co27 : Value).ownBlock ∧ some k_ ≠ (.slice Ao34 t189.length co34 : Value).ownBlock) (.slice Ao24 t180.length co24) t180) := ⟨(by rw [hw]; exact (by (with_reducible repeat (first | apply Kd.R_alloc | apply Kd.R_drewN | apply Kd.R_drew)); exact Kd.R_mono (Kd.R_far (p := ⟨gb193, 1, none⟩) (Kd.R_far (p := ⟨gb193, 0, none⟩) (Kd.R_types HO182.out BK193.out (by decide)) (fun _ hk => by first | exact hk.2 | grind) (.slice Ao34 t189.length co34)) (fun _ hk => by first | exact hk.2 | grind) (.bool t192)) (fun _ hk => by first | exact ⟨hk.1.1.1, ⟨hk.1.1.2, hk.1.2⟩⟩ | grind)))⟩; have n2_ : Aside0 (Kd.R (Kd.int .u8) 5 w38 w.heap.size (fun k_ => some k_ ≠ (.slice Ao23 t176.length co23 : Value).ownBlock ∧ some k_ ≠ (.slice Ao24 t180.length co24 : Value).ownBlock ∧ some k_ ≠ (.slice Ao34 t189.length co34 : Value).ownBlock) (.slice Ao27 t183.length co27) t183) := ⟨(by rw [hw]; exact (by (with_reducible repeat (first | apply Kd.R_alloc | apply Kd.R_drewN | apply Kd.R_drew)); exact Kd.R_mono (Kd.R_far (p := ⟨gb193, 1, none⟩) (Kd.R_far (p := ⟨gb193, 0, none⟩) (Kd.R_types HO185.out BK193.out (by decide)) (fun _ hk => by first | exact hk.2 | grind) (.slice Ao34 t189.length co34)) (fun _ hk => by first | exact hk.2 | grind) (.bool t192)) (fun _ hk => by first | exact ⟨hk.1.1.1, ⟨hk.1.1.2, hk.1.2⟩⟩ | grind)))⟩; have n3_ : Aside0 (Kd.R (Kd.int .u8) 5 w38 w.heap.size (fun k_ => some k_ ≠ (.slice Ao23 t176.length co23 : Value).ownBlock ∧ some k_ ≠ (.slice Ao24 t180.length co24 : Value).ownBlock ∧ some k_ ≠ (.slice Ao27 t183.length co27 : Value).ownBlock) (.slice Ao34 t189.length co34) t189) := ⟨(by rw [hw]; exact (by (with_reducible repeat (first | apply Kd.R_alloc | apply Kd.R_drewN | apply Kd.R_drew)); exact Kd.R_mono (Kd.R_far (p := ⟨gb193, 1, none⟩) (Kd.R_far (p := ⟨gb193, 0, none⟩) (Kd.R_types HO191.out BK193.out (by decide)) (fun _ hk => by first | exact hk.2 | grind) (.slice Ao34 t189.length co34)) (fun _ hk => by first | exact hk.2 | grind) (.bool t192)) (fun _ hk => by first | exact ⟨hk.1.1.1.2, ⟨hk.1.1.2, hk.1.2⟩⟩ | grind)))⟩; have n4_ : Aside0 (w38.heap[gb174]? = some (.cells #[.slice A0_0 l0_0.length c0_0, .bool a0_1] 51 (0, 0))) := ⟨(by rw [hw]; exact (by (with_reducible repeat (first | refine blk_drewN ?_ _ | refine blk_drew ?_ | refine blk_alloc ?_ _)); refine blk_far ?_ NB174_193.out _; (with_reducible repeat (first | refine blk_drewN ?_ _ | refine blk_drew ?_ | refine blk_alloc ?_ _)); refine blk_far ?_ NB174_193.out _; (with_reducible repeat (first | refine blk_drewN ?_ _ | refine blk_drew ?_ | refine blk_alloc ?_ _)); exact BK174.out))⟩; have n5_ : Aside0 (w38.heap[gb188]? = some (.cells #[.slice Ao27 t183.length co27, .bool t186] 53 (0, 0))) := ⟨(by rw [hw]; exact (by (with_reducible repeat (first | refine blk_drewN ?_ _ | refine blk_drew ?_ | refine blk_alloc ?_ _)); refine blk_far ?_ NB188_193.out _; (with_reducible repeat (first | refine blk_drewN ?_ _ | refine blk_drew ?_ | refine blk_alloc ?_ _)); refine blk_far ?_ NB188_193.out _; (with_reducible repeat (first | refine blk_drewN ?_ _ | refine blk_drew ?_ | refine blk_alloc ?_ _)); exact BK188.out))⟩; have n6_ : Aside0 (w38.heap[gb193]? = some (.cells #[.slice Ao34 t189.length co34, .bool t192] 53 (0, 0))) := ⟨(by rw [hw]; exact (by (with_reducible repeat (first | refine blk_drewN ?_ _ | refine blk_drew ?_ | refine blk_alloc ?_ _)); refine blk_put (cs := #[.slice Ao34 t189.length co34, .bool false]) ?_ 1 _ rfl; (with_reducible repeat (first | refine blk_drewN ?_ _ | refine blk_drew ?_ | refine blk_alloc ?_ _)); refine blk_put (cs := #[.slice none 0 0, .bool false]) ?_ 0 _ rfl; (with_reducible repeat (first | refine blk_drewN ?_ _ | refine blk_drew ?_ | refine blk_alloc ?_ _)); exact BK193.out))⟩; have n7_ : Aside0 (Below w.heap.size w w38) := ⟨(by rw [hw]; exact (by repeat (first | (with_reducible first | exact HB.out | apply below_alloc | apply pw_below_drewN | apply below_drew1 | refine below_set ?_ GE174.out | refine below_set ?_ GE188.out | refine below_set ?_ GE193.out) | exact HB.out)))⟩; clear hw; clear HO178; clear HO182; clear HO185; clear HO191; clear BK174; clear BK188; clear BK193; clear HB; have HO178 := n0_; have HO182 := n1_; have HO185 := n2_; have HO191 := n3_; have BK174 := n4_; have BK188 := n5_; have BK193 := n6_; have HB := n7_; clear n0_ n1_ n2_ n3_ n4_ n5_ n6_ n7_) | ((with_reducible refine gate_callee (f := 33) rfl ?_); refine goesL_ (some 36) rfl rfl Try.func33 (by kernel_rfl) rfl #[.slice A1 l1.length c1] rfl (by (try simp only [List.map_toArray, List.map_cons, List.map_nil]); first | done | rfl | (simp only [List.length_drop, List.length_take]; rfl)) ?_; (with_reducible refine (laws_toByteS.calls k _ _ l1 t194 _ ?side1 ?side2 A14.out).mono ?_); (case side1 => repeat (first | exact (Kd.C_below HR1.out HB.out) | (with_reducible refine Kd.C_alloc ?_ _) | (with_reducible refine Kd.C_drewN ?_ _) | (with_reducible refine Kd.C_drew ?_))); (case side2 => exact HC1.out); rintro e w39 ⟨v195, rfl, ho0, hb⟩; refine ⟨_, rfl, ?_⟩; have n0_ := Aside0.mk (Kd.R_elder' (by (with_reducible repeat (first | apply Kd.R_alloc | apply Kd.R_drewN | apply Kd.R_drew)); exact HO178.out) (Kd.R_base ho0) hb); have n1_ := Aside0.mk (Kd.R_elder' (by (with_reducible repeat (first | apply Kd.R_alloc | apply Kd.R_drewN | apply Kd.R_drew)); exact HO182.out) (Kd.R_base ho0) hb); have n2_ := Aside0.mk (Kd.R_elder' (by (with_reducible repeat (first | apply Kd.R_alloc | apply Kd.R_drewN | apply Kd.R_drew)); exact HO185.out) (Kd.R_base ho0) hb); have n3_ := Aside0.mk (Kd.R_elder' (by (with_reducible repeat (first | apply Kd.R_alloc | apply Kd.R_drewN | apply Kd.R_drew)); exact HO191.out) (Kd.R_base ho0) hb); have n4_ := Aside0.mk (Kd.R_lower (Kd.R_new' (Kd.R_new' (Kd.R_new' (Kd.R_new' ho0 (Kd.R_lt (by (with_reducible repeat (first | apply Kd.R_alloc | apply Kd.R_drewN | apply Kd.R_drew)); exact HO178.out))) (Kd.R_lt (by (with_reducible repeat (first | apply Kd.R_alloc | apply Kd.R_drewN | apply Kd.R_drew)); exact HO182.out))) (Kd.R_lt (by (with_reducible repeat (first | apply Kd.R_alloc | apply Kd.R_drewN | apply Kd.R_drew)); exact HO185.out))) (Kd.R_lt (by (with_reducible repeat (first | apply Kd.R_alloc | apply Kd.R_drewN | apply Kd.R_drew)); exact HO191.out))) (below_size (by repeat (first | (with_reducible first | exact HB.out | apply below_alloc | apply pw_below_drewN | apply below_drew1 | refine below_set ?_ GE174.out | refine below_set ?_ GE188.out | refine below_set ?_ GE193.out) | exact HB.out)))); have n5_ := Aside0.mk (blk_below (g := gb174) (o := .cells #[.slice A0_0 l0_0.length c0_0, .bool a0_1] 51 (0, 0)) (by (with_reducible repeat (first | refine blk_drewN ?_ _ | refine blk_drew ?_ | refine blk_alloc ?_ _)); exact BK174.out) hb); have n6_ := Aside0.mk (blk_below (g := gb188) (o := .cells #[.slice Ao27 t183.length co27, .bool t186] 53 (0, 0)) (by (with_reducible repeat (first | refine blk_drewN ?_ _ | refine blk_drew ?_ | refine blk_alloc ?_ _)); exact BK188.out) hb); have n7_ := Aside0.mk (blk_below (g := gb193) (o := .cells #[.slice Ao34 t189.length co34, .bool t192] 53 (0, 0)) (by (with_reducible repeat (first | refine blk_drewN ?_ _ | refine blk_drew ?_ | refine blk_alloc ?_ _)); exact BK193.out) hb); have n8_ := Aside0.mk (below_step (by repeat (first | (with_reducible first | exact HB.out | apply below_alloc | apply pw_below_drewN | apply below_drew1 | refine below_set ?_ GE174.out | refine below_set ?_ GE188.out | refine below_set ?_ GE193.out) | exact HB.out)) hb); clear HO178; clear HO182; clear HO185; clear HO191; clear BK174; clear BK188; clear BK193; clear HB; have HO178 := n0_; have HO182 := n1_; have HO185 := n2_; have HO191 := n3_; have HO196 := n4_; have BK174 := n5_; have BK188 := n6_; have BK193 := n7_; have HB := n8_; clear n0_ n1_ n2_ n3_ n4_ n5_ n6_ n7_ n8_; (try clear hb); (try clear hb2); (try clear hk); (try clear hi); (try clear ho0); have hcz40_0 : w39.cell? ⟨gb193, 0, none⟩ = some (.slice Ao34 t189.length co34) := (blk_cell BK193.out 0).trans rfl; have hcz40_1 : w39.cell? ⟨gb193, 1, none⟩ = some (.bool t192) := (blk_cell BK193.out 1).trans rfl; have hfz40_0 := blk_frozen BK193.out 0; have hfz40_1 := blk_frozen BK193.out 1; obtain ⟨Ao41, co41, eo41⟩ := Kd.R_slice HO196.out; subst eo41) | ((with_reducible refine gate_callee (f := 34) rfl ?_); refine goesL_ (some 40) rfl rfl Try.func34 (by kernel_rfl) rfl #[.agg #[.slice Ao34 t189.length co34, .bool t192], .slice Ao41 t194.length co41] rfl (by (try simp only [List.map_toArray, List.map_cons, List.map_nil]); first | done | rfl | (simp only [List.length_drop, List.length_take]; rfl)) ?_; (with_reducible refine (impl_FeedBytes.calls _ _ t189 t192 _ _ t194 t197 t200 t201 _ ?side1 ?side2 ?side3 ?side4 A15.out).mono ?_); (case side1 => repeat (first | exact (Kd.R_reads' HO191.out).2.2 | (with_reducible refine Kd.C_alloc ?_ _) | (with_reducible refine Kd.C_drewN ?_ _) | (with_reducible refine Kd.C_drew ?_))); (case side2 => exact (Kd.R_reads' HO191.out).2.1); (case side3 => repeat (first | exact (Kd.R_reads' HO196.out).2.2 | (with_reducible refine Kd.C_alloc ?_ _) | (with_reducible refine Kd.C_drewN ?_ _) | (with_reducible refine Kd.C_drew ?_))); (case side4 => exact (Kd.R_reads' HO196.out).2.1); rintro e w42 ⟨v198, rfl, ho0, hb⟩; refine ⟨_, rfl, ?_⟩; have n0_ := Aside0.mk (Kd.R_elder' (by (with_reducible repeat (first | apply Kd.R_alloc | apply Kd.R_drewN | apply Kd.R_drew)); exact HO178.out) (Kd.R_base ho0) hb); have n1_ := Aside0.mk (Kd.R_elder' (by (with_reducible repeat (first | apply Kd.R_alloc | apply Kd.R_drewN | apply Kd.R_drew)); exact HO182.out) (Kd.R_base ho0) hb); have n2_ := Aside0.mk (Kd.R_elder' (by (with_reducible repeat (first | apply Kd.R_alloc | apply Kd.R_drewN | apply Kd.R_drew)); exact HO185.out) (Kd.R_base ho0) hb); have n3_ := Aside0.mk (Kd.R_elder' (by (with_reducible repeat (first | apply Kd.R_alloc | apply Kd.R_drewN | apply Kd.R_drew)); exact HO191.out) (Kd.R_base ho0) hb); have n4_ := Aside0.mk (Kd.R_elder' (by (with_reducible repeat (first | apply Kd.R_alloc | apply Kd.R_drewN | apply Kd.R_drew)); exact HO196.out) (Kd.R_base ho0) hb); have n5_ := Aside0.mk (Kd.R_lower (Kd.R_new' (Kd.R_new' (Kd.R_new' (Kd.R_new' (Kd.R_new' ho0 (Kd.R_lt (by (with_reducible repeat (first | apply Kd.R_alloc | apply Kd.R_drewN | apply Kd.R_drew)); exact HO178.out))) (Kd.R_lt (by (with_reducible repeat (first | apply Kd.R_alloc | apply Kd.R_drewN | apply Kd.R_drew)); exact HO182.out))) (Kd.R_lt (by (with_reducible repeat (first | apply Kd.R_alloc | apply Kd.R_drewN | apply Kd.R_drew)); exact HO185.out))) (Kd.R_lt (by (with_reducible repeat (first | apply Kd.R_alloc | apply Kd.R_drewN | apply Kd.R_drew)); exact HO191.out))) (Kd.R_lt (by (with_reducible repeat (first | apply Kd.R_alloc | apply Kd.R_drewN | apply Kd.R_drew)); exact HO196.out))) (below_size (by repeat (first | (with_reducible first | exact HB.out | apply below_alloc | apply pw_below_drewN | apply below_drew1 | refine below_set ?_ GE174.out | refine below_set ?_ GE188.out | refine below_set ?_ GE193.out) | exact HB.out)))); have n6_ := Aside0.mk (blk_below (g := gb174) (o := .cells #[.slice A0_0 l0_0.length c0_0, .bool a0_1] 51 (0, 0)) (by (with_reducible repeat (first | refine blk_drewN ?_ _ | refine blk_drew ?_ | refine blk_alloc ?_ _)); exact BK174.out) hb); have n7_ := Aside0.mk (blk_below (g := gb188) (o := .cells #[.slice Ao27 t183.length co27, .bool t186] 53 (0, 0)) (by (with_reducible repeat (first | refine blk_drewN ?_ _ | refine blk_drew ?_ | refine blk_alloc ?_ _)); exact BK188.out) hb); have n8_ := Aside0.mk (blk_below (g := gb193) (o := .cells #[.slice Ao34 t189.length co34, .bool t192] 53 (0, 0)) (by (with_reducible repeat (first | refine blk_drewN ?_ _ | refine blk_drew ?_ | refine blk_alloc ?_ _)); exact BK193.out) hb); have n9_ := Aside0.mk (below_step (by repeat (first | (with_reducible first | exact HB.out | apply below_alloc | apply pw_below_drewN | apply below_drew1 | refine below_set ?_ GE174.out | refine below_set ?_ GE188.out | refine below_set ?_ GE193.out) | exact HB.out)) hb); clear HO178; clear HO182; clear HO185; clear HO191; clear HO196; clear BK174; clear BK188; clear BK193; clear HB; have HO178 := n0_; have HO182 := n1_; have HO185 := n2_; have HO191 := n3_; have HO196 := n4_; have HO199 := n5_; have BK174 := n6_; have BK188 := n7_; have BK193 := n8_; have HB := n9_; clear n0_ n1_ n2_ n3_ n4_ n5_ n6_ n7_ n8_ n9_; (try clear hb); (try clear hb2); (try clear hk); (try clear hi); (try clear ho0)) | ((with_reducible refine gate_dst (N := 10) rfl ?_); refine box_event ?hg (N := 10) ?hd (cs := #[.slice none 0 0, .bool false]) (t := 53) ?hr ?_; (case hd => rfl); (case hg => rfl); (case hr => first | (go_simp; done) | (go_simp; rfl)); intro gb202 hg w43 hbox hb; have n0_ := Aside0.mk (Kd.R_below (by (with_reducible repeat (first | apply Kd.R_alloc | apply Kd.R_drewN | apply Kd.R_drew)); exact HO178.out) hb); have n1_ := Aside0.mk (Kd.R_below (by (with_reducible repeat (first | apply Kd.R_alloc | apply Kd.R_drewN | apply Kd.R_drew)); exact HO182.out) hb); have n2_ := Aside0.mk (Kd.R_below (by (with_reducible repeat (first | apply Kd.R_alloc | apply Kd.R_drewN | apply Kd.R_drew)); exact HO185.out) hb); have n3_ := Aside0.mk (Kd.R_below (by (with_reducible repeat (first | apply Kd.R_alloc | apply Kd.R_drewN | apply Kd.R_drew)); exact HO191.out) hb); have n4_ := Aside0.mk (Kd.R_below (by (with_reducible repeat (first | apply Kd.R_alloc | apply Kd.R_drewN | apply Kd.R_drew)); exact HO196.out) hb); have n5_ := Aside0.mk (Kd.R_below (by (with_reducible repeat (first | apply Kd.R_alloc | apply Kd.R_drewN | apply Kd.R_drew)); exact HO199.out) hb); have n6_ := Aside0.mk (blk_below (g := gb174) (o := .cells #[.slice A0_0 l0_0.length c0_0, .bool a0_1] 51 (0, 0)) (by (with_reducible repeat (first | refine blk_drewN ?_ _ | refine blk_drew ?_ | refine blk_alloc ?_ _)); exact BK174.out) hb); have n7_ := Aside0.mk (blk_below (g := gb188) (o := .cells #[.slice Ao27 t183.length co27, .bool t186] 53 (0, 0)) (by (with_reducible repeat (first | refine blk_drewN ?_ _ | refine blk_drew ?_ | refine blk_alloc ?_ _)); exact BK188.out) hb); have n8_ := Aside0.mk (blk_below (g := gb193) (o := .cells #[.slice Ao34 t189.length co34, .bool t192] 53 (0, 0)) (by (with_reducible repeat (first | refine blk_drewN ?_ _ | refine blk_drew ?_ | refine blk_alloc ?_ _)); exact BK193.out) hb); have n9_ := Aside0.mk (below_step (by repeat (first | (with_reducible first | exact HB.out | apply below_alloc | apply pw_below_drewN | apply below_drew1 | refine below_set ?_ GE174.out | refine below_set ?_ GE188.out | refine below_set ?_ GE193.out) | exact HB.out)) hb); have n10_ := Aside0.mk (hbox); have n11_ := Aside0.mk ((by rw [hg]; exact (below_size (by repeat (first | (with_reducible first | exact HB.out | apply below_alloc | apply pw_below_drewN | apply below_drew1 | refine below_set ?_ GE174.out | refine below_set ?_ GE188.out | refine below_set ?_ GE193.out) | exact HB.out))) : w.heap.size ≤ gb202)); have n12_ := Aside0.mk ((by rw [hg]; exact (below_size (by repeat (first | (with_reducible first | exact HB.out | apply below_alloc | apply pw_below_drewN | apply below_drew1 | refine below_set ?_ GE174.out | refine below_set ?_ GE188.out | refine below_set ?_ GE193.out) | exact HB.out))) : w.heap.size ≤ gb202)); have n13_ := Aside0.mk ((by rw [hg]; exact Nat.ne_of_lt (blk_lt (g := gb174) (o := .cells #[.slice A0_0 l0_0.length c0_0, .bool a0_1] 51 (0, 0)) (by (with_reducible repeat (first | refine blk_drewN ?_ _ | refine blk_drew ?_ | refine blk_alloc ?_ _)); exact BK174.out)) : gb174 ≠ gb202)); have n14_ := Aside0.mk ((by rw [hg]; exact Nat.ne_of_gt (blk_lt (g := gb174) (o := .cells #[.slice A0_0 l0_0.length c0_0, .bool a0_1] 51 (0, 0)) (by (with_reducible repeat (first | refine blk_drewN ?_ _ | refine blk_drew ?_ | refine blk_alloc ?_ _)); exact BK174.out)) : gb202 ≠ gb174)); have n15_ := Aside0.mk ((by rw [hg]; exact Nat.ne_of_lt (blk_lt (g := gb188) (o := .cells #[.slice Ao27 t183.length co27, .bool t186] 53 (0, 0)) (by (with_reducible repeat (first | refine blk_drewN ?_ _ | refine blk_drew ?_ | refine blk_alloc ?_ _)); exact BK188.out)) : gb188 ≠ gb202)); have n16_ := Aside0.mk ((by rw [hg]; exact Nat.ne_of_gt (blk_lt (g := gb188) (o := .cells #[.slice Ao27 t183.length co27, .bool t186] 53 (0, 0)) (by (with_reducible repeat (first | refine blk_drewN ?_ _ | refine blk_drew ?_ | refine blk_alloc ?_ _)); exact BK188.out)) : gb202 ≠ gb188)); have n17_ := Aside0.mk ((by rw [hg]; exact Nat.ne_of_lt (blk_lt (g := gb193) (o := .cells #[.slice Ao34 t189.length co34, .bool t192] 53 (0, 0)) (by (with_reducible repeat (first | refine blk_drewN ?_ _ | refine blk_drew ?_ | refine blk_alloc ?_ _)); exact BK193.out)) : gb193 ≠ gb202)); have n18_ := Aside0.mk ((by rw [hg]; exact Nat.ne_of_gt (blk_lt (g := gb193) (o := .cells #[.slice Ao34 t189.length co34, .bool t192] 53 (0, 0)) (by (with_reducible repeat (first | refine blk_drewN ?_ _ | refine blk_drew ?_ | refine blk_alloc ?_ _)); exact BK193.out)) : gb202 ≠ gb193)); clear HO178; clear HO182; clear HO185; clear HO191; clear HO196; clear HO199; clear BK174; clear BK188; clear BK193; clear HB; have HO178 := n0_; have HO182 := n1_; have HO185 := n2_; have HO191 := n3_; have HO196 := n4_; have HO199 := n5_; have BK174 := n6_; have BK188 := n7_; have BK193 := n8_; have HB := n9_; have BK202 := n10_; have GW202 := n11_; have GE202 := n12_; have NB174_202 := n13_; have NB202_174 := n14_; have NB188_202 := n15_; have NB202_188 := n16_; have NB193_202 := n17_; have NB202_193 := n18_; clear n0_ n1_ n2_ n3_ n4_ n5_ n6_ n7_ n8_ n9_ n10_ n11_ n12_ n13_ n14_ n15_ n16_ n17_ n18_; clear hb hbox hg; obtain ⟨Ao44, co44, eo44⟩ := Kd.R_slice HO199.out; subst eo44; have hnb45 := NB202_174.out; have hnc45 := NB174_202.out; have hnb46 := NB202_188.out; have hnc46 := NB188_202.out; have hnb47 := NB202_193.out; have hnc47 := NB193_202.out; have hcz48_0 : w43.cell? ⟨gb202, 0, none⟩ = some (.slice none 0 0) := (blk_cell BK202.out 0).trans rfl; have hcz48_1 : w43.cell? ⟨gb202, 1, none⟩ = some (.bool false) := (blk_cell BK202.out 1).trans rfl; have hfz48_0 := blk_frozen BK202.out 0; have hfz48_1 := blk_frozen BK202.out 1) | ((with_reducible refine gate_store (t := 53) (p := 10) rfl ?_); refine store_event (t := 53) (p := 10) (v := ?vo_w49) (w1 := ((w43.setCell ⟨gb202, 0, none⟩ (.slice Ao44 t197.length co44)).setCell ⟨gb202, 1, none⟩ (.bool t200))) ?hg ?ho ?hn ?hr ?_; (case ho => rfl); (case hg => rfl); (case hn => rfl); (case hr => first | (go_simp; done) | (go_simp; rfl)); intro w49 hw; have n0_ : Aside0 (Kd.R (Kd.int .u8) 5 w49 w.heap.size (fun k_ => some k_ ≠ (.slice Ao24 t180.length co24 : Value).ownBlock ∧ some k_ ≠ (.slice Ao27 t183.length co27 : Value).ownBlock ∧ some k_ ≠ (.slice Ao34 t189.length co34 : Value).ownBlock ∧ some k_ ≠ (.slice Ao41 t194.length co41 : Value).ownBlock ∧ some k_ ≠ (.slice Ao44 t197.length co44 : Value).ownBlock) (.slice Ao23 t176.length co23) t176) := ⟨(by rw [hw]; exact (by (with_reducible repeat (first | apply Kd.R_alloc | apply Kd.R_drewN | apply Kd.R_drew)); exact Kd.R_mono (Kd.R_far (p := ⟨gb202, 1, none⟩) (Kd.R_far (p := ⟨gb202, 0, none⟩) (Kd.R_types HO178.out BK202.out (by decide)) (fun _ hk => by first | exact hk.2 | grind) (.slice Ao44 t197.length co44)) (fun _ hk => by first | exact hk.2 | grind) (.bool t200)) (fun _ hk => by first | exact ⟨hk.1.1.1.1, ⟨hk.1.1.1.2.1, ⟨hk.1.1.1.2.2, ⟨hk.1.1.2, hk.1.2⟩⟩⟩⟩ | grind)))⟩; have n1_ : Aside0 (Kd.R (Kd.int .u8) 5 w49 w.heap.size (fun k_ => some k_ ≠ (.slice Ao23 t176.length co23 : Value).ownBlock ∧ some k_ ≠ (.slice Ao27 t183.length co27 : Value).ownBlock ∧ some k_ ≠ (.slice Ao34 t189.length co34 : Value).ownBlock ∧ some k_ ≠ (.slice Ao41 t194.length co41 : Value).ownBlock ∧ some k_ ≠ (.slice Ao44 t197.length co44 : Value).ownBlock) (.slice Ao24 t180.length co24) t180) := ⟨(by rw [hw]; exact (by (with_reducible repeat (first | apply Kd.R_alloc | apply Kd.R_drewN | apply Kd.R_drew)); exact Kd.R_mono (Kd.R_far (p := ⟨gb202, 1, none⟩) (Kd.R_far (p := ⟨gb202, 0, none⟩) (Kd.R_types HO182.out BK202.out (by decide)) (fun _ hk => by first | exact hk.2 | grind) (.slice Ao44 t197.length co44)) (fun _ hk => by first | exact hk.2 | grind) (.bool t200)) (fun _ hk => by first | exact ⟨hk.1.1.1.1, ⟨hk.1.1.1.2.1, ⟨hk.1.1.1.2.2, ⟨hk.1.1.2, hk.1.2⟩⟩⟩⟩ | grind)))⟩; have n2_ : Aside0 (Kd.R (Kd.int .u8) 5 w49 w.heap.size (fun k_ => some k_ ≠ (.slice Ao23 t176.length co23 : Value).ownBlock ∧ some k_ ≠ (.slice Ao24 t180.length co24 : Value).ownBlock ∧ some k_ ≠ (.slice Ao34 t189.length co34 : Value).ownBlock ∧ some k_ ≠ (.slice Ao41 t194.length co41 : Value).ownBlock ∧ some k_ ≠ (.slice Ao44 t197.length co44 : Value).ownBlock) (.slice Ao27 t183.length co27) t183) := ⟨(by rw [hw]; exact (by (with_reducible repeat (first | apply Kd.R_alloc | apply Kd.R_drewN | apply Kd.R_drew)); exact Kd.R_mono (Kd.R_far (p := ⟨gb202, 1, none⟩) (Kd.R_far (p := ⟨gb202, 0, none⟩) (Kd.R_types HO185.out BK202.out (by decide)) (fun _ hk => by first | exact hk.2 | grind) (.slice Ao44 t197.length co44)) (fun _ hk => by first | exact hk.2 | grind) (.bool t200)) (fun _ hk => by first | exact ⟨hk.1.1.1.1, ⟨hk.1.1.1.2.1, ⟨hk.1.1.1.2.2, ⟨hk.1.1.2, hk.1.2⟩⟩⟩⟩ | grind)))⟩; have n3_ : Aside0 (Kd.R (Kd.int .u8) 5 w49 w.heap.size (fun k_ => some k_ ≠ (.slice Ao23 t176.length co23 : Value).ownBlock ∧ some k_ ≠ (.slice Ao24 t180.length co24 : Value).ownBlock ∧ some k_ ≠ (.slice Ao27 t183.length co27 : Value).ownBlock ∧ some k_ ≠ (.slice Ao41 t194.length co41 : Value).ownBlock ∧ some k_ ≠ (.slice Ao44 t197.length co44 : Value).ownBlock) (.slice Ao34 t189.length co34) t189) := ⟨(by rw [hw]; exact (by (with_reducible repeat (first | apply Kd.R_alloc | apply Kd.R_drewN | apply Kd.R_drew)); exact Kd.R_mono (Kd.R_far (p := ⟨gb202, 1, none⟩) (Kd.R_far (p := ⟨gb202, 0, none⟩) (Kd.R_types HO191.out BK202.out (by decide)) (fun _ hk => by first | exact hk.2 | grind) (.slice Ao44 t197.length co44)) (fun _ hk => by first | exact hk.2 | grind) (.bool t200)) (fun _ hk => by first | exact ⟨hk.1.1.1.1, ⟨hk.1.1.1.2.1, ⟨hk.1.1.1.2.2, ⟨hk.1.1.2, hk.1.2⟩⟩⟩⟩ | grind)))⟩; have n4_ : Aside0 (Kd.R (Kd.int .u8) 5 w49 w.heap.size (fun k_ => some k_ ≠ (.slice Ao23 t176.length co23 : Value).ownBlock ∧ some k_ ≠ (.slice Ao24 t180.length co24 : Value).ownBlock ∧ some k_ ≠ (.slice Ao27 t183.length co27 : Value).ownBlock ∧ some k_ ≠ (.slice Ao34 t189.length co34 : Value).ownBlock ∧ some k_ ≠ (.slice Ao44 t197.length co44 : Value).ownBlock) (.slice Ao41 t194.length co41) t194) := ⟨(by rw [hw]; exact (by (with_reducible repeat (first | apply Kd.R_alloc | apply Kd.R_drewN | apply Kd.R_drew)); exact Kd.R_mono (Kd.R_far (p := ⟨gb202, 1, none⟩) (Kd.R_far (p := ⟨gb202, 0, none⟩) (Kd.R_types HO196.out BK202.out (by decide)) (fun _ hk => by first | exact hk.2 | grind) (.slice Ao44 t197.length co44)) (fun _ hk => by first | exact hk.2 | grind) (.bool t200)) (fun _ hk => by first | exact ⟨hk.1.1.1.1.1.2, ⟨hk.1.1.1.1.2, ⟨hk.1.1.1.2, ⟨hk.1.1.2, hk.1.2⟩⟩⟩⟩ | grind)))⟩; have n5_ : Aside0 (Kd.R (Kd.int .u8) 5 w49 w.heap.size (fun k_ => some k_ ≠ (.slice Ao23 t176.length co23 : Value).ownBlock ∧ some k_ ≠ (.slice Ao24 t180.length co24 : Value).ownBlock ∧ some k_ ≠ (.slice Ao27 t183.length co27 : Value).ownBlock ∧ some k_ ≠ (.slice Ao34 t189.length co34 : Value).ownBlock ∧ some k_ ≠ (.slice Ao41 t194.length co41 : Value).ownBlock) (.slice Ao44 t197.length co44) t197) := ⟨(by rw [hw]; exact (by (with_reducible repeat (first | apply Kd.R_alloc | apply Kd.R_drewN | apply Kd.R_drew)); exact Kd.R_mono (Kd.R_far (p := ⟨gb202, 1, none⟩) (Kd.R_far (p := ⟨gb202, 0, none⟩) (Kd.R_types HO199.out BK202.out (by decide)) (fun _ hk => by first | exact hk.2 | grind) (.slice Ao44 t197.length co44)) (fun _ hk => by first | exact hk.2 | grind) (.bool t200)) (fun _ hk => by first | exact ⟨hk.1.1.1.1.1.2, ⟨hk.1.1.1.1.2, ⟨hk.1.1.1.2, ⟨hk.1.1.2, hk.1.2⟩⟩⟩⟩ | grind)))⟩; have n6_ : Aside0 (w49.heap[gb174]? = some (.cells #[.slice A0_0 l0_0.length c0_0, .bool a0_1] 51 (0, 0))) := ⟨(by rw [hw]; exact (by (with_reducible repeat (first | refine blk_drewN ?_ _ | refine blk_drew ?_ | refine blk_alloc ?_ _)); refine blk_far ?_ NB174_202.out _; (with_reducible repeat (first | refine blk_drewN ?_ _ | refine blk_drew ?_ | refine blk_alloc ?_ _)); refine blk_far ?_ NB174_202.out _; (with_reducible repeat (first | refine blk_drewN ?_ _ | refine blk_drew ?_ | refine blk_alloc ?_ _)); exact BK174.out))⟩; have n7_ : Aside0 (w49.heap[gb188]? = some (.cells #[.slice Ao27 t183.length co27, .bool t186] 53 (0, 0))) := ⟨(by rw [hw]; exact (by (with_reducible repeat (first | refine blk_drewN ?_ _ | refine blk_drew ?_ | refine blk_alloc ?_ _)); refine blk_far ?_ NB188_202.out _; (with_reducible repeat (first | refine blk_drewN ?_ _ | refine blk_drew ?_ | refine blk_alloc ?_ _)); refine blk_far ?_ NB188_202.out _; (with_reducible repeat (first | refine blk_drewN ?_ _ | refine blk_drew ?_ | refine blk_alloc ?_ _)); exact BK188.out))⟩; have n8_ : Aside0 (w49.heap[gb193]? = some (.cells #[.slice Ao34 t189.length co34, .bool t192] 53 (0, 0))) := ⟨(by rw [hw]; exact (by (with_reducible repeat (first | refine blk_drewN ?_ _ | refine blk_drew ?_ | refine blk_alloc ?_ _)); refine blk_far ?_ NB193_202.out _; (with_reducible repeat (first | refine blk_drewN ?_ _ | refine blk_drew ?_ | refine blk_alloc ?_ _)); refine blk_far ?_ NB193_202.out _; (with_reducible repeat (first | refine blk_drewN ?_ _ | refine blk_drew ?_ | refine blk_alloc ?_ _)); exact BK193.out))⟩; have n9_ : Aside0 (w49.heap[gb202]? = some (.cells #[.slice Ao44 t197.length co44, .bool t200] 53 (0, 0))) := ⟨(by rw [hw]; exact (by (with_reducible repeat (first | refine blk_drewN ?_ _ | refine blk_drew ?_ | refine blk_alloc ?_ _)); refine blk_put (cs := #[.slice Ao44 t197.length co44, .bool false]) ?_ 1 _ rfl; (with_reducible repeat (first | refine blk_drewN ?_ _ | refine blk_drew ?_ | refine blk_alloc ?_ _)); refine blk_put (cs := #[.slice none 0 0, .bool false]) ?_ 0 _ rfl; (with_reducible repeat (first | refine blk_drewN ?_ _ | refine blk_drew ?_ | refine blk_alloc ?_ _)); exact BK202.out))⟩; have n10_ : Aside0 (Below w.heap.size w w49) := ⟨(by rw [hw]; exact (by repeat (first | (with_reducible first | exact HB.out | apply below_alloc | apply pw_below_drewN | apply below_drew1 | refine below_set ?_ GE174.out | refine below_set ?_ GE188.out | refine below_set ?_ GE193.out | refine below_set ?_ GE202.out) | exact HB.out)))⟩; clear hw; clear HO178; clear HO182; clear HO185; clear HO191; clear HO196; clear HO199; clear BK174; clear BK188; clear BK193; clear BK202; clear HB; have HO178 := n0_; have HO182 := n1_; have HO185 := n2_; have HO191 := n3_; have HO196 := n4_; have HO199 := n5_; have BK174 := n6_; have BK188 := n7_; have BK193 := n8_; have BK202 := n9_; have HB := n10_; clear n0_ n1_ n2_ n3_ n4_ n5_ n6_ n7_ n8_ n9_ n10_))
      (try simp only [Act.put, List.setIfInBounds_toArray, List.set_cons_zero, List.set_cons_succ])
      go_cut [51] (fun v51 wc => ∃ (kq : Nat) (x51_15 : Bool), v51 = .bool x51_15 ∧ Aside0 (laws_FnExactFeedBytes.j0 kq l1 t187 t194 t201 x51_15 l0_0 a0_1 t183 t186 t189 t192 t197 t200 = some r) ∧ Aside0 (kq ≤ k) ∧ Aside0 (Kd.R (Kd.int .u8) 5 wc w.heap.size (fun k_ => some k_ ≠ ((.slice Ao27 t183.length co27) : Value).ownBlock ∧ some k_ ≠ ((.slice Ao34 t189.length co34) : Value).ownBlock ∧ some k_ ≠ ((.slice Ao44 t197.length co44) : Value).ownBlock) (.slice Ao41 t194.length co41) t194) ∧ Aside0 (Kd.R (Kd.int .u8) 5 wc w.heap.size (fun k_ => some k_ ≠ ((.slice Ao41 t194.length co41) : Value).ownBlock ∧ some k_ ≠ ((.slice Ao34 t189.length co34) : Value).ownBlock ∧ some k_ ≠ ((.slice Ao44 t197.length co44) : Value).ownBlock) (.slice Ao27 t183.length co27) t183) ∧ Aside0 (Kd.R (Kd.int .u8) 5 wc w.heap.size (fun k_ => some k_ ≠ ((.slice Ao41 t194.length co41) : Value).ownBlock ∧ some k_ ≠ ((.slice Ao27 t183.length co27) : Value).ownBlock ∧ some k_ ≠ ((.slice Ao44 t197.length co44) : Value).ownBlock) (.slice Ao34 t189.length co34) t189) ∧ Aside0 (Kd.R (Kd.int .u8) 5 wc w.heap.size (fun k_ => some k_ ≠ ((.slice Ao41 t194.length co41) : Value).ownBlock ∧ some k_ ≠ ((.slice Ao27 t183.length co27) : Value).ownBlock ∧ some k_ ≠ ((.slice Ao34 t189.length co34) : Value).ownBlock) (.slice Ao44 t197.length co44) t197) ∧ Aside0 (wc.heap[gb174]? = some (.cells #[(.slice A0_0 l0_0.length c0_0), .bool a0_1] 51 (0, 0))) ∧ Aside0 (wc.heap[gb188]? = some (.cells #[(.slice Ao27 t183.length co27), .bool t186] 53 (0, 0))) ∧ Aside0 (wc.heap[gb193]? = some (.cells #[(.slice Ao34 t189.length co34), .bool t192] 53 (0, 0))) ∧ Aside0 (wc.heap[gb202]? = some (.cells #[(.slice Ao44 t197.length co44), .bool t200] 53 (0, 0))) ∧ Aside0 (Below w.heap.size w wc))
      case first =>
        have H := HC16.out
        clear HC16
        replace H := Option.bind_eq_some_iff.mp H
        obtain ⟨t203, A500, H⟩ := H
        replace H : (if t203 = true then (laws_FnExactFeedBytes.j0 k l1 t187 t194 t201 (t201 != t187) l0_0 a0_1 t183 t186 t189 t192 t197 t200) else (laws_FnExactFeedBytes.j0 k l1 t187 t194 t201 true l0_0 a0_1 t183 t186 t189 t192 t197 t200)) = some r := H
        have A50 := Aside0.mk A500
        clear A500
        by_cases c51 : t203 = true
        · subst c51
          have H1 : (laws_FnExactFeedBytes.j0 k l1 t187 t194 t201 (t201 != t187) l0_0 a0_1 t183 t186 t189 t192 t197 t200) = some r := by rw [if_pos rfl] at H; exact H
          clear H
          have H := H1
          clear H1
          have H' := Aside0.mk H
          clear H
          have hnb52 := NB202_174.out
          have hnc52 := NB174_202.out
          have hnb53 := NB202_188.out
          have hnc53 := NB188_202.out
          have hnb54 := NB202_193.out
          have hnc54 := NB193_202.out
          have hcz55_0 : w49.cell? ⟨gb202, 0, none⟩ = some (.slice Ao44 t197.length co44) := (blk_cell BK202.out 0).trans rfl
          have hcz55_1 : w49.cell? ⟨gb202, 1, none⟩ = some (.bool t200) := (blk_cell BK202.out 1).trans rfl
          have hfz55_0 := blk_frozen BK202.out 0
          have hfz55_1 := blk_frozen BK202.out 1
          have hnb56 := NB188_174.out
          have hnc56 := NB174_188.out
          have hnb57 := NB188_193.out
          have hnc57 := NB193_188.out
          have hcz58_0 : w49.cell? ⟨gb188, 0, none⟩ = some (.slice Ao27 t183.length co27) := (blk_cell BK188.out 0).trans rfl
          have hcz58_1 : w49.cell? ⟨gb188, 1, none⟩ = some (.bool t186) := (blk_cell BK188.out 1).trans rfl
          have hfz58_0 := blk_frozen BK188.out 0
          have hfz58_1 := blk_frozen BK188.out 1
          go_wp2_with (first | ((with_reducible refine gate_callee (f := 35) rfl ?_); refine goesL_ (some 45) rfl rfl Try.func35 (by kernel_rfl) rfl #[.agg #[.slice Ao44 t197.length co44, .bool t200], .agg #[.slice Ao27 t183.length co27, .bool t186]] rfl (by (try simp only [List.map_toArray, List.map_cons, List.map_nil]); first | done | rfl | (simp only [List.length_drop, List.length_take]; rfl)) ?_; (with_reducible refine (laws_eqDecoder.calls k _ _ t197 t200 _ _ t183 t186 true _ ?side1 ?side2 ?side3 ?side4 A50.out).mono ?_); (case side1 => repeat (first | exact (Kd.R_reads' HO199.out).2.2 | (with_reducible refine Kd.C_alloc ?_ _) | (with_reducible refine Kd.C_drewN ?_ _) | (with_reducible refine Kd.C_drew ?_))); (case side2 => exact (Kd.R_reads' HO199.out).2.1); (case side3 => repeat (first | exact (Kd.R_reads' HO185.out).2.2 | (with_reducible refine Kd.C_alloc ?_ _) | (with_reducible refine Kd.C_drewN ?_ _) | (with_reducible refine Kd.C_drew ?_))); (case side4 => exact (Kd.R_reads' HO185.out).2.1); rintro e w59 ⟨rfl, hb⟩; refine ⟨_, rfl, ?_⟩; have n0_ := Aside0.mk (Kd.R_below (by (with_reducible repeat (first | apply Kd.R_alloc | apply Kd.R_drewN | apply Kd.R_drew)); exact HO178.out) hb); have n1_ := Aside0.mk (Kd.R_below (by (with_reducible repeat (first | apply Kd.R_alloc | apply Kd.R_drewN | apply Kd.R_drew)); exact HO182.out) hb); have n2_ := Aside0.mk (Kd.R_below (by (with_reducible repeat (first | apply Kd.R_alloc | apply Kd.R_drewN | apply Kd.R_drew)); exact HO185.out) hb); have n3_ := Aside0.mk (Kd.R_below (by (with_reducible repeat (first | apply Kd.R_alloc | apply Kd.R_drewN | apply Kd.R_drew)); exact HO191.out) hb); have n4_ := Aside0.mk (Kd.R_below (by (with_reducible repeat (first | apply Kd.R_alloc | apply Kd.R_drewN | apply Kd.R_drew)); exact HO196.out) hb); have n5_ := Aside0.mk (Kd.R_below (by (with_reducible repeat (first | apply Kd.R_alloc | apply Kd.R_drewN | apply Kd.R_drew)); exact HO199.out) hb); have n6_ := Aside0.mk (blk_below (g := gb174) (o := .cells #[.slice A0_0 l0_0.length c0_0, .bool a0_1] 51 (0, 0)) (by (with_reducible repeat (first | refine blk_drewN ?_ _ | refine blk_drew ?_ | refine blk_alloc ?_ _)); exact BK174.out) hb); have n7_ := Aside0.mk (blk_below (g := gb188) (o := .cells #[.slice Ao27 t183.length co27, .bool t186] 53 (0, 0)) (by (with_reducible repeat (first | refine blk_drewN ?_ _ | refine blk_drew ?_ | refine blk_alloc ?_ _)); exact BK188.out) hb); have n8_ := Aside0.mk (blk_below (g := gb193) (o := .cells #[.slice Ao34 t189.length co34, .bool t192] 53 (0, 0)) (by (with_reducible repeat (first | refine blk_drewN ?_ _ | refine blk_drew ?_ | refine blk_alloc ?_ _)); exact BK193.out) hb); have n9_ := Aside0.mk (blk_below (g := gb202) (o := .cells #[.slice Ao44 t197.length co44, .bool t200] 53 (0, 0)) (by (with_reducible repeat (first | refine blk_drewN ?_ _ | refine blk_drew ?_ | refine blk_alloc ?_ _)); exact BK202.out) hb); have n10_ := Aside0.mk (below_step (by repeat (first | (with_reducible first | exact HB.out | apply below_alloc | apply pw_below_drewN | apply below_drew1 | refine below_set ?_ GE174.out | refine below_set ?_ GE188.out | refine below_set ?_ GE193.out | refine below_set ?_ GE202.out) | exact HB.out)) hb); clear HO178; clear HO182; clear HO185; clear HO191; clear HO196; clear HO199; clear BK174; clear BK188; clear BK193; clear BK202; clear HB; have HO178 := n0_; have HO182 := n1_; have HO185 := n2_; have HO191 := n3_; have HO196 := n4_; have HO199 := n5_; have BK174 := n6_; have BK188 := n7_; have BK193 := n8_; have BK202 := n9_; have HB := n10_; clear n0_ n1_ n2_ n3_ n4_ n5_ n6_ n7_ n8_ n9_ n10_; (try clear hb); (try clear hb2); (try clear hk); (try clear hi)))
          go_meet
          case rel => exact ⟨_, ((t201 != t187)), (by first | rfl | (simp; done) | (simp [*]; done)), H', ⟨by first | omega | exact Nat.le_refl _⟩, ⟨by (with_reducible repeat (first | apply Kd.R_alloc | apply Kd.R_drewN | apply Kd.R_drew)); exact Kd.R_mono HO196.out (fun _ hk => by first | exact ⟨hk.2.2.1, ⟨hk.2.2.2.1, hk.2.2.2.2⟩⟩ | grind)⟩, ⟨by (with_reducible repeat (first | apply Kd.R_alloc | apply Kd.R_drewN | apply Kd.R_drew)); exact Kd.R_mono HO185.out (fun _ hk => by first | exact ⟨hk.2.2.2.1, ⟨hk.2.2.1, hk.2.2.2.2⟩⟩ | grind)⟩, ⟨by (with_reducible repeat (first | apply Kd.R_alloc | apply Kd.R_drewN | apply Kd.R_drew)); exact Kd.R_mono HO191.out (fun _ hk => by first | exact ⟨hk.2.2.2.1, ⟨hk.2.2.1, hk.2.2.2.2⟩⟩ | grind)⟩, ⟨by (with_reducible repeat (first | apply Kd.R_alloc | apply Kd.R_drewN | apply Kd.R_drew)); exact Kd.R_mono HO199.out (fun _ hk => by first | exact ⟨hk.2.2.2.2, ⟨hk.2.2.1, hk.2.2.2.1⟩⟩ | grind)⟩, ⟨by (with_reducible repeat (first | refine blk_drewN ?_ _ | refine blk_drew ?_ | refine blk_alloc ?_ _)); exact BK174.out⟩, ⟨by (with_reducible repeat (first | refine blk_drewN ?_ _ | refine blk_drew ?_ | refine blk_alloc ?_ _)); exact BK188.out⟩, ⟨by (with_reducible repeat (first | refine blk_drewN ?_ _ | refine blk_drew ?_ | refine blk_alloc ?_ _)); exact BK193.out⟩, ⟨by (with_reducible repeat (first | refine blk_drewN ?_ _ | refine blk_drew ?_ | refine blk_alloc ?_ _)); exact BK202.out⟩, ⟨by repeat (first | (with_reducible first | exact HB.out | apply below_alloc | apply pw_below_drewN | apply below_drew1 | refine below_set ?_ GE174.out | refine below_set ?_ GE188.out | refine below_set ?_ GE193.out | refine below_set ?_ GE202.out) | exact HB.out)⟩⟩
        · replace c51 := Bool.eq_false_iff.mpr c51
          subst c51
          have H1 : (laws_FnExactFeedBytes.j0 k l1 t187 t194 t201 true l0_0 a0_1 t183 t186 t189 t192 t197 t200) = some r := by rw [if_neg (show ¬ (false = true) by decide)] at H; exact H
          clear H
          have H := H1
          clear H1
          have H' := Aside0.mk H
          clear H
          have hnb60 := NB202_174.out
          have hnc60 := NB174_202.out
          have hnb61 := NB202_188.out
          have hnc61 := NB188_202.out
          have hnb62 := NB202_193.out
          have hnc62 := NB193_202.out
          have hcz63_0 : w49.cell? ⟨gb202, 0, none⟩ = some (.slice Ao44 t197.length co44) := (blk_cell BK202.out 0).trans rfl
          have hcz63_1 : w49.cell? ⟨gb202, 1, none⟩ = some (.bool t200) := (blk_cell BK202.out 1).trans rfl
          have hfz63_0 := blk_frozen BK202.out 0
          have hfz63_1 := blk_frozen BK202.out 1
          have hnb64 := NB188_174.out
          have hnc64 := NB174_188.out
          have hnb65 := NB188_193.out
          have hnc65 := NB193_188.out
          have hcz66_0 : w49.cell? ⟨gb188, 0, none⟩ = some (.slice Ao27 t183.length co27) := (blk_cell BK188.out 0).trans rfl
          have hcz66_1 : w49.cell? ⟨gb188, 1, none⟩ = some (.bool t186) := (blk_cell BK188.out 1).trans rfl
          have hfz66_0 := blk_frozen BK188.out 0
          have hfz66_1 := blk_frozen BK188.out 1
          go_wp2_with (first | ((with_reducible refine gate_callee (f := 35) rfl ?_); refine goesL_ (some 45) rfl rfl Try.func35 (by kernel_rfl) rfl #[.agg #[.slice Ao44 t197.length co44, .bool t200], .agg #[.slice Ao27 t183.length co27, .bool t186]] rfl (by (try simp only [List.map_toArray, List.map_cons, List.map_nil]); first | done | rfl | (simp only [List.length_drop, List.length_take]; rfl)) ?_; (with_reducible refine (laws_eqDecoder.calls k _ _ t197 t200 _ _ t183 t186 false _ ?side1 ?side2 ?side3 ?side4 A50.out).mono ?_); (case side1 => repeat (first | exact (Kd.R_reads' HO199.out).2.2 | (with_reducible refine Kd.C_alloc ?_ _) | (with_reducible refine Kd.C_drewN ?_ _) | (with_reducible refine Kd.C_drew ?_))); (case side2 => exact (Kd.R_reads' HO199.out).2.1); (case side3 => repeat (first | exact (Kd.R_reads' HO185.out).2.2 | (with_reducible refine Kd.C_alloc ?_ _) | (with_reducible refine Kd.C_drewN ?_ _) | (with_reducible refine Kd.C_drew ?_))); (case side4 => exact (Kd.R_reads' HO185.out).2.1); rintro e w67 ⟨rfl, hb⟩; refine ⟨_, rfl, ?_⟩; have n0_ := Aside0.mk (Kd.R_below (by (with_reducible repeat (first | apply Kd.R_alloc | apply Kd.R_drewN | apply Kd.R_drew)); exact HO178.out) hb); have n1_ := Aside0.mk (Kd.R_below (by (with_reducible repeat (first | apply Kd.R_alloc | apply Kd.R_drewN | apply Kd.R_drew)); exact HO182.out) hb); have n2_ := Aside0.mk (Kd.R_below (by (with_reducible repeat (first | apply Kd.R_alloc | apply Kd.R_drewN | apply Kd.R_drew)); exact HO185.out) hb); have n3_ := Aside0.mk (Kd.R_below (by (with_reducible repeat (first | apply Kd.R_alloc | apply Kd.R_drewN | apply Kd.R_drew)); exact HO191.out) hb); have n4_ := Aside0.mk (Kd.R_below (by (with_reducible repeat (first | apply Kd.R_alloc | apply Kd.R_drewN | apply Kd.R_drew)); exact HO196.out) hb); have n5_ := Aside0.mk (Kd.R_below (by (with_reducible repeat (first | apply Kd.R_alloc | apply Kd.R_drewN | apply Kd.R_drew)); exact HO199.out) hb); have n6_ := Aside0.mk (blk_below (g := gb174) (o := .cells #[.slice A0_0 l0_0.length c0_0, .bool a0_1] 51 (0, 0)) (by (with_reducible repeat (first | refine blk_drewN ?_ _ | refine blk_drew ?_ | refine blk_alloc ?_ _)); exact BK174.out) hb); have n7_ := Aside0.mk (blk_below (g := gb188) (o := .cells #[.slice Ao27 t183.length co27, .bool t186] 53 (0, 0)) (by (with_reducible repeat (first | refine blk_drewN ?_ _ | refine blk_drew ?_ | refine blk_alloc ?_ _)); exact BK188.out) hb); have n8_ := Aside0.mk (blk_below (g := gb193) (o := .cells #[.slice Ao34 t189.length co34, .bool t192] 53 (0, 0)) (by (with_reducible repeat (first | refine blk_drewN ?_ _ | refine blk_drew ?_ | refine blk_alloc ?_ _)); exact BK193.out) hb); have n9_ := Aside0.mk (blk_below (g := gb202) (o := .cells #[.slice Ao44 t197.length co44, .bool t200] 53 (0, 0)) (by (with_reducible repeat (first | refine blk_drewN ?_ _ | refine blk_drew ?_ | refine blk_alloc ?_ _)); exact BK202.out) hb); have n10_ := Aside0.mk (below_step (by repeat (first | (with_reducible first | exact HB.out | apply below_alloc | apply pw_below_drewN | apply below_drew1 | refine below_set ?_ GE174.out | refine below_set ?_ GE188.out | refine below_set ?_ GE193.out | refine below_set ?_ GE202.out) | exact HB.out)) hb); clear HO178; clear HO182; clear HO185; clear HO191; clear HO196; clear HO199; clear BK174; clear BK188; clear BK193; clear BK202; clear HB; have HO178 := n0_; have HO182 := n1_; have HO185 := n2_; have HO191 := n3_; have HO196 := n4_; have HO199 := n5_; have BK174 := n6_; have BK188 := n7_; have BK193 := n8_; have BK202 := n9_; have HB := n10_; clear n0_ n1_ n2_ n3_ n4_ n5_ n6_ n7_ n8_ n9_ n10_; (try clear hb); (try clear hb2); (try clear hk); (try clear hi)))
          go_meet
          case rel => exact ⟨_, (true), (by first | rfl | (simp; done) | (simp [*]; done)), H', ⟨by first | omega | exact Nat.le_refl _⟩, ⟨by (with_reducible repeat (first | apply Kd.R_alloc | apply Kd.R_drewN | apply Kd.R_drew)); exact Kd.R_mono HO196.out (fun _ hk => by first | exact ⟨hk.2.2.1, ⟨hk.2.2.2.1, hk.2.2.2.2⟩⟩ | grind)⟩, ⟨by (with_reducible repeat (first | apply Kd.R_alloc | apply Kd.R_drewN | apply Kd.R_drew)); exact Kd.R_mono HO185.out (fun _ hk => by first | exact ⟨hk.2.2.2.1, ⟨hk.2.2.1, hk.2.2.2.2⟩⟩ | grind)⟩, ⟨by (with_reducible repeat (first | apply Kd.R_alloc | apply Kd.R_drewN | apply Kd.R_drew)); exact Kd.R_mono HO191.out (fun _ hk => by first | exact ⟨hk.2.2.2.1, ⟨hk.2.2.1, hk.2.2.2.2⟩⟩ | grind)⟩, ⟨by (with_reducible repeat (first | apply Kd.R_alloc | apply Kd.R_drewN | apply Kd.R_drew)); exact Kd.R_mono HO199.out (fun _ hk => by first | exact ⟨hk.2.2.2.2, ⟨hk.2.2.1, hk.2.2.2.1⟩⟩ | grind)⟩, ⟨by (with_reducible repeat (first | refine blk_drewN ?_ _ | refine blk_drew ?_ | refine blk_alloc ?_ _)); exact BK174.out⟩, ⟨by (with_reducible repeat (first | refine blk_drewN ?_ _ | refine blk_drew ?_ | refine blk_alloc ?_ _)); exact BK188.out⟩, ⟨by (with_reducible repeat (first | refine blk_drewN ?_ _ | refine blk_drew ?_ | refine blk_alloc ?_ _)); exact BK193.out⟩, ⟨by (with_reducible repeat (first | refine blk_drewN ?_ _ | refine blk_drew ?_ | refine blk_alloc ?_ _)); exact BK202.out⟩, ⟨by repeat (first | (with_reducible first | exact HB.out | apply below_alloc | apply pw_below_drewN | apply below_drew1 | refine below_set ?_ GE174.out | refine below_set ?_ GE188.out | refine below_set ?_ GE193.out | refine below_set ?_ GE202.out) | exact HB.out)⟩⟩
      case rest =>
        clear HC16
        try clear c1
        try clear c2
        try clear p2
        try clear c3
        try clear c3b0
        try clear c3b1
        try clear c4
        try clear c5
        try clear c6
        try clear c6b0
        try clear c28
        try clear c30
        try clear c31
        try clear c32
        try clear c33
        try clear c34
        try clear c35
        try clear c36
        try clear c45
        try clear c46
        try clear c47
        try clear c51
        try clear c52
        try clear c53
        try clear c54
        try clear c56
        try clear c57
        try clear c60
        try clear c61
        try clear c62
        try clear c64
        try clear c65
        try clear hcz18_0
        try clear hcz18_1
        try clear hcz20_0
        try clear hcz20_1
        try clear hcz29_0
        try clear hcz29_1
        try clear hcz31_0
        try clear hcz31_1
        try clear hcz37_0
        try clear hcz37_1
        try clear hcz40_0
        try clear hcz40_1
        try clear hcz48_0
        try clear hcz48_1
        try clear hcz55_0
        try clear hcz55_1
        try clear hcz58_0
        try clear hcz58_1
        try clear hcz63_0
        try clear hcz63_1
        try clear hcz66_0
        try clear hcz66_1
        try clear hcz8_0
        try clear hcz8_1
        try clear hfz18_0
        try clear hfz18_1
        try clear hfz20_0
        try clear hfz20_1
        try clear hfz29_0
        try clear hfz29_1
        try clear hfz31_0
        try clear hfz31_1
        try clear hfz37_0
        try clear hfz37_1
        try clear hfz40_0
        try clear hfz40_1
        try clear hfz48_0
        try clear hfz48_1
        try clear hfz55_0
        try clear hfz55_1
        try clear hfz58_0
        try clear hfz58_1
        try clear hfz63_0
        try clear hfz63_1
        try clear hfz66_0
        try clear hfz66_1
        try clear hfz8_0
        try clear hfz8_1
        obtain ⟨kq, x51_15, rfl, HA, HJ15, HO_9, HO_189000, HO_194000, HO_203000, BK174, BK188, BK193, BK202, HB⟩ := hcut
        cases kq with
        | zero => exact absurd HA.out (by simp [laws_FnExactFeedBytes.j0])
        | succ kj15 =>
          have H := HA.out
          clear HA
          simp only [laws_FnExactFeedBytes.j0] at H
          by_cases c68 : x51_15 = true
          · subst c68
            have H1 : (some false) = some r := by rw [if_pos rfl] at H; exact H
            clear H
            have H := H1
            clear H1
            exact absurd ((Option.some.inj H).trans hT.out) (by decide)
          · replace c68 := Bool.eq_false_iff.mpr c68
            subst c68
            have H1 : ((laws_toDecoder.f kj15 l0_0 a0_1).bind fun bt204 => ((laws_eqDecoder.f kj15 t189 t192 bt204.1 bt204.2).bind fun t208 => (if t208 = true then ((laws_toByteS.f kj15 l1).bind fun t209 => ((laws_eqByteS.f kj15 t194 t209).bind fun t212 => (if t212 = true then ((laws_markDecoder.f kj15 t189 t192 1).bind fun bt213 => ((laws_markByteS.f kj15 t194 bt213.1).bind fun bt215 => (if bt215.1 < 0 then (laws_FnExactFeedBytes.j1 kj15 l1 t187 true l0_0 a0_1 t183 t186 t197 t200) else ((laws_eqDecoder.f kj15 t197 t200 t183 t186).bind fun t217 => (if t217 = true then (laws_FnExactFeedBytes.j1 kj15 l1 t187 (t201 != t187) l0_0 a0_1 t183 t186 t197 t200) else (laws_FnExactFeedBytes.j1 kj15 l1 t187 true l0_0 a0_1 t183 t186 t197 t200)))))) else (some false)))) else (some false)))) = some r := by rw [if_neg (show ¬ (false = true) by decide)] at H; exact H
            clear H
            have H := H1
            clear H1
            replace H := Option.bind_eq_some_iff.mp H
            obtain ⟨⟨t204, t207⟩, A690, H⟩ := H
            replace H : ((laws_eqDecoder.f kj15 t189 t192 t204 t207).bind fun t208 => (if t208 = true then ((laws_toByteS.f kj15 l1).bind fun t209 => ((laws_eqByteS.f kj15 t194 t209).bind fun t212 => (if t212 = true then ((laws_markDecoder.f kj15 t189 t192 1).bind fun bt213 => ((laws_markByteS.f kj15 t194 bt213.1).bind fun bt215 => (if bt215.1 < 0 then (laws_FnExactFeedBytes.j1 kj15 l1 t187 true l0_0 a0_1 t183 t186 t197 t200) else ((laws_eqDecoder.f kj15 t197 t200 t183 t186).bind fun t217 => (if t217 = true then (laws_FnExactFeedBytes.j1 kj15 l1 t187 (t201 != t187) l0_0 a0_1 t183 t186 t197 t200) else (laws_FnExactFeedBytes.j1 kj15 l1 t187 true l0_0 a0_1 t183 t186 t197 t200)))))) else (some false)))) else (some false))) = some r := H
            have A69 := Aside0.mk A690
            clear A690
            replace H := Option.bind_eq_some_iff.mp H
            obtain ⟨t208, A700, H⟩ := H
            replace H : (if t208 = true then ((laws_toByteS.f kj15 l1).bind fun t209 => ((laws_eqByteS.f kj15 t194 t209).bind fun t212 => (if t212 = true then ((laws_markDecoder.f kj15 t189 t192 1).bind fun bt213 => ((laws_markByteS.f kj15 t194 bt213.1).bind fun bt215 => (if bt215.1 < 0 then (laws_FnExactFeedBytes.j1 kj15 l1 t187 true l0_0 a0_1 t183 t186 t197 t200) else ((laws_eqDecoder.f kj15 t197 t200 t183 t186).bind fun t217 => (if t217 = true then (laws_FnExactFeedBytes.j1 kj15 l1 t187 (t201 != t187) l0_0 a0_1 t183 t186 t197 t200) else (laws_FnExactFeedBytes.j1 kj15 l1 t187 true l0_0 a0_1 t183 t186 t197 t200)))))) else (some false)))) else (some false)) = some r := H
            have A70 := Aside0.mk A700
            clear A700
            by_cases c71 : t208 = true
            · subst c71
              have H1 : ((laws_toByteS.f kj15 l1).bind fun t209 => ((laws_eqByteS.f kj15 t194 t209).bind fun t212 => (if t212 = true then ((laws_markDecoder.f kj15 t189 t192 1).bind fun bt213 => ((laws_markByteS.f kj15 t194 bt213.1).bind fun bt215 => (if bt215.1 < 0 then (laws_FnExactFeedBytes.j1 kj15 l1 t187 true l0_0 a0_1 t183 t186 t197 t200) else ((laws_eqDecoder.f kj15 t197 t200 t183 t186).bind fun t217 => (if t217 = true then (laws_FnExactFeedBytes.j1 kj15 l1 t187 (t201 != t187) l0_0 a0_1 t183 t186 t197 t200) else (laws_FnExactFeedBytes.j1 kj15 l1 t187 true l0_0 a0_1 t183 t186 t197 t200)))))) else (some false)))) = some r := by rw [if_pos rfl] at H; exact H
              clear H
              have H := H1
              clear H1
              replace H := Option.bind_eq_some_iff.mp H
              obtain ⟨t209, A720, H⟩ := H
              replace H : ((laws_eqByteS.f kj15 t194 t209).bind fun t212 => (if t212 = true then ((laws_markDecoder.f kj15 t189 t192 1).bind fun bt213 => ((laws_markByteS.f kj15 t194 bt213.1).bind fun bt215 => (if bt215.1 < 0 then (laws_FnExactFeedBytes.j1 kj15 l1 t187 true l0_0 a0_1 t183 t186 t197 t200) else ((laws_eqDecoder.f kj15 t197 t200 t183 t186).bind fun t217 => (if t217 = true then (laws_FnExactFeedBytes.j1 kj15 l1 t187 (t201 != t187) l0_0 a0_1 t183 t186 t197 t200) else (laws_FnExactFeedBytes.j1 kj15 l1 t187 true l0_0 a0_1 t183 t186 t197 t200)))))) else (some false))) = some r := H
              have A72 := Aside0.mk A720
              clear A720
              replace H := Option.bind_eq_some_iff.mp H
              obtain ⟨t212, A730, H⟩ := H
              replace H : (if t212 = true then ((laws_markDecoder.f kj15 t189 t192 1).bind fun bt213 => ((laws_markByteS.f kj15 t194 bt213.1).bind fun bt215 => (if bt215.1 < 0 then (laws_FnExactFeedBytes.j1 kj15 l1 t187 true l0_0 a0_1 t183 t186 t197 t200) else ((laws_eqDecoder.f kj15 t197 t200 t183 t186).bind fun t217 => (if t217 = true then (laws_FnExactFeedBytes.j1 kj15 l1 t187 (t201 != t187) l0_0 a0_1 t183 t186 t197 t200) else (laws_FnExactFeedBytes.j1 kj15 l1 t187 true l0_0 a0_1 t183 t186 t197 t200)))))) else (some false)) = some r := H
              have A73 := Aside0.mk A730
              clear A730
              by_cases c74 : t212 = true
              · subst c74
                have H1 : ((laws_markDecoder.f kj15 t189 t192 1).bind fun bt213 => ((laws_markByteS.f kj15 t194 bt213.1).bind fun bt215 => (if bt215.1 < 0 then (laws_FnExactFeedBytes.j1 kj15 l1 t187 true l0_0 a0_1 t183 t186 t197 t200) else ((laws_eqDecoder.f kj15 t197 t200 t183 t186).bind fun t217 => (if t217 = true then (laws_FnExactFeedBytes.j1 kj15 l1 t187 (t201 != t187) l0_0 a0_1 t183 t186 t197 t200) else (laws_FnExactFeedBytes.j1 kj15 l1 t187 true l0_0 a0_1 t183 t186 t197 t200)))))) = some r := by rw [if_pos rfl] at H; exact H
                clear H
                have H := H1
                clear H1
                replace H := Option.bind_eq_some_iff.mp H
                obtain ⟨⟨t213, t214⟩, A750, H⟩ := H
                replace H : ((laws_markByteS.f kj15 t194 t213).bind fun bt215 => (if bt215.1 < 0 then (laws_FnExactFeedBytes.j1 kj15 l1 t187 true l0_0 a0_1 t183 t186 t197 t200) else ((laws_eqDecoder.f kj15 t197 t200 t183 t186).bind fun t217 => (if t217 = true then (laws_FnExactFeedBytes.j1 kj15 l1 t187 (t201 != t187) l0_0 a0_1 t183 t186 t197 t200) else (laws_FnExactFeedBytes.j1 kj15 l1 t187 true l0_0 a0_1 t183 t186 t197 t200))))) = some r := H
                have A75 := Aside0.mk A750
                clear A750
                replace H := Option.bind_eq_some_iff.mp H
                obtain ⟨⟨t215, t216⟩, A760, H⟩ := H
                replace H : (if t215 < 0 then (laws_FnExactFeedBytes.j1 kj15 l1 t187 true l0_0 a0_1 t183 t186 t197 t200) else ((laws_eqDecoder.f kj15 t197 t200 t183 t186).bind fun t217 => (if t217 = true then (laws_FnExactFeedBytes.j1 kj15 l1 t187 (t201 != t187) l0_0 a0_1 t183 t186 t197 t200) else (laws_FnExactFeedBytes.j1 kj15 l1 t187 true l0_0 a0_1 t183 t186 t197 t200)))) = some r := H
                have A76 := Aside0.mk A760
                clear A760
                have HC77 := Aside0.mk H
                clear H
                try go_wp2
                have n0_ := Aside0.mk (Kd.R_drew HO_9.out)
                have n1_ := Aside0.mk (Kd.R_drew HO_189000.out)
                have n2_ := Aside0.mk (Kd.R_drew HO_194000.out)
                have n3_ := Aside0.mk (Kd.R_drew HO_203000.out)
                have n4_ := Aside0.mk (blk_drew BK174.out)
                have n5_ := Aside0.mk (blk_drew BK188.out)
                have n6_ := Aside0.mk (blk_drew BK193.out)
                have n7_ := Aside0.mk (blk_drew BK202.out)
                have n8_ := Aside0.mk (below_drew1 HB.out)
                clear HO_9
                clear HO_189000
                clear HO_194000
                clear HO_203000
                clear BK174
                clear BK188
                clear BK193
                clear BK202
                clear HB
                have HO_9 := n0_
                have HO_189000 := n1_
                have HO_194000 := n2_
                have HO_203000 := n3_
                have BK174 := n4_
                have BK188 := n5_
                have BK193 := n6_
                have BK202 := n7_
                have HB := n8_
                clear n0_ n1_ n2_ n3_ n4_ n5_ n6_ n7_ n8_
                refine start_ (n := 5) (S := fun w' => w'.cell? ⟨gb193, 0, none⟩ = some (.slice Ao34 t189.length co34) ∧ w'.cell? ⟨gb193, 1, none⟩ = some (.bool t192) ∧ w'.cell? ⟨gb174, 0, none⟩ = some (.slice A0_0 l0_0.length c0_0) ∧ w'.cell? ⟨gb174, 1, none⟩ = some (.bool a0_1)) (ds := []) #[false, false, false, false, false] (by kernel_rfl) rfl rfl ⟨(blk_cell BK193.out 0).trans rfl, (blk_cell BK193.out 1).trans rfl, (blk_cell BK174.out 0).trans rfl, (blk_cell BK174.out 1).trans rfl⟩ (fun hHeld => ?_)
                generalize wc.drew = w78 at HO_9 HO_189000 HO_194000 HO_203000 BK174 BK188 BK193 BK202 HB hHeld ⊢
                refine take_ (i := 0) (N := some 52) (v := ?_) (a' := ?_) #[true, false, false, false, false] rfl rfl (by kernel_rfl) (fun _ _ _ h => h) (Or.inl ⟨by rfl, ?_⟩) hHeld ?_ ?_
                rotate_left
                · rintro w' ⟨s0, s1, s2, s3⟩
                  go_simp
                  with_reducible rfl
                rotate_left
                · simp only [Act.put, List.setIfInBounds_toArray, List.set_cons_zero, List.set_cons_succ, i64_w, i32_w]
                  rfl
                refine take_ (i := 1) (N := some 53) (v := ?_) (a' := ?_) #[true, true, false, false, false] rfl rfl (by kernel_rfl) (fun _ _ _ h => h) (Or.inl ⟨by rfl, ?_⟩) hHeld ?_ ?_
                rotate_left
                · rintro w' ⟨s0, s1, s2, s3⟩
                  go_simp
                  with_reducible rfl
                rotate_left
                · simp only [Act.put, List.setIfInBounds_toArray, List.set_cons_zero, List.set_cons_succ, i64_w, i32_w]
                  rfl
                refine one_ (i := 2) (N := some 54) #[true, true, true, false, false] rfl rfl (by kernel_rfl) (by decide) (fun K hK => ?_)
                refine goes_ Try.func32 (by kernel_rfl) rfl #[.agg #[.slice A0_0 l0_0.length c0_0, .bool a0_1]] (by rfl) rfl rfl (by (try simp only [List.map_toArray, List.map_cons, List.map_nil]); first | done | rfl | (simp only [List.length_drop, List.length_take]; rfl)) ?_
                with_reducible refine (laws_toDecoder.calls kj15 _ _ l0_0 a0_1 t204 t207 _ ?side1 ?side2 A69.out).mono ?_
                (case side1 => repeat (first | exact (Kd.C_below HR0_0.out HB.out) | (with_reducible refine Kd.C_alloc ?_ _) | (with_reducible refine Kd.C_drewN ?_ _) | (with_reducible refine Kd.C_drew ?_)))
                (case side2 => exact HC0_0.out)
                rintro e w79 ⟨v205, rfl, ho0, hb⟩
                refine ⟨_, rfl, ?_⟩
                have n0_ := Aside0.mk (Kd.R_elder' (by (with_reducible repeat (first | apply Kd.R_alloc | apply Kd.R_drewN | apply Kd.R_drew)); exact HO_9.out) (Kd.R_base ho0) hb)
                have n1_ := Aside0.mk (Kd.R_elder' (by (with_reducible repeat (first | apply Kd.R_alloc | apply Kd.R_drewN | apply Kd.R_drew)); exact HO_189000.out) (Kd.R_base ho0) hb)
                have n2_ := Aside0.mk (Kd.R_elder' (by (with_reducible repeat (first | apply Kd.R_alloc | apply Kd.R_drewN | apply Kd.R_drew)); exact HO_194000.out) (Kd.R_base ho0) hb)
                have n3_ := Aside0.mk (Kd.R_elder' (by (with_reducible repeat (first | apply Kd.R_alloc | apply Kd.R_drewN | apply Kd.R_drew)); exact HO_203000.out) (Kd.R_base ho0) hb)
                have n4_ := Aside0.mk (Kd.R_lower (Kd.R_new' (Kd.R_new' (Kd.R_new' (Kd.R_new' ho0 (Kd.R_lt (by (with_reducible repeat (first | apply Kd.R_alloc | apply Kd.R_drewN | apply Kd.R_drew)); exact HO_9.out))) (Kd.R_lt (by (with_reducible repeat (first | apply Kd.R_alloc | apply Kd.R_drewN | apply Kd.R_drew)); exact HO_189000.out))) (Kd.R_lt (by (with_reducible repeat (first | apply Kd.R_alloc | apply Kd.R_drewN | apply Kd.R_drew)); exact HO_194000.out))) (Kd.R_lt (by (with_reducible repeat (first | apply Kd.R_alloc | apply Kd.R_drewN | apply Kd.R_drew)); exact HO_203000.out))) (below_size (by repeat (first | (with_reducible first | exact HB.out | apply below_alloc | apply pw_below_drewN | apply below_drew1 | refine below_set ?_ GE174.out | refine below_set ?_ GE188.out | refine below_set ?_ GE193.out | refine below_set ?_ GE202.out) | exact HB.out))))
                have n5_ := Aside0.mk (blk_below (g := gb174) (o := .cells #[.slice A0_0 l0_0.length c0_0, .bool a0_1] 51 (0, 0)) (by (with_reducible repeat (first | refine blk_drewN ?_ _ | refine blk_drew ?_ | refine blk_alloc ?_ _)); exact BK174.out) hb)
                have n6_ := Aside0.mk (blk_below (g := gb188) (o := .cells #[.slice Ao27 t183.length co27, .bool t186] 53 (0, 0)) (by (with_reducible repeat (first | refine blk_drewN ?_ _ | refine blk_drew ?_ | refine blk_alloc ?_ _)); exact BK188.out) hb)
                have n7_ := Aside0.mk (blk_below (g := gb193) (o := .cells #[.slice Ao34 t189.length co34, .bool t192] 53 (0, 0)) (by (with_reducible repeat (first | refine blk_drewN ?_ _ | refine blk_drew ?_ | refine blk_alloc ?_ _)); exact BK193.out) hb)
                have n8_ := Aside0.mk (blk_below (g := gb202) (o := .cells #[.slice Ao44 t197.length co44, .bool t200] 53 (0, 0)) (by (with_reducible repeat (first | refine blk_drewN ?_ _ | refine blk_drew ?_ | refine blk_alloc ?_ _)); exact BK202.out) hb)
                have n9_ := Aside0.mk (below_step (by repeat (first | (with_reducible first | exact HB.out | apply below_alloc | apply pw_below_drewN | apply below_drew1 | refine below_set ?_ GE174.out | refine below_set ?_ GE188.out | refine below_set ?_ GE193.out | refine below_set ?_ GE202.out) | exact HB.out)) hb)
                clear HO_9
                clear HO_189000
                clear HO_194000
                clear HO_203000
                clear BK174
                clear BK188
                clear BK193
                clear BK202
                clear HB
                have HO_9 := n0_
                have HO_189000 := n1_
                have HO_194000 := n2_
                have HO_203000 := n3_
                have HO206 := n4_
                have BK174 := n5_
                have BK188 := n6_
                have BK193 := n7_
                have BK202 := n8_
                have HB := n9_
                clear n0_ n1_ n2_ n3_ n4_ n5_ n6_ n7_ n8_ n9_
                (try clear hb)
                (try clear hb2)
                (try clear hk)
                (try clear hi)
                (try clear ho0)
                obtain ⟨Ao80, co80, eo80⟩ := Kd.R_slice HO206.out
                (first | subst eo80 | (injection eo80 with f1_ f2_ f3_; have f4_ := f1_.symm; have f5_ := f3_.symm; clear f1_ f2_ f3_; subst f4_; subst f5_))
                refine hK.out _ _ ⟨(blk_cell BK193.out 0).trans rfl, (blk_cell BK193.out 1).trans rfl, (blk_cell BK174.out 0).trans rfl, (blk_cell BK174.out 1).trans rfl⟩ (fun hHeld => ?_)
                clear hK K
                refine norm_ (a' := ?_) ?_ ?_
                rotate_left
                · show Act.put _ (some 54) _ = _
                  simp only [Act.put, List.setIfInBounds_toArray, List.set_cons_zero, List.set_cons_succ, i64_w, i32_w]
                  rfl
                refine one_ (i := 3) (N := some 55) #[true, true, true, true, false] rfl rfl (by kernel_rfl) (by decide) (fun K hK => ?_)
                refine goes_ Try.func35 (by kernel_rfl) rfl #[.agg #[.slice Ao34 t189.length co34, .bool t192], .agg #[.slice Ao80 t204.length co80, .bool t207]] (by rfl) rfl rfl (by (try simp only [List.map_toArray, List.map_cons, List.map_nil]); first | done | rfl | (simp only [List.length_drop, List.length_take]; rfl)) ?_
                with_reducible refine (laws_eqDecoder.calls kj15 _ _ t189 t192 _ _ t204 t207 true _ ?side1 ?side2 ?side3 ?side4 A70.out).mono ?_
                (case side1 => repeat (first | exact (Kd.R_reads' HO_194000.out).2.2 | (with_reducible refine Kd.C_alloc ?_ _) | (with_reducible refine Kd.C_drewN ?_ _) | (with_reducible refine Kd.C_drew ?_)))
                (case side2 => exact (Kd.R_reads' HO_194000.out).2.1)
                (case side3 => repeat (first | exact (Kd.R_reads' HO206.out).2.2 | (with_reducible refine Kd.C_alloc ?_ _) | (with_reducible refine Kd.C_drewN ?_ _) | (with_reducible refine Kd.C_drew ?_)))
                (case side4 => exact (Kd.R_reads' HO206.out).2.1)
                rintro e w81 ⟨rfl, hb⟩
                refine ⟨_, rfl, ?_⟩
                have n0_ := Aside0.mk (Kd.R_below (by (with_reducible repeat (first | apply Kd.R_alloc | apply Kd.R_drewN | apply Kd.R_drew)); exact HO_9.out) hb)
                have n1_ := Aside0.mk (Kd.R_below (by (with_reducible repeat (first | apply Kd.R_alloc | apply Kd.R_drewN | apply Kd.R_drew)); exact HO_189000.out) hb)
                have n2_ := Aside0.mk (Kd.R_below (by (with_reducible repeat (first | apply Kd.R_alloc | apply Kd.R_drewN | apply Kd.R_drew)); exact HO_194000.out) hb)
                have n3_ := Aside0.mk (Kd.R_below (by (with_reducible repeat (first | apply Kd.R_alloc | apply Kd.R_drewN | apply Kd.R_drew)); exact HO_203000.out) hb)
                have n4_ := Aside0.mk (Kd.R_below (by (with_reducible repeat (first | apply Kd.R_alloc | apply Kd.R_drewN | apply Kd.R_drew)); exact HO206.out) hb)
                have n5_ := Aside0.mk (blk_below (g := gb174) (o := .cells #[.slice A0_0 l0_0.length c0_0, .bool a0_1] 51 (0, 0)) (by (with_reducible repeat (first | refine blk_drewN ?_ _ | refine blk_drew ?_ | refine blk_alloc ?_ _)); exact BK174.out) hb)
                have n6_ := Aside0.mk (blk_below (g := gb188) (o := .cells #[.slice Ao27 t183.length co27, .bool t186] 53 (0, 0)) (by (with_reducible repeat (first | refine blk_drewN ?_ _ | refine blk_drew ?_ | refine blk_alloc ?_ _)); exact BK188.out) hb)
                have n7_ := Aside0.mk (blk_below (g := gb193) (o := .cells #[.slice Ao34 t189.length co34, .bool t192] 53 (0, 0)) (by (with_reducible repeat (first | refine blk_drewN ?_ _ | refine blk_drew ?_ | refine blk_alloc ?_ _)); exact BK193.out) hb)
                have n8_ := Aside0.mk (blk_below (g := gb202) (o := .cells #[.slice Ao44 t197.length co44, .bool t200] 53 (0, 0)) (by (with_reducible repeat (first | refine blk_drewN ?_ _ | refine blk_drew ?_ | refine blk_alloc ?_ _)); exact BK202.out) hb)
                have n9_ := Aside0.mk (below_step (by repeat (first | (with_reducible first | exact HB.out | apply below_alloc | apply pw_below_drewN | apply below_drew1 | refine below_set ?_ GE174.out | refine below_set ?_ GE188.out | refine below_set ?_ GE193.out | refine below_set ?_ GE202.out) | exact HB.out)) hb)
                clear HO_9
                clear HO_189000
                clear HO_194000
                clear HO_203000
                clear HO206
                clear BK174
                clear BK188
                clear BK193
                clear BK202
                clear HB
                have HO_9 := n0_
                have HO_189000 := n1_
                have HO_194000 := n2_
                have HO_203000 := n3_
                have HO206 := n4_
                have BK174 := n5_
                have BK188 := n6_
                have BK193 := n7_
                have BK202 := n8_
                have HB := n9_
                clear n0_ n1_ n2_ n3_ n4_ n5_ n6_ n7_ n8_ n9_
                (try clear hb)
                (try clear hb2)
                (try clear hk)
                (try clear hi)
                refine hK.out _ _ ⟨(blk_cell BK193.out 0).trans rfl, (blk_cell BK193.out 1).trans rfl, (blk_cell BK174.out 0).trans rfl, (blk_cell BK174.out 1).trans rfl⟩ (fun hHeld => ?_)
                clear hK K
                refine norm_ (a' := ?_) ?_ ?_
                rotate_left
                · show Act.put _ (some 55) _ = _
                  simp only [Act.put, List.setIfInBounds_toArray, List.set_cons_zero, List.set_cons_succ, i64_w, i32_w]
                  rfl
                refine pure_ (i := 4) (N := some 56) (v := ?_) (a' := ?_) #[true, true, true, true, true] rfl rfl (by kernel_rfl) (fun _ _ _ h => h) (Or.inl ⟨by rfl, ?_⟩) ?_ ?_
                rotate_left
                · intro w'
                  go_simp
                  with_reducible rfl
                rotate_left
                · simp only [Act.put, List.setIfInBounds_toArray, List.set_cons_zero, List.set_cons_succ, i64_w, i32_w]
                  rfl
                refine done_ (by kernel_rfl) ?_
                go_upto_region 20 with (first | ((with_reducible refine gate_callee (f := 33) rfl ?_); refine goesL_ (some 59) rfl rfl Try.func33 (by kernel_rfl) rfl #[.slice A1 l1.length c1] rfl (by (try simp only [List.map_toArray, List.map_cons, List.map_nil]); first | done | rfl | (simp only [List.length_drop, List.length_take]; rfl)) ?_; (with_reducible refine (laws_toByteS.calls kj15 _ _ l1 t209 _ ?side1 ?side2 A72.out).mono ?_); (case side1 => repeat (first | exact (Kd.C_below HR1.out HB.out) | (with_reducible refine Kd.C_alloc ?_ _) | (with_reducible refine Kd.C_drewN ?_ _) | (with_reducible refine Kd.C_drew ?_))); (case side2 => exact HC1.out); rintro e w82 ⟨v210, rfl, ho0, hb⟩; refine ⟨_, rfl, ?_⟩; have n0_ := Aside0.mk (Kd.R_elder' (by (with_reducible repeat (first | apply Kd.R_alloc | apply Kd.R_drewN | apply Kd.R_drew)); exact HO_9.out) (Kd.R_base ho0) hb); have n1_ := Aside0.mk (Kd.R_elder' (by (with_reducible repeat (first | apply Kd.R_alloc | apply Kd.R_drewN | apply Kd.R_drew)); exact HO_189000.out) (Kd.R_base ho0) hb); have n2_ := Aside0.mk (Kd.R_elder' (by (with_reducible repeat (first | apply Kd.R_alloc | apply Kd.R_drewN | apply Kd.R_drew)); exact HO_194000.out) (Kd.R_base ho0) hb); have n3_ := Aside0.mk (Kd.R_elder' (by (with_reducible repeat (first | apply Kd.R_alloc | apply Kd.R_drewN | apply Kd.R_drew)); exact HO_203000.out) (Kd.R_base ho0) hb); have n4_ := Aside0.mk (Kd.R_elder' (by (with_reducible repeat (first | apply Kd.R_alloc | apply Kd.R_drewN | apply Kd.R_drew)); exact HO206.out) (Kd.R_base ho0) hb); have n5_ := Aside0.mk (Kd.R_lower (Kd.R_new' (Kd.R_new' (Kd.R_new' (Kd.R_new' (Kd.R_new' ho0 (Kd.R_lt (by (with_reducible repeat (first | apply Kd.R_alloc | apply Kd.R_drewN | apply Kd.R_drew)); exact HO_9.out))) (Kd.R_lt (by (with_reducible repeat (first | apply Kd.R_alloc | apply Kd.R_drewN | apply Kd.R_drew)); exact HO_189000.out))) (Kd.R_lt (by (with_reducible repeat (first | apply Kd.R_alloc | apply Kd.R_drewN | apply Kd.R_drew)); exact HO_194000.out))) (Kd.R_lt (by (with_reducible repeat (first | apply Kd.R_alloc | apply Kd.R_drewN | apply Kd.R_drew)); exact HO_203000.out))) (Kd.R_lt (by (with_reducible repeat (first | apply Kd.R_alloc | apply Kd.R_drewN | apply Kd.R_drew)); exact HO206.out))) (below_size (by repeat (first | (with_reducible first | exact HB.out | apply below_alloc | apply pw_below_drewN | apply below_drew1 | refine below_set ?_ GE174.out | refine below_set ?_ GE188.out | refine below_set ?_ GE193.out | refine below_set ?_ GE202.out) | exact HB.out)))); have n6_ := Aside0.mk (blk_below (g := gb174) (o := .cells #[.slice A0_0 l0_0.length c0_0, .bool a0_1] 51 (0, 0)) (by (with_reducible repeat (first | refine blk_drewN ?_ _ | refine blk_drew ?_ | refine blk_alloc ?_ _)); exact BK174.out) hb); have n7_ := Aside0.mk (blk_below (g := gb188) (o := .cells #[.slice Ao27 t183.length co27, .bool t186] 53 (0, 0)) (by (with_reducible repeat (first | refine blk_drewN ?_ _ | refine blk_drew ?_ | refine blk_alloc ?_ _)); exact BK188.out) hb); have n8_ := Aside0.mk (blk_below (g := gb193) (o := .cells #[.slice Ao34 t189.length co34, .bool t192] 53 (0, 0)) (by (with_reducible repeat (first | refine blk_drewN ?_ _ | refine blk_drew ?_ | refine blk_alloc ?_ _)); exact BK193.out) hb); have n9_ := Aside0.mk (blk_below (g := gb202) (o := .cells #[.slice Ao44 t197.length co44, .bool t200] 53 (0, 0)) (by (with_reducible repeat (first | refine blk_drewN ?_ _ | refine blk_drew ?_ | refine blk_alloc ?_ _)); exact BK202.out) hb); have n10_ := Aside0.mk (below_step (by repeat (first | (with_reducible first | exact HB.out | apply below_alloc | apply pw_below_drewN | apply below_drew1 | refine below_set ?_ GE174.out | refine below_set ?_ GE188.out | refine below_set ?_ GE193.out | refine below_set ?_ GE202.out) | exact HB.out)) hb); clear HO_9; clear HO_189000; clear HO_194000; clear HO_203000; clear HO206; clear BK174; clear BK188; clear BK193; clear BK202; clear HB; have HO_9 := n0_; have HO_189000 := n1_; have HO_194000 := n2_; have HO_203000 := n3_; have HO206 := n4_; have HO211 := n5_; have BK174 := n6_; have BK188 := n7_; have BK193 := n8_; have BK202 := n9_; have HB := n10_; clear n0_ n1_ n2_ n3_ n4_ n5_ n6_ n7_ n8_ n9_ n10_; (try clear hb); (try clear hb2); (try clear hk); (try clear hi); (try clear ho0); obtain ⟨Ao83, co83, eo83⟩ := Kd.R_slice HO211.out; subst eo83) | ((with_reducible refine gate_callee (f := 36) rfl ?_); refine goesL_ (some 60) rfl rfl Try.func36 (by kernel_rfl) rfl #[.slice Ao41 t194.length co41, .slice Ao83 t209.length co83] rfl (by (try simp only [List.map_toArray, List.map_cons, List.map_nil]); first | done | rfl | (simp only [List.length_drop, List.length_take]; rfl)) ?_; (with_reducible refine (laws_eqByteS.calls kj15 _ _ t194 _ _ t209 true _ ?side1 ?side2 ?side3 ?side4 A73.out).mono ?_); (case side1 => repeat (first | exact (Kd.R_reads' HO_9.out).2.2 | (with_reducible refine Kd.C_alloc ?_ _) | (with_reducible refine Kd.C_drewN ?_ _) | (with_reducible refine Kd.C_drew ?_))); (case side2 => exact (Kd.R_reads' HO_9.out).2.1); (case side3 => repeat (first | exact (Kd.R_reads' HO211.out).2.2 | (with_reducible refine Kd.C_alloc ?_ _) | (with_reducible refine Kd.C_drewN ?_ _) | (with_reducible refine Kd.C_drew ?_))); (case side4 => exact (Kd.R_reads' HO211.out).2.1); rintro e w' ⟨rfl, ⟨nd, rfl⟩⟩; refine ⟨_, rfl, ?_⟩; have hnb84 := NB193_174.out; have hnc84 := NB174_193.out; have hnb85 := NB193_188.out; have hnc85 := NB188_193.out; have hnb86 := NB193_202.out; have hnc86 := NB202_193.out; have hcz87_0 : w82.cell? ⟨gb193, 0, none⟩ = some (.slice Ao34 t189.length co34) := (blk_cell BK193.out 0).trans rfl; have hcz87_1 : w82.cell? ⟨gb193, 1, none⟩ = some (.bool t192) := (blk_cell BK193.out 1).trans rfl; have hfz87_0 := blk_frozen BK193.out 0; have hfz87_1 := blk_frozen BK193.out 1) | ((with_reducible refine gate_callee (f := 37) rfl ?_); refine goesL_ (some 64) rfl rfl Try.func37 (by kernel_rfl) rfl #[.agg #[.slice Ao34 t189.length co34, .bool t192], .int .i64 1] rfl (by (try simp only [List.map_toArray, List.map_cons, List.map_nil]); first | done | rfl | (simp only [List.length_drop, List.length_take]; rfl)) ?_; (with_reducible refine (laws_markDecoder.calls kj15 (fun k_ => some k_ = (.slice Ao34 t189.length co34 : Value).ownBlock) (.slice Ao34 t189.length co34) t189 t192 1 t213 t214 w _ ?side1 ?side2 A75.out).mono ?_); (case side1 => repeat (first | (with_reducible first | exact HB.out | apply below_alloc | apply pw_below_drewN | apply below_drew1 | refine below_set ?_ GE174.out | refine below_set ?_ GE188.out | refine below_set ?_ GE193.out | refine below_set ?_ GE202.out) | exact HB.out)); (case side2 => exact Kd.R_tight rfl HO_194000.out); rintro e w88 ⟨rfl, hy0, hb, hkp⟩; refine ⟨_, rfl, ?_⟩; have n0_ := Aside0.mk (Kd.R_mono (ok' := fun k_ => some k_ ≠ (.slice Ao27 t183.length co27 : Value).ownBlock ∧ some k_ ≠ (.slice Ao34 t189.length co34 : Value).ownBlock ∧ some k_ ≠ (.slice Ao44 t197.length co44 : Value).ownBlock ∧ some k_ ≠ (.slice Ao80 t204.length co80 : Value).ownBlock ∧ some k_ ≠ (.slice Ao83 t209.length co83 : Value).ownBlock) (Kd.R_keptB (HO_9.out) hkp (fun k_ hk_ hs_ => by first | exact (hk_.1.1.2.1) hs_ | grind)) (fun k_ hk_ => by first | exact ⟨hk_.1.1.1.1, hk_.1.1.1.2.1, hk_.1.1.1.2.2, hk_.1.1.2, hk_.1.2⟩ | grind)); have n1_ := Aside0.mk (Kd.R_mono (ok' := fun k_ => some k_ ≠ (.slice Ao41 t194.length co41 : Value).ownBlock ∧ some k_ ≠ (.slice Ao34 t189.length co34 : Value).ownBlock ∧ some k_ ≠ (.slice Ao44 t197.length co44 : Value).ownBlock ∧ some k_ ≠ (.slice Ao80 t204.length co80 : Value).ownBlock ∧ some k_ ≠ (.slice Ao83 t209.length co83 : Value).ownBlock) (Kd.R_keptB (HO_189000.out) hkp (fun k_ hk_ hs_ => by first | exact (hk_.1.1.2.1) hs_ | grind)) (fun k_ hk_ => by first | exact ⟨hk_.1.1.1.1, hk_.1.1.1.2.1, hk_.1.1.1.2.2, hk_.1.1.2, hk_.1.2⟩ | grind)); have n2_ := Aside0.mk (Kd.R_reok rfl hy0 (fun k_ e_ => HO_194000.out.1 k_ e_)); have n3_ := Aside0.mk (Kd.R_mono (ok' := fun k_ => some k_ ≠ (.slice Ao41 t194.length co41 : Value).ownBlock ∧ some k_ ≠ (.slice Ao27 t183.length co27 : Value).ownBlock ∧ some k_ ≠ (.slice Ao34 t189.length co34 : Value).ownBlock ∧ some k_ ≠ (.slice Ao80 t204.length co80 : Value).ownBlock ∧ some k_ ≠ (.slice Ao83 t209.length co83 : Value).ownBlock) (Kd.R_keptB (HO_203000.out) hkp (fun k_ hk_ hs_ => by first | exact (hk_.1.1.2.2) hs_ | grind)) (fun k_ hk_ => by first | exact ⟨hk_.1.1.1.1, hk_.1.1.1.2.1, hk_.1.1.1.2.2, hk_.1.1.2, hk_.1.2⟩ | grind)); have n4_ := Aside0.mk (blk_kept (g := gb174) (o := .cells #[.slice A0_0 l0_0.length c0_0, .bool a0_1] 51 (0, 0)) (by (with_reducible repeat (first | refine blk_drewN ?_ _ | refine blk_drew ?_ | refine blk_alloc ?_ _)); exact BK174.out) hkp (fun hs_ => (fun e_ => (Kd.R_ne HO_194000.out BK174.out (by decide)) e_) hs_)); have n5_ := Aside0.mk (blk_kept (g := gb188) (o := .cells #[.slice Ao27 t183.length co27, .bool t186] 53 (0, 0)) (by (with_reducible repeat (first | refine blk_drewN ?_ _ | refine blk_drew ?_ | refine blk_alloc ?_ _)); exact BK188.out) hkp (fun hs_ => (fun e_ => (Kd.R_ne HO_194000.out BK188.out (by decide)) e_) hs_)); have n6_ := Aside0.mk (blk_kept (g := gb193) (o := .cells #[.slice Ao34 t189.length co34, .bool t192] 53 (0, 0)) (by (with_reducible repeat (first | refine blk_drewN ?_ _ | refine blk_drew ?_ | refine blk_alloc ?_ _)); exact BK193.out) hkp (fun hs_ => (fun e_ => (Kd.R_ne HO_194000.out BK193.out (by decide)) e_) hs_)); have n7_ := Aside0.mk (blk_kept (g := gb202) (o := .cells #[.slice Ao44 t197.length co44, .bool t200] 53 (0, 0)) (by (with_reducible repeat (first | refine blk_drewN ?_ _ | refine blk_drew ?_ | refine blk_alloc ?_ _)); exact BK202.out) hkp (fun hs_ => (fun e_ => (Kd.R_ne HO_194000.out BK202.out (by decide)) e_) hs_)); have n8_ := Aside0.mk (Kd.R_mono (ok' := fun k_ => some k_ ≠ (.slice Ao41 t194.length co41 : Value).ownBlock ∧ some k_ ≠ (.slice Ao27 t183.length co27 : Value).ownBlock ∧ some k_ ≠ (.slice Ao34 t189.length co34 : Value).ownBlock ∧ some k_ ≠ (.slice Ao44 t197.length co44 : Value).ownBlock ∧ some k_ ≠ (.slice Ao83 t209.length co83 : Value).ownBlock) (Kd.R_keptB (HO206.out) hkp (fun k_ hk_ hs_ => by first | exact (hk_.1.1.2) hs_ | grind)) (fun k_ hk_ => by first | exact ⟨hk_.1.1.1.1.1.2, hk_.1.1.1.1.2, hk_.1.1.1.2, hk_.1.1.2, hk_.1.2⟩ | grind)); have n9_ := Aside0.mk (Kd.R_mono (ok' := fun k_ => some k_ ≠ (.slice Ao41 t194.length co41 : Value).ownBlock ∧ some k_ ≠ (.slice Ao27 t183.length co27 : Value).ownBlock ∧ some k_ ≠ (.slice Ao34 t189.length co34 : Value).ownBlock ∧ some k_ ≠ (.slice Ao44 t197.length co44 : Value).ownBlock ∧ some k_ ≠ (.slice Ao80 t204.length co80 : Value).ownBlock) (Kd.R_keptB (HO211.out) hkp (fun k_ hk_ hs_ => by first | exact (hk_.1.1.2) hs_ | grind)) (fun k_ hk_ => by first | exact ⟨hk_.1.1.1.1.1.2, hk_.1.1.1.1.2, hk_.1.1.1.2, hk_.1.1.2, hk_.1.2⟩ | grind)); have n10_ := Aside0.mk (hb); clear HO_9; clear HO_189000; clear HO_194000; clear HO_203000; clear BK174; clear BK188; clear BK193; clear BK202; clear HO206; clear HO211; clear HB; have HO_9 := n0_; have HO_189000 := n1_; have HO_194000 := n2_; have HO_203000 := n3_; have BK174 := n4_; have BK188 := n5_; have BK193 := n6_; have BK202 := n7_; have HO206 := n8_; have HO211 := n9_; have HB := n10_; clear n0_ n1_ n2_ n3_ n4_ n5_ n6_ n7_ n8_ n9_ n10_; (try clear hb); (try clear hkp); (try clear hy0)) | ((with_reducible refine gate_callee (f := 38) rfl ?_); refine goesL_ (some 67) rfl rfl Try.func38 (by kernel_rfl) rfl #[.slice Ao41 t194.length co41, .int .i64 t213] rfl (by (try simp only [List.map_toArray, List.map_cons, List.map_nil]); first | done | rfl | (simp only [List.length_drop, List.length_take]; rfl)) ?_; (with_reducible refine (laws_markByteS.calls kj15 (fun k_ => some k_ = (.slice Ao41 t194.length co41 : Value).ownBlock) (.slice Ao41 t194.length co41) t194 t213 t215 t216 w _ ?side1 ?side2 A76.out).mono ?_); (case side1 => repeat (first | (with_reducible first | exact HB.out | apply below_alloc | apply pw_below_drewN | apply below_drew1 | refine below_set ?_ GE174.out | refine below_set ?_ GE188.out | refine below_set ?_ GE193.out | refine below_set ?_ GE202.out) | exact HB.out)); (case side2 => exact Kd.R_tight rfl HO_9.out); rintro e w89 ⟨rfl, hy0, hb, hkp⟩; refine ⟨_, rfl, ?_⟩; have n0_ := Aside0.mk (Kd.R_reok rfl hy0 (fun k_ e_ => HO_9.out.1 k_ e_)); have n1_ := Aside0.mk (Kd.R_mono (ok' := fun k_ => some k_ ≠ (.slice Ao41 t194.length co41 : Value).ownBlock ∧ some k_ ≠ (.slice Ao34 t189.length co34 : Value).ownBlock ∧ some k_ ≠ (.slice Ao44 t197.length co44 : Value).ownBlock ∧ some k_ ≠ (.slice Ao80 t204.length co80 : Value).ownBlock ∧ some k_ ≠ (.slice Ao83 t209.length co83 : Value).ownBlock) (Kd.R_keptB (HO_189000.out) hkp (fun k_ hk_ hs_ => by first | exact (hk_.1) hs_ | grind)) (fun k_ hk_ => by first | exact ⟨hk_.1.1, hk_.1.2.1, hk_.1.2.2.1, hk_.1.2.2.2.1, hk_.1.2.2.2.2⟩ | grind)); have n2_ := Aside0.mk (Kd.R_mono (ok' := fun k_ => some k_ ≠ (.slice Ao41 t194.length co41 : Value).ownBlock ∧ some k_ ≠ (.slice Ao27 t183.length co27 : Value).ownBlock ∧ some k_ ≠ (.slice Ao44 t197.length co44 : Value).ownBlock ∧ some k_ ≠ (.slice Ao80 t204.length co80 : Value).ownBlock ∧ some k_ ≠ (.slice Ao83 t209.length co83 : Value).ownBlock) (Kd.R_keptB (HO_194000.out) hkp (fun k_ hk_ hs_ => by first | exact (hk_.1.1.1) hs_ | grind)) (fun k_ hk_ => by first | exact ⟨hk_.1.1.1.1, hk_.1.1.1.2.1, hk_.1.1.1.2.2, hk_.1.1.2, hk_.1.2⟩ | grind)); have n3_ := Aside0.mk (Kd.R_mono (ok' := fun k_ => some k_ ≠ (.slice Ao41 t194.length co41 : Value).ownBlock ∧ some k_ ≠ (.slice Ao27 t183.length co27 : Value).ownBlock ∧ some k_ ≠ (.slice Ao34 t189.length co34 : Value).ownBlock ∧ some k_ ≠ (.slice Ao80 t204.length co80 : Value).ownBlock ∧ some k_ ≠ (.slice Ao83 t209.length co83 : Value).ownBlock) (Kd.R_keptB (HO_203000.out) hkp (fun k_ hk_ hs_ => by first | exact (hk_.1) hs_ | grind)) (fun k_ hk_ => by first | exact ⟨hk_.1.1, hk_.1.2.1, hk_.1.2.2.1, hk_.1.2.2.2.1, hk_.1.2.2.2.2⟩ | grind)); have n4_ := Aside0.mk (blk_kept (g := gb174) (o := .cells #[.slice A0_0 l0_0.length c0_0, .bool a0_1] 51 (0, 0)) (by (with_reducible repeat (first | refine blk_drewN ?_ _ | refine blk_drew ?_ | refine blk_alloc ?_ _)); exact BK174.out) hkp (fun hs_ => (fun e_ => (Kd.R_ne HO_9.out BK174.out (by decide)) e_) hs_)); have n5_ := Aside0.mk (blk_kept (g := gb188) (o := .cells #[.slice Ao27 t183.length co27, .bool t186] 53 (0, 0)) (by (with_reducible repeat (first | refine blk_drewN ?_ _ | refine blk_drew ?_ | refine blk_alloc ?_ _)); exact BK188.out) hkp (fun hs_ => (fun e_ => (Kd.R_ne HO_9.out BK188.out (by decide)) e_) hs_)); have n6_ := Aside0.mk (blk_kept (g := gb193) (o := .cells #[.slice Ao34 t189.length co34, .bool t192] 53 (0, 0)) (by (with_reducible repeat (first | refine blk_drewN ?_ _ | refine blk_drew ?_ | refine blk_alloc ?_ _)); exact BK193.out) hkp (fun hs_ => (fun e_ => (Kd.R_ne HO_9.out BK193.out (by decide)) e_) hs_)); have n7_ := Aside0.mk (blk_kept (g := gb202) (o := .cells #[.slice Ao44 t197.length co44, .bool t200] 53 (0, 0)) (by (with_reducible repeat (first | refine blk_drewN ?_ _ | refine blk_drew ?_ | refine blk_alloc ?_ _)); exact BK202.out) hkp (fun hs_ => (fun e_ => (Kd.R_ne HO_9.out BK202.out (by decide)) e_) hs_)); have n8_ := Aside0.mk (Kd.R_mono (ok' := fun k_ => some k_ ≠ (.slice Ao41 t194.length co41 : Value).ownBlock ∧ some k_ ≠ (.slice Ao27 t183.length co27 : Value).ownBlock ∧ some k_ ≠ (.slice Ao34 t189.length co34 : Value).ownBlock ∧ some k_ ≠ (.slice Ao44 t197.length co44 : Value).ownBlock ∧ some k_ ≠ (.slice Ao83 t209.length co83 : Value).ownBlock) (Kd.R_keptB (HO206.out) hkp (fun k_ hk_ hs_ => by first | exact (hk_.1) hs_ | grind)) (fun k_ hk_ => by first | exact ⟨hk_.1.1, hk_.1.2.1, hk_.1.2.2.1, hk_.1.2.2.2.1, hk_.1.2.2.2.2⟩ | grind)); have n9_ := Aside0.mk (Kd.R_mono (ok' := fun k_ => some k_ ≠ (.slice Ao41 t194.length co41 : Value).ownBlock ∧ some k_ ≠ (.slice Ao27 t183.length co27 : Value).ownBlock ∧ some k_ ≠ (.slice Ao34 t189.length co34 : Value).ownBlock ∧ some k_ ≠ (.slice Ao44 t197.length co44 : Value).ownBlock ∧ some k_ ≠ (.slice Ao80 t204.length co80 : Value).ownBlock) (Kd.R_keptB (HO211.out) hkp (fun k_ hk_ hs_ => by first | exact (hk_.1) hs_ | grind)) (fun k_ hk_ => by first | exact ⟨hk_.1.1, hk_.1.2.1, hk_.1.2.2.1, hk_.1.2.2.2.1, hk_.1.2.2.2.2⟩ | grind)); have n10_ := Aside0.mk (hb); clear HO_9; clear HO_189000; clear HO_194000; clear HO_203000; clear BK174; clear BK188; clear BK193; clear BK202; clear HO206; clear HO211; clear HB; have HO_9 := n0_; have HO_189000 := n1_; have HO_194000 := n2_; have HO_203000 := n3_; have BK174 := n4_; have BK188 := n5_; have BK193 := n6_; have BK202 := n7_; have HO206 := n8_; have HO211 := n9_; have HB := n10_; clear n0_ n1_ n2_ n3_ n4_ n5_ n6_ n7_ n8_ n9_ n10_; (try clear hb); (try clear hkp); (try clear hy0)))
                (try simp only [Act.put, List.setIfInBounds_toArray, List.set_cons_zero, List.set_cons_succ])
                go_cut [80] (fun v80 wc => ∃ (kq : Nat) (x80_76 : Bool), v80 = .bool x80_76 ∧ Aside0 (laws_FnExactFeedBytes.j1 kq l1 t187 x80_76 l0_0 a0_1 t183 t186 t197 t200 = some r) ∧ Aside0 (kq ≤ kj15) ∧ Aside0 (Kd.R (Kd.int .u8) 5 wc w.heap.size (fun k_ => some k_ ≠ ((.slice Ao34 t189.length co34) : Value).ownBlock ∧ some k_ ≠ ((.slice Ao44 t197.length co44) : Value).ownBlock) (.slice Ao27 t183.length co27) t183) ∧ Aside0 (Kd.R (Kd.int .u8) 5 wc w.heap.size (fun k_ => some k_ ≠ ((.slice Ao27 t183.length co27) : Value).ownBlock ∧ some k_ ≠ ((.slice Ao44 t197.length co44) : Value).ownBlock) (.slice Ao34 t189.length co34) t214) ∧ Aside0 (Kd.R (Kd.int .u8) 5 wc w.heap.size (fun k_ => some k_ ≠ ((.slice Ao27 t183.length co27) : Value).ownBlock ∧ some k_ ≠ ((.slice Ao34 t189.length co34) : Value).ownBlock) (.slice Ao44 t197.length co44) t197) ∧ Aside0 (wc.heap[gb174]? = some (.cells #[(.slice A0_0 l0_0.length c0_0), .bool a0_1] 51 (0, 0))) ∧ Aside0 (wc.heap[gb188]? = some (.cells #[(.slice Ao27 t183.length co27), .bool t186] 53 (0, 0))) ∧ Aside0 (wc.heap[gb193]? = some (.cells #[(.slice Ao34 t189.length co34), .bool t192] 53 (0, 0))) ∧ Aside0 (wc.heap[gb202]? = some (.cells #[(.slice Ao44 t197.length co44), .bool t200] 53 (0, 0))) ∧ Aside0 (Below w.heap.size w wc))
                case first =>
                  have H := HC77.out
                  clear HC77
                  by_cases c90 : t215 < 0
                  · rw [if_pos c90] at H
                    have c90b0 : decide (t215 < 0) = true := decide_eq_true c90
                    clear c90
                    (first | rw [c90b0] | (simp only [i64_w, i32_w]; rw [c90b0]) | skip)
                    have H' := Aside0.mk H
                    clear H
                    go_wp2
                    go_meet
                    case rel => exact ⟨_, (true), (by first | rfl | (simp; done) | (simp [*]; done)), H', ⟨by have := HJ15.out; first | omega | exact Nat.le_refl _⟩, ⟨by (with_reducible repeat (first | apply Kd.R_alloc | apply Kd.R_drewN | apply Kd.R_drew)); exact Kd.R_mono HO_189000.out (fun _ hk => by first | exact ⟨hk.2.1, hk.2.2.1⟩ | grind)⟩, ⟨by (with_reducible repeat (first | apply Kd.R_alloc | apply Kd.R_drewN | apply Kd.R_drew)); exact Kd.R_mono HO_194000.out (fun _ hk => by first | exact ⟨hk.2.1, hk.2.2.1⟩ | grind)⟩, ⟨by (with_reducible repeat (first | apply Kd.R_alloc | apply Kd.R_drewN | apply Kd.R_drew)); exact Kd.R_mono HO_203000.out (fun _ hk => by first | exact ⟨hk.2.1, hk.2.2.1⟩ | grind)⟩, ⟨by (with_reducible repeat (first | refine blk_drewN ?_ _ | refine blk_drew ?_ | refine blk_alloc ?_ _)); exact BK174.out⟩, ⟨by (with_reducible repeat (first | refine blk_drewN ?_ _ | refine blk_drew ?_ | refine blk_alloc ?_ _)); exact BK188.out⟩, ⟨by (with_reducible repeat (first | refine blk_drewN ?_ _ | refine blk_drew ?_ | refine blk_alloc ?_ _)); exact BK193.out⟩, ⟨by (with_reducible repeat (first | refine blk_drewN ?_ _ | refine blk_drew ?_ | refine blk_alloc ?_ _)); exact BK202.out⟩, ⟨by repeat (first | (with_reducible first | exact HB.out | apply below_alloc | apply pw_below_drewN | apply below_drew1 | refine below_set ?_ GE174.out | refine below_set ?_ GE188.out | refine below_set ?_ GE193.out | refine below_set ?_ GE202.out) | exact HB.out)⟩⟩
                  · rw [if_neg c90] at H
                    have c90b0 : decide (t215 < 0) = false := decide_eq_false c90
                    clear c90
                    (first | rw [c90b0] | (simp only [i64_w, i32_w]; rw [c90b0]) | skip)
                    replace H := Option.bind_eq_some_iff.mp H
                    obtain ⟨t217, A910, H⟩ := H
                    replace H : (if t217 = true then (laws_FnExactFeedBytes.j1 kj15 l1 t187 (t201 != t187) l0_0 a0_1 t183 t186 t197 t200) else (laws_FnExactFeedBytes.j1 kj15 l1 t187 true l0_0 a0_1 t183 t186 t197 t200)) = some r := H
                    have A91 := Aside0.mk A910
                    clear A910
                    by_cases c92 : t217 = true
                    · subst c92
                      have H1 : (laws_FnExactFeedBytes.j1 kj15 l1 t187 (t201 != t187) l0_0 a0_1 t183 t186 t197 t200) = some r := by rw [if_pos rfl] at H; exact H
                      clear H
                      have H := H1
                      clear H1
                      have H' := Aside0.mk H
                      clear H
                      have hnb93 := NB202_174.out
                      have hnc93 := NB174_202.out
                      have hnb94 := NB202_188.out
                      have hnc94 := NB188_202.out
                      have hnb95 := NB202_193.out
                      have hnc95 := NB193_202.out
                      have hcz96_0 : w89.cell? ⟨gb202, 0, none⟩ = some (.slice Ao44 t197.length co44) := (blk_cell BK202.out 0).trans rfl
                      have hcz96_1 : w89.cell? ⟨gb202, 1, none⟩ = some (.bool t200) := (blk_cell BK202.out 1).trans rfl
                      have hfz96_0 := blk_frozen BK202.out 0
                      have hfz96_1 := blk_frozen BK202.out 1
                      have hnb97 := NB188_174.out
                      have hnc97 := NB174_188.out
                      have hnb98 := NB188_193.out
                      have hnc98 := NB193_188.out
                      have hcz99_0 : w89.cell? ⟨gb188, 0, none⟩ = some (.slice Ao27 t183.length co27) := (blk_cell BK188.out 0).trans rfl
                      have hcz99_1 : w89.cell? ⟨gb188, 1, none⟩ = some (.bool t186) := (blk_cell BK188.out 1).trans rfl
                      have hfz99_0 := blk_frozen BK188.out 0
                      have hfz99_1 := blk_frozen BK188.out 1
                      go_wp2_with (first | (go_at_call 35; (with_reducible refine (laws_eqDecoder.calls kj15 _ _ t197 t200 _ _ t183 t186 true _ ?side1 ?side2 ?side3 ?side4 A91.out).mono ?_); (case side1 => repeat (first | exact (Kd.R_reads' HO_203000.out).2.2 | (with_reducible refine Kd.C_alloc ?_ _) | (with_reducible refine Kd.C_drewN ?_ _) | (with_reducible refine Kd.C_drew ?_))); (case side2 => exact (Kd.R_reads' HO_203000.out).2.1); (case side3 => repeat (first | exact (Kd.R_reads' HO_189000.out).2.2 | (with_reducible refine Kd.C_alloc ?_ _) | (with_reducible refine Kd.C_drewN ?_ _) | (with_reducible refine Kd.C_drew ?_))); (case side4 => exact (Kd.R_reads' HO_189000.out).2.1); rintro e w100 ⟨rfl, hb⟩; have n0_ := Aside0.mk (Kd.R_below (by (with_reducible repeat (first | apply Kd.R_alloc | apply Kd.R_drewN | apply Kd.R_drew)); exact HO_9.out) hb); have n1_ := Aside0.mk (Kd.R_below (by (with_reducible repeat (first | apply Kd.R_alloc | apply Kd.R_drewN | apply Kd.R_drew)); exact HO_189000.out) hb); have n2_ := Aside0.mk (Kd.R_below (by (with_reducible repeat (first | apply Kd.R_alloc | apply Kd.R_drewN | apply Kd.R_drew)); exact HO_194000.out) hb); have n3_ := Aside0.mk (Kd.R_below (by (with_reducible repeat (first | apply Kd.R_alloc | apply Kd.R_drewN | apply Kd.R_drew)); exact HO_203000.out) hb); have n4_ := Aside0.mk (Kd.R_below (by (with_reducible repeat (first | apply Kd.R_alloc | apply Kd.R_drewN | apply Kd.R_drew)); exact HO206.out) hb); have n5_ := Aside0.mk (Kd.R_below (by (with_reducible repeat (first | apply Kd.R_alloc | apply Kd.R_drewN | apply Kd.R_drew)); exact HO211.out) hb); have n6_ := Aside0.mk (blk_below (g := gb174) (o := .cells #[.slice A0_0 l0_0.length c0_0, .bool a0_1] 51 (0, 0)) (by (with_reducible repeat (first | refine blk_drewN ?_ _ | refine blk_drew ?_ | refine blk_alloc ?_ _)); exact BK174.out) hb); have n7_ := Aside0.mk (blk_below (g := gb188) (o := .cells #[.slice Ao27 t183.length co27, .bool t186] 53 (0, 0)) (by (with_reducible repeat (first | refine blk_drewN ?_ _ | refine blk_drew ?_ | refine blk_alloc ?_ _)); exact BK188.out) hb); have n8_ := Aside0.mk (blk_below (g := gb193) (o := .cells #[.slice Ao34 t189.length co34, .bool t192] 53 (0, 0)) (by (with_reducible repeat (first | refine blk_drewN ?_ _ | refine blk_drew ?_ | refine blk_alloc ?_ _)); exact BK193.out) hb); have n9_ := Aside0.mk (blk_below (g := gb202) (o := .cells #[.slice Ao44 t197.length co44, .bool t200] 53 (0, 0)) (by (with_reducible repeat (first | refine blk_drewN ?_ _ | refine blk_drew ?_ | refine blk_alloc ?_ _)); exact BK202.out) hb); have n10_ := Aside0.mk (below_step (by repeat (first | (with_reducible first | exact HB.out | apply below_alloc | apply pw_below_drewN | apply below_drew1 | refine below_set ?_ GE174.out | refine below_set ?_ GE188.out | refine below_set ?_ GE193.out | refine below_set ?_ GE202.out) | exact HB.out)) hb); clear HO_9; clear HO_189000; clear HO_194000; clear HO_203000; clear HO206; clear HO211; clear BK174; clear BK188; clear BK193; clear BK202; clear HB; have HO_9 := n0_; have HO_189000 := n1_; have HO_194000 := n2_; have HO_203000 := n3_; have HO206 := n4_; have HO211 := n5_; have BK174 := n6_; have BK188 := n7_; have BK193 := n8_; have BK202 := n9_; have HB := n10_; clear n0_ n1_ n2_ n3_ n4_ n5_ n6_ n7_ n8_ n9_ n10_; (try clear hb); (try clear hb2); (try clear hk); (try clear hi)))
                      go_meet
                      case rel => exact ⟨_, ((t201 != t187)), (by first | rfl | (simp; done) | (simp [*]; done)), H', ⟨by have := HJ15.out; first | omega | exact Nat.le_refl _⟩, ⟨by (with_reducible repeat (first | apply Kd.R_alloc | apply Kd.R_drewN | apply Kd.R_drew)); exact Kd.R_mono HO_189000.out (fun _ hk => by first | exact ⟨hk.2.1, hk.2.2.1⟩ | grind)⟩, ⟨by (with_reducible repeat (first | apply Kd.R_alloc | apply Kd.R_drewN | apply Kd.R_drew)); exact Kd.R_mono HO_194000.out (fun _ hk => by first | exact ⟨hk.2.1, hk.2.2.1⟩ | grind)⟩, ⟨by (with_reducible repeat (first | apply Kd.R_alloc | apply Kd.R_drewN | apply Kd.R_drew)); exact Kd.R_mono HO_203000.out (fun _ hk => by first | exact ⟨hk.2.1, hk.2.2.1⟩ | grind)⟩, ⟨by (with_reducible repeat (first | refine blk_drewN ?_ _ | refine blk_drew ?_ | refine blk_alloc ?_ _)); exact BK174.out⟩, ⟨by (with_reducible repeat (first | refine blk_drewN ?_ _ | refine blk_drew ?_ | refine blk_alloc ?_ _)); exact BK188.out⟩, ⟨by (with_reducible repeat (first | refine blk_drewN ?_ _ | refine blk_drew ?_ | refine blk_alloc ?_ _)); exact BK193.out⟩, ⟨by (with_reducible repeat (first | refine blk_drewN ?_ _ | refine blk_drew ?_ | refine blk_alloc ?_ _)); exact BK202.out⟩, ⟨by repeat (first | (with_reducible first | exact HB.out | apply below_alloc | apply pw_below_drewN | apply below_drew1 | refine below_set ?_ GE174.out | refine below_set ?_ GE188.out | refine below_set ?_ GE193.out | refine below_set ?_ GE202.out) | exact HB.out)⟩⟩
                    · replace c92 := Bool.eq_false_iff.mpr c92
                      subst c92
                      have H1 : (laws_FnExactFeedBytes.j1 kj15 l1 t187 true l0_0 a0_1 t183 t186 t197 t200) = some r := by rw [if_neg (show ¬ (false = true) by decide)] at H; exact H
                      clear H
                      have H := H1
                      clear H1
                      have H' := Aside0.mk H
                      clear H
                      have hnb101 := NB202_174.out
                      have hnc101 := NB174_202.out
                      have hnb102 := NB202_188.out
                      have hnc102 := NB188_202.out
                      have hnb103 := NB202_193.out
                      have hnc103 := NB193_202.out
                      have hcz104_0 : w89.cell? ⟨gb202, 0, none⟩ = some (.slice Ao44 t197.length co44) := (blk_cell BK202.out 0).trans rfl
                      have hcz104_1 : w89.cell? ⟨gb202, 1, none⟩ = some (.bool t200) := (blk_cell BK202.out 1).trans rfl
                      have hfz104_0 := blk_frozen BK202.out 0
                      have hfz104_1 := blk_frozen BK202.out 1
                      have hnb105 := NB188_174.out
                      have hnc105 := NB174_188.out
                      have hnb106 := NB188_193.out
                      have hnc106 := NB193_188.out
                      have hcz107_0 : w89.cell? ⟨gb188, 0, none⟩ = some (.slice Ao27 t183.length co27) := (blk_cell BK188.out 0).trans rfl
                      have hcz107_1 : w89.cell? ⟨gb188, 1, none⟩ = some (.bool t186) := (blk_cell BK188.out 1).trans rfl
                      have hfz107_0 := blk_frozen BK188.out 0
                      have hfz107_1 := blk_frozen BK188.out 1
                      go_wp2_with (first | (go_at_call 35; (with_reducible refine (laws_eqDecoder.calls kj15 _ _ t197 t200 _ _ t183 t186 false _ ?side1 ?side2 ?side3 ?side4 A91.out).mono ?_); (case side1 => repeat (first | exact (Kd.R_reads' HO_203000.out).2.2 | (with_reducible refine Kd.C_alloc ?_ _) | (with_reducible refine Kd.C_drewN ?_ _) | (with_reducible refine Kd.C_drew ?_))); (case side2 => exact (Kd.R_reads' HO_203000.out).2.1); (case side3 => repeat (first | exact (Kd.R_reads' HO_189000.out).2.2 | (with_reducible refine Kd.C_alloc ?_ _) | (with_reducible refine Kd.C_drewN ?_ _) | (with_reducible refine Kd.C_drew ?_))); (case side4 => exact (Kd.R_reads' HO_189000.out).2.1); rintro e w108 ⟨rfl, hb⟩; have n0_ := Aside0.mk (Kd.R_below (by (with_reducible repeat (first | apply Kd.R_alloc | apply Kd.R_drewN | apply Kd.R_drew)); exact HO_9.out) hb); have n1_ := Aside0.mk (Kd.R_below (by (with_reducible repeat (first | apply Kd.R_alloc | apply Kd.R_drewN | apply Kd.R_drew)); exact HO_189000.out) hb); have n2_ := Aside0.mk (Kd.R_below (by (with_reducible repeat (first | apply Kd.R_alloc | apply Kd.R_drewN | apply Kd.R_drew)); exact HO_194000.out) hb); have n3_ := Aside0.mk (Kd.R_below (by (with_reducible repeat (first | apply Kd.R_alloc | apply Kd.R_drewN | apply Kd.R_drew)); exact HO_203000.out) hb); have n4_ := Aside0.mk (Kd.R_below (by (with_reducible repeat (first | apply Kd.R_alloc | apply Kd.R_drewN | apply Kd.R_drew)); exact HO206.out) hb); have n5_ := Aside0.mk (Kd.R_below (by (with_reducible repeat (first | apply Kd.R_alloc | apply Kd.R_drewN | apply Kd.R_drew)); exact HO211.out) hb); have n6_ := Aside0.mk (blk_below (g := gb174) (o := .cells #[.slice A0_0 l0_0.length c0_0, .bool a0_1] 51 (0, 0)) (by (with_reducible repeat (first | refine blk_drewN ?_ _ | refine blk_drew ?_ | refine blk_alloc ?_ _)); exact BK174.out) hb); have n7_ := Aside0.mk (blk_below (g := gb188) (o := .cells #[.slice Ao27 t183.length co27, .bool t186] 53 (0, 0)) (by (with_reducible repeat (first | refine blk_drewN ?_ _ | refine blk_drew ?_ | refine blk_alloc ?_ _)); exact BK188.out) hb); have n8_ := Aside0.mk (blk_below (g := gb193) (o := .cells #[.slice Ao34 t189.length co34, .bool t192] 53 (0, 0)) (by (with_reducible repeat (first | refine blk_drewN ?_ _ | refine blk_drew ?_ | refine blk_alloc ?_ _)); exact BK193.out) hb); have n9_ := Aside0.mk (blk_below (g := gb202) (o := .cells #[.slice Ao44 t197.length co44, .bool t200] 53 (0, 0)) (by (with_reducible repeat (first | refine blk_drewN ?_ _ | refine blk_drew ?_ | refine blk_alloc ?_ _)); exact BK202.out) hb); have n10_ := Aside0.mk (below_step (by repeat (first | (with_reducible first | exact HB.out | apply below_alloc | apply pw_below_drewN | apply below_drew1 | refine below_set ?_ GE174.out | refine below_set ?_ GE188.out | refine below_set ?_ GE193.out | refine below_set ?_ GE202.out) | exact HB.out)) hb); clear HO_9; clear HO_189000; clear HO_194000; clear HO_203000; clear HO206; clear HO211; clear BK174; clear BK188; clear BK193; clear BK202; clear HB; have HO_9 := n0_; have HO_189000 := n1_; have HO_194000 := n2_; have HO_203000 := n3_; have HO206 := n4_; have HO211 := n5_; have BK174 := n6_; have BK188 := n7_; have BK193 := n8_; have BK202 := n9_; have HB := n10_; clear n0_ n1_ n2_ n3_ n4_ n5_ n6_ n7_ n8_ n9_ n10_; (try clear hb); (try clear hb2); (try clear hk); (try clear hi)))
                      go_meet
                      case rel => exact ⟨_, (true), (by first | rfl | (simp; done) | (simp [*]; done)), H', ⟨by have := HJ15.out; first | omega | exact Nat.le_refl _⟩, ⟨by (with_reducible repeat (first | apply Kd.R_alloc | apply Kd.R_drewN | apply Kd.R_drew)); exact Kd.R_mono HO_189000.out (fun _ hk => by first | exact ⟨hk.2.1, hk.2.2.1⟩ | grind)⟩, ⟨by (with_reducible repeat (first | apply Kd.R_alloc | apply Kd.R_drewN | apply Kd.R_drew)); exact Kd.R_mono HO_194000.out (fun _ hk => by first | exact ⟨hk.2.1, hk.2.2.1⟩ | grind)⟩, ⟨by (with_reducible repeat (first | apply Kd.R_alloc | apply Kd.R_drewN | apply Kd.R_drew)); exact Kd.R_mono HO_203000.out (fun _ hk => by first | exact ⟨hk.2.1, hk.2.2.1⟩ | grind)⟩, ⟨by (with_reducible repeat (first | refine blk_drewN ?_ _ | refine blk_drew ?_ | refine blk_alloc ?_ _)); exact BK174.out⟩, ⟨by (with_reducible repeat (first | refine blk_drewN ?_ _ | refine blk_drew ?_ | refine blk_alloc ?_ _)); exact BK188.out⟩, ⟨by (with_reducible repeat (first | refine blk_drewN ?_ _ | refine blk_drew ?_ | refine blk_alloc ?_ _)); exact BK193.out⟩, ⟨by (with_reducible repeat (first | refine blk_drewN ?_ _ | refine blk_drew ?_ | refine blk_alloc ?_ _)); exact BK202.out⟩, ⟨by repeat (first | (with_reducible first | exact HB.out | apply below_alloc | apply pw_below_drewN | apply below_drew1 | refine below_set ?_ GE174.out | refine below_set ?_ GE188.out | refine below_set ?_ GE193.out | refine below_set ?_ GE202.out) | exact HB.out)⟩⟩
                case rest =>
                  clear HC77
                  try clear c1
                  try clear c2
                  try clear p2
                  try clear c3
                  try clear c3b0
                  try clear c3b1
                  try clear c4
                  try clear c5
                  try clear c6
                  try clear c6b0
                  try clear c7
                  try clear c8
                  try clear c9
                  try clear c10
                  try clear c28
                  try clear c30
                  try clear c31
                  try clear c32
                  try clear c33
                  try clear c34
                  try clear c35
                  try clear c36
                  try clear c37
                  try clear c38
                  try clear c45
                  try clear c46
                  try clear c47
                  try clear c51
                  try clear c52
                  try clear c53
                  try clear c54
                  try clear c56
                  try clear c57
                  try clear c60
                  try clear c61
                  try clear c62
                  try clear c64
                  try clear c65
                  try clear c68
                  try clear c71
                  try clear c74
                  try clear c84
                  try clear c85
                  try clear c86
                  try clear c90
                  try clear c90b0
                  try clear c92
                  try clear c93
                  try clear c94
                  try clear c95
                  try clear c97
                  try clear c98
                  try clear c101
                  try clear c102
                  try clear c103
                  try clear c105
                  try clear c106
                  try clear hcz104_0
                  try clear hcz104_1
                  try clear hcz107_0
                  try clear hcz107_1
                  try clear hcz18_0
                  try clear hcz18_1
                  try clear hcz20_0
                  try clear hcz20_1
                  try clear hcz29_0
                  try clear hcz29_1
                  try clear hcz31_0
                  try clear hcz31_1
                  try clear hcz37_0
                  try clear hcz37_1
                  try clear hcz40_0
                  try clear hcz40_1
                  try clear hcz48_0
                  try clear hcz48_1
                  try clear hcz55_0
                  try clear hcz55_1
                  try clear hcz58_0
                  try clear hcz58_1
                  try clear hcz63_0
                  try clear hcz63_1
                  try clear hcz66_0
                  try clear hcz66_1
                  try clear hcz87_0
                  try clear hcz87_1
                  try clear hcz8_0
                  try clear hcz8_1
                  try clear hcz96_0
                  try clear hcz96_1
                  try clear hcz99_0
                  try clear hcz99_1
                  try clear hfz104_0
                  try clear hfz104_1
                  try clear hfz107_0
                  try clear hfz107_1
                  try clear hfz18_0
                  try clear hfz18_1
                  try clear hfz20_0
                  try clear hfz20_1
                  try clear hfz29_0
                  try clear hfz29_1
                  try clear hfz31_0
                  try clear hfz31_1
                  try clear hfz37_0
                  try clear hfz37_1
                  try clear hfz40_0
                  try clear hfz40_1
                  try clear hfz48_0
                  try clear hfz48_1
                  try clear hfz55_0
                  try clear hfz55_1
                  try clear hfz58_0
                  try clear hfz58_1
                  try clear hfz63_0
                  try clear hfz63_1
                  try clear hfz66_0
                  try clear hfz66_1
                  try clear hfz87_0
                  try clear hfz87_1
                  try clear hfz8_0
                  try clear hfz8_1
                  try clear hfz96_0
                  try clear hfz96_1
                  try clear hfz99_0
                  try clear hfz99_1
                  try clear p2
                  obtain ⟨kq, x80_76, rfl, HA, HJ76, HO_189000, HO_194000, HO_203000, BK174, BK188, BK193, BK202, HB⟩ := hcut
                  have hl194000_76 := (Kd.R_reads' HO_194000.out).1
                  rw [hl194000_76] at HO_194000
                  (try simp only [hl194000_76])
                  (try simp only [hl194000_76] at BK174)
                  (try simp only [hl194000_76] at BK188)
                  (try simp only [hl194000_76] at BK193)
                  (try simp only [hl194000_76] at BK202)
                  (try simp only [hl194000_76] at HO_189000)
                  (try simp only [hl194000_76] at HO_203000)
                  cases kq with
                  | zero => exact absurd HA.out (by simp [laws_FnExactFeedBytes.j1])
                  | succ kj76 =>
                    have H := HA.out
                    clear HA
                    simp only [laws_FnExactFeedBytes.j1] at H
                    by_cases c109 : x80_76 = true
                    · subst c109
                      have H1 : (some false) = some r := by rw [if_pos rfl] at H; exact H
                      clear H
                      have H := H1
                      clear H1
                      exact absurd ((Option.some.inj H).trans hT.out) (by decide)
                    · replace c109 := Bool.eq_false_iff.mpr c109
                      subst c109
                      have H1 : ((laws_markDecoder.f kj76 t197 t200 1).bind fun bt218 => ((laws_heldDecoder.f kj76 bt218.2 t200 1).bind fun t220 => (if t220 < 0 then (some false) else (if t220 = bt218.1 then ((laws_toDecoder.f kj76 l0_0 a0_1).bind fun bt221 => ((laws_toByteS.f kj76 l1).bind fun t225 => ((impl_FeedBytes.f bt221.1 bt221.2 t225).bind fun bt228 => ((laws_eqDecoder.f kj76 bt228.1 bt228.2.1 t183 t186).bind fun t234 => (if t234 = true then (laws_FnExactFeedBytes.j2 kj76 bt218.1 (bt228.2.2 != t187) bt218.2 t200) else (laws_FnExactFeedBytes.j2 kj76 bt218.1 true bt218.2 t200)))))) else (some false))))) = some r := by rw [if_neg (show ¬ (false = true) by decide)] at H; exact H
                      clear H
                      have H := H1
                      clear H1
                      replace H := Option.bind_eq_some_iff.mp H
                      obtain ⟨⟨t218, t219⟩, A1100, H⟩ := H
                      replace H : ((laws_heldDecoder.f kj76 t219 t200 1).bind fun t220 => (if t220 < 0 then (some false) else (if t220 = t218 then ((laws_toDecoder.f kj76 l0_0 a0_1).bind fun bt221 => ((laws_toByteS.f kj76 l1).bind fun t225 => ((impl_FeedBytes.f bt221.1 bt221.2 t225).bind fun bt228 => ((laws_eqDecoder.f kj76 bt228.1 bt228.2.1 t183 t186).bind fun t234 => (if t234 = true then (laws_FnExactFeedBytes.j2 kj76 t218 (bt228.2.2 != t187) t219 t200) else (laws_FnExactFeedBytes.j2 kj76 t218 true t219 t200)))))) else (some false)))) = some r := H
                      have A110 := Aside0.mk A1100
                      clear A1100
                      replace H := Option.bind_eq_some_iff.mp H
                      obtain ⟨t220, A1110, H⟩ := H
                      replace H : (if t220 < 0 then (some false) else (if t220 = t218 then ((laws_toDecoder.f kj76 l0_0 a0_1).bind fun bt221 => ((laws_toByteS.f kj76 l1).bind fun t225 => ((impl_FeedBytes.f bt221.1 bt221.2 t225).bind fun bt228 => ((laws_eqDecoder.f kj76 bt228.1 bt228.2.1 t183 t186).bind fun t234 => (if t234 = true then (laws_FnExactFeedBytes.j2 kj76 t218 (bt228.2.2 != t187) t219 t200) else (laws_FnExactFeedBytes.j2 kj76 t218 true t219 t200)))))) else (some false))) = some r := H
                      have A111 := Aside0.mk A1110
                      clear A1110
                      by_cases c112 : t220 < 0
                      · rw [if_pos c112] at H
                        have c112b0 : decide (t220 < 0) = true := decide_eq_true c112
                        clear c112
                        exact absurd ((Option.some.inj H).trans hT.out) (by decide)
                      · rw [if_neg c112] at H
                        have c112b0 : decide (t220 < 0) = false := decide_eq_false c112
                        clear c112
                        by_cases c113 : t220 = t218
                        · rw [if_pos c113] at H
                          have c113b0 : (t220 == t218) = true := beq_iff_eq.mpr c113
                          have c113b1 : (t220 != t218) = false := bne_eq_false_iff_eq.mpr c113
                          clear c113
                          replace H := Option.bind_eq_some_iff.mp H
                          obtain ⟨⟨t221, t224⟩, A1140, H⟩ := H
                          replace H : ((laws_toByteS.f kj76 l1).bind fun t225 => ((impl_FeedBytes.f t221 t224 t225).bind fun bt228 => ((laws_eqDecoder.f kj76 bt228.1 bt228.2.1 t183 t186).bind fun t234 => (if t234 = true then (laws_FnExactFeedBytes.j2 kj76 t218 (bt228.2.2 != t187) t219 t200) else (laws_FnExactFeedBytes.j2 kj76 t218 true t219 t200))))) = some r := H
                          have A114 := Aside0.mk A1140
                          clear A1140
                          replace H := Option.bind_eq_some_iff.mp H
                          obtain ⟨t225, A1150, H⟩ := H
                          replace H : ((impl_FeedBytes.f t221 t224 t225).bind fun bt228 => ((laws_eqDecoder.f kj76 bt228.1 bt228.2.1 t183 t186).bind fun t234 => (if t234 = true then (laws_FnExactFeedBytes.j2 kj76 t218 (bt228.2.2 != t187) t219 t200) else (laws_FnExactFeedBytes.j2 kj76 t218 true t219 t200)))) = some r := H
                          have A115 := Aside0.mk A1150
                          clear A1150
                          replace H := Option.bind_eq_some_iff.mp H
                          obtain ⟨⟨t228, t231, t232⟩, A1160, H⟩ := H
                          replace H : ((laws_eqDecoder.f kj76 t228 t231 t183 t186).bind fun t234 => (if t234 = true then (laws_FnExactFeedBytes.j2 kj76 t218 (t232 != t187) t219 t200) else (laws_FnExactFeedBytes.j2 kj76 t218 true t219 t200))) = some r := H
                          have A116 := Aside0.mk A1160
                          clear A1160
                          have HC117 := Aside0.mk H
                          clear H
                          have hnb118 := NB202_174.out
                          have hnc118 := NB174_202.out
                          have hnb119 := NB202_188.out
                          have hnc119 := NB188_202.out
                          have hnb120 := NB202_193.out
                          have hnc120 := NB193_202.out
                          have hcz121_0 : wc.cell? ⟨gb202, 0, none⟩ = some (.slice Ao44 t197.length co44) := (blk_cell BK202.out 0).trans rfl
                          have hcz121_1 : wc.cell? ⟨gb202, 1, none⟩ = some (.bool t200) := (blk_cell BK202.out 1).trans rfl
                          have hfz121_0 := blk_frozen BK202.out 0
                          have hfz121_1 := blk_frozen BK202.out 1
                          go_upto_region 31 with (first | ((with_reducible refine gate_callee (f := 37) rfl ?_); refine goesL_ (some 83) rfl rfl Try.func37 (by kernel_rfl) rfl #[.agg #[.slice Ao44 t197.length co44, .bool t200], .int .i64 1] rfl (by (try simp only [List.map_toArray, List.map_cons, List.map_nil]); first | done | rfl | (simp only [List.length_drop, List.length_take]; rfl)) ?_; (with_reducible refine (laws_markDecoder.calls kj76 (fun k_ => some k_ = (.slice Ao44 t197.length co44 : Value).ownBlock) (.slice Ao44 t197.length co44) t197 t200 1 t218 t219 w _ ?side1 ?side2 A110.out).mono ?_); (case side1 => repeat (first | (with_reducible first | exact HB.out | apply below_alloc | apply pw_below_drewN | apply below_drew1 | refine below_set ?_ GE174.out | refine below_set ?_ GE188.out | refine below_set ?_ GE193.out | refine below_set ?_ GE202.out) | exact HB.out)); (case side2 => exact Kd.R_tight rfl HO_203000.out); rintro e w122 ⟨rfl, hy0, hb, hkp⟩; refine ⟨_, rfl, ?_⟩; have n0_ := Aside0.mk (Kd.R_mono (ok' := fun k_ => some k_ ≠ (.slice Ao34 t214.length co34 : Value).ownBlock ∧ some k_ ≠ (.slice Ao44 t197.length co44 : Value).ownBlock) (Kd.R_keptB (HO_189000.out) hkp (fun k_ hk_ hs_ => by first | exact (hk_.2) hs_ | grind)) (fun k_ hk_ => by first | exact ⟨hk_.1.1, hk_.1.2⟩ | grind)); have n1_ := Aside0.mk (Kd.R_mono (ok' := fun k_ => some k_ ≠ (.slice Ao27 t183.length co27 : Value).ownBlock ∧ some k_ ≠ (.slice Ao44 t197.length co44 : Value).ownBlock) (Kd.R_keptB (HO_194000.out) hkp (fun k_ hk_ hs_ => by first | exact (hk_.2) hs_ | grind)) (fun k_ hk_ => by first | exact ⟨hk_.1.1, hk_.1.2⟩ | grind)); have n2_ := Aside0.mk (Kd.R_reok rfl hy0 (fun k_ e_ => HO_203000.out.1 k_ e_)); have n3_ := Aside0.mk (blk_kept (g := gb174) (o := .cells #[.slice A0_0 l0_0.length c0_0, .bool a0_1] 51 (0, 0)) (by (with_reducible repeat (first | refine blk_drewN ?_ _ | refine blk_drew ?_ | refine blk_alloc ?_ _)); exact BK174.out) hkp (fun hs_ => (fun e_ => (Kd.R_ne HO_203000.out BK174.out (by decide)) e_) hs_)); have n4_ := Aside0.mk (blk_kept (g := gb188) (o := .cells #[.slice Ao27 t183.length co27, .bool t186] 53 (0, 0)) (by (with_reducible repeat (first | refine blk_drewN ?_ _ | refine blk_drew ?_ | refine blk_alloc ?_ _)); exact BK188.out) hkp (fun hs_ => (fun e_ => (Kd.R_ne HO_203000.out BK188.out (by decide)) e_) hs_)); have n5_ := Aside0.mk (blk_kept (g := gb193) (o := .cells #[.slice Ao34 t214.length co34, .bool t192] 53 (0, 0)) (by (with_reducible repeat (first | refine blk_drewN ?_ _ | refine blk_drew ?_ | refine blk_alloc ?_ _)); exact BK193.out) hkp (fun hs_ => (fun e_ => (Kd.R_ne HO_203000.out BK193.out (by decide)) e_) hs_)); have n6_ := Aside0.mk (blk_kept (g := gb202) (o := .cells #[.slice Ao44 t197.length co44, .bool t200] 53 (0, 0)) (by (with_reducible repeat (first | refine blk_drewN ?_ _ | refine blk_drew ?_ | refine blk_alloc ?_ _)); exact BK202.out) hkp (fun hs_ => (fun e_ => (Kd.R_ne HO_203000.out BK202.out (by decide)) e_) hs_)); have n7_ := Aside0.mk (hb); clear HO_189000; clear HO_194000; clear HO_203000; clear BK174; clear BK188; clear BK193; clear BK202; clear HB; have HO_189000 := n0_; have HO_194000 := n1_; have HO_203000 := n2_; have BK174 := n3_; have BK188 := n4_; have BK193 := n5_; have BK202 := n6_; have HB := n7_; clear n0_ n1_ n2_ n3_ n4_ n5_ n6_ n7_; (try clear hb); (try clear hkp); (try clear hy0); have hcz123_0 : w122.cell? ⟨gb202, 0, none⟩ = some (.slice Ao44 t197.length co44) := (blk_cell BK202.out 0).trans rfl; have hcz123_1 : w122.cell? ⟨gb202, 1, none⟩ = some (.bool t200) := (blk_cell BK202.out 1).trans rfl; have hfz123_0 := blk_frozen BK202.out 0; have hfz123_1 := blk_frozen BK202.out 1) | ((with_reducible refine gate_callee (f := 39) rfl ?_); refine goesL_ (some 86) rfl rfl Try.func39 (by kernel_rfl) rfl #[.agg #[.slice Ao44 t219.length co44, .bool t200], .int .i64 1] rfl (by (try simp only [List.map_toArray, List.map_cons, List.map_nil]); first | done | (rw [show t219.length = t197.length from (Kd.R_reads' HO_203000.out).1.symm] <;> rfl) | rfl | (simp only [List.length_drop, List.length_take]; rfl)) ?_; (with_reducible refine (laws_heldDecoder.calls kj76 _ _ t219 t200 1 t220 _ ?side1 ?side2 A111.out).mono ?_); (case side1 => repeat (first | exact (Kd.R_reads' HO_203000.out).2.2 | (with_reducible refine Kd.C_alloc ?_ _) | (with_reducible refine Kd.C_drewN ?_ _) | (with_reducible refine Kd.C_drew ?_))); (case side2 => rw [show t219.length = t197.length from (Kd.R_reads' HO_203000.out).1.symm]; exact (Kd.R_reads' HO_203000.out).2.1); rintro e w124 ⟨rfl, hb⟩; refine ⟨_, rfl, ?_⟩; have n0_ := Aside0.mk (Kd.R_below (by (with_reducible repeat (first | apply Kd.R_alloc | apply Kd.R_drewN | apply Kd.R_drew)); exact HO_189000.out) hb); have n1_ := Aside0.mk (Kd.R_below (by (with_reducible repeat (first | apply Kd.R_alloc | apply Kd.R_drewN | apply Kd.R_drew)); exact HO_194000.out) hb); have n2_ := Aside0.mk (Kd.R_below (by (with_reducible repeat (first | apply Kd.R_alloc | apply Kd.R_drewN | apply Kd.R_drew)); exact HO_203000.out) hb); have n3_ := Aside0.mk (blk_below (g := gb174) (o := .cells #[.slice A0_0 l0_0.length c0_0, .bool a0_1] 51 (0, 0)) (by (with_reducible repeat (first | refine blk_drewN ?_ _ | refine blk_drew ?_ | refine blk_alloc ?_ _)); exact BK174.out) hb); have n4_ := Aside0.mk (blk_below (g := gb188) (o := .cells #[.slice Ao27 t183.length co27, .bool t186] 53 (0, 0)) (by (with_reducible repeat (first | refine blk_drewN ?_ _ | refine blk_drew ?_ | refine blk_alloc ?_ _)); exact BK188.out) hb); have n5_ := Aside0.mk (blk_below (g := gb193) (o := .cells #[.slice Ao34 t214.length co34, .bool t192] 53 (0, 0)) (by (with_reducible repeat (first | refine blk_drewN ?_ _ | refine blk_drew ?_ | refine blk_alloc ?_ _)); exact BK193.out) hb); have n6_ := Aside0.mk (blk_below (g := gb202) (o := .cells #[.slice Ao44 t197.length co44, .bool t200] 53 (0, 0)) (by (with_reducible repeat (first | refine blk_drewN ?_ _ | refine blk_drew ?_ | refine blk_alloc ?_ _)); exact BK202.out) hb); have n7_ := Aside0.mk (below_step (by repeat (first | (with_reducible first | exact HB.out | apply below_alloc | apply pw_below_drewN | apply below_drew1 | refine below_set ?_ GE174.out | refine below_set ?_ GE188.out | refine below_set ?_ GE193.out | refine below_set ?_ GE202.out) | exact HB.out)) hb); clear HO_189000; clear HO_194000; clear HO_203000; clear BK174; clear BK188; clear BK193; clear BK202; clear HB; have HO_189000 := n0_; have HO_194000 := n1_; have HO_203000 := n2_; have BK174 := n3_; have BK188 := n4_; have BK193 := n5_; have BK202 := n6_; have HB := n7_; clear n0_ n1_ n2_ n3_ n4_ n5_ n6_ n7_; (try clear hb); (try clear hb2); (try clear hk); (try clear hi); have hnb125 := NB174_188.out; have hnc125 := NB188_174.out; have hnb126 := NB174_193.out; have hnc126 := NB193_174.out; have hcz127_0 : w124.cell? ⟨gb174, 0, none⟩ = some (.slice A0_0 l0_0.length c0_0) := (blk_cell BK174.out 0).trans rfl; have hcz127_1 : w124.cell? ⟨gb174, 1, none⟩ = some (.bool a0_1) := (blk_cell BK174.out 1).trans rfl; have hfz127_0 := blk_frozen BK174.out 0; have hfz127_1 := blk_frozen BK174.out 1) | ((with_reducible refine gate_callee (f := 32) rfl ?_); refine goesL_ (some 94) rfl rfl Try.func32 (by kernel_rfl) rfl #[.agg #[.slice A0_0 l0_0.length c0_0, .bool a0_1]] rfl (by (try simp only [List.map_toArray, List.map_cons, List.map_nil]); first | done | rfl | (simp only [List.length_drop, List.length_take]; rfl)) ?_; (with_reducible refine (laws_toDecoder.calls kj76 _ _ l0_0 a0_1 t221 t224 _ ?side1 ?side2 A114.out).mono ?_); (case side1 => repeat (first | exact (Kd.C_below HR0_0.out HB.out) | (with_reducible refine Kd.C_alloc ?_ _) | (with_reducible refine Kd.C_drewN ?_ _) | (with_reducible refine Kd.C_drew ?_))); (case side2 => exact HC0_0.out); rintro e w128 ⟨v222, rfl, ho0, hb⟩; refine ⟨_, rfl, ?_⟩; have n0_ := Aside0.mk (Kd.R_elder' (by (with_reducible repeat (first | apply Kd.R_alloc | apply Kd.R_drewN | apply Kd.R_drew)); exact HO_189000.out) (Kd.R_base ho0) hb); have n1_ := Aside0.mk (Kd.R_elder' (by (with_reducible repeat (first | apply Kd.R_alloc | apply Kd.R_drewN | apply Kd.R_drew)); exact HO_194000.out) (Kd.R_base ho0) hb); have n2_ := Aside0.mk (Kd.R_elder' (by (with_reducible repeat (first | apply Kd.R_alloc | apply Kd.R_drewN | apply Kd.R_drew)); exact HO_203000.out) (Kd.R_base ho0) hb); have n3_ := Aside0.mk (Kd.R_lower (Kd.R_new' (Kd.R_new' (Kd.R_new' ho0 (Kd.R_lt (by (with_reducible repeat (first | apply Kd.R_alloc | apply Kd.R_drewN | apply Kd.R_drew)); exact HO_189000.out))) (Kd.R_lt (by (with_reducible repeat (first | apply Kd.R_alloc | apply Kd.R_drewN | apply Kd.R_drew)); exact HO_194000.out))) (Kd.R_lt (by (with_reducible repeat (first | apply Kd.R_alloc | apply Kd.R_drewN | apply Kd.R_drew)); exact HO_203000.out))) (below_size (by repeat (first | (with_reducible first | exact HB.out | apply below_alloc | apply pw_below_drewN | apply below_drew1 | refine below_set ?_ GE174.out | refine below_set ?_ GE188.out | refine below_set ?_ GE193.out | refine below_set ?_ GE202.out) | exact HB.out)))); have n4_ := Aside0.mk (blk_below (g := gb174) (o := .cells #[.slice A0_0 l0_0.length c0_0, .bool a0_1] 51 (0, 0)) (by (with_reducible repeat (first | refine blk_drewN ?_ _ | refine blk_drew ?_ | refine blk_alloc ?_ _)); exact BK174.out) hb); have n5_ := Aside0.mk (blk_below (g := gb188) (o := .cells #[.slice Ao27 t183.length co27, .bool t186] 53 (0, 0)) (by (with_reducible repeat (first | refine blk_drewN ?_ _ | refine blk_drew ?_ | refine blk_alloc ?_ _)); exact BK188.out) hb); have n6_ := Aside0.mk (blk_below (g := gb193) (o := .cells #[.slice Ao34 t214.length co34, .bool t192] 53 (0, 0)) (by (with_reducible repeat (first | refine blk_drewN ?_ _ | refine blk_drew ?_ | refine blk_alloc ?_ _)); exact BK193.out) hb); have n7_ := Aside0.mk (blk_below (g := gb202) (o := .cells #[.slice Ao44 t197.length co44, .bool t200] 53 (0, 0)) (by (with_reducible repeat (first | refine blk_drewN ?_ _ | refine blk_drew ?_ | refine blk_alloc ?_ _)); exact BK202.out) hb); have n8_ := Aside0.mk (below_step (by repeat (first | (with_reducible first | exact HB.out | apply below_alloc | apply pw_below_drewN | apply below_drew1 | refine below_set ?_ GE174.out | refine below_set ?_ GE188.out | refine below_set ?_ GE193.out | refine below_set ?_ GE202.out) | exact HB.out)) hb); clear HO_189000; clear HO_194000; clear HO_203000; clear BK174; clear BK188; clear BK193; clear BK202; clear HB; have HO_189000 := n0_; have HO_194000 := n1_; have HO_203000 := n2_; have HO223 := n3_; have BK174 := n4_; have BK188 := n5_; have BK193 := n6_; have BK202 := n7_; have HB := n8_; clear n0_ n1_ n2_ n3_ n4_ n5_ n6_ n7_ n8_; (try clear hb); (try clear hb2); (try clear hk); (try clear hi); (try clear ho0)) | ((with_reducible refine gate_callee (f := 33) rfl ?_); refine goesL_ (some 96) rfl rfl Try.func33 (by kernel_rfl) rfl #[.slice A1 l1.length c1] rfl (by (try simp only [List.map_toArray, List.map_cons, List.map_nil]); first | done | rfl | (simp only [List.length_drop, List.length_take]; rfl)) ?_; (with_reducible refine (laws_toByteS.calls kj76 _ _ l1 t225 _ ?side1 ?side2 A115.out).mono ?_); (case side1 => repeat (first | exact (Kd.C_below HR1.out HB.out) | (with_reducible refine Kd.C_alloc ?_ _) | (with_reducible refine Kd.C_drewN ?_ _) | (with_reducible refine Kd.C_drew ?_))); (case side2 => exact HC1.out); rintro e w129 ⟨v226, rfl, ho0, hb⟩; refine ⟨_, rfl, ?_⟩; have n0_ := Aside0.mk (Kd.R_elder' (by (with_reducible repeat (first | apply Kd.R_alloc | apply Kd.R_drewN | apply Kd.R_drew)); exact HO_189000.out) (Kd.R_base ho0) hb); have n1_ := Aside0.mk (Kd.R_elder' (by (with_reducible repeat (first | apply Kd.R_alloc | apply Kd.R_drewN | apply Kd.R_drew)); exact HO_194000.out) (Kd.R_base ho0) hb); have n2_ := Aside0.mk (Kd.R_elder' (by (with_reducible repeat (first | apply Kd.R_alloc | apply Kd.R_drewN | apply Kd.R_drew)); exact HO_203000.out) (Kd.R_base ho0) hb); have n3_ := Aside0.mk (Kd.R_elder' (by (with_reducible repeat (first | apply Kd.R_alloc | apply Kd.R_drewN | apply Kd.R_drew)); exact HO223.out) (Kd.R_base ho0) hb); have n4_ := Aside0.mk (Kd.R_lower (Kd.R_new' (Kd.R_new' (Kd.R_new' (Kd.R_new' ho0 (Kd.R_lt (by (with_reducible repeat (first | apply Kd.R_alloc | apply Kd.R_drewN | apply Kd.R_drew)); exact HO_189000.out))) (Kd.R_lt (by (with_reducible repeat (first | apply Kd.R_alloc | apply Kd.R_drewN | apply Kd.R_drew)); exact HO_194000.out))) (Kd.R_lt (by (with_reducible repeat (first | apply Kd.R_alloc | apply Kd.R_drewN | apply Kd.R_drew)); exact HO_203000.out))) (Kd.R_lt (by (with_reducible repeat (first | apply Kd.R_alloc | apply Kd.R_drewN | apply Kd.R_drew)); exact HO223.out))) (below_size (by repeat (first | (with_reducible first | exact HB.out | apply below_alloc | apply pw_below_drewN | apply below_drew1 | refine below_set ?_ GE174.out | refine below_set ?_ GE188.out | refine below_set ?_ GE193.out | refine below_set ?_ GE202.out) | exact HB.out)))); have n5_ := Aside0.mk (blk_below (g := gb174) (o := .cells #[.slice A0_0 l0_0.length c0_0, .bool a0_1] 51 (0, 0)) (by (with_reducible repeat (first | refine blk_drewN ?_ _ | refine blk_drew ?_ | refine blk_alloc ?_ _)); exact BK174.out) hb); have n6_ := Aside0.mk (blk_below (g := gb188) (o := .cells #[.slice Ao27 t183.length co27, .bool t186] 53 (0, 0)) (by (with_reducible repeat (first | refine blk_drewN ?_ _ | refine blk_drew ?_ | refine blk_alloc ?_ _)); exact BK188.out) hb); have n7_ := Aside0.mk (blk_below (g := gb193) (o := .cells #[.slice Ao34 t214.length co34, .bool t192] 53 (0, 0)) (by (with_reducible repeat (first | refine blk_drewN ?_ _ | refine blk_drew ?_ | refine blk_alloc ?_ _)); exact BK193.out) hb); have n8_ := Aside0.mk (blk_below (g := gb202) (o := .cells #[.slice Ao44 t197.length co44, .bool t200] 53 (0, 0)) (by (with_reducible repeat (first | refine blk_drewN ?_ _ | refine blk_drew ?_ | refine blk_alloc ?_ _)); exact BK202.out) hb); have n9_ := Aside0.mk (below_step (by repeat (first | (with_reducible first | exact HB.out | apply below_alloc | apply pw_below_drewN | apply below_drew1 | refine below_set ?_ GE174.out | refine below_set ?_ GE188.out | refine below_set ?_ GE193.out | refine below_set ?_ GE202.out) | exact HB.out)) hb); clear HO_189000; clear HO_194000; clear HO_203000; clear HO223; clear BK174; clear BK188; clear BK193; clear BK202; clear HB; have HO_189000 := n0_; have HO_194000 := n1_; have HO_203000 := n2_; have HO223 := n3_; have HO227 := n4_; have BK174 := n5_; have BK188 := n6_; have BK193 := n7_; have BK202 := n8_; have HB := n9_; clear n0_ n1_ n2_ n3_ n4_ n5_ n6_ n7_ n8_ n9_; (try clear hb); (try clear hb2); (try clear hk); (try clear hi); (try clear ho0); obtain ⟨Ao130, co130, eo130⟩ := Kd.R_slice HO223.out; subst eo130; obtain ⟨Ao131, co131, eo131⟩ := Kd.R_slice HO227.out; subst eo131) | ((with_reducible refine gate_callee (f := 34) rfl ?_); refine goesL_ (some 97) rfl rfl Try.func34 (by kernel_rfl) rfl #[.agg #[.slice Ao130 t221.length co130, .bool t224], .slice Ao131 t225.length co131] rfl (by (try simp only [List.map_toArray, List.map_cons, List.map_nil]); first | done | rfl | (simp only [List.length_drop, List.length_take]; rfl)) ?_; (with_reducible refine (impl_FeedBytes.calls _ _ t221 t224 _ _ t225 t228 t231 t232 _ ?side1 ?side2 ?side3 ?side4 A116.out).mono ?_); (case side1 => repeat (first | exact (Kd.R_reads' HO223.out).2.2 | (with_reducible refine Kd.C_alloc ?_ _) | (with_reducible refine Kd.C_drewN ?_ _) | (with_reducible refine Kd.C_drew ?_))); (case side2 => exact (Kd.R_reads' HO223.out).2.1); (case side3 => repeat (first | exact (Kd.R_reads' HO227.out).2.2 | (with_reducible refine Kd.C_alloc ?_ _) | (with_reducible refine Kd.C_drewN ?_ _) | (with_reducible refine Kd.C_drew ?_))); (case side4 => exact (Kd.R_reads' HO227.out).2.1); rintro e w132 ⟨v229, rfl, ho0, hb⟩; refine ⟨_, rfl, ?_⟩; have n0_ := Aside0.mk (Kd.R_elder' (by (with_reducible repeat (first | apply Kd.R_alloc | apply Kd.R_drewN | apply Kd.R_drew)); exact HO_189000.out) (Kd.R_base ho0) hb); have n1_ := Aside0.mk (Kd.R_elder' (by (with_reducible repeat (first | apply Kd.R_alloc | apply Kd.R_drewN | apply Kd.R_drew)); exact HO_194000.out) (Kd.R_base ho0) hb); have n2_ := Aside0.mk (Kd.R_elder' (by (with_reducible repeat (first | apply Kd.R_alloc | apply Kd.R_drewN | apply Kd.R_drew)); exact HO_203000.out) (Kd.R_base ho0) hb); have n3_ := Aside0.mk (Kd.R_elder' (by (with_reducible repeat (first | apply Kd.R_alloc | apply Kd.R_drewN | apply Kd.R_drew)); exact HO223.out) (Kd.R_base ho0) hb); have n4_ := Aside0.mk (Kd.R_elder' (by (with_reducible repeat (first | apply Kd.R_alloc | apply Kd.R_drewN | apply Kd.R_drew)); exact HO227.out) (Kd.R_base ho0) hb); have n5_ := Aside0.mk (Kd.R_lower (Kd.R_new' (Kd.R_new' (Kd.R_new' (Kd.R_new' (Kd.R_new' ho0 (Kd.R_lt (by (with_reducible repeat (first | apply Kd.R_alloc | apply Kd.R_drewN | apply Kd.R_drew)); exact HO_189000.out))) (Kd.R_lt (by (with_reducible repeat (first | apply Kd.R_alloc | apply Kd.R_drewN | apply Kd.R_drew)); exact HO_194000.out))) (Kd.R_lt (by (with_reducible repeat (first | apply Kd.R_alloc | apply Kd.R_drewN | apply Kd.R_drew)); exact HO_203000.out))) (Kd.R_lt (by (with_reducible repeat (first | apply Kd.R_alloc | apply Kd.R_drewN | apply Kd.R_drew)); exact HO223.out))) (Kd.R_lt (by (with_reducible repeat (first | apply Kd.R_alloc | apply Kd.R_drewN | apply Kd.R_drew)); exact HO227.out))) (below_size (by repeat (first | (with_reducible first | exact HB.out | apply below_alloc | apply pw_below_drewN | apply below_drew1 | refine below_set ?_ GE174.out | refine below_set ?_ GE188.out | refine below_set ?_ GE193.out | refine below_set ?_ GE202.out) | exact HB.out)))); have n6_ := Aside0.mk (blk_below (g := gb174) (o := .cells #[.slice A0_0 l0_0.length c0_0, .bool a0_1] 51 (0, 0)) (by (with_reducible repeat (first | refine blk_drewN ?_ _ | refine blk_drew ?_ | refine blk_alloc ?_ _)); exact BK174.out) hb); have n7_ := Aside0.mk (blk_below (g := gb188) (o := .cells #[.slice Ao27 t183.length co27, .bool t186] 53 (0, 0)) (by (with_reducible repeat (first | refine blk_drewN ?_ _ | refine blk_drew ?_ | refine blk_alloc ?_ _)); exact BK188.out) hb); have n8_ := Aside0.mk (blk_below (g := gb193) (o := .cells #[.slice Ao34 t214.length co34, .bool t192] 53 (0, 0)) (by (with_reducible repeat (first | refine blk_drewN ?_ _ | refine blk_drew ?_ | refine blk_alloc ?_ _)); exact BK193.out) hb); have n9_ := Aside0.mk (blk_below (g := gb202) (o := .cells #[.slice Ao44 t197.length co44, .bool t200] 53 (0, 0)) (by (with_reducible repeat (first | refine blk_drewN ?_ _ | refine blk_drew ?_ | refine blk_alloc ?_ _)); exact BK202.out) hb); have n10_ := Aside0.mk (below_step (by repeat (first | (with_reducible first | exact HB.out | apply below_alloc | apply pw_below_drewN | apply below_drew1 | refine below_set ?_ GE174.out | refine below_set ?_ GE188.out | refine below_set ?_ GE193.out | refine below_set ?_ GE202.out) | exact HB.out)) hb); clear HO_189000; clear HO_194000; clear HO_203000; clear HO223; clear HO227; clear BK174; clear BK188; clear BK193; clear BK202; clear HB; have HO_189000 := n0_; have HO_194000 := n1_; have HO_203000 := n2_; have HO223 := n3_; have HO227 := n4_; have HO230 := n5_; have BK174 := n6_; have BK188 := n7_; have BK193 := n8_; have BK202 := n9_; have HB := n10_; clear n0_ n1_ n2_ n3_ n4_ n5_ n6_ n7_ n8_ n9_ n10_; (try clear hb); (try clear hb2); (try clear hk); (try clear hi); (try clear ho0)) | ((with_reducible refine gate_dst (N := 15) rfl ?_); refine box_event ?hg (N := 15) ?hd (cs := #[.slice none 0 0, .bool false]) (t := 53) ?hr ?_; (case hd => rfl); (case hg => rfl); (case hr => first | (go_simp; done) | (go_simp; rfl)); intro gb233 hg w133 hbox hb; have n0_ := Aside0.mk (Kd.R_below (by (with_reducible repeat (first | apply Kd.R_alloc | apply Kd.R_drewN | apply Kd.R_drew)); exact HO_189000.out) hb); have n1_ := Aside0.mk (Kd.R_below (by (with_reducible repeat (first | apply Kd.R_alloc | apply Kd.R_drewN | apply Kd.R_drew)); exact HO_194000.out) hb); have n2_ := Aside0.mk (Kd.R_below (by (with_reducible repeat (first | apply Kd.R_alloc | apply Kd.R_drewN | apply Kd.R_drew)); exact HO_203000.out) hb); have n3_ := Aside0.mk (Kd.R_below (by (with_reducible repeat (first | apply Kd.R_alloc | apply Kd.R_drewN | apply Kd.R_drew)); exact HO223.out) hb); have n4_ := Aside0.mk (Kd.R_below (by (with_reducible repeat (first | apply Kd.R_alloc | apply Kd.R_drewN | apply Kd.R_drew)); exact HO227.out) hb); have n5_ := Aside0.mk (Kd.R_below (by (with_reducible repeat (first | apply Kd.R_alloc | apply Kd.R_drewN | apply Kd.R_drew)); exact HO230.out) hb); have n6_ := Aside0.mk (blk_below (g := gb174) (o := .cells #[.slice A0_0 l0_0.length c0_0, .bool a0_1] 51 (0, 0)) (by (with_reducible repeat (first | refine blk_drewN ?_ _ | refine blk_drew ?_ | refine blk_alloc ?_ _)); exact BK174.out) hb); have n7_ := Aside0.mk (blk_below (g := gb188) (o := .cells #[.slice Ao27 t183.length co27, .bool t186] 53 (0, 0)) (by (with_reducible repeat (first | refine blk_drewN ?_ _ | refine blk_drew ?_ | refine blk_alloc ?_ _)); exact BK188.out) hb); have n8_ := Aside0.mk (blk_below (g := gb193) (o := .cells #[.slice Ao34 t214.length co34, .bool t192] 53 (0, 0)) (by (with_reducible repeat (first | refine blk_drewN ?_ _ | refine blk_drew ?_ | refine blk_alloc ?_ _)); exact BK193.out) hb); have n9_ := Aside0.mk (blk_below (g := gb202) (o := .cells #[.slice Ao44 t197.length co44, .bool t200] 53 (0, 0)) (by (with_reducible repeat (first | refine blk_drewN ?_ _ | refine blk_drew ?_ | refine blk_alloc ?_ _)); exact BK202.out) hb); have n10_ := Aside0.mk (below_step (by repeat (first | (with_reducible first | exact HB.out | apply below_alloc | apply pw_below_drewN | apply below_drew1 | refine below_set ?_ GE174.out | refine below_set ?_ GE188.out | refine below_set ?_ GE193.out | refine below_set ?_ GE202.out) | exact HB.out)) hb); have n11_ := Aside0.mk (hbox); have n12_ := Aside0.mk ((by rw [hg]; exact (below_size (by repeat (first | (with_reducible first | exact HB.out | apply below_alloc | apply pw_below_drewN | apply below_drew1 | refine below_set ?_ GE174.out | refine below_set ?_ GE188.out | refine below_set ?_ GE193.out | refine below_set ?_ GE202.out) | exact HB.out))) : w.heap.size ≤ gb233)); have n13_ := Aside0.mk ((by rw [hg]; exact (below_size (by repeat (first | (with_reducible first | exact HB.out | apply below_alloc | apply pw_below_drewN | apply below_drew1 | refine below_set ?_ GE174.out | refine below_set ?_ GE188.out | refine below_set ?_ GE193.out | refine below_set ?_ GE202.out) | exact HB.out))) : w.heap.size ≤ gb233)); have n14_ := Aside0.mk ((by rw [hg]; exact Nat.ne_of_lt (blk_lt (g := gb174) (o := .cells #[.slice A0_0 l0_0.length c0_0, .bool a0_1] 51 (0, 0)) (by (with_reducible repeat (first | refine blk_drewN ?_ _ | refine blk_drew ?_ | refine blk_alloc ?_ _)); exact BK174.out)) : gb174 ≠ gb233)); have n15_ := Aside0.mk ((by rw [hg]; exact Nat.ne_of_gt (blk_lt (g := gb174) (o := .cells #[.slice A0_0 l0_0.length c0_0, .bool a0_1] 51 (0, 0)) (by (with_reducible repeat (first | refine blk_drewN ?_ _ | refine blk_drew ?_ | refine blk_alloc ?_ _)); exact BK174.out)) : gb233 ≠ gb174)); have n16_ := Aside0.mk ((by rw [hg]; exact Nat.ne_of_lt (blk_lt (g := gb188) (o := .cells #[.slice Ao27 t183.length co27, .bool t186] 53 (0, 0)) (by (with_reducible repeat (first | refine blk_drewN ?_ _ | refine blk_drew ?_ | refine blk_alloc ?_ _)); exact BK188.out)) : gb188 ≠ gb233)); have n17_ := Aside0.mk ((by rw [hg]; exact Nat.ne_of_gt (blk_lt (g := gb188) (o := .cells #[.slice Ao27 t183.length co27, .bool t186] 53 (0, 0)) (by (with_reducible repeat (first | refine blk_drewN ?_ _ | refine blk_drew ?_ | refine blk_alloc ?_ _)); exact BK188.out)) : gb233 ≠ gb188)); have n18_ := Aside0.mk ((by rw [hg]; exact Nat.ne_of_lt (blk_lt (g := gb193) (o := .cells #[.slice Ao34 t214.length co34, .bool t192] 53 (0, 0)) (by (with_reducible repeat (first | refine blk_drewN ?_ _ | refine blk_drew ?_ | refine blk_alloc ?_ _)); exact BK193.out)) : gb193 ≠ gb233)); have n19_ := Aside0.mk ((by rw [hg]; exact Nat.ne_of_gt (blk_lt (g := gb193) (o := .cells #[.slice Ao34 t214.length co34, .bool t192] 53 (0, 0)) (by (with_reducible repeat (first | refine blk_drewN ?_ _ | refine blk_drew ?_ | refine blk_alloc ?_ _)); exact BK193.out)) : gb233 ≠ gb193)); have n20_ := Aside0.mk ((by rw [hg]; exact Nat.ne_of_lt (blk_lt (g := gb202) (o := .cells #[.slice Ao44 t197.length co44, .bool t200] 53 (0, 0)) (by (with_reducible repeat (first | refine blk_drewN ?_ _ | refine blk_drew ?_ | refine blk_alloc ?_ _)); exact BK202.out)) : gb202 ≠ gb233)); have n21_ := Aside0.mk ((by rw [hg]; exact Nat.ne_of_gt (blk_lt (g := gb202) (o := .cells #[.slice Ao44 t197.length co44, .bool t200] 53 (0, 0)) (by (with_reducible repeat (first | refine blk_drewN ?_ _ | refine blk_drew ?_ | refine blk_alloc ?_ _)); exact BK202.out)) : gb233 ≠ gb202)); clear HO_189000; clear HO_194000; clear HO_203000; clear HO223; clear HO227; clear HO230; clear BK174; clear BK188; clear BK193; clear BK202; clear HB; have HO_189000 := n0_; have HO_194000 := n1_; have HO_203000 := n2_; have HO223 := n3_; have HO227 := n4_; have HO230 := n5_; have BK174 := n6_; have BK188 := n7_; have BK193 := n8_; have BK202 := n9_; have HB := n10_; have BK233 := n11_; have GW233 := n12_; have GE233 := n13_; have NB174_233 := n14_; have NB233_174 := n15_; have NB188_233 := n16_; have NB233_188 := n17_; have NB193_233 := n18_; have NB233_193 := n19_; have NB202_233 := n20_; have NB233_202 := n21_; clear n0_ n1_ n2_ n3_ n4_ n5_ n6_ n7_ n8_ n9_ n10_ n11_ n12_ n13_ n14_ n15_ n16_ n17_ n18_ n19_ n20_ n21_; clear hb hbox hg; obtain ⟨Ao134, co134, eo134⟩ := Kd.R_slice HO230.out; subst eo134; have hnb135 := NB233_174.out; have hnc135 := NB174_233.out; have hnb136 := NB233_188.out; have hnc136 := NB188_233.out; have hnb137 := NB233_193.out; have hnc137 := NB193_233.out; have hnb138 := NB233_202.out; have hnc138 := NB202_233.out; have hcz139_0 : w133.cell? ⟨gb233, 0, none⟩ = some (.slice none 0 0) := (blk_cell BK233.out 0).trans rfl; have hcz139_1 : w133.cell? ⟨gb233, 1, none⟩ = some (.bool false) := (blk_cell BK233.out 1).trans rfl; have hfz139_0 := blk_frozen BK233.out 0; have hfz139_1 := blk_frozen BK233.out 1) | ((with_reducible refine gate_store (t := 53) (p := 15) rfl ?_); refine store_event (t := 53) (p := 15) (v := ?vo_w140) (w1 := ((w133.setCell ⟨gb233, 0, none⟩ (.slice Ao134 t228.length co134)).setCell ⟨gb233, 1, none⟩ (.bool t231))) ?hg ?ho ?hn ?hr ?_; (case ho => rfl); (case hg => rfl); (case hn => rfl); (case hr => first | (go_simp; done) | (go_simp; rfl)); intro w140 hw; have n0_ : Aside0 (Kd.R (Kd.int .u8) 5 w140 w.heap.size (fun k_ => some k_ ≠ (.slice Ao34 t214.length co34 : Value).ownBlock ∧ some k_ ≠ (.slice Ao44 t197.length co44 : Value).ownBlock ∧ some k_ ≠ (.slice Ao130 t221.length co130 : Value).ownBlock ∧ some k_ ≠ (.slice Ao131 t225.length co131 : Value).ownBlock ∧ some k_ ≠ (.slice Ao134 t228.length co134 : Value).ownBlock) (.slice Ao27 t183.length co27) t183) := ⟨(by rw [hw]; exact (by (with_reducible repeat (first | apply Kd.R_alloc | apply Kd.R_drewN | apply Kd.R_drew)); exact Kd.R_mono (Kd.R_far (p := ⟨gb233, 1, none⟩) (Kd.R_far (p := ⟨gb233, 0, none⟩) (Kd.R_types HO_189000.out BK233.out (by decide)) (fun _ hk => by first | exact hk.2 | grind) (.slice Ao134 t228.length co134)) (fun _ hk => by first | exact hk.2 | grind) (.bool t231)) (fun _ hk => by first | exact ⟨hk.1.1.1.1.1, ⟨hk.1.1.1.1.2, ⟨hk.1.1.1.2, ⟨hk.1.1.2, hk.1.2⟩⟩⟩⟩ | grind)))⟩; have n1_ : Aside0 (Kd.R (Kd.int .u8) 5 w140 w.heap.size (fun k_ => some k_ ≠ (.slice Ao27 t183.length co27 : Value).ownBlock ∧ some k_ ≠ (.slice Ao44 t197.length co44 : Value).ownBlock ∧ some k_ ≠ (.slice Ao130 t221.length co130 : Value).ownBlock ∧ some k_ ≠ (.slice Ao131 t225.length co131 : Value).ownBlock ∧ some k_ ≠ (.slice Ao134 t228.length co134 : Value).ownBlock) (.slice Ao34 t214.length co34) t214) := ⟨(by rw [hw]; exact (by (with_reducible repeat (first | apply Kd.R_alloc | apply Kd.R_drewN | apply Kd.R_drew)); exact Kd.R_mono (Kd.R_far (p := ⟨gb233, 1, none⟩) (Kd.R_far (p := ⟨gb233, 0, none⟩) (Kd.R_types HO_194000.out BK233.out (by decide)) (fun _ hk => by first | exact hk.2 | grind) (.slice Ao134 t228.length co134)) (fun _ hk => by first | exact hk.2 | grind) (.bool t231)) (fun _ hk => by first | exact ⟨hk.1.1.1.1.1, ⟨hk.1.1.1.1.2, ⟨hk.1.1.1.2, ⟨hk.1.1.2, hk.1.2⟩⟩⟩⟩ | grind)))⟩; have n2_ : Aside0 (Kd.R (Kd.int .u8) 5 w140 w.heap.size (fun k_ => some k_ ≠ (.slice Ao27 t183.length co27 : Value).ownBlock ∧ some k_ ≠ (.slice Ao34 t214.length co34 : Value).ownBlock ∧ some k_ ≠ (.slice Ao130 t221.length co130 : Value).ownBlock ∧ some k_ ≠ (.slice Ao131 t225.length co131 : Value).ownBlock ∧ some k_ ≠ (.slice Ao134 t228.length co134 : Value).ownBlock) (.slice Ao44 t197.length co44) t219) := ⟨(by rw [hw]; exact (by (with_reducible repeat (first | apply Kd.R_alloc | apply Kd.R_drewN | apply Kd.R_drew)); exact Kd.R_mono (Kd.R_far (p := ⟨gb233, 1, none⟩) (Kd.R_far (p := ⟨gb233, 0, none⟩) (Kd.R_types HO_203000.out BK233.out (by decide)) (fun _ hk => by first | exact hk.2 | grind) (.slice Ao134 t228.length co134)) (fun _ hk => by first | exact hk.2 | grind) (.bool t231)) (fun _ hk => by first | exact ⟨hk.1.1.1.1.1, ⟨hk.1.1.1.1.2, ⟨hk.1.1.1.2, ⟨hk.1.1.2, hk.1.2⟩⟩⟩⟩ | grind)))⟩; have n3_ : Aside0 (Kd.R (Kd.int .u8) 5 w140 w.heap.size (fun k_ => some k_ ≠ (.slice Ao27 t183.length co27 : Value).ownBlock ∧ some k_ ≠ (.slice Ao34 t214.length co34 : Value).ownBlock ∧ some k_ ≠ (.slice Ao44 t197.length co44 : Value).ownBlock ∧ some k_ ≠ (.slice Ao131 t225.length co131 : Value).ownBlock ∧ some k_ ≠ (.slice Ao134 t228.length co134 : Value).ownBlock) (.slice Ao130 t221.length co130) t221) := ⟨(by rw [hw]; exact (by (with_reducible repeat (first | apply Kd.R_alloc | apply Kd.R_drewN | apply Kd.R_drew)); exact Kd.R_mono (Kd.R_far (p := ⟨gb233, 1, none⟩) (Kd.R_far (p := ⟨gb233, 0, none⟩) (Kd.R_types HO223.out BK233.out (by decide)) (fun _ hk => by first | exact hk.2 | grind) (.slice Ao134 t228.length co134)) (fun _ hk => by first | exact hk.2 | grind) (.bool t231)) (fun _ hk => by first | exact ⟨hk.1.1.1.1.1.2, ⟨hk.1.1.1.1.2, ⟨hk.1.1.1.2, ⟨hk.1.1.2, hk.1.2⟩⟩⟩⟩ | grind)))⟩; have n4_ : Aside0 (Kd.R (Kd.int .u8) 5 w140 w.heap.size (fun k_ => some k_ ≠ (.slice Ao27 t183.length co27 : Value).ownBlock ∧ some k_ ≠ (.slice Ao34 t214.length co34 : Value).ownBlock ∧ some k_ ≠ (.slice Ao44 t197.length co44 : Value).ownBlock ∧ some k_ ≠ (.slice Ao130 t221.length co130 : Value).ownBlock ∧ some k_ ≠ (.slice Ao134 t228.length co134 : Value).ownBlock) (.slice Ao131 t225.length co131) t225) := ⟨(by rw [hw]; exact (by (with_reducible repeat (first | apply Kd.R_alloc | apply Kd.R_drewN | apply Kd.R_drew)); exact Kd.R_mono (Kd.R_far (p := ⟨gb233, 1, none⟩) (Kd.R_far (p := ⟨gb233, 0, none⟩) (Kd.R_types HO227.out BK233.out (by decide)) (fun _ hk => by first | exact hk.2 | grind) (.slice Ao134 t228.length co134)) (fun _ hk => by first | exact hk.2 | grind) (.bool t231)) (fun _ hk => by first | exact ⟨hk.1.1.1.1.1.2, ⟨hk.1.1.1.1.2, ⟨hk.1.1.1.2, ⟨hk.1.1.2, hk.1.2⟩⟩⟩⟩ | grind)))⟩; have n5_ : Aside0 (Kd.R (Kd.int .u8) 5 w140 w.heap.size (fun k_ => some k_ ≠ (.slice Ao27 t183.length co27 : Value).ownBlock ∧ some k_ ≠ (.slice Ao34 t214.length co34 : Value).ownBlock ∧ some k_ ≠ (.slice Ao44 t197.length co44 : Value).ownBlock ∧ some k_ ≠ (.slice Ao130 t221.length co130 : Value).ownBlock ∧ some k_ ≠ (.slice Ao131 t225.length co131 : Value).ownBlock) (.slice Ao134 t228.length co134) t228) := ⟨(by rw [hw]; exact (by (with_reducible repeat (first | apply Kd.R_alloc | apply Kd.R_drewN | apply Kd.R_drew)); exact Kd.R_mono (Kd.R_far (p := ⟨gb233, 1, none⟩) (Kd.R_far (p := ⟨gb233, 0, none⟩) (Kd.R_types HO230.out BK233.out (by decide)) (fun _ hk => by first | exact hk.2 | grind) (.slice Ao134 t228.length co134)) (fun _ hk => by first | exact hk.2 | grind) (.bool t231)) (fun _ hk => by first | exact ⟨hk.1.1.1.1.1.2, ⟨hk.1.1.1.1.2, ⟨hk.1.1.1.2, ⟨hk.1.1.2, hk.1.2⟩⟩⟩⟩ | grind)))⟩; have n6_ : Aside0 (w140.heap[gb174]? = some (.cells #[.slice A0_0 l0_0.length c0_0, .bool a0_1] 51 (0, 0))) := ⟨(by rw [hw]; exact (by (with_reducible repeat (first | refine blk_drewN ?_ _ | refine blk_drew ?_ | refine blk_alloc ?_ _)); refine blk_far ?_ NB174_233.out _; (with_reducible repeat (first | refine blk_drewN ?_ _ | refine blk_drew ?_ | refine blk_alloc ?_ _)); refine blk_far ?_ NB174_233.out _; (with_reducible repeat (first | refine blk_drewN ?_ _ | refine blk_drew ?_ | refine blk_alloc ?_ _)); exact BK174.out))⟩; have n7_ : Aside0 (w140.heap[gb188]? = some (.cells #[.slice Ao27 t183.length co27, .bool t186] 53 (0, 0))) := ⟨(by rw [hw]; exact (by (with_reducible repeat (first | refine blk_drewN ?_ _ | refine blk_drew ?_ | refine blk_alloc ?_ _)); refine blk_far ?_ NB188_233.out _; (with_reducible repeat (first | refine blk_drewN ?_ _ | refine blk_drew ?_ | refine blk_alloc ?_ _)); refine blk_far ?_ NB188_233.out _; (with_reducible repeat (first | refine blk_drewN ?_ _ | refine blk_drew ?_ | refine blk_alloc ?_ _)); exact BK188.out))⟩; have n8_ : Aside0 (w140.heap[gb193]? = some (.cells #[.slice Ao34 t214.length co34, .bool t192] 53 (0, 0))) := ⟨(by rw [hw]; exact (by (with_reducible repeat (first | refine blk_drewN ?_ _ | refine blk_drew ?_ | refine blk_alloc ?_ _)); refine blk_far ?_ NB193_233.out _; (with_reducible repeat (first | refine blk_drewN ?_ _ | refine blk_drew ?_ | refine blk_alloc ?_ _)); refine blk_far ?_ NB193_233.out _; (with_reducible repeat (first | refine blk_drewN ?_ _ | refine blk_drew ?_ | refine blk_alloc ?_ _)); exact BK193.out))⟩; have n9_ : Aside0 (w140.heap[gb202]? = some (.cells #[.slice Ao44 t197.length co44, .bool t200] 53 (0, 0))) := ⟨(by rw [hw]; exact (by (with_reducible repeat (first | refine blk_drewN ?_ _ | refine blk_drew ?_ | refine blk_alloc ?_ _)); refine blk_far ?_ NB202_233.out _; (with_reducible repeat (first | refine blk_drewN ?_ _ | refine blk_drew ?_ | refine blk_alloc ?_ _)); refine blk_far ?_ NB202_233.out _; (with_reducible repeat (first | refine blk_drewN ?_ _ | refine blk_drew ?_ | refine blk_alloc ?_ _)); exact BK202.out))⟩; have n10_ : Aside0 (w140.heap[gb233]? = some (.cells #[.slice Ao134 t228.length co134, .bool t231] 53 (0, 0))) := ⟨(by rw [hw]; exact (by (with_reducible repeat (first | refine blk_drewN ?_ _ | refine blk_drew ?_ | refine blk_alloc ?_ _)); refine blk_put (cs := #[.slice Ao134 t228.length co134, .bool false]) ?_ 1 _ rfl; (with_reducible repeat (first | refine blk_drewN ?_ _ | refine blk_drew ?_ | refine blk_alloc ?_ _)); refine blk_put (cs := #[.slice none 0 0, .bool false]) ?_ 0 _ rfl; (with_reducible repeat (first | refine blk_drewN ?_ _ | refine blk_drew ?_ | refine blk_alloc ?_ _)); exact BK233.out))⟩; have n11_ : Aside0 (Below w.heap.size w w140) := ⟨(by rw [hw]; exact (by repeat (first | (with_reducible first | exact HB.out | apply below_alloc | apply pw_below_drewN | apply below_drew1 | refine below_set ?_ GE174.out | refine below_set ?_ GE188.out | refine below_set ?_ GE193.out | refine below_set ?_ GE202.out | refine below_set ?_ GE233.out) | exact HB.out)))⟩; clear hw; clear HO_189000; clear HO_194000; clear HO_203000; clear HO223; clear HO227; clear HO230; clear BK174; clear BK188; clear BK193; clear BK202; clear BK233; clear HB; have HO_189000 := n0_; have HO_194000 := n1_; have HO_203000 := n2_; have HO223 := n3_; have HO227 := n4_; have HO230 := n5_; have BK174 := n6_; have BK188 := n7_; have BK193 := n8_; have BK202 := n9_; have BK233 := n10_; have HB := n11_; clear n0_ n1_ n2_ n3_ n4_ n5_ n6_ n7_ n8_ n9_ n10_ n11_))
                          (try simp only [Act.put, List.setIfInBounds_toArray, List.set_cons_zero, List.set_cons_succ])
                          go_cut [108] (fun v108 wc => ∃ (kq : Nat) (x108_116 : Bool), v108 = .bool x108_116 ∧ Aside0 (laws_FnExactFeedBytes.j2 kq t218 x108_116 t219 t200 = some r) ∧ Aside0 (kq ≤ kj76) ∧ Aside0 (Kd.R (Kd.int .u8) 5 wc w.heap.size (fun k_ => some k_ ≠ ((.slice Ao34 t214.length co34) : Value).ownBlock ∧ some k_ ≠ ((.slice Ao44 t197.length co44) : Value).ownBlock ∧ some k_ ≠ ((.slice Ao134 t228.length co134) : Value).ownBlock) (.slice Ao27 t183.length co27) t183) ∧ Aside0 (Kd.R (Kd.int .u8) 5 wc w.heap.size (fun k_ => some k_ ≠ ((.slice Ao27 t183.length co27) : Value).ownBlock ∧ some k_ ≠ ((.slice Ao44 t197.length co44) : Value).ownBlock ∧ some k_ ≠ ((.slice Ao134 t228.length co134) : Value).ownBlock) (.slice Ao34 t214.length co34) t214) ∧ Aside0 (Kd.R (Kd.int .u8) 5 wc w.heap.size (fun k_ => some k_ ≠ ((.slice Ao27 t183.length co27) : Value).ownBlock ∧ some k_ ≠ ((.slice Ao34 t214.length co34) : Value).ownBlock ∧ some k_ ≠ ((.slice Ao134 t228.length co134) : Value).ownBlock) (.slice Ao44 t197.length co44) t219) ∧ Aside0 (Kd.R (Kd.int .u8) 5 wc w.heap.size (fun k_ => some k_ ≠ ((.slice Ao27 t183.length co27) : Value).ownBlock ∧ some k_ ≠ ((.slice Ao34 t214.length co34) : Value).ownBlock ∧ some k_ ≠ ((.slice Ao44 t197.length co44) : Value).ownBlock) (.slice Ao134 t228.length co134) t228) ∧ Aside0 (wc.heap[gb174]? = some (.cells #[(.slice A0_0 l0_0.length c0_0), .bool a0_1] 51 (0, 0))) ∧ Aside0 (wc.heap[gb188]? = some (.cells #[(.slice Ao27 t183.length co27), .bool t186] 53 (0, 0))) ∧ Aside0 (wc.heap[gb193]? = some (.cells #[(.slice Ao34 t214.length co34), .bool t192] 53 (0, 0))) ∧ Aside0 (wc.heap[gb202]? = some (.cells #[(.slice Ao44 t197.length co44), .bool t200] 53 (0, 0))) ∧ Aside0 (wc.heap[gb233]? = some (.cells #[(.slice Ao134 t228.length co134), .bool t231] 53 (0, 0))) ∧ Aside0 (Below w.heap.size w wc))
                          case first =>
                            have H := HC117.out
                            clear HC117
                            replace H := Option.bind_eq_some_iff.mp H
                            obtain ⟨t234, A1410, H⟩ := H
                            replace H : (if t234 = true then (laws_FnExactFeedBytes.j2 kj76 t218 (t232 != t187) t219 t200) else (laws_FnExactFeedBytes.j2 kj76 t218 true t219 t200)) = some r := H
                            have A141 := Aside0.mk A1410
                            clear A1410
                            by_cases c142 : t234 = true
                            · subst c142
                              have H1 : (laws_FnExactFeedBytes.j2 kj76 t218 (t232 != t187) t219 t200) = some r := by rw [if_pos rfl] at H; exact H
                              clear H
                              have H := H1
                              clear H1
                              have H' := Aside0.mk H
                              clear H
                              have hnb143 := NB233_174.out
                              have hnc143 := NB174_233.out
                              have hnb144 := NB233_188.out
                              have hnc144 := NB188_233.out
                              have hnb145 := NB233_193.out
                              have hnc145 := NB193_233.out
                              have hnb146 := NB233_202.out
                              have hnc146 := NB202_233.out
                              have hcz147_0 : w140.cell? ⟨gb233, 0, none⟩ = some (.slice Ao134 t228.length co134) := (blk_cell BK233.out 0).trans rfl
                              have hcz147_1 : w140.cell? ⟨gb233, 1, none⟩ = some (.bool t231) := (blk_cell BK233.out 1).trans rfl
                              have hfz147_0 := blk_frozen BK233.out 0
                              have hfz147_1 := blk_frozen BK233.out 1
                              have hnb148 := NB188_174.out
                              have hnc148 := NB174_188.out
                              have hnb149 := NB188_193.out
                              have hnc149 := NB193_188.out
                              have hnb150 := NB188_202.out
                              have hnc150 := NB202_188.out
                              have hcz151_0 : w140.cell? ⟨gb188, 0, none⟩ = some (.slice Ao27 t183.length co27) := (blk_cell BK188.out 0).trans rfl
                              have hcz151_1 : w140.cell? ⟨gb188, 1, none⟩ = some (.bool t186) := (blk_cell BK188.out 1).trans rfl
                              have hfz151_0 := blk_frozen BK188.out 0
                              have hfz151_1 := blk_frozen BK188.out 1
                              go_wp2_with (first | ((with_reducible refine gate_callee (f := 35) rfl ?_); refine goesL_ (some 102) rfl rfl Try.func35 (by kernel_rfl) rfl #[.agg #[.slice Ao134 t228.length co134, .bool t231], .agg #[.slice Ao27 t183.length co27, .bool t186]] rfl (by (try simp only [List.map_toArray, List.map_cons, List.map_nil]); first | done | rfl | (simp only [List.length_drop, List.length_take]; rfl)) ?_; (with_reducible refine (laws_eqDecoder.calls kj76 _ _ t228 t231 _ _ t183 t186 true _ ?side1 ?side2 ?side3 ?side4 A141.out).mono ?_); (case side1 => repeat (first | exact (Kd.R_reads' HO230.out).2.2 | (with_reducible refine Kd.C_alloc ?_ _) | (with_reducible refine Kd.C_drewN ?_ _) | (with_reducible refine Kd.C_drew ?_))); (case side2 => exact (Kd.R_reads' HO230.out).2.1); (case side3 => repeat (first | exact (Kd.R_reads' HO_189000.out).2.2 | (with_reducible refine Kd.C_alloc ?_ _) | (with_reducible refine Kd.C_drewN ?_ _) | (with_reducible refine Kd.C_drew ?_))); (case side4 => exact (Kd.R_reads' HO_189000.out).2.1); rintro e w152 ⟨rfl, hb⟩; refine ⟨_, rfl, ?_⟩; have n0_ := Aside0.mk (Kd.R_below (by (with_reducible repeat (first | apply Kd.R_alloc | apply Kd.R_drewN | apply Kd.R_drew)); exact HO_189000.out) hb); have n1_ := Aside0.mk (Kd.R_below (by (with_reducible repeat (first | apply Kd.R_alloc | apply Kd.R_drewN | apply Kd.R_drew)); exact HO_194000.out) hb); have n2_ := Aside0.mk (Kd.R_below (by (with_reducible repeat (first | apply Kd.R_alloc | apply Kd.R_drewN | apply Kd.R_drew)); exact HO_203000.out) hb); have n3_ := Aside0.mk (Kd.R_below (by (with_reducible repeat (first | apply Kd.R_alloc | apply Kd.R_drewN | apply Kd.R_drew)); exact HO223.out) hb); have n4_ := Aside0.mk (Kd.R_below (by (with_reducible repeat (first | apply Kd.R_alloc | apply Kd.R_drewN | apply Kd.R_drew)); exact HO227.out) hb); have n5_ := Aside0.mk (Kd.R_below (by (with_reducible repeat (first | apply Kd.R_alloc | apply Kd.R_drewN | apply Kd.R_drew)); exact HO230.out) hb); have n6_ := Aside0.mk (blk_below (g := gb174) (o := .cells #[.slice A0_0 l0_0.length c0_0, .bool a0_1] 51 (0, 0)) (by (with_reducible repeat (first | refine blk_drewN ?_ _ | refine blk_drew ?_ | refine blk_alloc ?_ _)); exact BK174.out) hb); have n7_ := Aside0.mk (blk_below (g := gb188) (o := .cells #[.slice Ao27 t183.length co27, .bool t186] 53 (0, 0)) (by (with_reducible repeat (first | refine blk_drewN ?_ _ | refine blk_drew ?_ | refine blk_alloc ?_ _)); exact BK188.out) hb); have n8_ := Aside0.mk (blk_below (g := gb193) (o := .cells #[.slice Ao34 t214.length co34, .bool t192] 53 (0, 0)) (by (with_reducible repeat (first | refine blk_drewN ?_ _ | refine blk_drew ?_ | refine blk_alloc ?_ _)); exact BK193.out) hb); have n9_ := Aside0.mk (blk_below (g := gb202) (o := .cells #[.slice Ao44 t197.length co44, .bool t200] 53 (0, 0)) (by (with_reducible repeat (first | refine blk_drewN ?_ _ | refine blk_drew ?_ | refine blk_alloc ?_ _)); exact BK202.out) hb); have n10_ := Aside0.mk (blk_below (g := gb233) (o := .cells #[.slice Ao134 t228.length co134, .bool t231] 53 (0, 0)) (by (with_reducible repeat (first | refine blk_drewN ?_ _ | refine blk_drew ?_ | refine blk_alloc ?_ _)); exact BK233.out) hb); have n11_ := Aside0.mk (below_step (by repeat (first | (with_reducible first | exact HB.out | apply below_alloc | apply pw_below_drewN | apply below_drew1 | refine below_set ?_ GE174.out | refine below_set ?_ GE188.out | refine below_set ?_ GE193.out | refine below_set ?_ GE202.out | refine below_set ?_ GE233.out) | exact HB.out)) hb); clear HO_189000; clear HO_194000; clear HO_203000; clear HO223; clear HO227; clear HO230; clear BK174; clear BK188; clear BK193; clear BK202; clear BK233; clear HB; have HO_189000 := n0_; have HO_194000 := n1_; have HO_203000 := n2_; have HO223 := n3_; have HO227 := n4_; have HO230 := n5_; have BK174 := n6_; have BK188 := n7_; have BK193 := n8_; have BK202 := n9_; have BK233 := n10_; have HB := n11_; clear n0_ n1_ n2_ n3_ n4_ n5_ n6_ n7_ n8_ n9_ n10_ n11_; (try clear hb); (try clear hb2); (try clear hk); (try clear hi)))
                              go_meet
                              case rel => exact ⟨_, ((t232 != t187)), (by first | rfl | (simp; done) | (simp [*]; done)), H', ⟨by have := HJ15.out; have := HJ76.out; first | omega | exact Nat.le_refl _⟩, ⟨by (try simp only [hl194000_76]); (with_reducible repeat (first | apply Kd.R_alloc | apply Kd.R_drewN | apply Kd.R_drew)); exact Kd.R_mono HO_189000.out (fun _ hk => by first | exact ⟨hk.1, ⟨hk.2.1, hk.2.2.2.2⟩⟩ | grind)⟩, ⟨by (try simp only [hl194000_76]); (with_reducible repeat (first | apply Kd.R_alloc | apply Kd.R_drewN | apply Kd.R_drew)); exact Kd.R_mono HO_194000.out (fun _ hk => by first | exact ⟨hk.1, ⟨hk.2.1, hk.2.2.2.2⟩⟩ | grind)⟩, ⟨by (try simp only [hl194000_76]); (with_reducible repeat (first | apply Kd.R_alloc | apply Kd.R_drewN | apply Kd.R_drew)); exact Kd.R_mono HO_203000.out (fun _ hk => by first | exact ⟨hk.1, ⟨hk.2.1, hk.2.2.2.2⟩⟩ | grind)⟩, ⟨by (try simp only [hl194000_76]); (with_reducible repeat (first | apply Kd.R_alloc | apply Kd.R_drewN | apply Kd.R_drew)); exact Kd.R_mono HO230.out (fun _ hk => by first | exact ⟨hk.1, ⟨hk.2.1, hk.2.2.1⟩⟩ | grind)⟩, ⟨by (try simp only [hl194000_76]); (with_reducible repeat (first | refine blk_drewN ?_ _ | refine blk_drew ?_ | refine blk_alloc ?_ _)); exact BK174.out⟩, ⟨by (try simp only [hl194000_76]); (with_reducible repeat (first | refine blk_drewN ?_ _ | refine blk_drew ?_ | refine blk_alloc ?_ _)); exact BK188.out⟩, ⟨by (try simp only [hl194000_76]); (with_reducible repeat (first | refine blk_drewN ?_ _ | refine blk_drew ?_ | refine blk_alloc ?_ _)); exact BK193.out⟩, ⟨by (try simp only [hl194000_76]); (with_reducible repeat (first | refine blk_drewN ?_ _ | refine blk_drew ?_ | refine blk_alloc ?_ _)); exact BK202.out⟩, ⟨by (try simp only [hl194000_76]); (with_reducible repeat (first | refine blk_drewN ?_ _ | refine blk_drew ?_ | refine blk_alloc ?_ _)); exact BK233.out⟩, ⟨by repeat (first | (with_reducible first | exact HB.out | apply below_alloc | apply pw_below_drewN | apply below_drew1 | refine below_set ?_ GE174.out | refine below_set ?_ GE188.out | refine below_set ?_ GE193.out | refine below_set ?_ GE202.out | refine below_set ?_ GE233.out) | exact HB.out)⟩⟩
                            · replace c142 := Bool.eq_false_iff.mpr c142
                              subst c142
                              have H1 : (laws_FnExactFeedBytes.j2 kj76 t218 true t219 t200) = some r := by rw [if_neg (show ¬ (false = true) by decide)] at H; exact H
                              clear H
                              have H := H1
                              clear H1
                              have H' := Aside0.mk H
                              clear H
                              have hnb153 := NB233_174.out
                              have hnc153 := NB174_233.out
                              have hnb154 := NB233_188.out
                              have hnc154 := NB188_233.out
                              have hnb155 := NB233_193.out
                              have hnc155 := NB193_233.out
                              have hnb156 := NB233_202.out
                              have hnc156 := NB202_233.out
                              have hcz157_0 : w140.cell? ⟨gb233, 0, none⟩ = some (.slice Ao134 t228.length co134) := (blk_cell BK233.out 0).trans rfl
                              have hcz157_1 : w140.cell? ⟨gb233, 1, none⟩ = some (.bool t231) := (blk_cell BK233.out 1).trans rfl
                              have hfz157_0 := blk_frozen BK233.out 0
                              have hfz157_1 := blk_frozen BK233.out 1
                              have hnb158 := NB188_174.out
                              have hnc158 := NB174_188.out
                              have hnb159 := NB188_193.out
                              have hnc159 := NB193_188.out
                              have hnb160 := NB188_202.out
                              have hnc160 := NB202_188.out
                              have hcz161_0 : w140.cell? ⟨gb188, 0, none⟩ = some (.slice Ao27 t183.length co27) := (blk_cell BK188.out 0).trans rfl
                              have hcz161_1 : w140.cell? ⟨gb188, 1, none⟩ = some (.bool t186) := (blk_cell BK188.out 1).trans rfl
                              have hfz161_0 := blk_frozen BK188.out 0
                              have hfz161_1 := blk_frozen BK188.out 1
                              go_wp2_with (first | ((with_reducible refine gate_callee (f := 35) rfl ?_); refine goesL_ (some 102) rfl rfl Try.func35 (by kernel_rfl) rfl #[.agg #[.slice Ao134 t228.length co134, .bool t231], .agg #[.slice Ao27 t183.length co27, .bool t186]] rfl (by (try simp only [List.map_toArray, List.map_cons, List.map_nil]); first | done | rfl | (simp only [List.length_drop, List.length_take]; rfl)) ?_; (with_reducible refine (laws_eqDecoder.calls kj76 _ _ t228 t231 _ _ t183 t186 false _ ?side1 ?side2 ?side3 ?side4 A141.out).mono ?_); (case side1 => repeat (first | exact (Kd.R_reads' HO230.out).2.2 | (with_reducible refine Kd.C_alloc ?_ _) | (with_reducible refine Kd.C_drewN ?_ _) | (with_reducible refine Kd.C_drew ?_))); (case side2 => exact (Kd.R_reads' HO230.out).2.1); (case side3 => repeat (first | exact (Kd.R_reads' HO_189000.out).2.2 | (with_reducible refine Kd.C_alloc ?_ _) | (with_reducible refine Kd.C_drewN ?_ _) | (with_reducible refine Kd.C_drew ?_))); (case side4 => exact (Kd.R_reads' HO_189000.out).2.1); rintro e w162 ⟨rfl, hb⟩; refine ⟨_, rfl, ?_⟩; have n0_ := Aside0.mk (Kd.R_below (by (with_reducible repeat (first | apply Kd.R_alloc | apply Kd.R_drewN | apply Kd.R_drew)); exact HO_189000.out) hb); have n1_ := Aside0.mk (Kd.R_below (by (with_reducible repeat (first | apply Kd.R_alloc | apply Kd.R_drewN | apply Kd.R_drew)); exact HO_194000.out) hb); have n2_ := Aside0.mk (Kd.R_below (by (with_reducible repeat (first | apply Kd.R_alloc | apply Kd.R_drewN | apply Kd.R_drew)); exact HO_203000.out) hb); have n3_ := Aside0.mk (Kd.R_below (by (with_reducible repeat (first | apply Kd.R_alloc | apply Kd.R_drewN | apply Kd.R_drew)); exact HO223.out) hb); have n4_ := Aside0.mk (Kd.R_below (by (with_reducible repeat (first | apply Kd.R_alloc | apply Kd.R_drewN | apply Kd.R_drew)); exact HO227.out) hb); have n5_ := Aside0.mk (Kd.R_below (by (with_reducible repeat (first | apply Kd.R_alloc | apply Kd.R_drewN | apply Kd.R_drew)); exact HO230.out) hb); have n6_ := Aside0.mk (blk_below (g := gb174) (o := .cells #[.slice A0_0 l0_0.length c0_0, .bool a0_1] 51 (0, 0)) (by (with_reducible repeat (first | refine blk_drewN ?_ _ | refine blk_drew ?_ | refine blk_alloc ?_ _)); exact BK174.out) hb); have n7_ := Aside0.mk (blk_below (g := gb188) (o := .cells #[.slice Ao27 t183.length co27, .bool t186] 53 (0, 0)) (by (with_reducible repeat (first | refine blk_drewN ?_ _ | refine blk_drew ?_ | refine blk_alloc ?_ _)); exact BK188.out) hb); have n8_ := Aside0.mk (blk_below (g := gb193) (o := .cells #[.slice Ao34 t214.length co34, .bool t192] 53 (0, 0)) (by (with_reducible repeat (first | refine blk_drewN ?_ _ | refine blk_drew ?_ | refine blk_alloc ?_ _)); exact BK193.out) hb); have n9_ := Aside0.mk (blk_below (g := gb202) (o := .cells #[.slice Ao44 t197.length co44, .bool t200] 53 (0, 0)) (by (with_reducible repeat (first | refine blk_drewN ?_ _ | refine blk_drew ?_ | refine blk_alloc ?_ _)); exact BK202.out) hb); have n10_ := Aside0.mk (blk_below (g := gb233) (o := .cells #[.slice Ao134 t228.length co134, .bool t231] 53 (0, 0)) (by (with_reducible repeat (first | refine blk_drewN ?_ _ | refine blk_drew ?_ | refine blk_alloc ?_ _)); exact BK233.out) hb); have n11_ := Aside0.mk (below_step (by repeat (first | (with_reducible first | exact HB.out | apply below_alloc | apply pw_below_drewN | apply below_drew1 | refine below_set ?_ GE174.out | refine below_set ?_ GE188.out | refine below_set ?_ GE193.out | refine below_set ?_ GE202.out | refine below_set ?_ GE233.out) | exact HB.out)) hb); clear HO_189000; clear HO_194000; clear HO_203000; clear HO223; clear HO227; clear HO230; clear BK174; clear BK188; clear BK193; clear BK202; clear BK233; clear HB; have HO_189000 := n0_; have HO_194000 := n1_; have HO_203000 := n2_; have HO223 := n3_; have HO227 := n4_; have HO230 := n5_; have BK174 := n6_; have BK188 := n7_; have BK193 := n8_; have BK202 := n9_; have BK233 := n10_; have HB := n11_; clear n0_ n1_ n2_ n3_ n4_ n5_ n6_ n7_ n8_ n9_ n10_ n11_; (try clear hb); (try clear hb2); (try clear hk); (try clear hi)))
                              go_meet
                              case rel => exact ⟨_, (true), (by first | rfl | (simp; done) | (simp [*]; done)), H', ⟨by have := HJ15.out; have := HJ76.out; first | omega | exact Nat.le_refl _⟩, ⟨by (try simp only [hl194000_76]); (with_reducible repeat (first | apply Kd.R_alloc | apply Kd.R_drewN | apply Kd.R_drew)); exact Kd.R_mono HO_189000.out (fun _ hk => by first | exact ⟨hk.1, ⟨hk.2.1, hk.2.2.2.2⟩⟩ | grind)⟩, ⟨by (try simp only [hl194000_76]); (with_reducible repeat (first | apply Kd.R_alloc | apply Kd.R_drewN | apply Kd.R_drew)); exact Kd.R_mono HO_194000.out (fun _ hk => by first | exact ⟨hk.1, ⟨hk.2.1, hk.2.2.2.2⟩⟩ | grind)⟩, ⟨by (try simp only [hl194000_76]); (with_reducible repeat (first | apply Kd.R_alloc | apply Kd.R_drewN | apply Kd.R_drew)); exact Kd.R_mono HO_203000.out (fun _ hk => by first | exact ⟨hk.1, ⟨hk.2.1, hk.2.2.2.2⟩⟩ | grind)⟩, ⟨by (try simp only [hl194000_76]); (with_reducible repeat (first | apply Kd.R_alloc | apply Kd.R_drewN | apply Kd.R_drew)); exact Kd.R_mono HO230.out (fun _ hk => by first | exact ⟨hk.1, ⟨hk.2.1, hk.2.2.1⟩⟩ | grind)⟩, ⟨by (try simp only [hl194000_76]); (with_reducible repeat (first | refine blk_drewN ?_ _ | refine blk_drew ?_ | refine blk_alloc ?_ _)); exact BK174.out⟩, ⟨by (try simp only [hl194000_76]); (with_reducible repeat (first | refine blk_drewN ?_ _ | refine blk_drew ?_ | refine blk_alloc ?_ _)); exact BK188.out⟩, ⟨by (try simp only [hl194000_76]); (with_reducible repeat (first | refine blk_drewN ?_ _ | refine blk_drew ?_ | refine blk_alloc ?_ _)); exact BK193.out⟩, ⟨by (try simp only [hl194000_76]); (with_reducible repeat (first | refine blk_drewN ?_ _ | refine blk_drew ?_ | refine blk_alloc ?_ _)); exact BK202.out⟩, ⟨by (try simp only [hl194000_76]); (with_reducible repeat (first | refine blk_drewN ?_ _ | refine blk_drew ?_ | refine blk_alloc ?_ _)); exact BK233.out⟩, ⟨by repeat (first | (with_reducible first | exact HB.out | apply below_alloc | apply pw_below_drewN | apply below_drew1 | refine below_set ?_ GE174.out | refine below_set ?_ GE188.out | refine below_set ?_ GE193.out | refine below_set ?_ GE202.out | refine below_set ?_ GE233.out) | exact HB.out)⟩⟩
                          case rest =>
                            clear HC117
                            try clear c1
                            try clear c2
                            try clear p2
                            try clear c3
                            try clear c3b0
                            try clear c3b1
                            try clear c4
                            try clear c5
                            try clear c6
                            try clear c6b0
                            try clear c7
                            try clear c8
                            try clear c9
                            try clear c10
                            try clear c11
                            try clear c12
                            try clear c13
                            try clear c14
                            try clear c15
                            try clear c16
                            try clear c28
                            try clear c30
                            try clear c31
                            try clear c32
                            try clear c33
                            try clear c34
                            try clear c35
                            try clear c36
                            try clear c37
                            try clear c38
                            try clear c39
                            try clear c45
                            try clear c46
                            try clear c47
                            try clear c51
                            try clear c52
                            try clear c53
                            try clear c54
                            try clear c56
                            try clear c57
                            try clear c60
                            try clear c61
                            try clear c62
                            try clear c64
                            try clear c65
                            try clear c68
                            try clear c71
                            try clear c74
                            try clear c84
                            try clear c85
                            try clear c86
                            try clear c90
                            try clear c90b0
                            try clear c92
                            try clear c93
                            try clear c94
                            try clear c95
                            try clear c97
                            try clear c98
                            try clear c101
                            try clear c102
                            try clear c103
                            try clear c105
                            try clear c106
                            try clear c109
                            try clear c112
                            try clear c112b0
                            try clear c113
                            try clear c113b0
                            try clear c113b1
                            try clear c118
                            try clear c119
                            try clear c120
                            try clear c125
                            try clear c126
                            try clear c135
                            try clear c136
                            try clear c137
                            try clear c138
                            try clear c142
                            try clear c143
                            try clear c144
                            try clear c145
                            try clear c146
                            try clear c148
                            try clear c149
                            try clear c150
                            try clear c153
                            try clear c154
                            try clear c155
                            try clear c156
                            try clear c158
                            try clear c159
                            try clear c160
                            try clear hcz104_0
                            try clear hcz104_1
                            try clear hcz107_0
                            try clear hcz107_1
                            try clear hcz121_0
                            try clear hcz121_1
                            try clear hcz123_0
                            try clear hcz123_1
                            try clear hcz127_0
                            try clear hcz127_1
                            try clear hcz139_0
                            try clear hcz139_1
                            try clear hcz147_0
                            try clear hcz147_1
                            try clear hcz151_0
                            try clear hcz151_1
                            try clear hcz157_0
                            try clear hcz157_1
                            try clear hcz161_0
                            try clear hcz161_1
                            try clear hcz18_0
                            try clear hcz18_1
                            try clear hcz20_0
                            try clear hcz20_1
                            try clear hcz29_0
                            try clear hcz29_1
                            try clear hcz31_0
                            try clear hcz31_1
                            try clear hcz37_0
                            try clear hcz37_1
                            try clear hcz40_0
                            try clear hcz40_1
                            try clear hcz48_0
                            try clear hcz48_1
                            try clear hcz55_0
                            try clear hcz55_1
                            try clear hcz58_0
                            try clear hcz58_1
                            try clear hcz63_0
                            try clear hcz63_1
                            try clear hcz66_0
                            try clear hcz66_1
                            try clear hcz87_0
                            try clear hcz87_1
                            try clear hcz8_0
                            try clear hcz8_1
                            try clear hcz96_0
                            try clear hcz96_1
                            try clear hcz99_0
                            try clear hcz99_1
                            try clear hfz104_0
                            try clear hfz104_1
                            try clear hfz107_0
                            try clear hfz107_1
                            try clear hfz121_0
                            try clear hfz121_1
                            try clear hfz123_0
                            try clear hfz123_1
                            try clear hfz127_0
                            try clear hfz127_1
                            try clear hfz139_0
                            try clear hfz139_1
                            try clear hfz147_0
                            try clear hfz147_1
                            try clear hfz151_0
                            try clear hfz151_1
                            try clear hfz157_0
                            try clear hfz157_1
                            try clear hfz161_0
                            try clear hfz161_1
                            try clear hfz18_0
                            try clear hfz18_1
                            try clear hfz20_0
                            try clear hfz20_1
                            try clear hfz29_0
                            try clear hfz29_1
                            try clear hfz31_0
                            try clear hfz31_1
                            try clear hfz37_0
                            try clear hfz37_1
                            try clear hfz40_0
                            try clear hfz40_1
                            try clear hfz48_0
                            try clear hfz48_1
                            try clear hfz55_0
                            try clear hfz55_1
                            try clear hfz58_0
                            try clear hfz58_1
                            try clear hfz63_0
                            try clear hfz63_1
                            try clear hfz66_0
                            try clear hfz66_1
                            try clear hfz87_0
                            try clear hfz87_1
                            try clear hfz8_0
                            try clear hfz8_1
                            try clear hfz96_0
                            try clear hfz96_1
                            try clear hfz99_0
                            try clear hfz99_1
                            try clear p2
                            obtain ⟨kq, x108_116, rfl, HA, HJ116, HO_189000, HO_194000, HO_203000, HO_234000, BK174, BK188, BK193, BK202, BK233, HB⟩ := hcut
                            have hl203000_116 := (Kd.R_reads' HO_203000.out).1
                            rw [hl203000_116] at HO_203000
                            (try simp only [hl203000_116])
                            (try simp only [hl203000_116] at BK174)
                            (try simp only [hl203000_116] at BK188)
                            (try simp only [hl203000_116] at BK193)
                            (try simp only [hl203000_116] at BK202)
                            (try simp only [hl203000_116] at BK233)
                            (try simp only [hl203000_116] at HO_189000)
                            (try simp only [hl203000_116] at HO_194000)
                            (try simp only [hl203000_116] at HO_234000)
                            cases kq with
                            | zero => exact absurd HA.out (by simp [laws_FnExactFeedBytes.j2])
                            | succ kj116 =>
                              have H := HA.out
                              clear HA
                              simp only [laws_FnExactFeedBytes.j2] at H
                              by_cases c163 : x108_116 = true
                              · subst c163
                                have H1 : (some false) = some r := by rw [if_pos rfl] at H; exact H
                                clear H
                                have H := H1
                                clear H1
                                exact absurd ((Option.some.inj H).trans hT.out) (by decide)
                              · replace c163 := Bool.eq_false_iff.mpr c163
                                subst c163
                                have H1 : ((laws_heldDecoder.f kj116 t219 t200 1).bind fun t235 => (if t235 < 0 then (some false) else (if t235 = t218 then (some true) else (some false)))) = some r := by rw [if_neg (show ¬ (false = true) by decide)] at H; exact H
                                clear H
                                have H := H1
                                clear H1
                                replace H := Option.bind_eq_some_iff.mp H
                                obtain ⟨t235, A1640, H⟩ := H
                                replace H : (if t235 < 0 then (some false) else (if t235 = t218 then (some true) else (some false))) = some r := H
                                have A164 := Aside0.mk A1640
                                clear A1640
                                by_cases c165 : t235 < 0
                                · rw [if_pos c165] at H
                                  have c165b0 : decide (t235 < 0) = true := decide_eq_true c165
                                  clear c165
                                  exact absurd ((Option.some.inj H).trans hT.out) (by decide)
                                · rw [if_neg c165] at H
                                  have c165b0 : decide (t235 < 0) = false := decide_eq_false c165
                                  clear c165
                                  by_cases c166 : t235 = t218
                                  · rw [if_pos c166] at H
                                    have c166b0 : (t235 == t218) = true := beq_iff_eq.mpr c166
                                    have c166b1 : (t235 != t218) = false := bne_eq_false_iff_eq.mpr c166
                                    clear c166
                                    obtain rfl := Option.some.inj H
                                    have hnb167 := NB202_174.out
                                    have hnc167 := NB174_202.out
                                    have hnb168 := NB202_188.out
                                    have hnc168 := NB188_202.out
                                    have hnb169 := NB202_193.out
                                    have hnc169 := NB193_202.out
                                    have hnb170 := NB202_233.out
                                    have hnc170 := NB233_202.out
                                    have hcz171_0 : wc.cell? ⟨gb202, 0, none⟩ = some (.slice Ao44 t219.length co44) := (blk_cell BK202.out 0).trans rfl
                                    have hcz171_1 : wc.cell? ⟨gb202, 1, none⟩ = some (.bool t200) := (blk_cell BK202.out 1).trans rfl
                                    have hfz171_0 := blk_frozen BK202.out 0
                                    have hfz171_1 := blk_frozen BK202.out 1
                                    go_wp2_with (first | ((with_reducible refine gate_callee (f := 39) rfl ?_); refine goesL_ (some 111) rfl rfl Try.func39 (by kernel_rfl) rfl #[.agg #[.slice Ao44 t219.length co44, .bool t200], .int .i64 1] rfl (by (try simp only [List.map_toArray, List.map_cons, List.map_nil]); first | done | rfl | (simp only [List.length_drop, List.length_take]; rfl)) ?_; (with_reducible refine (laws_heldDecoder.calls kj116 _ _ t219 t200 1 t235 _ ?side1 ?side2 A164.out).mono ?_); (case side1 => repeat (first | exact (Kd.R_reads' HO_203000.out).2.2 | (with_reducible refine Kd.C_alloc ?_ _) | (with_reducible refine Kd.C_drewN ?_ _) | (with_reducible refine Kd.C_drew ?_))); (case side2 => exact (Kd.R_reads' HO_203000.out).2.1); rintro e w172 ⟨rfl, hb⟩; refine ⟨_, rfl, ?_⟩; have n0_ := Aside0.mk (Kd.R_below (by (with_reducible repeat (first | apply Kd.R_alloc | apply Kd.R_drewN | apply Kd.R_drew)); exact HO_189000.out) hb); have n1_ := Aside0.mk (Kd.R_below (by (with_reducible repeat (first | apply Kd.R_alloc | apply Kd.R_drewN | apply Kd.R_drew)); exact HO_194000.out) hb); have n2_ := Aside0.mk (Kd.R_below (by (with_reducible repeat (first | apply Kd.R_alloc | apply Kd.R_drewN | apply Kd.R_drew)); exact HO_203000.out) hb); have n3_ := Aside0.mk (Kd.R_below (by (with_reducible repeat (first | apply Kd.R_alloc | apply Kd.R_drewN | apply Kd.R_drew)); exact HO_234000.out) hb); have n4_ := Aside0.mk (blk_below (g := gb174) (o := .cells #[.slice A0_0 l0_0.length c0_0, .bool a0_1] 51 (0, 0)) (by (with_reducible repeat (first | refine blk_drewN ?_ _ | refine blk_drew ?_ | refine blk_alloc ?_ _)); exact BK174.out) hb); have n5_ := Aside0.mk (blk_below (g := gb188) (o := .cells #[.slice Ao27 t183.length co27, .bool t186] 53 (0, 0)) (by (with_reducible repeat (first | refine blk_drewN ?_ _ | refine blk_drew ?_ | refine blk_alloc ?_ _)); exact BK188.out) hb); have n6_ := Aside0.mk (blk_below (g := gb193) (o := .cells #[.slice Ao34 t214.length co34, .bool t192] 53 (0, 0)) (by (with_reducible repeat (first | refine blk_drewN ?_ _ | refine blk_drew ?_ | refine blk_alloc ?_ _)); exact BK193.out) hb); have n7_ := Aside0.mk (blk_below (g := gb202) (o := .cells #[.slice Ao44 t219.length co44, .bool t200] 53 (0, 0)) (by (with_reducible repeat (first | refine blk_drewN ?_ _ | refine blk_drew ?_ | refine blk_alloc ?_ _)); exact BK202.out) hb); have n8_ := Aside0.mk (blk_below (g := gb233) (o := .cells #[.slice Ao134 t228.length co134, .bool t231] 53 (0, 0)) (by (with_reducible repeat (first | refine blk_drewN ?_ _ | refine blk_drew ?_ | refine blk_alloc ?_ _)); exact BK233.out) hb); have n9_ := Aside0.mk (below_step (by repeat (first | (with_reducible first | exact HB.out | apply below_alloc | apply pw_below_drewN | apply below_drew1 | refine below_set ?_ GE174.out | refine below_set ?_ GE188.out | refine below_set ?_ GE193.out | refine below_set ?_ GE202.out | refine below_set ?_ GE233.out) | exact HB.out)) hb); clear HO_189000; clear HO_194000; clear HO_203000; clear HO_234000; clear BK174; clear BK188; clear BK193; clear BK202; clear BK233; clear HB; have HO_189000 := n0_; have HO_194000 := n1_; have HO_203000 := n2_; have HO_234000 := n3_; have BK174 := n4_; have BK188 := n5_; have BK193 := n6_; have BK202 := n7_; have BK233 := n8_; have HB := n9_; clear n0_ n1_ n2_ n3_ n4_ n5_ n6_ n7_ n8_ n9_; (try clear hb); (try clear hb2); (try clear hk); (try clear hi)))
                                    go_ret
                                    exact ⟨by first | rfl | (simp [errW_none, errW_some] <;> rfl) | (simp [*, errW_none, errW_some] <;> rfl), by repeat (first | (with_reducible first | exact HB.out | apply below_alloc | apply pw_below_drewN | apply below_drew1 | refine below_set ?_ GE174.out | refine below_set ?_ GE188.out | refine below_set ?_ GE193.out | refine below_set ?_ GE202.out | refine below_set ?_ GE233.out) | exact HB.out)⟩
                                  · rw [if_neg c166] at H
                                    have c166b0 : (t235 == t218) = false := beq_eq_false_iff_ne.mpr c166
                                    have c166b1 : (t235 != t218) = true := bne_iff_ne.mpr c166
                                    exact absurd ((Option.some.inj H).trans hT.out) (by decide)
                        · rw [if_neg c113] at H
                          have c113b0 : (t220 == t218) = false := beq_eq_false_iff_ne.mpr c113
                          have c113b1 : (t220 != t218) = true := bne_iff_ne.mpr c113
                          exact absurd ((Option.some.inj H).trans hT.out) (by decide)
              · replace c74 := Bool.eq_false_iff.mpr c74
                subst c74
                have H1 : (some false) = some r := by rw [if_neg (show ¬ (false = true) by decide)] at H; exact H
                clear H
                have H := H1
                clear H1
                exact absurd ((Option.some.inj H).trans hT.out) (by decide)
            · replace c71 := Bool.eq_false_iff.mpr c71
              subst c71
              have H1 : (some false) = some r := by rw [if_neg (show ¬ (false = true) by decide)] at H; exact H
              clear H
              have H := H1
              clear H1
              exact absurd ((Option.some.inj H).trans hT.out) (by decide)

end Go.Proofs.Ytoeiadanmfajoaa.QFnExactFeedBytes
