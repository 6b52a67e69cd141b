/- The machine side of a law: Lean functions with the Go functions' answers and the walks that show it. No condition. -/
import Derived.Test.YtoeiadanmfajoaaQFnExactPutFramex0
import Derived.Test.YtoeiadanmfajoaaQFnExactPutFramex2
import Derived.Test.YtoeiadanmfajoaaQFnExactPutFramex3
import Derived.Test.YtoeiadanmfajoaaQFnExactPutFramex4
namespace Go.Proofs.Ytoeiadanmfajoaa.QFnExactPutFrame
open Go.RowKit Go.Proofs.YtoeiadanmfajoaaW.PrintWords Go.Proofs.YtoeiadanmfajoaaW.PrintLast Go.Proofs.YtoeiadanmfajoaaW.PrintMore
attribute [local go_sem] max2_int min2_int max_two min_two max_three min_three max_four min_four   -- for this text's walks alone
set_option linter.unusedVariables false
set_option linter.unusedSimpArgs false

/-! ### laws_FnExactPutFrame: function 11 -/
def laws_FnExactPutFrame.f (k : Nat) (a0_0 : Int) (a0_1 : Int) (a0_2 : Int) (a0_3 : Int) : Option (Bool) := (laws_toFrame.f a0_0 a0_1 a0_2 a0_3).bind fun bt214 => ((spec_PutFrame.f k bt214.1 bt214.2.1 bt214.2.2.1 bt214.2.2.2).bind fun t218 => ((laws_toFrame.f a0_0 a0_1 a0_2 a0_3).bind fun bt221 => ((impl_PutFrame.f k bt221.1 bt221.2.1 bt221.2.2.1 bt221.2.2.2).bind fun t225 => ((laws_eqByteS.f k t225 t218).bind fun t228 => (if t228 = true then ((laws_markByteS.f k t225 1).bind fun bt229 => ((laws_heldByteS.f k bt229.2 1).bind fun t231 => (if t231 < 0 then (some false) else (if t231 = bt229.1 then ((laws_toFrame.f a0_0 a0_1 a0_2 a0_3).bind fun bt232 => ((impl_PutFrame.f k bt232.1 bt232.2.1 bt232.2.2.1 bt232.2.2.2).bind fun t236 => ((laws_eqByteS.f k t236 t218).bind fun t239 => (if t239 = true then ((laws_heldByteS.f k bt229.2 1).bind fun t240 => (if t240 < 0 then (some false) else (if t240 = bt229.1 then (some true) else (some false)))) else (some false))))) else (some false))))) else (some false))))))
theorem laws_FnExactPutFrame.mono : ∀ a0 a1 a2 a3 k, LeO (laws_FnExactPutFrame.f k a0 a1 a2 a3) (laws_FnExactPutFrame.f (k + 1) a0 a1 a2 a3) := by
  intro a0 a1 a2 a3 k
  unfold laws_FnExactPutFrame.f
  repeat' first
      | (with_reducible exact impl_PutFrame.mono _ _ _ _ _)
      | (with_reducible exact laws_eqByteS.mono _ _ _)
      | (with_reducible exact laws_heldByteS.mono _ _ _)
      | (with_reducible exact laws_markByteS.mono _ _ _)
      | (with_reducible exact spec_PutFrame.mono _ _ _ _ _)
      | (with_reducible exact LeO.refl _)
      | (with_reducible exact LeO.none _)
      | (with_reducible refine LeO.ite ?_ ?_)
      | (with_reducible refine LeO.bind ?_ (fun _ => ?_))
      | exact impl_PutFrame.mono _ _ _ _ _
      | exact laws_eqByteS.mono _ _ _
      | exact laws_heldByteS.mono _ _ _
      | exact laws_markByteS.mono _ _ _
      | exact spec_PutFrame.mono _ _ _ _ _
      | exact LeO.none _
      | refine LeO.ite ?_ ?_
      | refine LeO.bind ?_ (fun _ => ?_)
set_option maxHeartbeats 8000000 in
set_option maxRecDepth 100000 in
theorem laws_FnExactPutFrame.calls (k : Nat) (a0_0 : Int) (a0_1 : Int) (a0_2 : Int) (a0_3 : Int) (r : Bool) (w : World) (hT : Aside0 (r = true)) (h : laws_FnExactPutFrame.f k a0_0 a0_1 a0_2 a0_3 = some r) :
    Calls Try.prog 11 #[.agg #[.int .i64 a0_0, .int .i64 a0_1, .int .i64 a0_2, .int .i64 a0_3]] w fun e w' => e = .returned (.bool r) ∧ Below w.heap.size w w' := by
  have hu82 := Try.underlying82
  have HB := Aside0.mk (Below.refl w.heap.size w)
  have H : ((laws_toFrame.f a0_0 a0_1 a0_2 a0_3).bind fun bt214 => ((spec_PutFrame.f k bt214.1 bt214.2.1 bt214.2.2.1 bt214.2.2.2).bind fun t218 => ((laws_toFrame.f a0_0 a0_1 a0_2 a0_3).bind fun bt221 => ((impl_PutFrame.f k bt221.1 bt221.2.1 bt221.2.2.1 bt221.2.2.2).bind fun t225 => ((laws_eqByteS.f k t225 t218).bind fun t228 => (if t228 = true then ((laws_markByteS.f k t225 1).bind fun bt229 => ((laws_heldByteS.f k bt229.2 1).bind fun t231 => (if t231 < 0 then (some false) else (if t231 = bt229.1 then ((laws_toFrame.f a0_0 a0_1 a0_2 a0_3).bind fun bt232 => ((impl_PutFrame.f k bt232.1 bt232.2.1 bt232.2.2.1 bt232.2.2.2).bind fun t236 => ((laws_eqByteS.f k t236 t218).bind fun t239 => (if t239 = true then ((laws_heldByteS.f k bt229.2 1).bind fun t240 => (if t240 < 0 then (some false) else (if t240 = bt229.1 then (some true) else (some false)))) else (some false))))) else (some false))))) else (some false))))))) = some r := h
  clear h
  replace H := Option.bind_eq_some_iff.mp H
  obtain ⟨⟨t214, t215, t216, t217⟩, A20, H⟩ := H
  replace H : ((spec_PutFrame.f k t214 t215 t216 t217).bind fun t218 => ((laws_toFrame.f a0_0 a0_1 a0_2 a0_3).bind fun bt221 => ((impl_PutFrame.f k bt221.1 bt221.2.1 bt221.2.2.1 bt221.2.2.2).bind fun t225 => ((laws_eqByteS.f k t225 t218).bind fun t228 => (if t228 = true then ((laws_markByteS.f k t225 1).bind fun bt229 => ((laws_heldByteS.f k bt229.2 1).bind fun t231 => (if t231 < 0 then (some false) else (if t231 = bt229.1 then ((laws_toFrame.f a0_0 a0_1 a0_2 a0_3).bind fun bt232 => ((impl_PutFrame.f k bt232.1 bt232.2.1 bt232.2.2.1 bt232.2.2.2).bind fun t236 => ((laws_eqByteS.f k t236 t218).bind fun t239 => (if t239 = true then ((laws_heldByteS.f k bt229.2 1).bind fun t240 => (if t240 < 0 then (some false) else (if t240 = bt229.1 then (some true) else (some false)))) else (some false))))) else (some false))))) else (some false)))))) = some r := H
  have A2 := Aside0.mk A20
  clear A20
  replace H := Option.bind_eq_some_iff.mp H
  obtain ⟨t218, A30, H⟩ := H
  replace H : ((laws_toFrame.f a0_0 a0_1 a0_2 a0_3).bind fun bt221 => ((impl_PutFrame.f k bt221.1 bt221.2.1 bt221.2.2.1 bt221.2.2.2).bind fun t225 => ((laws_eqByteS.f k t225 t218).bind fun t228 => (if t228 = true then ((laws_markByteS.f k t225 1).bind fun bt229 => ((laws_heldByteS.f k bt229.2 1).bind fun t231 => (if t231 < 0 then (some false) else (if t231 = bt229.1 then ((laws_toFrame.f a0_0 a0_1 a0_2 a0_3).bind fun bt232 => ((impl_PutFrame.f k bt232.1 bt232.2.1 bt232.2.2.1 bt232.2.2.2).bind fun t236 => ((laws_eqByteS.f k t236 t218).bind fun t239 => (if t239 = true then ((laws_heldByteS.f k bt229.2 1).bind fun t240 => (if t240 < 0 then (some false) else (if t240 = bt229.1 then (some true) else (some false)))) else (some false))))) else (some false))))) else (some false))))) = some r := H
  have A3 := Aside0.mk A30
  clear A30
  replace H := Option.bind_eq_some_iff.mp H
  obtain ⟨⟨t221, t222, t223, t224⟩, A40, H⟩ := H
  replace H : ((impl_PutFrame.f k t221 t222 t223 t224).bind fun t225 => ((laws_eqByteS.f k t225 t218).bind fun t228 => (if t228 = true then ((laws_markByteS.f k t225 1).bind fun bt229 => ((laws_heldByteS.f k bt229.2 1).bind fun t231 => (if t231 < 0 then (some false) else (if t231 = bt229.1 then ((laws_toFrame.f a0_0 a0_1 a0_2 a0_3).bind fun bt232 => ((impl_PutFrame.f k bt232.1 bt232.2.1 bt232.2.2.1 bt232.2.2.2).bind fun t236 => ((laws_eqByteS.f k t236 t218).bind fun t239 => (if t239 = true then ((laws_heldByteS.f k bt229.2 1).bind fun t240 => (if t240 < 0 then (some false) else (if t240 = bt229.1 then (some true) else (some false)))) else (some false))))) else (some false))))) else (some false)))) = some r := H
  have A4 := Aside0.mk A40
  clear A40
  replace H := Option.bind_eq_some_iff.mp H
  obtain ⟨t225, A50, H⟩ := H
  replace H : ((laws_eqByteS.f k t225 t218).bind fun t228 => (if t228 = true then ((laws_markByteS.f k t225 1).bind fun bt229 => ((laws_heldByteS.f k bt229.2 1).bind fun t231 => (if t231 < 0 then (some false) else (if t231 = bt229.1 then ((laws_toFrame.f a0_0 a0_1 a0_2 a0_3).bind fun bt232 => ((impl_PutFrame.f k bt232.1 bt232.2.1 bt232.2.2.1 bt232.2.2.2).bind fun t236 => ((laws_eqByteS.f k t236 t218).bind fun t239 => (if t239 = true then ((laws_heldByteS.f k bt229.2 1).bind fun t240 => (if t240 < 0 then (some false) else (if t240 = bt229.1 then (some true) else (some false)))) else (some false))))) else (some false))))) else (some false))) = some r := H
  have A5 := Aside0.mk A50
  clear A50
  replace H := Option.bind_eq_some_iff.mp H
  obtain ⟨t228, A60, H⟩ := H
  replace H : (if t228 = true then ((laws_markByteS.f k t225 1).bind fun bt229 => ((laws_heldByteS.f k bt229.2 1).bind fun t231 => (if t231 < 0 then (some false) else (if t231 = bt229.1 then ((laws_toFrame.f a0_0 a0_1 a0_2 a0_3).bind fun bt232 => ((impl_PutFrame.f k bt232.1 bt232.2.1 bt232.2.2.1 bt232.2.2.2).bind fun t236 => ((laws_eqByteS.f k t236 t218).bind fun t239 => (if t239 = true then ((laws_heldByteS.f k bt229.2 1).bind fun t240 => (if t240 < 0 then (some false) else (if t240 = bt229.1 then (some true) else (some false)))) else (some false))))) else (some false))))) else (some false)) = some r := H
  have A6 := Aside0.mk A60
  clear A60
  by_cases c7 : t228 = true
  · subst c7
    have H1 : ((laws_markByteS.f k t225 1).bind fun bt229 => ((laws_heldByteS.f k bt229.2 1).bind fun t231 => (if t231 < 0 then (some false) else (if t231 = bt229.1 then ((laws_toFrame.f a0_0 a0_1 a0_2 a0_3).bind fun bt232 => ((impl_PutFrame.f k bt232.1 bt232.2.1 bt232.2.2.1 bt232.2.2.2).bind fun t236 => ((laws_eqByteS.f k t236 t218).bind fun t239 => (if t239 = true then ((laws_heldByteS.f k bt229.2 1).bind fun t240 => (if t240 < 0 then (some false) else (if t240 = bt229.1 then (some true) else (some false)))) else (some false))))) else (some false))))) = some r := by rw [if_pos rfl] at H; exact H
    clear H
    have H := H1
    clear H1
    replace H := Option.bind_eq_some_iff.mp H
    obtain ⟨⟨t229, t230⟩, A80, H⟩ := H
    replace H : ((laws_heldByteS.f k t230 1).bind fun t231 => (if t231 < 0 then (some false) else (if t231 = t229 then ((laws_toFrame.f a0_0 a0_1 a0_2 a0_3).bind fun bt232 => ((impl_PutFrame.f k bt232.1 bt232.2.1 bt232.2.2.1 bt232.2.2.2).bind fun t236 => ((laws_eqByteS.f k t236 t218).bind fun t239 => (if t239 = true then ((laws_heldByteS.f k t230 1).bind fun t240 => (if t240 < 0 then (some false) else (if t240 = t229 then (some true) else (some false)))) else (some false))))) else (some false)))) = some r := H
    have A8 := Aside0.mk A80
    clear A80
    replace H := Option.bind_eq_some_iff.mp H
    obtain ⟨t231, A90, H⟩ := H
    replace H : (if t231 < 0 then (some false) else (if t231 = t229 then ((laws_toFrame.f a0_0 a0_1 a0_2 a0_3).bind fun bt232 => ((impl_PutFrame.f k bt232.1 bt232.2.1 bt232.2.2.1 bt232.2.2.2).bind fun t236 => ((laws_eqByteS.f k t236 t218).bind fun t239 => (if t239 = true then ((laws_heldByteS.f k t230 1).bind fun t240 => (if t240 < 0 then (some false) else (if t240 = t229 then (some true) else (some false)))) else (some false))))) else (some false))) = some r := H
    have A9 := Aside0.mk A90
    clear A90
    by_cases c10 : t231 < 0
    · rw [if_pos c10] at H
      have c10b0 : decide (t231 < 0) = true := decide_eq_true c10
      clear c10
      exact absurd ((Option.some.inj H).trans hT.out) (by decide)
    · rw [if_neg c10] at H
      have c10b0 : decide (t231 < 0) = false := decide_eq_false c10
      clear c10
      by_cases c11 : t231 = t229
      · rw [if_pos c11] at H
        have c11b0 : (t231 == t229) = true := beq_iff_eq.mpr c11
        have c11b1 : (t231 != t229) = false := bne_eq_false_iff_eq.mpr c11
        clear c11
        replace H := Option.bind_eq_some_iff.mp H
        obtain ⟨⟨t232, t233, t234, t235⟩, A120, H⟩ := H
        replace H : ((impl_PutFrame.f k t232 t233 t234 t235).bind fun t236 => ((laws_eqByteS.f k t236 t218).bind fun t239 => (if t239 = true then ((laws_heldByteS.f k t230 1).bind fun t240 => (if t240 < 0 then (some false) else (if t240 = t229 then (some true) else (some false)))) else (some false)))) = some r := H
        have A12 := Aside0.mk A120
        clear A120
        replace H := Option.bind_eq_some_iff.mp H
        obtain ⟨t236, A130, H⟩ := H
        replace H : ((laws_eqByteS.f k t236 t218).bind fun t239 => (if t239 = true then ((laws_heldByteS.f k t230 1).bind fun t240 => (if t240 < 0 then (some false) else (if t240 = t229 then (some true) else (some false)))) else (some false))) = some r := H
        have A13 := Aside0.mk A130
        clear A130
        replace H := Option.bind_eq_some_iff.mp H
        obtain ⟨t239, A140, H⟩ := H
        replace H : (if t239 = true then ((laws_heldByteS.f k t230 1).bind fun t240 => (if t240 < 0 then (some false) else (if t240 = t229 then (some true) else (some false)))) else (some false)) = some r := H
        have A14 := Aside0.mk A140
        clear A140
        by_cases c15 : t239 = true
        · subst c15
          have H1 : ((laws_heldByteS.f k t230 1).bind fun t240 => (if t240 < 0 then (some false) else (if t240 = t229 then (some true) else (some false)))) = some r := by rw [if_pos rfl] at H; exact H
          clear H
          have H := H1
          clear H1
          replace H := Option.bind_eq_some_iff.mp H
          obtain ⟨t240, A160, H⟩ := H
          replace H : (if t240 < 0 then (some false) else (if t240 = t229 then (some true) else (some false))) = some r := H
          have A16 := Aside0.mk A160
          clear A160
          by_cases c17 : t240 < 0
          · rw [if_pos c17] at H
            have c17b0 : decide (t240 < 0) = true := decide_eq_true c17
            clear c17
            exact absurd ((Option.some.inj H).trans hT.out) (by decide)
          · rw [if_neg c17] at H
            have c17b0 : decide (t240 < 0) = false := decide_eq_false c17
            clear c17
            by_cases c18 : t240 = t229
            · rw [if_pos c18] at H
              have c18b0 : (t240 == t229) = true := beq_iff_eq.mpr c18
              have c18b1 : (t240 != t229) = false := bne_eq_false_iff_eq.mpr c18
              clear c18
              obtain rfl := Option.some.inj H
              go_enter Try.func11, Try.ntmps11
              go_wp2_with (first | ((with_reducible refine gate_dst (N := 1) rfl ?_); refine box_event ?hg (N := 1) ?hd (cs := #[.int .i64 a0_0, .int .i64 a0_1, .int .i64 a0_2, .int .i64 a0_3]) (t := 82) ?hr ?_; (case hd => rfl); (case hg => rfl); (case hr => first | (go_simp; done) | (go_simp; rfl)); intro gb213 hg w19 hbox hb; have n0_ := Aside0.mk (below_step (by repeat (first | (with_reducible first | exact HB.out | apply below_alloc | apply pw_below_drewN | apply below_drew1) | exact HB.out)) hb); have n1_ := Aside0.mk (hbox); have n2_ := Aside0.mk ((by rw [hg]; exact (below_size (by repeat (first | (with_reducible first | exact HB.out | apply below_alloc | apply pw_below_drewN | apply below_drew1) | exact HB.out))) : w.heap.size ≤ gb213)); have n3_ := Aside0.mk ((by rw [hg]; exact (below_size (by repeat (first | (with_reducible first | exact HB.out | apply below_alloc | apply pw_below_drewN | apply below_drew1) | exact HB.out))) : w.heap.size ≤ gb213)); clear HB; have HB := n0_; have BK213 := n1_; have GW213 := n2_; have GE213 := n3_; clear n0_ n1_ n2_ n3_; clear hb hbox hg; have hcz20_0 : w19.cell? ⟨gb213, 0, none⟩ = some (.int .i64 a0_0) := (blk_cell BK213.out 0).trans rfl; have hcz20_1 : w19.cell? ⟨gb213, 1, none⟩ = some (.int .i64 a0_1) := (blk_cell BK213.out 1).trans rfl; have hcz20_2 : w19.cell? ⟨gb213, 2, none⟩ = some (.int .i64 a0_2) := (blk_cell BK213.out 2).trans rfl; have hcz20_3 : w19.cell? ⟨gb213, 3, none⟩ = some (.int .i64 a0_3) := (blk_cell BK213.out 3).trans rfl; have hfz20_0 := blk_frozen BK213.out 0; have hfz20_1 := blk_frozen BK213.out 1; have hfz20_2 := blk_frozen BK213.out 2; have hfz20_3 := blk_frozen BK213.out 3) | ((with_reducible refine gate_callee (f := 56) rfl ?_); refine goesL_ (some 9) rfl rfl Try.func56 (by kernel_rfl) rfl #[.agg #[.int .i64 a0_0, .int .i64 a0_1, .int .i64 a0_2, .int .i64 a0_3]] rfl (by (try simp only [List.map_toArray, List.map_cons, List.map_nil]); first | done | rfl | (simp only [List.length_drop, List.length_take]; rfl)) ?_; (with_reducible refine (laws_toFrame.calls a0_0 a0_1 a0_2 a0_3 t214 t215 t216 t217 _ A2.out).mono ?_); rintro e w21 ⟨rfl, hb⟩; refine ⟨_, rfl, ?_⟩; have n0_ := Aside0.mk (blk_below (g := gb213) (o := .cells #[.int .i64 a0_0, .int .i64 a0_1, .int .i64 a0_2, .int .i64 a0_3] 82 (0, 0)) (by (with_reducible repeat (first | refine blk_drewN ?_ _ | refine blk_drew ?_ | refine blk_alloc ?_ _)); exact BK213.out) hb); have n1_ := Aside0.mk (below_step (by repeat (first | (with_reducible first | exact HB.out | apply below_alloc | apply pw_below_drewN | apply below_drew1 | refine below_set ?_ GE213.out) | exact HB.out)) hb); clear BK213; clear HB; have BK213 := n0_; have HB := n1_; clear n0_ n1_; (try clear hb); (try clear hb2); (try clear hk); (try clear hi)) | ((with_reducible refine gate_callee (f := 55) rfl ?_); refine goesL_ (some 10) rfl rfl Try.func55 (by kernel_rfl) rfl #[.agg #[.int .i64 t214, .int .i64 t215, .int .i64 t216, .int .i64 t217]] rfl (by (try simp only [List.map_toArray, List.map_cons, List.map_nil]); first | done | rfl | (simp only [List.length_drop, List.length_take]; rfl)) ?_; (with_reducible refine (spec_PutFrame.calls k t214 t215 t216 t217 t218 _ A3.out).mono ?_); rintro e w22 ⟨v219, rfl, ho0, hb⟩; refine ⟨_, rfl, ?_⟩; have n0_ := Aside0.mk (Kd.R_lower ho0 (below_size (by repeat (first | (with_reducible first | exact HB.out | apply below_alloc | apply pw_below_drewN | apply below_drew1 | refine below_set ?_ GE213.out) | exact HB.out)))); have n1_ := Aside0.mk (blk_below (g := gb213) (o := .cells #[.int .i64 a0_0, .int .i64 a0_1, .int .i64 a0_2, .int .i64 a0_3] 82 (0, 0)) (by (with_reducible repeat (first | refine blk_drewN ?_ _ | refine blk_drew ?_ | refine blk_alloc ?_ _)); exact BK213.out) hb); have n2_ := Aside0.mk (below_step (by repeat (first | (with_reducible first | exact HB.out | apply below_alloc | apply pw_below_drewN | apply below_drew1 | refine below_set ?_ GE213.out) | exact HB.out)) hb); clear BK213; clear HB; have HO220 := n0_; have BK213 := n1_; have HB := n2_; clear n0_ n1_ n2_; (try clear hb); (try clear hb2); (try clear hk); (try clear hi); (try clear ho0); have hcz23_0 : w22.cell? ⟨gb213, 0, none⟩ = some (.int .i64 a0_0) := (blk_cell BK213.out 0).trans rfl; have hcz23_1 : w22.cell? ⟨gb213, 1, none⟩ = some (.int .i64 a0_1) := (blk_cell BK213.out 1).trans rfl; have hcz23_2 : w22.cell? ⟨gb213, 2, none⟩ = some (.int .i64 a0_2) := (blk_cell BK213.out 2).trans rfl; have hcz23_3 : w22.cell? ⟨gb213, 3, none⟩ = some (.int .i64 a0_3) := (blk_cell BK213.out 3).trans rfl; have hfz23_0 := blk_frozen BK213.out 0; have hfz23_1 := blk_frozen BK213.out 1; have hfz23_2 := blk_frozen BK213.out 2; have hfz23_3 := blk_frozen BK213.out 3) | ((with_reducible refine gate_callee (f := 56) rfl ?_); refine goesL_ (some 12) rfl rfl Try.func56 (by kernel_rfl) rfl #[.agg #[.int .i64 a0_0, .int .i64 a0_1, .int .i64 a0_2, .int .i64 a0_3]] rfl (by (try simp only [List.map_toArray, List.map_cons, List.map_nil]); first | done | rfl | (simp only [List.length_drop, List.length_take]; rfl)) ?_; (with_reducible refine (laws_toFrame.calls a0_0 a0_1 a0_2 a0_3 t221 t222 t223 t224 _ A4.out).mono ?_); rintro e w24 ⟨rfl, hb⟩; refine ⟨_, rfl, ?_⟩; have n0_ := Aside0.mk (Kd.R_below (by (with_reducible repeat (first | apply Kd.R_alloc | apply Kd.R_drewN | apply Kd.R_drew)); exact HO220.out) hb); have n1_ := Aside0.mk (blk_below (g := gb213) (o := .cells #[.int .i64 a0_0, .int .i64 a0_1, .int .i64 a0_2, .int .i64 a0_3] 82 (0, 0)) (by (with_reducible repeat (first | refine blk_drewN ?_ _ | refine blk_drew ?_ | refine blk_alloc ?_ _)); exact BK213.out) hb); have n2_ := Aside0.mk (below_step (by repeat (first | (with_reducible first | exact HB.out | apply below_alloc | apply pw_below_drewN | apply below_drew1 | refine below_set ?_ GE213.out) | exact HB.out)) hb); clear HO220; clear BK213; clear HB; have HO220 := n0_; have BK213 := n1_; have HB := n2_; clear n0_ n1_ n2_; (try clear hb); (try clear hb2); (try clear hk); (try clear hi)) | ((with_reducible refine gate_callee (f := 57) rfl ?_); refine goesL_ (some 13) rfl rfl Try.func57 (by kernel_rfl) rfl #[.agg #[.int .i64 t221, .int .i64 t222, .int .i64 t223, .int .i64 t224]] rfl (by (try simp only [List.map_toArray, List.map_cons, List.map_nil]); first | done | rfl | (simp only [List.length_drop, List.length_take]; rfl)) ?_; (with_reducible refine (impl_PutFrame.calls k t221 t222 t223 t224 t225 _ A5.out).mono ?_); rintro e w25 ⟨v226, rfl, ho0, hb⟩; refine ⟨_, rfl, ?_⟩; have n0_ := Aside0.mk (Kd.R_elder' (by (with_reducible repeat (first | apply Kd.R_alloc | apply Kd.R_drewN | apply Kd.R_drew)); exact HO220.out) (Kd.R_base ho0) hb); have n1_ := Aside0.mk (Kd.R_lower (Kd.R_new' ho0 (Kd.R_lt (by (with_reducible repeat (first | apply Kd.R_alloc | apply Kd.R_drewN | apply Kd.R_drew)); exact HO220.out))) (below_size (by repeat (first | (with_reducible first | exact HB.out | apply below_alloc | apply pw_below_drewN | apply below_drew1 | refine below_set ?_ GE213.out) | exact HB.out)))); have n2_ := Aside0.mk (blk_below (g := gb213) (o := .cells #[.int .i64 a0_0, .int .i64 a0_1, .int .i64 a0_2, .int .i64 a0_3] 82 (0, 0)) (by (with_reducible repeat (first | refine blk_drewN ?_ _ | refine blk_drew ?_ | refine blk_alloc ?_ _)); exact BK213.out) hb); have n3_ := Aside0.mk (below_step (by repeat (first | (with_reducible first | exact HB.out | apply below_alloc | apply pw_below_drewN | apply below_drew1 | refine below_set ?_ GE213.out) | exact HB.out)) hb); clear HO220; clear BK213; clear HB; have HO220 := n0_; have HO227 := n1_; have BK213 := n2_; have HB := n3_; clear n0_ n1_ n2_ n3_; (try clear hb); (try clear hb2); (try clear hk); (try clear hi); (try clear ho0); obtain ⟨Ao26, co26, eo26⟩ := Kd.R_slice HO227.out; subst eo26; obtain ⟨Ao27, co27, eo27⟩ := Kd.R_slice HO220.out; subst eo27) | ((with_reducible refine gate_callee (f := 36) rfl ?_); refine goesL_ (some 16) rfl rfl Try.func36 (by kernel_rfl) rfl #[.slice Ao26 t225.length co26, .slice Ao27 t218.length co27] rfl (by (try simp only [List.map_toArray, List.map_cons, List.map_nil]); first | done | rfl | (simp only [List.length_drop, List.length_take]; rfl)) ?_; (with_reducible refine (laws_eqByteS.calls k _ _ t225 _ _ t218 true _ ?side1 ?side2 ?side3 ?side4 A6.out).mono ?_); (case side1 => repeat (first | exact (Kd.R_reads' HO227.out).2.2 | (with_reducible refine Kd.C_alloc ?_ _) | (with_reducible refine Kd.C_drewN ?_ _) | (with_reducible refine Kd.C_drew ?_))); (case side2 => exact (Kd.R_reads' HO227.out).2.1); (case side3 => repeat (first | exact (Kd.R_reads' HO220.out).2.2 | (with_reducible refine Kd.C_alloc ?_ _) | (with_reducible refine Kd.C_drewN ?_ _) | (with_reducible refine Kd.C_drew ?_))); (case side4 => exact (Kd.R_reads' HO220.out).2.1); rintro e w' ⟨rfl, ⟨nd, rfl⟩⟩; refine ⟨_, rfl, ?_⟩) | ((with_reducible refine gate_callee (f := 38) rfl ?_); refine goesL_ (some 20) rfl rfl Try.func38 (by kernel_rfl) rfl #[.slice Ao26 t225.length co26, .int .i64 1] rfl (by (try simp only [List.map_toArray, List.map_cons, List.map_nil]); first | done | rfl | (simp only [List.length_drop, List.length_take]; rfl)) ?_; (with_reducible refine (laws_markByteS.calls k (fun k_ => some k_ = (.slice Ao26 t225.length co26 : Value).ownBlock) (.slice Ao26 t225.length co26) t225 1 t229 t230 w _ ?side1 ?side2 A8.out).mono ?_); (case side1 => repeat (first | (with_reducible first | exact HB.out | apply below_alloc | apply pw_below_drewN | apply below_drew1 | refine below_set ?_ GE213.out) | exact HB.out)); (case side2 => exact Kd.R_tight rfl HO227.out); rintro e w28 ⟨rfl, hy0, hb, hkp⟩; refine ⟨_, rfl, ?_⟩; have n0_ := Aside0.mk (blk_kept (by (with_reducible repeat (first | refine blk_drewN ?_ _ | refine blk_drew ?_ | refine blk_alloc ?_ _)); exact BK213.out) hkp (fun hs_ => (fun e_ => (Kd.R_ne HO227.out BK213.out (by decide)) e_) hs_)); have n1_ := Aside0.mk (Kd.R_mono (ok' := fun k_ => some k_ ≠ (.slice Ao26 t225.length co26 : Value).ownBlock) (Kd.R_keptB (HO220.out) hkp (fun k_ hk_ hs_ => (hk_.2) hs_)) (fun k_ hk_ => hk_.1.2)); have n2_ := Aside0.mk (Kd.R_reok rfl hy0 (fun k_ e_ => HO227.out.1 k_ e_)); have n3_ := Aside0.mk (hb); clear BK213; clear HO220; clear HO227; clear HB; have BK213 := n0_; have HO220 := n1_; have HO227 := n2_; have HB := n3_; clear n0_ n1_ n2_ n3_; (try clear hb); (try clear hkp); (try clear hy0)) | ((with_reducible refine gate_callee (f := 58) rfl ?_); refine goesL_ (some 23) rfl rfl Try.func58 (by kernel_rfl) rfl #[.slice Ao26 t230.length co26, .int .i64 1] rfl (by (try simp only [List.map_toArray, List.map_cons, List.map_nil]); first | done | (rw [show t230.length = t225.length from (Kd.R_reads' HO227.out).1.symm] <;> rfl) | rfl | (simp only [List.length_drop, List.length_take]; rfl)) ?_; (with_reducible refine (laws_heldByteS.calls k _ _ t230 1 t231 _ ?side1 ?side2 A9.out).mono ?_); (case side1 => repeat (first | exact (Kd.R_reads' HO227.out).2.2 | (with_reducible refine Kd.C_alloc ?_ _) | (with_reducible refine Kd.C_drewN ?_ _) | (with_reducible refine Kd.C_drew ?_))); (case side2 => rw [show t230.length = t225.length from (Kd.R_reads' HO227.out).1.symm]; exact (Kd.R_reads' HO227.out).2.1); rintro e w' ⟨rfl, ⟨nd, rfl⟩⟩; refine ⟨_, rfl, ?_⟩; have hcz29_0 : w28.cell? ⟨gb213, 0, none⟩ = some (.int .i64 a0_0) := (blk_cell BK213.out 0).trans rfl; have hcz29_1 : w28.cell? ⟨gb213, 1, none⟩ = some (.int .i64 a0_1) := (blk_cell BK213.out 1).trans rfl; have hcz29_2 : w28.cell? ⟨gb213, 2, none⟩ = some (.int .i64 a0_2) := (blk_cell BK213.out 2).trans rfl; have hcz29_3 : w28.cell? ⟨gb213, 3, none⟩ = some (.int .i64 a0_3) := (blk_cell BK213.out 3).trans rfl; have hfz29_0 := blk_frozen BK213.out 0; have hfz29_1 := blk_frozen BK213.out 1; have hfz29_2 := blk_frozen BK213.out 2; have hfz29_3 := blk_frozen BK213.out 3) | ((with_reducible refine gate_callee (f := 56) rfl ?_); refine goesL_ (some 30) rfl rfl Try.func56 (by kernel_rfl) rfl #[.agg #[.int .i64 a0_0, .int .i64 a0_1, .int .i64 a0_2, .int .i64 a0_3]] rfl (by (try simp only [List.map_toArray, List.map_cons, List.map_nil]); first | done | rfl | (simp only [List.length_drop, List.length_take]; rfl)) ?_; (with_reducible refine (laws_toFrame.calls a0_0 a0_1 a0_2 a0_3 t232 t233 t234 t235 _ A12.out).mono ?_); rintro e w30 ⟨rfl, hb⟩; refine ⟨_, rfl, ?_⟩; have n0_ := Aside0.mk (Kd.R_below (by (with_reducible repeat (first | apply Kd.R_alloc | apply Kd.R_drewN | apply Kd.R_drew)); exact HO220.out) hb); have n1_ := Aside0.mk (Kd.R_below (by (with_reducible repeat (first | apply Kd.R_alloc | apply Kd.R_drewN | apply Kd.R_drew)); exact HO227.out) hb); have n2_ := Aside0.mk (blk_below (g := gb213) (o := .cells #[.int .i64 a0_0, .int .i64 a0_1, .int .i64 a0_2, .int .i64 a0_3] 82 (0, 0)) (by (with_reducible repeat (first | refine blk_drewN ?_ _ | refine blk_drew ?_ | refine blk_alloc ?_ _)); exact BK213.out) hb); have n3_ := Aside0.mk (below_step (by repeat (first | (with_reducible first | exact HB.out | apply below_alloc | apply pw_below_drewN | apply below_drew1 | refine below_set ?_ GE213.out) | exact HB.out)) hb); clear HO220; clear HO227; clear BK213; clear HB; have HO220 := n0_; have HO227 := n1_; have BK213 := n2_; have HB := n3_; clear n0_ n1_ n2_ n3_; (try clear hb); (try clear hb2); (try clear hk); (try clear hi)) | ((with_reducible refine gate_callee (f := 57) rfl ?_); refine goesL_ (some 31) rfl rfl Try.func57 (by kernel_rfl) rfl #[.agg #[.int .i64 t232, .int .i64 t233, .int .i64 t234, .int .i64 t235]] rfl (by (try simp only [List.map_toArray, List.map_cons, List.map_nil]); first | done | rfl | (simp only [List.length_drop, List.length_take]; rfl)) ?_; (with_reducible refine (impl_PutFrame.calls k t232 t233 t234 t235 t236 _ A13.out).mono ?_); rintro e w31 ⟨v237, rfl, ho0, hb⟩; refine ⟨_, rfl, ?_⟩; have n0_ := Aside0.mk (Kd.R_elder' (by (with_reducible repeat (first | apply Kd.R_alloc | apply Kd.R_drewN | apply Kd.R_drew)); exact HO220.out) (Kd.R_base ho0) hb); have n1_ := Aside0.mk (Kd.R_elder' (by (with_reducible repeat (first | apply Kd.R_alloc | apply Kd.R_drewN | apply Kd.R_drew)); exact HO227.out) (Kd.R_base ho0) hb); have n2_ := Aside0.mk (Kd.R_lower (Kd.R_new' (Kd.R_new' ho0 (Kd.R_lt (by (with_reducible repeat (first | apply Kd.R_alloc | apply Kd.R_drewN | apply Kd.R_drew)); exact HO220.out))) (Kd.R_lt (by (with_reducible repeat (first | apply Kd.R_alloc | apply Kd.R_drewN | apply Kd.R_drew)); exact HO227.out))) (below_size (by repeat (first | (with_reducible first | exact HB.out | apply below_alloc | apply pw_below_drewN | apply below_drew1 | refine below_set ?_ GE213.out) | exact HB.out)))); have n3_ := Aside0.mk (blk_below (g := gb213) (o := .cells #[.int .i64 a0_0, .int .i64 a0_1, .int .i64 a0_2, .int .i64 a0_3] 82 (0, 0)) (by (with_reducible repeat (first | refine blk_drewN ?_ _ | refine blk_drew ?_ | refine blk_alloc ?_ _)); exact BK213.out) hb); have n4_ := Aside0.mk (below_step (by repeat (first | (with_reducible first | exact HB.out | apply below_alloc | apply pw_below_drewN | apply below_drew1 | refine below_set ?_ GE213.out) | exact HB.out)) hb); clear HO220; clear HO227; clear BK213; clear HB; have HO220 := n0_; have HO227 := n1_; have HO238 := n2_; have BK213 := n3_; have HB := n4_; clear n0_ n1_ n2_ n3_ n4_; (try clear hb); (try clear hb2); (try clear hk); (try clear hi); (try clear ho0); obtain ⟨Ao32, co32, eo32⟩ := Kd.R_slice HO238.out; subst eo32) | ((with_reducible refine gate_callee (f := 36) rfl ?_); refine goesL_ (some 34) rfl rfl Try.func36 (by kernel_rfl) rfl #[.slice Ao32 t236.length co32, .slice Ao27 t218.length co27] rfl (by (try simp only [List.map_toArray, List.map_cons, List.map_nil]); first | done | rfl | (simp only [List.length_drop, List.length_take]; rfl)) ?_; (with_reducible refine (laws_eqByteS.calls k _ _ t236 _ _ t218 true _ ?side1 ?side2 ?side3 ?side4 A14.out).mono ?_); (case side1 => repeat (first | exact (Kd.R_reads' HO238.out).2.2 | (with_reducible refine Kd.C_alloc ?_ _) | (with_reducible refine Kd.C_drewN ?_ _) | (with_reducible refine Kd.C_drew ?_))); (case side2 => exact (Kd.R_reads' HO238.out).2.1); (case side3 => repeat (first | exact (Kd.R_reads' HO220.out).2.2 | (with_reducible refine Kd.C_alloc ?_ _) | (with_reducible refine Kd.C_drewN ?_ _) | (with_reducible refine Kd.C_drew ?_))); (case side4 => exact (Kd.R_reads' HO220.out).2.1); rintro e w' ⟨rfl, ⟨nd, rfl⟩⟩; refine ⟨_, rfl, ?_⟩) | ((with_reducible refine gate_callee (f := 58) rfl ?_); refine goesL_ (some 38) rfl rfl Try.func58 (by kernel_rfl) rfl #[.slice Ao26 t230.length co26, .int .i64 1] rfl (by (try simp only [List.map_toArray, List.map_cons, List.map_nil]); first | done | (rw [show t230.length = t225.length from (Kd.R_reads' HO227.out).1.symm] <;> rfl) | rfl | (simp only [List.length_drop, List.length_take]; rfl)) ?_; (with_reducible refine (laws_heldByteS.calls k _ _ t230 1 t240 _ ?side1 ?side2 A16.out).mono ?_); (case side1 => repeat (first | exact (Kd.R_reads' HO227.out).2.2 | (with_reducible refine Kd.C_alloc ?_ _) | (with_reducible refine Kd.C_drewN ?_ _) | (with_reducible refine Kd.C_drew ?_))); (case side2 => rw [show t230.length = t225.length from (Kd.R_reads' HO227.out).1.symm]; exact (Kd.R_reads' HO227.out).2.1); rintro e w' ⟨rfl, ⟨nd, rfl⟩⟩; refine ⟨_, rfl, ?_⟩))
              go_ret
              exact ⟨by first | rfl | (simp [errW_none, errW_some] <;> rfl) | (simp [*, errW_none, errW_some] <;> rfl), by repeat (first | (with_reducible first | exact HB.out | apply below_alloc | apply pw_below_drewN | apply below_drew1 | refine below_set ?_ GE213.out) | exact HB.out)⟩
            · rw [if_neg c18] at H
              have c18b0 : (t240 == t229) = false := beq_eq_false_iff_ne.mpr c18
              have c18b1 : (t240 != t229) = true := bne_iff_ne.mpr c18
              exact absurd ((Option.some.inj H).trans hT.out) (by decide)
        · replace c15 := Bool.eq_false_iff.mpr c15
          subst c15
          have H1 : (some false) = some r := by rw [if_neg (show ¬ (false = true) by decide)] at H; exact H
          clear H
          have H := H1
          clear H1
          exact absurd ((Option.some.inj H).trans hT.out) (by decide)
      · rw [if_neg c11] at H
        have c11b0 : (t231 == t229) = false := beq_eq_false_iff_ne.mpr c11
        have c11b1 : (t231 != t229) = true := bne_iff_ne.mpr c11
        exact absurd ((Option.some.inj H).trans hT.out) (by decide)
  · replace c7 := Bool.eq_false_iff.mpr c7
    subst c7
    have H1 : (some false) = some r := by rw [if_neg (show ¬ (false = true) by decide)] at H; exact H
    clear H
    have H := H1
    clear H1
    exact absurd ((Option.some.inj H).trans hT.out) (by decide)

end Go.Proofs.Ytoeiadanmfajoaa.QFnExactPutFrame
