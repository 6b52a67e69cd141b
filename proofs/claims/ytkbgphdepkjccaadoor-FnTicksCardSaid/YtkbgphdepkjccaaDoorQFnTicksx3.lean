/- The machine side of a law: Lean functions with the Go functions' answers and the walks that show it. No condition. -/
import Derived.Test.YtkbgphdepkjccaaDoorQFnTicksx0
import Derived.Test.YtkbgphdepkjccaaDoorQFnTicksx1
import Derived.Test.YtkbgphdepkjccaaDoorQFnTicksx2
namespace Go.Proofs.YtkbgphdepkjccaaDoor.QFnTicks
open Go.RowKit Go.Proofs.YtkbgphdepkjccaaDoorW.PrintWords Go.Proofs.YtkbgphdepkjccaaDoorW.PrintLast Go.Proofs.YtkbgphdepkjccaaDoorW.PrintMore
attribute [local go_sem] max2_int min2_int max_two min_two max_three min_three max_four min_four   -- for this text's walks alone
set_option linter.unusedVariables false
set_option linter.unusedSimpArgs false

/-! ### laws_FnTicks: function 6 -/
mutual
def laws_FnTicks.j0 : Nat → Int → Int → Bool → Option (Bool)
  | 0, _, _, _ => none
  | k + 1, x3, x4, x22 => if x22 = true then ((impl_AddTick.f x3 x4).bind fun t189 => ((spec_AddTick.f k x3 x4).bind fun t190 => (some (t189 == t190)))) else ((impl_AddTick.f x3 x4).bind fun t191 => ((impl_TickOk.f t191).bind fun t192 => (if t192 = true then ((impl_AddTick.f x4 x3).bind fun t193 => (if t191 = t193 then (if t191 < x3 then (laws_FnTicks.j1 k x3 x4 t191 true) else ((impl_AddTick.f x3 (wrap64 (-x4))).bind fun t194 => ((impl_Since.f x4 x3).bind fun t195 => (laws_FnTicks.j1 k x3 x4 t191 (t194 != t195))))) else (laws_FnTicks.j1 k x3 x4 t191 true))) else (laws_FnTicks.j1 k x3 x4 t191 true))))
def laws_FnTicks.j1 : Nat → Int → Int → Int → Bool → Option (Bool)
  | 0, _, _, _, _ => none
  | k + 1, x3, x4, x5, x57 => if x57 = true then (some false) else (if x5 < 1000000000 then ((impl_Since.f x3 x5).bind fun t196 => (if t196 = x4 then ((impl_DueAt.f x3 x4 x5).bind fun t197 => (if (t197 != (decide (x4 > 0))) = true then (laws_FnTicks.j2 k x3 x4 x5 true) else (if x5 > 0 then (if x4 > 0 then ((impl_DueAt.f x3 x4 (wrap64 (x5 - 1))).bind fun t198 => (laws_FnTicks.j2 k x3 x4 x5 t198)) else (laws_FnTicks.j2 k x3 x4 x5 false)) else (laws_FnTicks.j2 k x3 x4 x5 false)))) else (laws_FnTicks.j2 k x3 x4 x5 true))) else ((impl_DueAt.f x3 x4 x5).bind fun t199 => (if (t199 != (decide (x4 > 0))) = true then (laws_FnTicks.j2 k x3 x4 x5 true) else (if x5 > 0 then (if x4 > 0 then (laws_FnTicks.j2 k x3 x4 x5 false) else (laws_FnTicks.j2 k x3 x4 x5 false)) else (laws_FnTicks.j2 k x3 x4 x5 false)))))
def laws_FnTicks.j2 : Nat → Int → Int → Int → Bool → Option (Bool)
  | 0, _, _, _, _ => none
  | k + 1, x3, x4, x5, x94 => if x94 = true then (some false) else ((impl_TickText.f x3).bind fun t200 => ((impl_ParseTick.f t200).bind fun bt201 => (if bt201.2 = true then (if bt201.1 = x3 then ((impl_SumTicks.f k (([x3, x4, 1] : List Int))).bind fun t206 => ((impl_AddTick.f x5 1).bind fun t207 => (if t206 = t207 then ((impl_SoonestOf.f k (([(-1), x3, x4] : List Int))).bind fun t211 => ((spec_SoonestOf.f k (([x3, x4] : List Int))).bind fun t215 => (some (t211 == t215)))) else (some false)))) else (some false)) else (some false))))
end
def laws_FnTicks.f (k : Nat) (l0 : List Int) : Option (Bool) := (laws_big.f l0).bind fun t184 => (if t184 = true then (some true) else ((spec_DrawSince.f k l0).bind fun bt185 => ((spec_TickOk.f bt185.1).bind fun t187 => (if t187 = true then ((spec_TickOk.f bt185.2).bind fun t188 => (laws_FnTicks.j0 k bt185.1 bt185.2 (!t188))) else (laws_FnTicks.j0 k bt185.1 bt185.2 true)))))
theorem laws_FnTicks.mono_l : ∀ k, (∀ y0 y1 y2, LeO (laws_FnTicks.j0 k y0 y1 y2) (laws_FnTicks.j0 (k + 1) y0 y1 y2)) ∧ (∀ y0 y1 y2 y3, LeO (laws_FnTicks.j1 k y0 y1 y2 y3) (laws_FnTicks.j1 (k + 1) y0 y1 y2 y3)) ∧ (∀ y0 y1 y2 y3, LeO (laws_FnTicks.j2 k y0 y1 y2 y3) (laws_FnTicks.j2 (k + 1) y0 y1 y2 y3))
  | 0 => ⟨fun _ _ _ r h => by simp [laws_FnTicks.j0] at h, fun _ _ _ _ r h => by simp [laws_FnTicks.j1] at h, fun _ _ _ _ r h => by simp [laws_FnTicks.j2] at h⟩
  | k + 1 => by
    obtain ⟨ih0, ih1, ih2⟩ := laws_FnTicks.mono_l k
    refine ⟨?_, ?_, ?_⟩
    · intro y0 y1 y2
      unfold laws_FnTicks.j0
      repeat' first
      | (with_reducible exact ih0 _ _ _)
      | (with_reducible exact ih1 _ _ _ _)
      | (with_reducible exact ih2 _ _ _ _)
      | (with_reducible exact impl_SoonestOf.mono _ _)
      | (with_reducible exact impl_SumTicks.mono _ _)
      | (with_reducible exact spec_AddTick.mono _ _ _)
      | (with_reducible exact spec_DrawSince.mono _ _)
      | (with_reducible exact spec_SoonestOf.mono _ _)
      | (with_reducible exact LeO.refl _)
      | (with_reducible exact LeO.none _)
      | (with_reducible refine LeO.ite ?_ ?_)
      | (with_reducible refine LeO.bind ?_ (fun _ => ?_))
      | exact ih0 _ _ _
      | exact ih1 _ _ _ _
      | exact ih2 _ _ _ _
      | exact impl_SoonestOf.mono _ _
      | exact impl_SumTicks.mono _ _
      | exact spec_AddTick.mono _ _ _
      | exact spec_DrawSince.mono _ _
      | exact spec_SoonestOf.mono _ _
      | exact LeO.none _
      | refine LeO.ite ?_ ?_
      | refine LeO.bind ?_ (fun _ => ?_)
    · intro y0 y1 y2 y3
      unfold laws_FnTicks.j1
      repeat' first
      | (with_reducible exact ih0 _ _ _)
      | (with_reducible exact ih1 _ _ _ _)
      | (with_reducible exact ih2 _ _ _ _)
      | (with_reducible exact impl_SoonestOf.mono _ _)
      | (with_reducible exact impl_SumTicks.mono _ _)
      | (with_reducible exact spec_AddTick.mono _ _ _)
      | (with_reducible exact spec_DrawSince.mono _ _)
      | (with_reducible exact spec_SoonestOf.mono _ _)
      | (with_reducible exact LeO.refl _)
      | (with_reducible exact LeO.none _)
      | (with_reducible refine LeO.ite ?_ ?_)
      | (with_reducible refine LeO.bind ?_ (fun _ => ?_))
      | exact ih0 _ _ _
      | exact ih1 _ _ _ _
      | exact ih2 _ _ _ _
      | exact impl_SoonestOf.mono _ _
      | exact impl_SumTicks.mono _ _
      | exact spec_AddTick.mono _ _ _
      | exact spec_DrawSince.mono _ _
      | exact spec_SoonestOf.mono _ _
      | exact LeO.none _
      | refine LeO.ite ?_ ?_
      | refine LeO.bind ?_ (fun _ => ?_)
    · intro y0 y1 y2 y3
      unfold laws_FnTicks.j2
      repeat' first
      | (with_reducible exact ih0 _ _ _)
      | (with_reducible exact ih1 _ _ _ _)
      | (with_reducible exact ih2 _ _ _ _)
      | (with_reducible exact impl_SoonestOf.mono _ _)
      | (with_reducible exact impl_SumTicks.mono _ _)
      | (with_reducible exact spec_AddTick.mono _ _ _)
      | (with_reducible exact spec_DrawSince.mono _ _)
      | (with_reducible exact spec_SoonestOf.mono _ _)
      | (with_reducible exact LeO.refl _)
      | (with_reducible exact LeO.none _)
      | (with_reducible refine LeO.ite ?_ ?_)
      | (with_reducible refine LeO.bind ?_ (fun _ => ?_))
      | exact ih0 _ _ _
      | exact ih1 _ _ _ _
      | exact ih2 _ _ _ _
      | exact impl_SoonestOf.mono _ _
      | exact impl_SumTicks.mono _ _
      | exact spec_AddTick.mono _ _ _
      | exact spec_DrawSince.mono _ _
      | exact spec_SoonestOf.mono _ _
      | exact LeO.none _
      | refine LeO.ite ?_ ?_
      | refine LeO.bind ?_ (fun _ => ?_)
theorem laws_FnTicks.mono : ∀ a0 k, LeO (laws_FnTicks.f k a0) (laws_FnTicks.f (k + 1) a0) := by
  intro a0 k
  obtain ⟨ih0, ih1, ih2⟩ := laws_FnTicks.mono_l k
  unfold laws_FnTicks.f
  repeat' first
      | (with_reducible exact ih0 _ _ _)
      | (with_reducible exact ih1 _ _ _ _)
      | (with_reducible exact ih2 _ _ _ _)
      | (with_reducible exact impl_SoonestOf.mono _ _)
      | (with_reducible exact impl_SumTicks.mono _ _)
      | (with_reducible exact spec_AddTick.mono _ _ _)
      | (with_reducible exact spec_DrawSince.mono _ _)
      | (with_reducible exact spec_SoonestOf.mono _ _)
      | (with_reducible exact LeO.refl _)
      | (with_reducible exact LeO.none _)
      | (with_reducible refine LeO.ite ?_ ?_)
      | (with_reducible refine LeO.bind ?_ (fun _ => ?_))
      | exact ih0 _ _ _
      | exact ih1 _ _ _ _
      | exact ih2 _ _ _ _
      | exact impl_SoonestOf.mono _ _
      | exact impl_SumTicks.mono _ _
      | exact spec_AddTick.mono _ _ _
      | exact spec_DrawSince.mono _ _
      | exact spec_SoonestOf.mono _ _
      | exact LeO.none _
      | refine LeO.ite ?_ ?_
      | refine LeO.bind ?_ (fun _ => ?_)
set_option maxHeartbeats 8000000 in
set_option maxRecDepth 100000 in
theorem laws_FnTicks.calls (k : Nat) (A0 : Option Addr) (c0 : Nat) (l0 : List Int) (r : Bool) (w : World) (hr0 : Kd.C (Kd.int .u8) w A0 l0.length l0) (hc0 : l0.length ≤ c0) (hT : Aside0 (r = true)) (h : laws_FnTicks.f k l0 = some r) (hL : LaidW w) :
    Calls Tryd.prog 6 #[.slice A0 l0.length c0] w fun e w' => e = .returned (.bool r) ∧ Below w.heap.size w w' := by
  have HL := Aside0.mk hL
  clear hL
  have HR0 := Aside0.mk hr0
  have HC0 := Aside0.mk hc0
  clear hr0 hc0
  have HB := Aside0.mk (Below.refl w.heap.size w)
  have H : ((laws_big.f l0).bind fun t184 => (if t184 = true then (some true) else ((spec_DrawSince.f k l0).bind fun bt185 => ((spec_TickOk.f bt185.1).bind fun t187 => (if t187 = true then ((spec_TickOk.f bt185.2).bind fun t188 => (laws_FnTicks.j0 k bt185.1 bt185.2 (!t188))) else (laws_FnTicks.j0 k bt185.1 bt185.2 true)))))) = some r := h
  clear h
  replace H := Option.bind_eq_some_iff.mp H
  obtain ⟨t184, A20, H⟩ := H
  replace H : (if t184 = true then (some true) else ((spec_DrawSince.f k l0).bind fun bt185 => ((spec_TickOk.f bt185.1).bind fun t187 => (if t187 = true then ((spec_TickOk.f bt185.2).bind fun t188 => (laws_FnTicks.j0 k bt185.1 bt185.2 (!t188))) else (laws_FnTicks.j0 k bt185.1 bt185.2 true))))) = some r := H
  have A2 := Aside0.mk A20
  clear A20
  by_cases c3 : t184 = true
  · subst c3
    have H1 : (some true) = some r := by rw [if_pos rfl] at H; exact H
    clear H
    have H := H1
    clear H1
    obtain rfl := Option.some.inj H
    go_enter Tryd.func6, Tryd.ntmps6
    go_wp2_with (first | ((with_reducible refine gate_callee (f := 14) rfl ?_); refine goesL_ (some 9) rfl rfl Tryd.func14 (by kernel_rfl) rfl #[.slice A0 l0.length c0] rfl (by (try simp only [List.map_toArray, List.map_cons, List.map_nil]); first | done | rfl | (simp only [List.length_drop, List.length_take]; rfl)) ?_; (with_reducible refine (laws_big.calls _ _ l0 true _ ?side1 ?side2 A2.out).mono ?_); (case side1 => repeat (first | exact HR0.out | (with_reducible refine Kd.C_alloc ?_ _) | (with_reducible refine Kd.C_drewN ?_ _) | (with_reducible refine Kd.C_drew ?_))); (case side2 => exact HC0.out); rintro e w' ⟨rfl, ⟨nd, rfl⟩⟩; refine ⟨_, rfl, ?_⟩))
    go_ret
    exact ⟨by first | rfl | (simp [errW_none, errW_some] <;> rfl) | (simp [*, errW_none, errW_some] <;> rfl), by repeat (first | (with_reducible first | exact HB.out | apply below_alloc | apply pw_below_drewN | apply below_drew1) | exact HB.out)⟩
  · replace c3 := Bool.eq_false_iff.mpr c3
    subst c3
    have H1 : ((spec_DrawSince.f k l0).bind fun bt185 => ((spec_TickOk.f bt185.1).bind fun t187 => (if t187 = true then ((spec_TickOk.f bt185.2).bind fun t188 => (laws_FnTicks.j0 k bt185.1 bt185.2 (!t188))) else (laws_FnTicks.j0 k bt185.1 bt185.2 true)))) = some r := by rw [if_neg (show ¬ (false = true) by decide)] at H; exact H
    clear H
    have H := H1
    clear H1
    replace H := Option.bind_eq_some_iff.mp H
    obtain ⟨⟨t185, t186⟩, A40, H⟩ := H
    replace H : ((spec_TickOk.f t185).bind fun t187 => (if t187 = true then ((spec_TickOk.f t186).bind fun t188 => (laws_FnTicks.j0 k t185 t186 (!t188))) else (laws_FnTicks.j0 k t185 t186 true))) = some r := H
    have A4 := Aside0.mk A40
    clear A40
    have HC5 := Aside0.mk H
    clear H
    go_enter Tryd.func6, Tryd.ntmps6
    go_upto_region 4 with (first | ((with_reducible refine gate_callee (f := 14) rfl ?_); refine goesL_ (some 9) rfl rfl Tryd.func14 (by kernel_rfl) rfl #[.slice A0 l0.length c0] rfl (by (try simp only [List.map_toArray, List.map_cons, List.map_nil]); first | done | rfl | (simp only [List.length_drop, List.length_take]; rfl)) ?_; (with_reducible refine (laws_big.calls _ _ l0 false _ ?side1 ?side2 A2.out).mono ?_); (case side1 => repeat (first | exact HR0.out | (with_reducible refine Kd.C_alloc ?_ _) | (with_reducible refine Kd.C_drewN ?_ _) | (with_reducible refine Kd.C_drew ?_))); (case side2 => exact HC0.out); rintro e w' ⟨rfl, ⟨nd, rfl⟩⟩; refine ⟨_, rfl, ?_⟩) | ((with_reducible refine gate_callee (f := 15) rfl ?_); refine goesL_ (some 12) rfl rfl Tryd.func15 (by kernel_rfl) rfl #[.slice A0 l0.length c0] rfl (by (try simp only [List.map_toArray, List.map_cons, List.map_nil]); first | done | rfl | (simp only [List.length_drop, List.length_take]; rfl)) ?_; (with_reducible refine (spec_DrawSince.calls k _ _ l0 t185 t186 _ ?side1 ?side2 A4.out).mono ?_); (case side1 => repeat (first | exact HR0.out | (with_reducible refine Kd.C_alloc ?_ _) | (with_reducible refine Kd.C_drewN ?_ _) | (with_reducible refine Kd.C_drew ?_))); (case side2 => exact HC0.out); rintro e w6 ⟨rfl, hb⟩; refine ⟨_, rfl, ?_⟩; have n0_ := Aside0.mk (below_step (by repeat (first | (with_reducible first | exact HB.out | apply below_alloc | apply pw_below_drewN | apply below_drew1) | exact HB.out)) hb); clear HB; have HB := n0_; clear n0_; (try clear hb); (try clear hb2); (try clear hk); (try clear hi)))
    (try simp only [Act.put, List.setIfInBounds_toArray, List.set_cons_zero, List.set_cons_succ])
    go_cut [22] (fun v22 wc => ∃ (kq : Nat) (x22_4 : Bool), v22 = .bool x22_4 ∧ Aside0 (laws_FnTicks.j0 kq t185 t186 x22_4 = some r) ∧ Aside0 (kq ≤ k) ∧ Aside0 (Below w.heap.size w wc))
    case first =>
      have H := HC5.out
      clear HC5
      replace H := Option.bind_eq_some_iff.mp H
      obtain ⟨t187, A70, H⟩ := H
      replace H : (if t187 = true then ((spec_TickOk.f t186).bind fun t188 => (laws_FnTicks.j0 k t185 t186 (!t188))) else (laws_FnTicks.j0 k t185 t186 true)) = some r := H
      have A7 := Aside0.mk A70
      clear A70
      by_cases c8 : t187 = true
      · subst c8
        have H1 : ((spec_TickOk.f t186).bind fun t188 => (laws_FnTicks.j0 k t185 t186 (!t188))) = some r := by rw [if_pos rfl] at H; exact H
        clear H
        have H := H1
        clear H1
        replace H := Option.bind_eq_some_iff.mp H
        obtain ⟨t188, A90, H⟩ := H
        replace H : (laws_FnTicks.j0 k t185 t186 (!t188)) = some r := H
        have A9 := Aside0.mk A90
        clear A90
        have H' := Aside0.mk H
        clear H
        go_wp2_with (first | ((with_reducible refine gate_callee (f := 16) rfl ?_); refine goesL_ (some 16) rfl rfl Tryd.func16 (by kernel_rfl) rfl #[.int .i64 t185] rfl (by (try simp only [List.map_toArray, List.map_cons, List.map_nil]); first | done | rfl | (simp only [List.length_drop, List.length_take]; rfl)) ?_; (with_reducible refine (spec_TickOk.calls t185 true _ A7.out).mono ?_); rintro e w' ⟨rfl, ⟨nd, rfl⟩⟩; refine ⟨_, rfl, ?_⟩) | (go_at_call 16; (with_reducible refine (spec_TickOk.calls t186 t188 _ A9.out).mono ?_); rintro e w' ⟨rfl, ⟨nd, rfl⟩⟩))
        go_meet
        case rel => exact ⟨_, (!t188), (by first | rfl | (simp; done) | (simp [*]; done)), H', ⟨by first | omega | exact Nat.le_refl _⟩, ⟨by repeat (first | (with_reducible first | exact HB.out | apply below_alloc | apply pw_below_drewN | apply below_drew1) | exact HB.out)⟩⟩
      · replace c8 := Bool.eq_false_iff.mpr c8
        subst c8
        have H1 : (laws_FnTicks.j0 k t185 t186 true) = some r := by rw [if_neg (show ¬ (false = true) by decide)] at H; exact H
        clear H
        have H := H1
        clear H1
        have H' := Aside0.mk H
        clear H
        go_wp2_with (first | ((with_reducible refine gate_callee (f := 16) rfl ?_); refine goesL_ (some 16) rfl rfl Tryd.func16 (by kernel_rfl) rfl #[.int .i64 t185] rfl (by (try simp only [List.map_toArray, List.map_cons, List.map_nil]); first | done | rfl | (simp only [List.length_drop, List.length_take]; rfl)) ?_; (with_reducible refine (spec_TickOk.calls t185 false _ A7.out).mono ?_); rintro e w' ⟨rfl, ⟨nd, rfl⟩⟩; refine ⟨_, rfl, ?_⟩))
        go_meet
        case rel => exact ⟨_, (true), (by first | rfl | (simp; done) | (simp [*]; done)), H', ⟨by first | omega | exact Nat.le_refl _⟩, ⟨by repeat (first | (with_reducible first | exact HB.out | apply below_alloc | apply pw_below_drewN | apply below_drew1) | exact HB.out)⟩⟩
    case rest =>
      clear HC5
      try clear c1
      try clear p2
      try clear c3
      try clear c6
      try clear c8
      obtain ⟨kq, x22_4, rfl, HA, HJ4, HB⟩ := hcut
      cases kq with
      | zero => exact absurd HA.out (by simp [laws_FnTicks.j0])
      | succ kj4 =>
        have H := HA.out
        clear HA
        simp only [laws_FnTicks.j0] at H
        by_cases c10 : x22_4 = true
        · subst c10
          have H1 : ((impl_AddTick.f t185 t186).bind fun t189 => ((spec_AddTick.f kj4 t185 t186).bind fun t190 => (some (t189 == t190)))) = some r := by rw [if_pos rfl] at H; exact H
          clear H
          have H := H1
          clear H1
          replace H := Option.bind_eq_some_iff.mp H
          obtain ⟨t189, A110, H⟩ := H
          replace H : ((spec_AddTick.f kj4 t185 t186).bind fun t190 => (some (t189 == t190))) = some r := H
          have A11 := Aside0.mk A110
          clear A110
          replace H := Option.bind_eq_some_iff.mp H
          obtain ⟨t190, A120, H⟩ := H
          replace H : (some (t189 == t190)) = some r := H
          have A12 := Aside0.mk A120
          clear A120
          obtain rfl := Option.some.inj H
          go_wp2_with (first | ((with_reducible refine gate_callee (f := 17) rfl ?_); refine goesL_ (some 25) rfl rfl Tryd.func17 (by kernel_rfl) rfl #[.int .i64 t185, .int .i64 t186] rfl (by (try simp only [List.map_toArray, List.map_cons, List.map_nil]); first | done | rfl | (simp only [List.length_drop, List.length_take]; rfl)) ?_; (with_reducible refine (impl_AddTick.calls t185 t186 t189 _ A11.out).mono ?_); rintro e w13 ⟨rfl, hb⟩; refine ⟨_, rfl, ?_⟩; have n0_ := Aside0.mk (below_step (by repeat (first | (with_reducible first | exact HB.out | apply below_alloc | apply pw_below_drewN | apply below_drew1) | exact HB.out)) hb); clear HB; have HB := n0_; clear n0_; (try clear hb); (try clear hb2); (try clear hk); (try clear hi)) | ((with_reducible refine gate_callee (f := 18) rfl ?_); refine goesL_ (some 28) rfl rfl Tryd.func18 (by kernel_rfl) rfl #[.int .i64 t185, .int .i64 t186] rfl (by (try simp only [List.map_toArray, List.map_cons, List.map_nil]); first | done | rfl | (simp only [List.length_drop, List.length_take]; rfl)) ?_; (with_reducible refine (spec_AddTick.calls kj4 t185 t186 t190 _ A12.out).mono ?_); rintro e w' ⟨rfl, ⟨nd, rfl⟩⟩; refine ⟨_, rfl, ?_⟩))
          go_ret
          exact ⟨by first | rfl | (simp [errW_none, errW_some] <;> rfl) | (simp [*, errW_none, errW_some] <;> rfl), by repeat (first | (with_reducible first | exact HB.out | apply below_alloc | apply pw_below_drewN | apply below_drew1) | exact HB.out)⟩
        · replace c10 := Bool.eq_false_iff.mpr c10
          subst c10
          have H1 : ((impl_AddTick.f t185 t186).bind fun t191 => ((impl_TickOk.f t191).bind fun t192 => (if t192 = true then ((impl_AddTick.f t186 t185).bind fun t193 => (if t191 = t193 then (if t191 < t185 then (laws_FnTicks.j1 kj4 t185 t186 t191 true) else ((impl_AddTick.f t185 (wrap64 (-t186))).bind fun t194 => ((impl_Since.f t186 t185).bind fun t195 => (laws_FnTicks.j1 kj4 t185 t186 t191 (t194 != t195))))) else (laws_FnTicks.j1 kj4 t185 t186 t191 true))) else (laws_FnTicks.j1 kj4 t185 t186 t191 true)))) = some r := by rw [if_neg (show ¬ (false = true) by decide)] at H; exact H
          clear H
          have H := H1
          clear H1
          replace H := Option.bind_eq_some_iff.mp H
          obtain ⟨t191, A140, H⟩ := H
          replace H : ((impl_TickOk.f t191).bind fun t192 => (if t192 = true then ((impl_AddTick.f t186 t185).bind fun t193 => (if t191 = t193 then (if t191 < t185 then (laws_FnTicks.j1 kj4 t185 t186 t191 true) else ((impl_AddTick.f t185 (wrap64 (-t186))).bind fun t194 => ((impl_Since.f t186 t185).bind fun t195 => (laws_FnTicks.j1 kj4 t185 t186 t191 (t194 != t195))))) else (laws_FnTicks.j1 kj4 t185 t186 t191 true))) else (laws_FnTicks.j1 kj4 t185 t186 t191 true))) = some r := H
          have A14 := Aside0.mk A140
          clear A140
          have HC15 := Aside0.mk H
          clear H
          go_upto_region 7 with (first | ((with_reducible refine gate_callee (f := 17) rfl ?_); refine goesL_ (some 32) rfl rfl Tryd.func17 (by kernel_rfl) rfl #[.int .i64 t185, .int .i64 t186] rfl (by (try simp only [List.map_toArray, List.map_cons, List.map_nil]); first | done | rfl | (simp only [List.length_drop, List.length_take]; rfl)) ?_; (with_reducible refine (impl_AddTick.calls t185 t186 t191 _ A14.out).mono ?_); rintro e w16 ⟨rfl, hb⟩; refine ⟨_, rfl, ?_⟩; have n0_ := Aside0.mk (below_step (by repeat (first | (with_reducible first | exact HB.out | apply below_alloc | apply pw_below_drewN | apply below_drew1) | exact HB.out)) hb); clear HB; have HB := n0_; clear n0_; (try clear hb); (try clear hb2); (try clear hk); (try clear hi)))
          (try simp only [Act.put, List.setIfInBounds_toArray, List.set_cons_zero, List.set_cons_succ])
          go_cut [57] (fun v57 wc => ∃ (kq : Nat) (x57_14 : Bool), v57 = .bool x57_14 ∧ Aside0 (laws_FnTicks.j1 kq t185 t186 t191 x57_14 = some r) ∧ Aside0 (kq ≤ kj4) ∧ Aside0 (Below w.heap.size w wc))
          case first =>
            have H := HC15.out
            clear HC15
            replace H := Option.bind_eq_some_iff.mp H
            obtain ⟨t192, A170, H⟩ := H
            replace H : (if t192 = true then ((impl_AddTick.f t186 t185).bind fun t193 => (if t191 = t193 then (if t191 < t185 then (laws_FnTicks.j1 kj4 t185 t186 t191 true) else ((impl_AddTick.f t185 (wrap64 (-t186))).bind fun t194 => ((impl_Since.f t186 t185).bind fun t195 => (laws_FnTicks.j1 kj4 t185 t186 t191 (t194 != t195))))) else (laws_FnTicks.j1 kj4 t185 t186 t191 true))) else (laws_FnTicks.j1 kj4 t185 t186 t191 true)) = some r := H
            have A17 := Aside0.mk A170
            clear A170
            by_cases c18 : t192 = true
            · subst c18
              have H1 : ((impl_AddTick.f t186 t185).bind fun t193 => (if t191 = t193 then (if t191 < t185 then (laws_FnTicks.j1 kj4 t185 t186 t191 true) else ((impl_AddTick.f t185 (wrap64 (-t186))).bind fun t194 => ((impl_Since.f t186 t185).bind fun t195 => (laws_FnTicks.j1 kj4 t185 t186 t191 (t194 != t195))))) else (laws_FnTicks.j1 kj4 t185 t186 t191 true))) = some r := by rw [if_pos rfl] at H; exact H
              clear H
              have H := H1
              clear H1
              replace H := Option.bind_eq_some_iff.mp H
              obtain ⟨t193, A190, H⟩ := H
              replace H : (if t191 = t193 then (if t191 < t185 then (laws_FnTicks.j1 kj4 t185 t186 t191 true) else ((impl_AddTick.f t185 (wrap64 (-t186))).bind fun t194 => ((impl_Since.f t186 t185).bind fun t195 => (laws_FnTicks.j1 kj4 t185 t186 t191 (t194 != t195))))) else (laws_FnTicks.j1 kj4 t185 t186 t191 true)) = some r := H
              have A19 := Aside0.mk A190
              clear A190
              by_cases c20 : t191 = t193
              · rw [if_pos c20] at H
                have c20b0 : (t191 == t193) = true := beq_iff_eq.mpr c20
                have c20b1 : (t191 != t193) = false := bne_eq_false_iff_eq.mpr c20
                clear c20
                (first | rw [c20b0] | (simp only [i64_w, i32_w]; rw [c20b0]) | skip)
                by_cases c21 : t191 < t185
                · rw [if_pos c21] at H
                  have c21b0 : decide (t191 < t185) = true := decide_eq_true c21
                  clear c21
                  have H' := Aside0.mk H
                  clear H
                  go_wp2_with (first | ((with_reducible refine gate_callee (f := 19) rfl ?_); refine goesL_ (some 34) rfl rfl Tryd.func19 (by kernel_rfl) rfl #[.int .i64 t191] rfl (by (try simp only [List.map_toArray, List.map_cons, List.map_nil]); first | done | rfl | (simp only [List.length_drop, List.length_take]; rfl)) ?_; (with_reducible refine (impl_TickOk.calls t191 true _ A17.out).mono ?_); rintro e w' ⟨rfl, ⟨nd, rfl⟩⟩; refine ⟨_, rfl, ?_⟩) | (go_at_call 17; (with_reducible refine (impl_AddTick.calls t186 t185 t193 _ A19.out).mono ?_); rintro e w22 ⟨rfl, hb⟩; have n0_ := Aside0.mk (below_step (by repeat (first | (with_reducible first | exact HB.out | apply below_alloc | apply pw_below_drewN | apply below_drew1) | exact HB.out)) hb); clear HB; have HB := n0_; clear n0_; (try clear hb); (try clear hb2); (try clear hk); (try clear hi)))
                  go_meet
                  case rel => exact ⟨_, (true), (by first | rfl | (simp; done) | (simp [*]; done)), H', ⟨by have := HJ4.out; first | omega | exact Nat.le_refl _⟩, ⟨by repeat (first | (with_reducible first | exact HB.out | apply below_alloc | apply pw_below_drewN | apply below_drew1) | exact HB.out)⟩⟩
                · rw [if_neg c21] at H
                  have c21b0 : decide (t191 < t185) = false := decide_eq_false c21
                  clear c21
                  replace H := Option.bind_eq_some_iff.mp H
                  obtain ⟨t194, A230, H⟩ := H
                  replace H : ((impl_Since.f t186 t185).bind fun t195 => (laws_FnTicks.j1 kj4 t185 t186 t191 (t194 != t195))) = some r := H
                  have A23 := Aside0.mk A230
                  clear A230
                  replace H := Option.bind_eq_some_iff.mp H
                  obtain ⟨t195, A240, H⟩ := H
                  replace H : (laws_FnTicks.j1 kj4 t185 t186 t191 (t194 != t195)) = some r := H
                  have A24 := Aside0.mk A240
                  clear A240
                  have H' := Aside0.mk H
                  clear H
                  go_wp2_with (first | ((with_reducible refine gate_callee (f := 19) rfl ?_); refine goesL_ (some 34) rfl rfl Tryd.func19 (by kernel_rfl) rfl #[.int .i64 t191] rfl (by (try simp only [List.map_toArray, List.map_cons, List.map_nil]); first | done | rfl | (simp only [List.length_drop, List.length_take]; rfl)) ?_; (with_reducible refine (impl_TickOk.calls t191 true _ A17.out).mono ?_); rintro e w' ⟨rfl, ⟨nd, rfl⟩⟩; refine ⟨_, rfl, ?_⟩) | (go_at_call 17; (with_reducible refine (impl_AddTick.calls t186 t185 t193 _ A19.out).mono ?_); rintro e w25 ⟨rfl, hb⟩; have n0_ := Aside0.mk (below_step (by repeat (first | (with_reducible first | exact HB.out | apply below_alloc | apply pw_below_drewN | apply below_drew1) | exact HB.out)) hb); clear HB; have HB := n0_; clear n0_; (try clear hb); (try clear hb2); (try clear hk); (try clear hi)) | (go_at_call 17; (with_reducible refine (impl_AddTick.calls t185 (wrap64 (-t186)) t194 _ A23.out).mono ?_); rintro e w26 ⟨rfl, hb⟩; have n0_ := Aside0.mk (below_step (by repeat (first | (with_reducible first | exact HB.out | apply below_alloc | apply pw_below_drewN | apply below_drew1) | exact HB.out)) hb); clear HB; have HB := n0_; clear n0_; (try clear hb); (try clear hb2); (try clear hk); (try clear hi)) | (go_at_call 20; (with_reducible refine (impl_Since.calls t186 t185 t195 _ A24.out).mono ?_); rintro e w27 ⟨rfl, hb⟩; have n0_ := Aside0.mk (below_step (by repeat (first | (with_reducible first | exact HB.out | apply below_alloc | apply pw_below_drewN | apply below_drew1) | exact HB.out)) hb); clear HB; have HB := n0_; clear n0_; (try clear hb); (try clear hb2); (try clear hk); (try clear hi)))
                  go_meet
                  case rel => exact ⟨_, ((t194 != t195)), (by first | rfl | (simp; done) | (simp [*]; done)), H', ⟨by have := HJ4.out; first | omega | exact Nat.le_refl _⟩, ⟨by repeat (first | (with_reducible first | exact HB.out | apply below_alloc | apply pw_below_drewN | apply below_drew1) | exact HB.out)⟩⟩
              · rw [if_neg c20] at H
                have c20b0 : (t191 == t193) = false := beq_eq_false_iff_ne.mpr c20
                have c20b1 : (t191 != t193) = true := bne_iff_ne.mpr c20
                (first | rw [c20b0] | (simp only [i64_w, i32_w]; rw [c20b0]) | skip)
                have H' := Aside0.mk H
                clear H
                go_wp2_with (first | ((with_reducible refine gate_callee (f := 19) rfl ?_); refine goesL_ (some 34) rfl rfl Tryd.func19 (by kernel_rfl) rfl #[.int .i64 t191] rfl (by (try simp only [List.map_toArray, List.map_cons, List.map_nil]); first | done | rfl | (simp only [List.length_drop, List.length_take]; rfl)) ?_; (with_reducible refine (impl_TickOk.calls t191 true _ A17.out).mono ?_); rintro e w' ⟨rfl, ⟨nd, rfl⟩⟩; refine ⟨_, rfl, ?_⟩) | (go_at_call 17; (with_reducible refine (impl_AddTick.calls t186 t185 t193 _ A19.out).mono ?_); rintro e w28 ⟨rfl, hb⟩; have n0_ := Aside0.mk (below_step (by repeat (first | (with_reducible first | exact HB.out | apply below_alloc | apply pw_below_drewN | apply below_drew1) | exact HB.out)) hb); clear HB; have HB := n0_; clear n0_; (try clear hb); (try clear hb2); (try clear hk); (try clear hi)))
                go_meet
                case rel => exact ⟨_, (true), (by first | rfl | (simp; done) | (simp [*]; done)), H', ⟨by have := HJ4.out; first | omega | exact Nat.le_refl _⟩, ⟨by repeat (first | (with_reducible first | exact HB.out | apply below_alloc | apply pw_below_drewN | apply below_drew1) | exact HB.out)⟩⟩
            · replace c18 := Bool.eq_false_iff.mpr c18
              subst c18
              have H1 : (laws_FnTicks.j1 kj4 t185 t186 t191 true) = some r := by rw [if_neg (show ¬ (false = true) by decide)] at H; exact H
              clear H
              have H := H1
              clear H1
              have H' := Aside0.mk H
              clear H
              go_wp2_with (first | ((with_reducible refine gate_callee (f := 19) rfl ?_); refine goesL_ (some 34) rfl rfl Tryd.func19 (by kernel_rfl) rfl #[.int .i64 t191] rfl (by (try simp only [List.map_toArray, List.map_cons, List.map_nil]); first | done | rfl | (simp only [List.length_drop, List.length_take]; rfl)) ?_; (with_reducible refine (impl_TickOk.calls t191 false _ A17.out).mono ?_); rintro e w' ⟨rfl, ⟨nd, rfl⟩⟩; refine ⟨_, rfl, ?_⟩))
              go_meet
              case rel => exact ⟨_, (true), (by first | rfl | (simp; done) | (simp [*]; done)), H', ⟨by have := HJ4.out; first | omega | exact Nat.le_refl _⟩, ⟨by repeat (first | (with_reducible first | exact HB.out | apply below_alloc | apply pw_below_drewN | apply below_drew1) | exact HB.out)⟩⟩
          case rest =>
            clear HC15
            try clear c1
            try clear c2
            try clear p2
            try clear c3
            try clear c6
            try clear p6
            try clear c8
            try clear c10
            try clear c14
            try clear c15
            try clear c16
            try clear c17
            try clear c18
            try clear c19
            try clear c20
            try clear c20b0
            try clear c20b1
            try clear c21
            try clear c21b0
            try clear p2
            obtain ⟨kq, x57_14, rfl, HA, HJ14, HB⟩ := hcut
            cases kq with
            | zero => exact absurd HA.out (by simp [laws_FnTicks.j1])
            | succ kj14 =>
              have H := HA.out
              clear HA
              simp only [laws_FnTicks.j1] at H
              by_cases c29 : x57_14 = true
              · subst c29
                have H1 : (some false) = some r := by rw [if_pos rfl] at H; exact H
                clear H
                have H := H1
                clear H1
                exact absurd ((Option.some.inj H).trans hT.out) (by decide)
              · replace c29 := Bool.eq_false_iff.mpr c29
                subst c29
                have H1 : (if t191 < 1000000000 then ((impl_Since.f t185 t191).bind fun t196 => (if t196 = t186 then ((impl_DueAt.f t185 t186 t191).bind fun t197 => (if (t197 != (decide (t186 > 0))) = true then (laws_FnTicks.j2 kj14 t185 t186 t191 true) else (if t191 > 0 then (if t186 > 0 then ((impl_DueAt.f t185 t186 (wrap64 (t191 - 1))).bind fun t198 => (laws_FnTicks.j2 kj14 t185 t186 t191 t198)) else (laws_FnTicks.j2 kj14 t185 t186 t191 false)) else (laws_FnTicks.j2 kj14 t185 t186 t191 false)))) else (laws_FnTicks.j2 kj14 t185 t186 t191 true))) else ((impl_DueAt.f t185 t186 t191).bind fun t199 => (if (t199 != (decide (t186 > 0))) = true then (laws_FnTicks.j2 kj14 t185 t186 t191 true) else (if t191 > 0 then (if t186 > 0 then (laws_FnTicks.j2 kj14 t185 t186 t191 false) else (laws_FnTicks.j2 kj14 t185 t186 t191 false)) else (laws_FnTicks.j2 kj14 t185 t186 t191 false))))) = some r := by rw [if_neg (show ¬ (false = true) by decide)] at H; exact H
                clear H
                have H := H1
                clear H1
                have HC30 := Aside0.mk H
                clear H
                go_upto_region 9 with (fail)
                go_cut [94] (fun v94 wc => ∃ (kq : Nat) (x94_29 : Bool), v94 = .bool x94_29 ∧ Aside0 (laws_FnTicks.j2 kq t185 t186 t191 x94_29 = some r) ∧ Aside0 (kq ≤ kj14) ∧ Aside0 (Below w.heap.size w wc))
                case first =>
                  have H := HC30.out
                  clear HC30
                  by_cases c31 : t191 < 1000000000
                  · rw [if_pos c31] at H
                    have c31b0 : decide (t191 < 1000000000) = true := decide_eq_true c31
                    clear c31
                    (first | rw [c31b0] | (simp only [i64_w, i32_w]; rw [c31b0]) | skip)
                    replace H := Option.bind_eq_some_iff.mp H
                    obtain ⟨t196, A320, H⟩ := H
                    replace H : (if t196 = t186 then ((impl_DueAt.f t185 t186 t191).bind fun t197 => (if (t197 != (decide (t186 > 0))) = true then (laws_FnTicks.j2 kj14 t185 t186 t191 true) else (if t191 > 0 then (if t186 > 0 then ((impl_DueAt.f t185 t186 (wrap64 (t191 - 1))).bind fun t198 => (laws_FnTicks.j2 kj14 t185 t186 t191 t198)) else (laws_FnTicks.j2 kj14 t185 t186 t191 false)) else (laws_FnTicks.j2 kj14 t185 t186 t191 false)))) else (laws_FnTicks.j2 kj14 t185 t186 t191 true)) = some r := H
                    have A32 := Aside0.mk A320
                    clear A320
                    by_cases c33 : t196 = t186
                    · rw [if_pos c33] at H
                      have c33b0 : (t196 == t186) = true := beq_iff_eq.mpr c33
                      have c33b1 : (t196 != t186) = false := bne_eq_false_iff_eq.mpr c33
                      clear c33
                      replace H := Option.bind_eq_some_iff.mp H
                      obtain ⟨t197, A340, H⟩ := H
                      replace H : (if (t197 != (decide (t186 > 0))) = true then (laws_FnTicks.j2 kj14 t185 t186 t191 true) else (if t191 > 0 then (if t186 > 0 then ((impl_DueAt.f t185 t186 (wrap64 (t191 - 1))).bind fun t198 => (laws_FnTicks.j2 kj14 t185 t186 t191 t198)) else (laws_FnTicks.j2 kj14 t185 t186 t191 false)) else (laws_FnTicks.j2 kj14 t185 t186 t191 false))) = some r := H
                      have A34 := Aside0.mk A340
                      clear A340
                      by_cases c35 : (t197 != (decide (t186 > 0))) = true
                      · rw [if_pos c35] at H
                        have c35b0 : (t197 != (decide (t186 > 0))) = true := c35
                        (try (have c35b1 : decide (t197 = (decide (t186 > 0))) = false := by simpa using c35))
                        (try (have c35b2 : (t197 == (decide (t186 > 0))) = false := by simpa using c35))
                        (try (have c35b3 : ¬ (t197 = (decide (t186 > 0))) := by simpa using c35))
                        clear c35
                        have H' := Aside0.mk H
                        clear H
                        go_wp2_with (first | (go_at_call 20; (with_reducible refine (impl_Since.calls t185 t191 t196 _ A32.out).mono ?_); rintro e w36 ⟨rfl, hb⟩; have n0_ := Aside0.mk (below_step (by repeat (first | (with_reducible first | exact HB.out | apply below_alloc | apply pw_below_drewN | apply below_drew1) | exact HB.out)) hb); clear HB; have HB := n0_; clear n0_; (try clear hb); (try clear hb2); (try clear hk); (try clear hi)) | (go_at_call 21; (with_reducible refine (impl_DueAt.calls t185 t186 t191 t197 _ A34.out).mono ?_); rintro e w37 ⟨rfl, hb⟩; have n0_ := Aside0.mk (below_step (by repeat (first | (with_reducible first | exact HB.out | apply below_alloc | apply pw_below_drewN | apply below_drew1) | exact HB.out)) hb); clear HB; have HB := n0_; clear n0_; (try clear hb); (try clear hb2); (try clear hk); (try clear hi)))
                        go_meet
                        case rel => exact ⟨_, (true), (by first | rfl | (simp; done) | (simp [*]; done)), H', ⟨by have := HJ4.out; have := HJ14.out; first | omega | exact Nat.le_refl _⟩, ⟨by repeat (first | (with_reducible first | exact HB.out | apply below_alloc | apply pw_below_drewN | apply below_drew1) | exact HB.out)⟩⟩
                      · rw [if_neg c35] at H
                        have c35b0 : (t197 != (decide (t186 > 0))) = false := by simpa using c35
                        (try (have c35b1 : decide (t197 = (decide (t186 > 0))) = true := by simpa using c35))
                        (try (have c35b2 : (t197 == (decide (t186 > 0))) = true := by simpa using c35))
                        clear c35
                        by_cases c38 : t191 > 0
                        · rw [if_pos c38] at H
                          have c38b0 : decide (0 < t191) = true := decide_eq_true c38
                          clear c38
                          by_cases c39 : t186 > 0
                          · rw [if_pos c39] at H
                            have c39b0 : decide (0 < t186) = true := decide_eq_true c39
                            (try (have c39d : t197 = true := by simpa [c39b0] using c35b0))
                            clear c39
                            replace H := Option.bind_eq_some_iff.mp H
                            obtain ⟨t198, A400, H⟩ := H
                            replace H : (laws_FnTicks.j2 kj14 t185 t186 t191 t198) = some r := H
                            have A40 := Aside0.mk A400
                            clear A400
                            have H' := Aside0.mk H
                            clear H
                            go_wp2_with (first | (go_at_call 20; (with_reducible refine (impl_Since.calls t185 t191 t196 _ A32.out).mono ?_); rintro e w41 ⟨rfl, hb⟩; have n0_ := Aside0.mk (below_step (by repeat (first | (with_reducible first | exact HB.out | apply below_alloc | apply pw_below_drewN | apply below_drew1) | exact HB.out)) hb); clear HB; have HB := n0_; clear n0_; (try clear hb); (try clear hb2); (try clear hk); (try clear hi)) | (go_at_call 21; (with_reducible refine (impl_DueAt.calls t185 t186 t191 t197 _ A34.out).mono ?_); rintro e w42 ⟨rfl, hb⟩; have n0_ := Aside0.mk (below_step (by repeat (first | (with_reducible first | exact HB.out | apply below_alloc | apply pw_below_drewN | apply below_drew1) | exact HB.out)) hb); clear HB; have HB := n0_; clear n0_; (try clear hb); (try clear hb2); (try clear hk); (try clear hi)) | (go_at_call 21; (with_reducible refine (impl_DueAt.calls t185 t186 (wrap64 (t191 - 1)) t198 _ A40.out).mono ?_); rintro e w43 ⟨rfl, hb⟩; have n0_ := Aside0.mk (below_step (by repeat (first | (with_reducible first | exact HB.out | apply below_alloc | apply pw_below_drewN | apply below_drew1) | exact HB.out)) hb); clear HB; have HB := n0_; clear n0_; (try clear hb); (try clear hb2); (try clear hk); (try clear hi)))
                            go_meet
                            case rel => exact ⟨_, (t198), (by first | rfl | (simp; done) | (simp [*]; done)), H', ⟨by have := HJ4.out; have := HJ14.out; first | omega | exact Nat.le_refl _⟩, ⟨by repeat (first | (with_reducible first | exact HB.out | apply below_alloc | apply pw_below_drewN | apply below_drew1) | exact HB.out)⟩⟩
                          · rw [if_neg c39] at H
                            have c39b0 : decide (0 < t186) = false := decide_eq_false c39
                            (try (have c39d : t197 = false := by simpa [c39b0] using c35b0))
                            clear c39
                            have H' := Aside0.mk H
                            clear H
                            go_wp2_with (first | (go_at_call 20; (with_reducible refine (impl_Since.calls t185 t191 t196 _ A32.out).mono ?_); rintro e w44 ⟨rfl, hb⟩; have n0_ := Aside0.mk (below_step (by repeat (first | (with_reducible first | exact HB.out | apply below_alloc | apply pw_below_drewN | apply below_drew1) | exact HB.out)) hb); clear HB; have HB := n0_; clear n0_; (try clear hb); (try clear hb2); (try clear hk); (try clear hi)) | (go_at_call 21; (with_reducible refine (impl_DueAt.calls t185 t186 t191 t197 _ A34.out).mono ?_); rintro e w45 ⟨rfl, hb⟩; have n0_ := Aside0.mk (below_step (by repeat (first | (with_reducible first | exact HB.out | apply below_alloc | apply pw_below_drewN | apply below_drew1) | exact HB.out)) hb); clear HB; have HB := n0_; clear n0_; (try clear hb); (try clear hb2); (try clear hk); (try clear hi)))
                            go_meet
                            case rel => exact ⟨_, (false), (by first | rfl | (simp; done) | (simp [*]; done)), H', ⟨by have := HJ4.out; have := HJ14.out; first | omega | exact Nat.le_refl _⟩, ⟨by repeat (first | (with_reducible first | exact HB.out | apply below_alloc | apply pw_below_drewN | apply below_drew1) | exact HB.out)⟩⟩
                        · rw [if_neg c38] at H
                          have c38b0 : decide (0 < t191) = false := decide_eq_false c38
                          clear c38
                          have H' := Aside0.mk H
                          clear H
                          go_wp2_with (first | (go_at_call 20; (with_reducible refine (impl_Since.calls t185 t191 t196 _ A32.out).mono ?_); rintro e w46 ⟨rfl, hb⟩; have n0_ := Aside0.mk (below_step (by repeat (first | (with_reducible first | exact HB.out | apply below_alloc | apply pw_below_drewN | apply below_drew1) | exact HB.out)) hb); clear HB; have HB := n0_; clear n0_; (try clear hb); (try clear hb2); (try clear hk); (try clear hi)) | (go_at_call 21; (with_reducible refine (impl_DueAt.calls t185 t186 t191 t197 _ A34.out).mono ?_); rintro e w47 ⟨rfl, hb⟩; have n0_ := Aside0.mk (below_step (by repeat (first | (with_reducible first | exact HB.out | apply below_alloc | apply pw_below_drewN | apply below_drew1) | exact HB.out)) hb); clear HB; have HB := n0_; clear n0_; (try clear hb); (try clear hb2); (try clear hk); (try clear hi)))
                          go_meet
                          case rel => exact ⟨_, (false), (by first | rfl | (simp; done) | (simp [*]; done)), H', ⟨by have := HJ4.out; have := HJ14.out; first | omega | exact Nat.le_refl _⟩, ⟨by repeat (first | (with_reducible first | exact HB.out | apply below_alloc | apply pw_below_drewN | apply below_drew1) | exact HB.out)⟩⟩
                    · rw [if_neg c33] at H
                      have c33b0 : (t196 == t186) = false := beq_eq_false_iff_ne.mpr c33
                      have c33b1 : (t196 != t186) = true := bne_iff_ne.mpr c33
                      have H' := Aside0.mk H
                      clear H
                      go_wp2_with (first | (go_at_call 20; (with_reducible refine (impl_Since.calls t185 t191 t196 _ A32.out).mono ?_); rintro e w48 ⟨rfl, hb⟩; have n0_ := Aside0.mk (below_step (by repeat (first | (with_reducible first | exact HB.out | apply below_alloc | apply pw_below_drewN | apply below_drew1) | exact HB.out)) hb); clear HB; have HB := n0_; clear n0_; (try clear hb); (try clear hb2); (try clear hk); (try clear hi)))
                      go_meet
                      case rel => exact ⟨_, (true), (by first | rfl | (simp; done) | (simp [*]; done)), H', ⟨by have := HJ4.out; have := HJ14.out; first | omega | exact Nat.le_refl _⟩, ⟨by repeat (first | (with_reducible first | exact HB.out | apply below_alloc | apply pw_below_drewN | apply below_drew1) | exact HB.out)⟩⟩
                  · rw [if_neg c31] at H
                    have c31b0 : decide (t191 < 1000000000) = false := decide_eq_false c31
                    clear c31
                    (first | rw [c31b0] | (simp only [i64_w, i32_w]; rw [c31b0]) | skip)
                    replace H := Option.bind_eq_some_iff.mp H
                    obtain ⟨t199, A490, H⟩ := H
                    replace H : (if (t199 != (decide (t186 > 0))) = true then (laws_FnTicks.j2 kj14 t185 t186 t191 true) else (if t191 > 0 then (if t186 > 0 then (laws_FnTicks.j2 kj14 t185 t186 t191 false) else (laws_FnTicks.j2 kj14 t185 t186 t191 false)) else (laws_FnTicks.j2 kj14 t185 t186 t191 false))) = some r := H
                    have A49 := Aside0.mk A490
                    clear A490
                    by_cases c50 : (t199 != (decide (t186 > 0))) = true
                    · rw [if_pos c50] at H
                      have c50b0 : (t199 != (decide (t186 > 0))) = true := c50
                      (try (have c50b1 : decide (t199 = (decide (t186 > 0))) = false := by simpa using c50))
                      (try (have c50b2 : (t199 == (decide (t186 > 0))) = false := by simpa using c50))
                      (try (have c50b3 : ¬ (t199 = (decide (t186 > 0))) := by simpa using c50))
                      clear c50
                      have H' := Aside0.mk H
                      clear H
                      go_wp2_with (first | (go_at_call 21; (with_reducible refine (impl_DueAt.calls t185 t186 t191 t199 _ A49.out).mono ?_); rintro e w51 ⟨rfl, hb⟩; have n0_ := Aside0.mk (below_step (by repeat (first | (with_reducible first | exact HB.out | apply below_alloc | apply pw_below_drewN | apply below_drew1) | exact HB.out)) hb); clear HB; have HB := n0_; clear n0_; (try clear hb); (try clear hb2); (try clear hk); (try clear hi)))
                      go_meet
                      case rel => exact ⟨_, (true), (by first | rfl | (simp; done) | (simp [*]; done)), H', ⟨by have := HJ4.out; have := HJ14.out; first | omega | exact Nat.le_refl _⟩, ⟨by repeat (first | (with_reducible first | exact HB.out | apply below_alloc | apply pw_below_drewN | apply below_drew1) | exact HB.out)⟩⟩
                    · rw [if_neg c50] at H
                      have c50b0 : (t199 != (decide (t186 > 0))) = false := by simpa using c50
                      (try (have c50b1 : decide (t199 = (decide (t186 > 0))) = true := by simpa using c50))
                      (try (have c50b2 : (t199 == (decide (t186 > 0))) = true := by simpa using c50))
                      clear c50
                      by_cases c52 : t191 > 0
                      · rw [if_pos c52] at H
                        have c52b0 : decide (0 < t191) = true := decide_eq_true c52
                        clear c52
                        by_cases c53 : t186 > 0
                        · rw [if_pos c53] at H
                          have c53b0 : decide (0 < t186) = true := decide_eq_true c53
                          (try (have c53d : t197 = true := by simpa [c53b0] using c35b0))
                          (try (have c53d : t199 = true := by simpa [c53b0] using c50b0))
                          clear c53
                          have H' := Aside0.mk H
                          clear H
                          go_wp2_with (first | (go_at_call 21; (with_reducible refine (impl_DueAt.calls t185 t186 t191 t199 _ A49.out).mono ?_); rintro e w54 ⟨rfl, hb⟩; have n0_ := Aside0.mk (below_step (by repeat (first | (with_reducible first | exact HB.out | apply below_alloc | apply pw_below_drewN | apply below_drew1) | exact HB.out)) hb); clear HB; have HB := n0_; clear n0_; (try clear hb); (try clear hb2); (try clear hk); (try clear hi)))
                          go_meet
                          case rel => exact ⟨_, (false), (by first | rfl | (simp; done) | (simp [*]; done)), H', ⟨by have := HJ4.out; have := HJ14.out; first | omega | exact Nat.le_refl _⟩, ⟨by repeat (first | (with_reducible first | exact HB.out | apply below_alloc | apply pw_below_drewN | apply below_drew1) | exact HB.out)⟩⟩
                        · rw [if_neg c53] at H
                          have c53b0 : decide (0 < t186) = false := decide_eq_false c53
                          (try (have c53d : t197 = false := by simpa [c53b0] using c35b0))
                          (try (have c53d : t199 = false := by simpa [c53b0] using c50b0))
                          clear c53
                          have H' := Aside0.mk H
                          clear H
                          go_wp2_with (first | (go_at_call 21; (with_reducible refine (impl_DueAt.calls t185 t186 t191 t199 _ A49.out).mono ?_); rintro e w55 ⟨rfl, hb⟩; have n0_ := Aside0.mk (below_step (by repeat (first | (with_reducible first | exact HB.out | apply below_alloc | apply pw_below_drewN | apply below_drew1) | exact HB.out)) hb); clear HB; have HB := n0_; clear n0_; (try clear hb); (try clear hb2); (try clear hk); (try clear hi)))
                          go_meet
                          case rel => exact ⟨_, (false), (by first | rfl | (simp; done) | (simp [*]; done)), H', ⟨by have := HJ4.out; have := HJ14.out; first | omega | exact Nat.le_refl _⟩, ⟨by repeat (first | (with_reducible first | exact HB.out | apply below_alloc | apply pw_below_drewN | apply below_drew1) | exact HB.out)⟩⟩
                      · rw [if_neg c52] at H
                        have c52b0 : decide (0 < t191) = false := decide_eq_false c52
                        clear c52
                        have H' := Aside0.mk H
                        clear H
                        go_wp2_with (first | (go_at_call 21; (with_reducible refine (impl_DueAt.calls t185 t186 t191 t199 _ A49.out).mono ?_); rintro e w56 ⟨rfl, hb⟩; have n0_ := Aside0.mk (below_step (by repeat (first | (with_reducible first | exact HB.out | apply below_alloc | apply pw_below_drewN | apply below_drew1) | exact HB.out)) hb); clear HB; have HB := n0_; clear n0_; (try clear hb); (try clear hb2); (try clear hk); (try clear hi)))
                        go_meet
                        case rel => exact ⟨_, (false), (by first | rfl | (simp; done) | (simp [*]; done)), H', ⟨by have := HJ4.out; have := HJ14.out; first | omega | exact Nat.le_refl _⟩, ⟨by repeat (first | (with_reducible first | exact HB.out | apply below_alloc | apply pw_below_drewN | apply below_drew1) | exact HB.out)⟩⟩
                case rest =>
                  clear HC30
                  try clear c1
                  try clear c2
                  try clear p2
                  try clear c3
                  try clear c5
                  try clear c6
                  try clear p6
                  try clear c8
                  try clear c10
                  try clear c14
                  try clear c15
                  try clear c16
                  try clear c17
                  try clear c18
                  try clear c19
                  try clear c20
                  try clear c20b0
                  try clear c20b1
                  try clear c21
                  try clear c21b0
                  try clear c29
                  try clear c31
                  try clear c31b0
                  try clear c33
                  try clear c33b0
                  try clear c33b1
                  try clear c35
                  try clear c35b0
                  try clear c35b1
                  try clear c35b2
                  try clear c38
                  try clear c38b0
                  try clear c39
                  try clear c39b0
                  try clear c50
                  try clear c50b0
                  try clear c50b1
                  try clear c50b2
                  try clear c52
                  try clear c52b0
                  try clear c53
                  try clear c53b0
                  try clear p2
                  try clear p6
                  obtain ⟨kq, x94_29, rfl, HA, HJ29, HB⟩ := hcut
                  cases kq with
                  | zero => exact absurd HA.out (by simp [laws_FnTicks.j2])
                  | succ kj29 =>
                    have H := HA.out
                    clear HA
                    simp only [laws_FnTicks.j2] at H
                    by_cases c57 : x94_29 = true
                    · subst c57
                      have H1 : (some false) = some r := by rw [if_pos rfl] at H; exact H
                      clear H
                      have H := H1
                      clear H1
                      exact absurd ((Option.some.inj H).trans hT.out) (by decide)
                    · replace c57 := Bool.eq_false_iff.mpr c57
                      subst c57
                      have H1 : ((impl_TickText.f t185).bind fun t200 => ((impl_ParseTick.f t200).bind fun bt201 => (if bt201.2 = true then (if bt201.1 = t185 then ((impl_SumTicks.f kj29 (([t185, t186, 1] : List Int))).bind fun t206 => ((impl_AddTick.f t191 1).bind fun t207 => (if t206 = t207 then ((impl_SoonestOf.f kj29 (([(-1), t185, t186] : List Int))).bind fun t211 => ((spec_SoonestOf.f kj29 (([t185, t186] : List Int))).bind fun t215 => (some (t211 == t215)))) else (some false)))) else (some false)) else (some false)))) = some r := by rw [if_neg (show ¬ (false = true) by decide)] at H; exact H
                      clear H
                      have H := H1
                      clear H1
                      replace H := Option.bind_eq_some_iff.mp H
                      obtain ⟨t200, A580, H⟩ := H
                      replace H : ((impl_ParseTick.f t200).bind fun bt201 => (if bt201.2 = true then (if bt201.1 = t185 then ((impl_SumTicks.f kj29 (([t185, t186, 1] : List Int))).bind fun t206 => ((impl_AddTick.f t191 1).bind fun t207 => (if t206 = t207 then ((impl_SoonestOf.f kj29 (([(-1), t185, t186] : List Int))).bind fun t211 => ((spec_SoonestOf.f kj29 (([t185, t186] : List Int))).bind fun t215 => (some (t211 == t215)))) else (some false)))) else (some false)) else (some false))) = some r := H
                      have A58 := Aside0.mk A580
                      clear A580
                      replace H := Option.bind_eq_some_iff.mp H
                      obtain ⟨⟨t201, t202⟩, A590, H⟩ := H
                      replace H : (if t202 = true then (if t201 = t185 then ((impl_SumTicks.f kj29 (([t185, t186, 1] : List Int))).bind fun t206 => ((impl_AddTick.f t191 1).bind fun t207 => (if t206 = t207 then ((impl_SoonestOf.f kj29 (([(-1), t185, t186] : List Int))).bind fun t211 => ((spec_SoonestOf.f kj29 (([t185, t186] : List Int))).bind fun t215 => (some (t211 == t215)))) else (some false)))) else (some false)) else (some false)) = some r := H
                      have A59 := Aside0.mk A590
                      clear A590
                      by_cases c60 : t202 = true
                      · subst c60
                        have H1 : (if t201 = t185 then ((impl_SumTicks.f kj29 (([t185, t186, 1] : List Int))).bind fun t206 => ((impl_AddTick.f t191 1).bind fun t207 => (if t206 = t207 then ((impl_SoonestOf.f kj29 (([(-1), t185, t186] : List Int))).bind fun t211 => ((spec_SoonestOf.f kj29 (([t185, t186] : List Int))).bind fun t215 => (some (t211 == t215)))) else (some false)))) else (some false)) = some r := by rw [if_pos rfl] at H; exact H
                        clear H
                        have H := H1
                        clear H1
                        by_cases c61 : t201 = t185
                        · rw [if_pos c61] at H
                          have c61b0 : (t201 == t185) = true := beq_iff_eq.mpr c61
                          have c61b1 : (t201 != t185) = false := bne_eq_false_iff_eq.mpr c61
                          clear c61
                          obtain ⟨y203, hy203⟩ : ∃ y_ : List Int, y_ = (([t185, t186, 1] : List Int)) := ⟨_, rfl⟩
                          replace H : ((impl_SumTicks.f kj29 y203).bind fun t206 => ((impl_AddTick.f t191 1).bind fun t207 => (if t206 = t207 then ((impl_SoonestOf.f kj29 (([(-1), t185, t186] : List Int))).bind fun t211 => ((spec_SoonestOf.f kj29 (([t185, t186] : List Int))).bind fun t215 => (some (t211 == t215)))) else (some false)))) = some r := by first | (rw [hy203]; with_reducible exact H) | (have H2_ := (Option.bind_some _ _).symm.trans H; rw [hy203]; with_reducible exact H2_) | (have H2_ := (Option.bind_some _ _).symm.trans H; with_reducible exact H2_) | with_reducible exact H | (rw [hy203]; exact H) | exact H
                          have Ny203 := Aside0.mk hy203
                          clear hy203
                          replace H := Option.bind_eq_some_iff.mp H
                          obtain ⟨t206, A620, H⟩ := H
                          replace H : ((impl_AddTick.f t191 1).bind fun t207 => (if t206 = t207 then ((impl_SoonestOf.f kj29 (([(-1), t185, t186] : List Int))).bind fun t211 => ((spec_SoonestOf.f kj29 (([t185, t186] : List Int))).bind fun t215 => (some (t211 == t215)))) else (some false))) = some r := H
                          have A62 := Aside0.mk A620
                          clear A620
                          replace H := Option.bind_eq_some_iff.mp H
                          obtain ⟨t207, A630, H⟩ := H
                          replace H : (if t206 = t207 then ((impl_SoonestOf.f kj29 (([(-1), t185, t186] : List Int))).bind fun t211 => ((spec_SoonestOf.f kj29 (([t185, t186] : List Int))).bind fun t215 => (some (t211 == t215)))) else (some false)) = some r := H
                          have A63 := Aside0.mk A630
                          clear A630
                          by_cases c64 : t206 = t207
                          · rw [if_pos c64] at H
                            have c64b0 : (t206 == t207) = true := beq_iff_eq.mpr c64
                            have c64b1 : (t206 != t207) = false := bne_eq_false_iff_eq.mpr c64
                            clear c64
                            obtain ⟨y208, hy208⟩ : ∃ y_ : List Int, y_ = (([(-1), t185, t186] : List Int)) := ⟨_, rfl⟩
                            replace H : ((impl_SoonestOf.f kj29 y208).bind fun t211 => ((spec_SoonestOf.f kj29 (([t185, t186] : List Int))).bind fun t215 => (some (t211 == t215)))) = some r := by first | (rw [hy208]; with_reducible exact H) | (have H2_ := (Option.bind_some _ _).symm.trans H; rw [hy208]; with_reducible exact H2_) | (have H2_ := (Option.bind_some _ _).symm.trans H; with_reducible exact H2_) | with_reducible exact H | (rw [hy208]; exact H) | exact H
                            have Ny208 := Aside0.mk hy208
                            clear hy208
                            replace H := Option.bind_eq_some_iff.mp H
                            obtain ⟨t211, A650, H⟩ := H
                            replace H : ((spec_SoonestOf.f kj29 (([t185, t186] : List Int))).bind fun t215 => (some (t211 == t215))) = some r := H
                            have A65 := Aside0.mk A650
                            clear A650
                            obtain ⟨y212, hy212⟩ : ∃ y_ : List Int, y_ = (([t185, t186] : List Int)) := ⟨_, rfl⟩
                            replace H : ((spec_SoonestOf.f kj29 y212).bind fun t215 => (some (t211 == t215))) = some r := by first | (rw [hy212]; with_reducible exact H) | (have H2_ := (Option.bind_some _ _).symm.trans H; rw [hy212]; with_reducible exact H2_) | (have H2_ := (Option.bind_some _ _).symm.trans H; with_reducible exact H2_) | with_reducible exact H | (rw [hy212]; exact H) | exact H
                            have Ny212 := Aside0.mk hy212
                            clear hy212
                            replace H := Option.bind_eq_some_iff.mp H
                            obtain ⟨t215, A660, H⟩ := H
                            replace H : (some (t211 == t215)) = some r := H
                            have A66 := Aside0.mk A660
                            clear A660
                            obtain rfl := Option.some.inj H
                            go_wp2_with (first | ((with_reducible refine gate_callee (f := 8) rfl ?_); refine goesL_ (some 97) rfl rfl Tryd.func8 (by kernel_rfl) rfl #[.int .i64 t185] rfl (by (try simp only [List.map_toArray, List.map_cons, List.map_nil]); first | done | rfl | (simp only [List.length_drop, List.length_take]; rfl)) ?_; (with_reducible refine (impl_TickText.calls t185 t200 _ A58.out (LaidW.below HL.out (by repeat (first | (with_reducible first | exact HB.out | apply below_alloc | apply pw_below_drewN | apply below_drew1) | exact HB.out))).t).mono ?_); rintro e w67 ⟨rfl, hb⟩; refine ⟨_, rfl, ?_⟩; have n0_ := Aside0.mk (below_step (by repeat (first | (with_reducible first | exact HB.out | apply below_alloc | apply pw_below_drewN | apply below_drew1) | exact HB.out)) hb); clear HB; have HB := n0_; clear n0_; (try clear hb); (try clear hb2); (try clear hk); (try clear hi)) | ((with_reducible refine gate_callee (f := 13) rfl ?_); refine goesL_ (some 98) rfl rfl Tryd.func13 (by kernel_rfl) rfl #[.string t200] rfl (by (try simp only [List.map_toArray, List.map_cons, List.map_nil]); first | done | rfl | (simp only [List.length_drop, List.length_take]; rfl)) ?_; (with_reducible refine (impl_ParseTick.calls t200 t201 true _ A59.out (LaidW.below HL.out (by repeat (first | (with_reducible first | exact HB.out | apply below_alloc | apply pw_below_drewN | apply below_drew1) | exact HB.out)))).mono ?_); rintro e w68 ⟨rfl, hb⟩; refine ⟨_, rfl, ?_⟩; have n0_ := Aside0.mk (below_step (by repeat (first | (with_reducible first | exact HB.out | apply below_alloc | apply pw_below_drewN | apply below_drew1) | exact HB.out)) hb); clear HB; have HB := n0_; clear n0_; (try clear hb); (try clear hb2); (try clear hk); (try clear hi)) | ((with_reducible refine gate_dst (N := 110) rfl ?_); (try (refine gate_guard (by rfl) ?_; dsimp only)); refine Kd.R_lit (Kd.int .i64) _ 3 ?hg (N := 110) ?hd (xs := ([t185, t186, 1] : List Int)) (inner := [.int .i64 t185, .int .i64 t186, .int .i64 1]) (ok := fun _ => True) (okp := fun _ => True) ?hr ?hp (fun _ hk => hk) trivial (Below.refl _ _) (Nat.le_refl _) (by simp) ?_; (case hd => rfl); (case hg => rfl); (case hr => first | (go_simp; done) | (go_simp; rfl)); (case hp => exact (Reps.one (show Kd.M (Kd.int .i64) _ _ _ t185 [.int .i64 t185] from rfl) (Reps.one (show Kd.M (Kd.int .i64) _ _ _ t186 [.int .i64 t186] from rfl) (Reps.one (show Kd.M (Kd.int .i64) _ _ _ 1 [.int .i64 1] from rfl) (Reps.none _ _))))); intro v204 w69 ho70 hb hg_ hnew_; clear hg_ hnew_; (first | rw [← Ny203.out] at ho70 | (simp only [Int.reduceToNat] at ho70; rw [← Ny203.out] at ho70)); have n0_ := Aside0.mk (Kd.R_lower ho70 (below_size (by repeat (first | (with_reducible first | exact HB.out | apply below_alloc | apply pw_below_drewN | apply below_drew1) | exact HB.out)))); have n1_ := Aside0.mk (below_step (by repeat (first | (with_reducible first | exact HB.out | apply below_alloc | apply pw_below_drewN | apply below_drew1) | exact HB.out)) hb); clear HB; have HO205 := n0_; have HB := n1_; clear n0_ n1_; clear hb ho70; obtain ⟨Ao71, co71, eo71⟩ := Kd.R_slice HO205.out; subst eo71) | (go_at_call 22; (with_reducible refine (impl_SumTicks.calls kj29 _ _ y203 t206 _ ?side1 ?side2 A62.out).mono ?_); (case side1 => repeat (first | exact (Kd.R_reads' HO205.out).2.2 | (with_reducible refine Kd.C_alloc ?_ _) | (with_reducible refine Kd.C_drewN ?_ _) | (with_reducible refine Kd.C_drew ?_))); (case side2 => exact (Kd.R_reads' HO205.out).2.1); rintro e w72 ⟨rfl, hb⟩; have n0_ := Aside0.mk (Kd.R_below (by (with_reducible repeat (first | apply Kd.R_alloc | apply Kd.R_drewN | apply Kd.R_drew)); exact HO205.out) hb); have n1_ := Aside0.mk (below_step (by repeat (first | (with_reducible first | exact HB.out | apply below_alloc | apply pw_below_drewN | apply below_drew1) | exact HB.out)) hb); clear HO205; clear HB; have HO205 := n0_; have HB := n1_; clear n0_ n1_; (try clear hb); (try clear hb2); (try clear hk); (try clear hi)) | (go_at_call 17; (with_reducible refine (impl_AddTick.calls t191 1 t207 _ A63.out).mono ?_); rintro e w73 ⟨rfl, hb⟩; have n0_ := Aside0.mk (Kd.R_below (by (with_reducible repeat (first | apply Kd.R_alloc | apply Kd.R_drewN | apply Kd.R_drew)); exact HO205.out) hb); have n1_ := Aside0.mk (below_step (by repeat (first | (with_reducible first | exact HB.out | apply below_alloc | apply pw_below_drewN | apply below_drew1) | exact HB.out)) hb); clear HO205; clear HB; have HO205 := n0_; have HB := n1_; clear n0_ n1_; (try clear hb); (try clear hb2); (try clear hk); (try clear hi)) | ((with_reducible refine gate_dst (N := 119) rfl ?_); (try (refine gate_guard (by rfl) ?_; dsimp only)); refine Kd.R_lit (Kd.int .i64) _ 3 ?hg (N := 119) ?hd (xs := ([(-1), t185, t186] : List Int)) (inner := [.int .i64 (-1), .int .i64 t185, .int .i64 t186]) (ok := fun _ => True) (okp := fun _ => True) ?hr ?hp (fun _ hk => hk) trivial (Below.refl _ _) (Nat.le_refl _) (by simp) ?_; (case hd => rfl); (case hg => rfl); (case hr => first | (go_simp; done) | (go_simp; rfl)); (case hp => exact (Reps.one (show Kd.M (Kd.int .i64) _ _ _ (-1) [.int .i64 (-1)] from rfl) (Reps.one (show Kd.M (Kd.int .i64) _ _ _ t185 [.int .i64 t185] from rfl) (Reps.one (show Kd.M (Kd.int .i64) _ _ _ t186 [.int .i64 t186] from rfl) (Reps.none _ _))))); intro v209 w74 ho75 hb hg_ hnew_; clear hg_ hnew_; (first | rw [← Ny208.out] at ho75 | (simp only [Int.reduceToNat] at ho75; rw [← Ny208.out] at ho75)); have n0_ := Aside0.mk (Kd.R_elder' (by (with_reducible repeat (first | apply Kd.R_alloc | apply Kd.R_drewN | apply Kd.R_drew)); exact HO205.out) (Kd.R_base ho75) hb); have n1_ := Aside0.mk (Kd.R_lower (Kd.R_new' ho75 (Kd.R_lt (by (with_reducible repeat (first | apply Kd.R_alloc | apply Kd.R_drewN | apply Kd.R_drew)); exact HO205.out))) (below_size (by repeat (first | (with_reducible first | exact HB.out | apply below_alloc | apply pw_below_drewN | apply below_drew1) | exact HB.out)))); have n2_ := Aside0.mk (below_step (by repeat (first | (with_reducible first | exact HB.out | apply below_alloc | apply pw_below_drewN | apply below_drew1) | exact HB.out)) hb); clear HO205; clear HB; have HO205 := n0_; have HO210 := n1_; have HB := n2_; clear n0_ n1_ n2_; clear hb ho75; obtain ⟨Ao76, co76, eo76⟩ := Kd.R_slice HO210.out; subst eo76) | (go_at_call 23; (with_reducible refine (impl_SoonestOf.calls kj29 _ _ y208 t211 _ ?side1 ?side2 A65.out).mono ?_); (case side1 => repeat (first | exact (Kd.R_reads' HO210.out).2.2 | (with_reducible refine Kd.C_alloc ?_ _) | (with_reducible refine Kd.C_drewN ?_ _) | (with_reducible refine Kd.C_drew ?_))); (case side2 => exact (Kd.R_reads' HO210.out).2.1); rintro e w' ⟨rfl, ⟨nd, rfl⟩⟩) | ((with_reducible refine gate_dst (N := 123) rfl ?_); (try (refine gate_guard (by rfl) ?_; dsimp only)); refine Kd.R_lit (Kd.int .i64) _ 3 ?hg (N := 123) ?hd (xs := ([t185, t186] : List Int)) (inner := [.int .i64 t185, .int .i64 t186]) (ok := fun _ => True) (okp := fun _ => True) ?hr ?hp (fun _ hk => hk) trivial (Below.refl _ _) (Nat.le_refl _) (by simp) ?_; (case hd => rfl); (case hg => rfl); (case hr => first | (go_simp; done) | (go_simp; rfl)); (case hp => exact (Reps.one (show Kd.M (Kd.int .i64) _ _ _ t185 [.int .i64 t185] from rfl) (Reps.one (show Kd.M (Kd.int .i64) _ _ _ t186 [.int .i64 t186] from rfl) (Reps.none _ _)))); intro v213 w77 ho78 hb hg_ hnew_; clear hg_ hnew_; (first | rw [← Ny212.out] at ho78 | (simp only [Int.reduceToNat] at ho78; rw [← Ny212.out] at ho78)); have n0_ := Aside0.mk (Kd.R_elder' (by (with_reducible repeat (first | apply Kd.R_alloc | apply Kd.R_drewN | apply Kd.R_drew)); exact HO205.out) (Kd.R_base ho78) hb); have n1_ := Aside0.mk (Kd.R_elder' (by (with_reducible repeat (first | apply Kd.R_alloc | apply Kd.R_drewN | apply Kd.R_drew)); exact HO210.out) (Kd.R_base ho78) hb); have n2_ := Aside0.mk (Kd.R_lower (Kd.R_new' (Kd.R_new' ho78 (Kd.R_lt (by (with_reducible repeat (first | apply Kd.R_alloc | apply Kd.R_drewN | apply Kd.R_drew)); exact HO205.out))) (Kd.R_lt (by (with_reducible repeat (first | apply Kd.R_alloc | apply Kd.R_drewN | apply Kd.R_drew)); exact HO210.out))) (below_size (by repeat (first | (with_reducible first | exact HB.out | apply below_alloc | apply pw_below_drewN | apply below_drew1) | exact HB.out)))); have n3_ := Aside0.mk (below_step (by repeat (first | (with_reducible first | exact HB.out | apply below_alloc | apply pw_below_drewN | apply below_drew1) | exact HB.out)) hb); clear HO205; clear HO210; clear HB; have HO205 := n0_; have HO210 := n1_; have HO214 := n2_; have HB := n3_; clear n0_ n1_ n2_ n3_; clear hb ho78; obtain ⟨Ao79, co79, eo79⟩ := Kd.R_slice HO214.out; subst eo79) | (go_at_call 24; (with_reducible refine (spec_SoonestOf.calls kj29 _ _ y212 t215 _ ?side1 ?side2 A66.out).mono ?_); (case side1 => repeat (first | exact (Kd.R_reads' HO214.out).2.2 | (with_reducible refine Kd.C_alloc ?_ _) | (with_reducible refine Kd.C_drewN ?_ _) | (with_reducible refine Kd.C_drew ?_))); (case side2 => exact (Kd.R_reads' HO214.out).2.1); rintro e w' ⟨rfl, ⟨nd, rfl⟩⟩))
                            go_ret
                            exact ⟨by first | rfl | (simp [errW_none, errW_some] <;> rfl) | (simp [*, errW_none, errW_some] <;> rfl), by repeat (first | (with_reducible first | exact HB.out | apply below_alloc | apply pw_below_drewN | apply below_drew1) | exact HB.out)⟩
                          · rw [if_neg c64] at H
                            have c64b0 : (t206 == t207) = false := beq_eq_false_iff_ne.mpr c64
                            have c64b1 : (t206 != t207) = true := bne_iff_ne.mpr c64
                            exact absurd ((Option.some.inj H).trans hT.out) (by decide)
                        · rw [if_neg c61] at H
                          have c61b0 : (t201 == t185) = false := beq_eq_false_iff_ne.mpr c61
                          have c61b1 : (t201 != t185) = true := bne_iff_ne.mpr c61
                          exact absurd ((Option.some.inj H).trans hT.out) (by decide)
                      · replace c60 := Bool.eq_false_iff.mpr c60
                        subst c60
                        have H1 : (some false) = some r := by rw [if_neg (show ¬ (false = true) by decide)] at H; exact H
                        clear H
                        have H := H1
                        clear H1
                        exact absurd ((Option.some.inj H).trans hT.out) (by decide)

/-- THE ONE PURE STATEMENT of laws_FnTicks: yours. -/
def laws_FnTicks.Pure : Prop := ∀ (l0 : List Int), l0.length ≤ maxLen → l0.length * 1 ≤ 140737488351232 → (∀ x ∈ l0, (Lit.int .u8 x).wf = true) → ∃ k, laws_FnTicks.f k l0 = some true
theorem laws_FnTicks.walk (P : laws_FnTicks.Pure) (a0 : Option Addr) (len0 cap0 : Nat) (z0 : List Int) (w : World) (w0 : (a0 = none ∧ len0 = 0 ∧ cap0 = 0 ∧ z0 = []) ∨ ∃ x, a0 = some x ∧ len0 ≤ cap0 ∧ cap0 ≤ maxLen ∧ z0.length = cap0 ∧ (∀ i, i < z0.length → w.cell? (x.add i) = some (.int .u8 (z0.getD i 0))) ∧ ∀ n ∈ z0, (Lit.int .u8 n).wf = true) (y0 : len0 * 1 ≤ 140737488351232) (hL : LaidW w) :
    Calls Tryd.prog 6 #[.slice a0 len0 cap0] w fun e w' => e = .returned (.bool true) ∧ Below w.heap.size w w' := by
  obtain ⟨l0, rfl, hr0, hm0, hw0, hc0⟩ := ReadsInt.ofRowC w0
  obtain ⟨k, h⟩ := P l0 hm0 y0 hw0
  refine (laws_FnTicks.calls k _ _ l0 true w (Kd.C_of_reads (d := (0 : Int)) (h1 := fun _ => rfl) hr0) hc0 (Aside0.mk rfl) h hL).mono ?_
  rintro e w' ⟨rfl, hd⟩
  exact ⟨rfl, hd⟩

end Go.Proofs.YtkbgphdepkjccaaDoor.QFnTicks
