/- The machine side of a law: Lean functions with the Go functions' answers and the walks that show it. No condition. -/
import Derived.Test.YtcflalomjehiiaaQFnMarksx0
import Derived.Test.YtcflalomjehiiaaQFnMarksx1
import Derived.Test.YtcflalomjehiiaaQFnMarksx2
import Derived.Test.YtcflalomjehiiaaQFnMarksx4
import Derived.Test.YtcflalomjehiiaaQFnMarksx6
import Derived.Test.YtcflalomjehiiaaQFnMarksx7
import Derived.Test.YtcflalomjehiiaaQFnMarksx8
import Derived.Test.YtcflalomjehiiaaQFnMarksx9
namespace Go.Proofs.Ytcflalomjehiiaa.QFnMarks
open Go.RowKit Go.Proofs.YtcflalomjehiiaaW.PrintWords Go.Proofs.YtcflalomjehiiaaW.PrintLast Go.Proofs.YtcflalomjehiiaaW.PrintMore
attribute [local go_sem] max2_int min2_int max_two min_two max_three min_three max_four min_four   -- for this text's walks alone
set_option linter.unusedVariables false
set_option linter.unusedSimpArgs false

attribute [local go_sem high] eqA72
/-! ### laws_FnMarks: function 11 -/
mutual
def laws_FnMarks.j0 : Nat → List Int → List Int → Bool → Option (Bool)
 | 0, _, _, _ => none
 | k + 1, x0, x9, x46 => if x46 = true then (some false) else (laws_FnMarks.l0 k x0 x9 (-1) 0)
def laws_FnMarks.l0 : Nat → List Int → List Int → Int → Int → Option (Bool)
 | 0, _, _, _, _ => none
 | k + 1, x0, x9, x10, x11 => if x11 < (x9.length : Int) then (if 0 ≤ x11 then (if (rd x9 x11) = (-2) then (laws_FnMarks.l0 k x0 x9 x10 (wrap64 (x11 + 1))) else (if (rd x9 x11) < x10 then (some false) else (laws_FnMarks.l0 k x0 x9 (rd x9 x11) (wrap64 (x11 + 1))))) else (none)) else ((laws_alt.f k x0 1).bind fun t579 => ((spec_DrawAllMarks.f k t579).bind fun bt582 => ((impl_AllMarks.f k bt582.1 bt582.2).bind fun t586 => ((spec_AllMarks.f k bt582.1 bt582.2).bind fun t587 => (if t586 = t587 then (if t586 = (-2) then (some true) else (laws_FnMarks.l1 k bt582.1 bt582.2 t586 0)) else (some false))))))
def laws_FnMarks.l1 : Nat → List (S72) → Int → Int → Int → Option (Bool)
 | 0, _, _, _, _ => none
 | k + 1, x12, x13, x14, x15 => if x15 < (x12.length : Int) then (if 0 ≤ x15 then (if (rd_T72 x12 x15).f4 = true then (if ((rd_T72 x12 x15).f3 = true) then (laws_FnMarks.l1 k x12 x13 x14 (wrap64 (x15 + 1))) else (if x14 > ((rd_T72 x12 x15).f1) then (if x14 > x13 then (some false) else (laws_FnMarks.l1 k x12 x13 x14 (wrap64 (x15 + 1)))) else (laws_FnMarks.l1 k x12 x13 x14 (wrap64 (x15 + 1))))) else (laws_FnMarks.l1 k x12 x13 x14 (wrap64 (x15 + 1)))) else (none)) else (some (decide (x14 ≥ x13)))
end
def laws_FnMarks.f (k : Nat) (l0 : List Int) : Option (Bool) := (laws_big.f l0).bind fun t551 => (if t551 = true then (some true) else ((spec_DrawPlaySource.f k l0).bind fun bt552 => ((spec_PlaySource.f k bt552.1 bt552.2.1 bt552.2.2).bind fun bt557 => ((impl_PlaySource.f k bt552.1 bt552.2.1 bt552.2.2).bind fun bt566 => (if (!(bt566.1 == bt557.1) || (!(bt566.2.1 == bt557.2.1) || (!(bt566.2.2.1 == bt557.2.2.1) || (!(bt566.2.2.2.1 == bt557.2.2.2.1) || (!(bt566.2.2.2.2.1 == bt557.2.2.2.2.1)))))) = true then (laws_FnMarks.j0 k l0 bt566.2.2.2.2.2 true) else ((laws_same.f k bt566.2.2.2.2.2 bt557.2.2.2.2.2).bind fun t575 => (laws_FnMarks.j0 k l0 bt566.2.2.2.2.2 (!t575))))))))
theorem laws_FnMarks.mono_l : ∀ k, (∀ y0 y1 y2, LeO (laws_FnMarks.j0 k y0 y1 y2) (laws_FnMarks.j0 (k + 1) y0 y1 y2)) ∧ (∀ y0 y1 y2 y3, LeO (laws_FnMarks.l0 k y0 y1 y2 y3) (laws_FnMarks.l0 (k + 1) y0 y1 y2 y3)) ∧ (∀ y0 y1 y2 y3, LeO (laws_FnMarks.l1 k y0 y1 y2 y3) (laws_FnMarks.l1 (k + 1) y0 y1 y2 y3))
 | 0 => ⟨fun _ _ _ r h => by simp [laws_FnMarks.j0] at h, fun _ _ _ _ r h => by simp [laws_FnMarks.l0] at h, fun _ _ _ _ r h => by simp [laws_FnMarks.l1] at h⟩
 | k + 1 => by
  obtain ⟨ih0, ih1, ih2⟩ := laws_FnMarks.mono_l k
  refine ⟨?_, ?_, ?_⟩
  ·
   intro y0 y1 y2
   unfold laws_FnMarks.j0
   repeat' first
   | (with_reducible exact ih0 _ _ _)
   | (with_reducible exact ih1 _ _ _ _)
   | (with_reducible exact ih2 _ _ _ _)
   | (with_reducible exact impl_AllMarks.mono _ _ _)
   | (with_reducible exact impl_PlaySource.mono _ _ _ _)
   | (with_reducible exact laws_alt.mono _ _ _)
   | (with_reducible exact laws_same.mono _ _ _)
   | (with_reducible exact spec_AllMarks.mono _ _ _)
   | (with_reducible exact spec_DrawAllMarks.mono _ _)
   | (with_reducible exact spec_DrawPlaySource.mono _ _)
   | (with_reducible exact spec_PlaySource.mono _ _ _ _)
   | (with_reducible exact LeO.refl _)
   | (with_reducible exact LeO.none _)
   | (with_reducible refine LeO.ite ?_ ?_)
   | (with_reducible refine LeO.bind ?_ (fun _ => ?_))
   | exact ih0 _ _ _
   | exact ih1 _ _ _ _
   | exact ih2 _ _ _ _
   | exact impl_AllMarks.mono _ _ _
   | exact impl_PlaySource.mono _ _ _ _
   | exact laws_alt.mono _ _ _
   | exact laws_same.mono _ _ _
   | exact spec_AllMarks.mono _ _ _
   | exact spec_DrawAllMarks.mono _ _
   | exact spec_DrawPlaySource.mono _ _
   | exact spec_PlaySource.mono _ _ _ _
   | exact LeO.none _
   | refine LeO.ite ?_ ?_
   | refine LeO.bind ?_ (fun _ => ?_)
  ·
   intro y0 y1 y2 y3
   unfold laws_FnMarks.l0
   repeat' first
   | (with_reducible exact ih0 _ _ _)
   | (with_reducible exact ih1 _ _ _ _)
   | (with_reducible exact ih2 _ _ _ _)
   | (with_reducible exact impl_AllMarks.mono _ _ _)
   | (with_reducible exact impl_PlaySource.mono _ _ _ _)
   | (with_reducible exact laws_alt.mono _ _ _)
   | (with_reducible exact laws_same.mono _ _ _)
   | (with_reducible exact spec_AllMarks.mono _ _ _)
   | (with_reducible exact spec_DrawAllMarks.mono _ _)
   | (with_reducible exact spec_DrawPlaySource.mono _ _)
   | (with_reducible exact spec_PlaySource.mono _ _ _ _)
   | (with_reducible exact LeO.refl _)
   | (with_reducible exact LeO.none _)
   | (with_reducible refine LeO.ite ?_ ?_)
   | (with_reducible refine LeO.bind ?_ (fun _ => ?_))
   | exact ih0 _ _ _
   | exact ih1 _ _ _ _
   | exact ih2 _ _ _ _
   | exact impl_AllMarks.mono _ _ _
   | exact impl_PlaySource.mono _ _ _ _
   | exact laws_alt.mono _ _ _
   | exact laws_same.mono _ _ _
   | exact spec_AllMarks.mono _ _ _
   | exact spec_DrawAllMarks.mono _ _
   | exact spec_DrawPlaySource.mono _ _
   | exact spec_PlaySource.mono _ _ _ _
   | exact LeO.none _
   | refine LeO.ite ?_ ?_
   | refine LeO.bind ?_ (fun _ => ?_)
  ·
   intro y0 y1 y2 y3
   unfold laws_FnMarks.l1
   repeat' first
   | (with_reducible exact ih0 _ _ _)
   | (with_reducible exact ih1 _ _ _ _)
   | (with_reducible exact ih2 _ _ _ _)
   | (with_reducible exact impl_AllMarks.mono _ _ _)
   | (with_reducible exact impl_PlaySource.mono _ _ _ _)
   | (with_reducible exact laws_alt.mono _ _ _)
   | (with_reducible exact laws_same.mono _ _ _)
   | (with_reducible exact spec_AllMarks.mono _ _ _)
   | (with_reducible exact spec_DrawAllMarks.mono _ _)
   | (with_reducible exact spec_DrawPlaySource.mono _ _)
   | (with_reducible exact spec_PlaySource.mono _ _ _ _)
   | (with_reducible exact LeO.refl _)
   | (with_reducible exact LeO.none _)
   | (with_reducible refine LeO.ite ?_ ?_)
   | (with_reducible refine LeO.bind ?_ (fun _ => ?_))
   | exact ih0 _ _ _
   | exact ih1 _ _ _ _
   | exact ih2 _ _ _ _
   | exact impl_AllMarks.mono _ _ _
   | exact impl_PlaySource.mono _ _ _ _
   | exact laws_alt.mono _ _ _
   | exact laws_same.mono _ _ _
   | exact spec_AllMarks.mono _ _ _
   | exact spec_DrawAllMarks.mono _ _
   | exact spec_DrawPlaySource.mono _ _
   | exact spec_PlaySource.mono _ _ _ _
   | exact LeO.none _
   | refine LeO.ite ?_ ?_
   | refine LeO.bind ?_ (fun _ => ?_)
theorem laws_FnMarks.mono : ∀ a0 k, LeO (laws_FnMarks.f k a0) (laws_FnMarks.f (k + 1) a0) := by
 intro a0 k
 obtain ⟨ih0, ih1, ih2⟩ := laws_FnMarks.mono_l k
 unfold laws_FnMarks.f
 repeat' first
   | (with_reducible exact ih0 _ _ _)
   | (with_reducible exact ih1 _ _ _ _)
   | (with_reducible exact ih2 _ _ _ _)
   | (with_reducible exact impl_AllMarks.mono _ _ _)
   | (with_reducible exact impl_PlaySource.mono _ _ _ _)
   | (with_reducible exact laws_alt.mono _ _ _)
   | (with_reducible exact laws_same.mono _ _ _)
   | (with_reducible exact spec_AllMarks.mono _ _ _)
   | (with_reducible exact spec_DrawAllMarks.mono _ _)
   | (with_reducible exact spec_DrawPlaySource.mono _ _)
   | (with_reducible exact spec_PlaySource.mono _ _ _ _)
   | (with_reducible exact LeO.refl _)
   | (with_reducible exact LeO.none _)
   | (with_reducible refine LeO.ite ?_ ?_)
   | (with_reducible refine LeO.bind ?_ (fun _ => ?_))
   | exact ih0 _ _ _
   | exact ih1 _ _ _ _
   | exact ih2 _ _ _ _
   | exact impl_AllMarks.mono _ _ _
   | exact impl_PlaySource.mono _ _ _ _
   | exact laws_alt.mono _ _ _
   | exact laws_same.mono _ _ _
   | exact spec_AllMarks.mono _ _ _
   | exact spec_DrawAllMarks.mono _ _
   | exact spec_DrawPlaySource.mono _ _
   | exact spec_PlaySource.mono _ _ _ _
   | exact LeO.none _
   | refine LeO.ite ?_ ?_
   | refine LeO.bind ?_ (fun _ => ?_)
set_option maxHeartbeats 8000000 in
set_option maxRecDepth 100000 in
theorem laws_FnMarks.calls (k : Nat) (A0 : Option Addr) (c0 : Nat) (l0 : List Int) (r : Bool) (w : World) (hr0 : Kd.C (Kd.int .u8) w A0 l0.length l0) (hc0 : l0.length ≤ c0) (hT : Aside0 (r = true)) (h : laws_FnMarks.f k l0 = some r) :
  Calls Try.prog 11 #[.slice A0 l0.length c0] w fun e w' => e = .returned (.bool r) ∧ Below w.heap.size w w' := by
 have hu72 := Try.underlying72
 have HR0 := Aside0.mk hr0
 have HC0 := Aside0.mk hc0
 clear hr0 hc0
 have HB := am_ (Below.refl w.heap.size w)
 have H : ((laws_big.f l0).bind fun t551 => (if t551 = true then (some true) else ((spec_DrawPlaySource.f k l0).bind fun bt552 => ((spec_PlaySource.f k bt552.1 bt552.2.1 bt552.2.2).bind fun bt557 => ((impl_PlaySource.f k bt552.1 bt552.2.1 bt552.2.2).bind fun bt566 => (if (!(bt566.1 == bt557.1) || (!(bt566.2.1 == bt557.2.1) || (!(bt566.2.2.1 == bt557.2.2.1) || (!(bt566.2.2.2.1 == bt557.2.2.2.1) || (!(bt566.2.2.2.2.1 == bt557.2.2.2.2.1)))))) = true then (laws_FnMarks.j0 k l0 bt566.2.2.2.2.2 true) else ((laws_same.f k bt566.2.2.2.2.2 bt557.2.2.2.2.2).bind fun t575 => (laws_FnMarks.j0 k l0 bt566.2.2.2.2.2 (!t575))))))))) = some r := h
 clear h
 replace H := Option.bind_eq_some_iff.mp H
 obtain ⟨t551, A20, H⟩ := H
 replace H : (if t551 = true then (some true) else ((spec_DrawPlaySource.f k l0).bind fun bt552 => ((spec_PlaySource.f k bt552.1 bt552.2.1 bt552.2.2).bind fun bt557 => ((impl_PlaySource.f k bt552.1 bt552.2.1 bt552.2.2).bind fun bt566 => (if (!(bt566.1 == bt557.1) || (!(bt566.2.1 == bt557.2.1) || (!(bt566.2.2.1 == bt557.2.2.1) || (!(bt566.2.2.2.1 == bt557.2.2.2.1) || (!(bt566.2.2.2.2.1 == bt557.2.2.2.2.1)))))) = true then (laws_FnMarks.j0 k l0 bt566.2.2.2.2.2 true) else ((laws_same.f k bt566.2.2.2.2.2 bt557.2.2.2.2.2).bind fun t575 => (laws_FnMarks.j0 k l0 bt566.2.2.2.2.2 (!t575)))))))) = some r := H
 have A2 := Aside0.mk A20
 clear A20
 by_cases c3 : t551 = true
 ·
  subst c3
  have H1 : (some true) = some r := by rw [if_pos rfl] at H; exact H
  clear H
  have H := H1
  clear H1
  obtain rfl := Option.some.inj H
  go_enter Try.func11, Try.ntmps11
  go_wp2_with (first | ((with_reducible refine gate_callee (f := 31) rfl ?_); refine goesL_ (some 17) rfl rfl Try.func31 (by kernel_rfl) rfl #[.slice A0 l0.length c0] rfl ul_ ?_; (with_reducible refine (laws_big.calls _ _ l0 true _ ?side1 ?side2 A2.out).mono ?_); (case side1 => repeat (first | exact HR0.out | (with_reducible refine Kd.C_alloc ?_ _) | (with_reducible refine Kd.C_drewN ?_ _) | (with_reducible refine Kd.C_drew ?_))); (case side2 => exact HC0.out); rintro e w' ⟨rfl, ⟨nd, rfl⟩⟩; refine ⟨_, rfl, ?_⟩))
  go_ret
  exact ⟨ew_, ue_ HB.out⟩
 ·
  replace c3 := Bool.eq_false_iff.mpr c3
  subst c3
  have H1 : ((spec_DrawPlaySource.f k l0).bind fun bt552 => ((spec_PlaySource.f k bt552.1 bt552.2.1 bt552.2.2).bind fun bt557 => ((impl_PlaySource.f k bt552.1 bt552.2.1 bt552.2.2).bind fun bt566 => (if (!(bt566.1 == bt557.1) || (!(bt566.2.1 == bt557.2.1) || (!(bt566.2.2.1 == bt557.2.2.1) || (!(bt566.2.2.2.1 == bt557.2.2.2.1) || (!(bt566.2.2.2.2.1 == bt557.2.2.2.2.1)))))) = true then (laws_FnMarks.j0 k l0 bt566.2.2.2.2.2 true) else ((laws_same.f k bt566.2.2.2.2.2 bt557.2.2.2.2.2).bind fun t575 => (laws_FnMarks.j0 k l0 bt566.2.2.2.2.2 (!t575))))))) = some r := by rw [if_neg (show ¬ (false = true) by decide)] at H; exact H
  clear H
  have H := H1
  clear H1
  replace H := Option.bind_eq_some_iff.mp H
  obtain ⟨⟨t552, t553, t554⟩, A40, H⟩ := H
  replace H : ((spec_PlaySource.f k t552 t553 t554).bind fun bt557 => ((impl_PlaySource.f k t552 t553 t554).bind fun bt566 => (if (!(bt566.1 == bt557.1) || (!(bt566.2.1 == bt557.2.1) || (!(bt566.2.2.1 == bt557.2.2.1) || (!(bt566.2.2.2.1 == bt557.2.2.2.1) || (!(bt566.2.2.2.2.1 == bt557.2.2.2.2.1)))))) = true then (laws_FnMarks.j0 k l0 bt566.2.2.2.2.2 true) else ((laws_same.f k bt566.2.2.2.2.2 bt557.2.2.2.2.2).bind fun t575 => (laws_FnMarks.j0 k l0 bt566.2.2.2.2.2 (!t575)))))) = some r := H
  have A4 := Aside0.mk A40
  clear A40
  replace H := Option.bind_eq_some_iff.mp H
  obtain ⟨⟨t557, t558, t559, t560, t561, t562⟩, A50, H⟩ := H
  replace H : ((impl_PlaySource.f k t552 t553 t554).bind fun bt566 => (if (!(bt566.1 == t557) || (!(bt566.2.1 == t558) || (!(bt566.2.2.1 == t559) || (!(bt566.2.2.2.1 == t560) || (!(bt566.2.2.2.2.1 == t561)))))) = true then (laws_FnMarks.j0 k l0 bt566.2.2.2.2.2 true) else ((laws_same.f k bt566.2.2.2.2.2 t562).bind fun t575 => (laws_FnMarks.j0 k l0 bt566.2.2.2.2.2 (!t575))))) = some r := H
  have A5 := Aside0.mk A50
  clear A50
  replace H := Option.bind_eq_some_iff.mp H
  obtain ⟨⟨t566, t567, t568, t569, t570, t571⟩, A60, H⟩ := H
  replace H : (if (!(t566 == t557) || (!(t567 == t558) || (!(t568 == t559) || (!(t569 == t560) || (!(t570 == t561)))))) = true then (laws_FnMarks.j0 k l0 t571 true) else ((laws_same.f k t571 t562).bind fun t575 => (laws_FnMarks.j0 k l0 t571 (!t575)))) = some r := H
  have A6 := Aside0.mk A60
  clear A60
  have HC7 := Aside0.mk H
  clear H
  go_enter Try.func11, Try.ntmps11
  go_upto_region 6 with (first | ((with_reducible refine gate_callee (f := 31) rfl ?_); refine goesL_ (some 17) rfl rfl Try.func31 (by kernel_rfl) rfl #[.slice A0 l0.length c0] rfl ul_ ?_; (with_reducible refine (laws_big.calls _ _ l0 false _ ?side1 ?side2 A2.out).mono ?_); (case side1 => repeat (first | exact HR0.out | (with_reducible refine Kd.C_alloc ?_ _) | (with_reducible refine Kd.C_drewN ?_ _) | (with_reducible refine Kd.C_drew ?_))); (case side2 => exact HC0.out); rintro e w' ⟨rfl, ⟨nd, rfl⟩⟩; refine ⟨_, rfl, ?_⟩) | ((with_reducible refine gate_callee (f := 64) rfl ?_); refine goesL_ (some 20) rfl rfl Try.func64 (by kernel_rfl) rfl #[.slice A0 l0.length c0] rfl ul_ ?_; (with_reducible refine (spec_DrawPlaySource.calls k _ _ l0 t552 t553 t554 _ ?side1 ?side2 A4.out).mono ?_); (case side1 => repeat (first | exact HR0.out | (with_reducible refine Kd.C_alloc ?_ _) | (with_reducible refine Kd.C_drewN ?_ _) | (with_reducible refine Kd.C_drew ?_))); (case side2 => exact HC0.out); rintro e w8 ⟨v555, rfl, ho0, hb⟩; refine ⟨_, rfl, ?_⟩; have n0_ := am_ (Kd.S_lower ho0 (below_size (ue_ HB.out))); have n1_ := am_ (below_step (ue_ HB.out) hb); clear HB; have HO556 := n0_; have HB := n1_; clear n0_ n1_; (try clear hb); (try clear hb2); (try clear hk); (try clear hi); (try clear ho0); obtain ⟨Ao9, co9, eo9⟩ := Kd.S_slice HO556.out; subst eo9) | ((with_reducible refine gate_callee (f := 51) rfl ?_); refine goesL_ (some 28) rfl rfl Try.func51 (by kernel_rfl) rfl #[.int .i64 t552, .int .i64 t553, .slice Ao9 t554.length co9] rfl ul_ ?_; (with_reducible refine (spec_PlaySource.calls k t552 t553 _ _ t554 t557 t558 t559 t560 t561 t562 _ ?side1 ?side2 A5.out).mono ?_); (case side1 => repeat (first | exact (Kd.S_reads' HO556.out).2.2 | (with_reducible refine Kd.C_alloc ?_ _) | (with_reducible refine Kd.C_drewN ?_ _) | (with_reducible refine Kd.C_drew ?_))); (case side2 => exact (Kd.S_reads' HO556.out).2.1); rintro e w10 ⟨v563, rfl, ho0, hb⟩; refine ⟨_, rfl, ?_⟩; have n0_ := am_ (Kd.S_elder' (by (with_reducible repeat (first | apply Kd.S_alloc | apply Kd.S_drewN | apply Kd.S_drew)); exact HO556.out) (Kd.R_base ho0) hb); have n1_ := am_ (Kd.R_lower ho0 (below_size (ue_ HB.out))); have n2_ := am_ (below_step (ue_ HB.out) hb); clear HO556 HB; have HO556 := n0_; have HO564 := n1_; have HB := n2_; clear n0_ n1_ n2_; (try clear hb); (try clear hb2); (try clear hk); (try clear hi); (try clear ho0)) | ((with_reducible refine gate_dst (N := 6) rfl ?_); refine box_event ?hg (N := 6) ?hd (cs := #[.int .i64 0, .int .i64 0, .int .i64 0, .bool false, .bool false]) (t := 72) ?hr ?_; (case hd => rfl); (case hg => rfl); (case hr => first | (go_simp; done) | (go_simp; rfl)); intro gb565 hg w11 hbox hb; have n0_ := am_ (Kd.S_below (by (with_reducible repeat (first | apply Kd.S_alloc | apply Kd.S_drewN | apply Kd.S_drew)); exact HO556.out) hb); have n1_ := am_ (Kd.R_below (ur_ HO564.out) hb); have n2_ := am_ (below_step (ue_ HB.out) hb); have n3_ := am_ (hbox); have n4_ := am_ ((by rw [hg]; exact (below_size (ue_ HB.out)) : w.heap.size ≤ gb565)); have n5_ := am_ ((by rw [hg]; exact (below_size (ue_ HB.out)) : w.heap.size ≤ gb565)); clear HO556 HO564 HB; have HO556 := n0_; have HO564 := n1_; have HB := n2_; have BK565 := n3_; have GW565 := n4_; have GE565 := n5_; clear n0_ n1_ n2_ n3_ n4_ n5_; clear hb hbox hg; obtain ⟨hcz12_0, hcz12_1, hcz12_2, hcz12_3, hcz12_4⟩ := cb5_ BK565.out; obtain ⟨hfz12_0, hfz12_1, hfz12_2, hfz12_3⟩ := bf4_ BK565.out; have hfz12_4 := blk_frozen BK565.out 4) | ((with_reducible refine gate_store (t := 72) (p := 6) rfl ?_); refine store_event (t := 72) (p := 6) (v := ?vo_w13) (w1 := (((((w11.setCell ⟨gb565, 0, none⟩ (.int .i64 t557)).setCell ⟨gb565, 1, none⟩ (.int .i64 t558)).setCell ⟨gb565, 2, none⟩ (.int .i64 t559)).setCell ⟨gb565, 3, none⟩ (.bool t560)).setCell ⟨gb565, 4, none⟩ (.bool t561))) ?hg ?ho ?hn ?hr ?_; (case ho => rfl); (case hg => rfl); (case hn => rfl); (case hr => first | (go_simp; done) | (go_simp; rfl)); intro w13 hw; have n0_ : Aside0 (Kd.S (Kd.slice 3 (Kd.int .i64)) 22 w13 w.heap.size (fun k_ => some k_ ≠ (v563 : Value).ownBlock) (.slice Ao9 t554.length co9) t554) := ⟨(by rw [hw]; exact (by (with_reducible repeat (first | apply Kd.S_alloc | apply Kd.S_drewN | apply Kd.S_drew)); exact Kd.S_mono (Kd.S_far (p := ⟨gb565, 4, none⟩) (Kd.S_far (p := ⟨gb565, 3, none⟩) (Kd.S_far (p := ⟨gb565, 2, none⟩) (Kd.S_far (p := ⟨gb565, 1, none⟩) (Kd.S_far (p := ⟨gb565, 0, none⟩) (Kd.S_types HO556.out BK565.out (by decide)) (fun _ hk => by first | exact hk.2 | grind) (.int .i64 t557)) (fun _ hk => by first | exact hk.2 | grind) (.int .i64 t558)) (fun _ hk => by first | exact hk.2 | grind) (.int .i64 t559)) (fun _ hk => by first | exact hk.2 | grind) (.bool t560)) (fun _ hk => by first | exact hk.2 | grind) (.bool t561)) (fun _ hk => by first | exact hk.1.2 | grind)))⟩; have n1_ : Aside0 (Kd.R (Kd.int .i64) 3 w13 w.heap.size (fun _ => True) v563 t562) := ⟨(by rw [hw]; exact (by (with_reducible repeat (first | apply Kd.R_alloc | apply Kd.R_drewN | apply Kd.R_drew)); exact Kd.R_mono (Kd.R_far (p := ⟨gb565, 4, none⟩) (Kd.R_far (p := ⟨gb565, 3, none⟩) (Kd.R_far (p := ⟨gb565, 2, none⟩) (Kd.R_far (p := ⟨gb565, 1, none⟩) (Kd.R_far (p := ⟨gb565, 0, none⟩) (Kd.R_types HO564.out BK565.out (by decide)) (fun _ hk => by first | exact hk.2 | grind) (.int .i64 t557)) (fun _ hk => by first | exact hk.2 | grind) (.int .i64 t558)) (fun _ hk => by first | exact hk.2 | grind) (.int .i64 t559)) (fun _ hk => by first | exact hk.2 | grind) (.bool t560)) (fun _ hk => by first | exact hk.2 | grind) (.bool t561)) (fun _ hk => trivial)))⟩; have n2_ : Aside0 (w13.heap[gb565]? = some (.cells #[.int .i64 t557, .int .i64 t558, .int .i64 t559, .bool t560, .bool t561] 72 (0, 0))) := ⟨(by rw [hw]; exact (by (with_reducible repeat first|apply bn_|apply bd_|apply ba_); refine blk_put (cs := #[.int .i64 t557, .int .i64 t558, .int .i64 t559, .bool t560, .bool false]) ?_ 4 _ rfl; refine blk_put (cs := #[.int .i64 t557, .int .i64 t558, .int .i64 t559, .bool false, .bool false]) ?_ 3 _ rfl; refine blk_put (cs := #[.int .i64 t557, .int .i64 t558, .int .i64 0, .bool false, .bool false]) ?_ 2 _ rfl; refine blk_put (cs := #[.int .i64 t557, .int .i64 0, .int .i64 0, .bool false, .bool false]) ?_ 1 _ rfl; refine blk_put (cs := #[.int .i64 0, .int .i64 0, .int .i64 0, .bool false, .bool false]) ?_ 0 _ rfl; (with_reducible repeat first|apply bn_|apply bd_|apply ba_); exact BK565.out))⟩; have n3_ : Aside0 (Below w.heap.size w w13) := ⟨(by rw [hw]; exact (ue_ HB.out))⟩; clear hw HO556 HO564 BK565 HB; have HO556 := n0_; have HO564 := n1_; have BK565 := n2_; have HB := n3_; clear n0_ n1_ n2_ n3_) | ((with_reducible refine gate_callee (f := 53) rfl ?_); refine goesL_ (some 35) rfl rfl Try.func53 (by kernel_rfl) rfl #[.int .i64 t552, .int .i64 t553, .slice Ao9 t554.length co9] rfl ul_ ?_; (with_reducible refine (impl_PlaySource.calls k t552 t553 _ _ t554 t566 t567 t568 t569 t570 t571 _ ?side1 ?side2 A6.out).mono ?_); (case side1 => repeat (first | exact (Kd.S_reads' HO556.out).2.2 | (with_reducible refine Kd.C_alloc ?_ _) | (with_reducible refine Kd.C_drewN ?_ _) | (with_reducible refine Kd.C_drew ?_))); (case side2 => exact (Kd.S_reads' HO556.out).2.1); rintro e w14 ⟨v572, rfl, ho0, hb⟩; refine ⟨_, rfl, ?_⟩; have n0_ := am_ (Kd.S_elder' (by (with_reducible repeat (first | apply Kd.S_alloc | apply Kd.S_drewN | apply Kd.S_drew)); exact HO556.out) (Kd.R_base ho0) hb); have n1_ := am_ (Kd.R_elder' (ur_ HO564.out) (Kd.R_base ho0) hb); have n2_ := am_ (Kd.R_lower (Kd.R_new' ho0 (Kd.R_lt (ur_ HO564.out))) (below_size (ue_ HB.out))); have n3_ := am_ (bb_ BK565.out hb); have n4_ := am_ (below_step (ue_ HB.out) hb); clear HO556 HO564 BK565 HB; have HO556 := n0_; have HO564 := n1_; have HO573 := n2_; have BK565 := n3_; have HB := n4_; clear n0_ n1_ n2_ n3_ n4_; (try clear hb); (try clear hb2); (try clear hk); (try clear hi); (try clear ho0)) | ((with_reducible refine gate_dst (N := 8) rfl ?_); refine box_event ?hg (N := 8) ?hd (cs := #[.int .i64 0, .int .i64 0, .int .i64 0, .bool false, .bool false]) (t := 72) ?hr ?_; (case hd => rfl); (case hg => rfl); (case hr => first | (go_simp; done) | (go_simp; rfl)); intro gb574 hg w15 hbox hb; have n0_ := am_ (Kd.S_below (by (with_reducible repeat (first | apply Kd.S_alloc | apply Kd.S_drewN | apply Kd.S_drew)); exact HO556.out) hb); have n1_ := am_ (Kd.R_below (ur_ HO564.out) hb); have n2_ := am_ (Kd.R_below (ur_ HO573.out) hb); have n3_ := am_ (bb_ BK565.out hb); have n4_ := am_ (below_step (ue_ HB.out) hb); have n5_ := am_ (hbox); have n6_ := am_ ((by rw [hg]; exact (below_size (ue_ HB.out)) : w.heap.size ≤ gb574)); have n7_ := am_ ((by rw [hg]; exact (below_size (ue_ HB.out)) : w.heap.size ≤ gb574)); have n8_ := am_ ((by rw [hg]; exact Nat.ne_of_lt (bl_ BK565.out) : gb565 ≠ gb574)); have n9_ := am_ ((by rw [hg]; exact Nat.ne_of_gt (bl_ BK565.out) : gb574 ≠ gb565)); clear HO556 HO564 HO573 BK565 HB; have HO556 := n0_; have HO564 := n1_; have HO573 := n2_; have BK565 := n3_; have HB := n4_; have BK574 := n5_; have GW574 := n6_; have GE574 := n7_; have NB565_574 := n8_; have NB574_565 := n9_; clear n0_ n1_ n2_ n3_ n4_ n5_ n6_ n7_ n8_ n9_; clear hb hbox hg; have hnb16 := NB574_565.out; have hnc16 := NB565_574.out; obtain ⟨hcz17_0, hcz17_1, hcz17_2, hcz17_3, hcz17_4⟩ := cb5_ BK574.out; obtain ⟨hfz17_0, hfz17_1, hfz17_2, hfz17_3⟩ := bf4_ BK574.out; have hfz17_4 := blk_frozen BK574.out 4) | ((with_reducible refine gate_store (t := 72) (p := 8) rfl ?_); refine store_event (t := 72) (p := 8) (v := ?vo_w18) (w1 := (((((w15.setCell ⟨gb574, 0, none⟩ (.int .i64 t566)).setCell ⟨gb574, 1, none⟩ (.int .i64 t567)).setCell ⟨gb574, 2, none⟩ (.int .i64 t568)).setCell ⟨gb574, 3, none⟩ (.bool t569)).setCell ⟨gb574, 4, none⟩ (.bool t570))) ?hg ?ho ?hn ?hr ?_; (case ho => rfl); (case hg => rfl); (case hn => rfl); (case hr => first | (go_simp; done) | (go_simp; rfl)); intro w18 hw; have n0_ : Aside0 (Kd.S (Kd.slice 3 (Kd.int .i64)) 22 w18 w.heap.size (fun k_ => some k_ ≠ (v563 : Value).ownBlock ∧ some k_ ≠ (v572 : Value).ownBlock) (.slice Ao9 t554.length co9) t554) := ⟨(by rw [hw]; exact (by (with_reducible repeat (first | apply Kd.S_alloc | apply Kd.S_drewN | apply Kd.S_drew)); exact Kd.S_mono (Kd.S_far (p := ⟨gb574, 4, none⟩) (Kd.S_far (p := ⟨gb574, 3, none⟩) (Kd.S_far (p := ⟨gb574, 2, none⟩) (Kd.S_far (p := ⟨gb574, 1, none⟩) (Kd.S_far (p := ⟨gb574, 0, none⟩) (Kd.S_types HO556.out BK574.out (by decide)) (fun _ hk => by first | exact hk.2 | grind) (.int .i64 t566)) (fun _ hk => by first | exact hk.2 | grind) (.int .i64 t567)) (fun _ hk => by first | exact hk.2 | grind) (.int .i64 t568)) (fun _ hk => by first | exact hk.2 | grind) (.bool t569)) (fun _ hk => by first | exact hk.2 | grind) (.bool t570)) (fun _ hk => by first | exact ⟨hk.1.1, hk.1.2⟩ | grind)))⟩; have n1_ : Aside0 (Kd.R (Kd.int .i64) 3 w18 w.heap.size (fun k_ => some k_ ≠ (v572 : Value).ownBlock) v563 t562) := ⟨(by rw [hw]; exact (by (with_reducible repeat (first | apply Kd.R_alloc | apply Kd.R_drewN | apply Kd.R_drew)); exact Kd.R_mono (Kd.R_far (p := ⟨gb574, 4, none⟩) (Kd.R_far (p := ⟨gb574, 3, none⟩) (Kd.R_far (p := ⟨gb574, 2, none⟩) (Kd.R_far (p := ⟨gb574, 1, none⟩) (Kd.R_far (p := ⟨gb574, 0, none⟩) (Kd.R_types HO564.out BK574.out (by decide)) (fun _ hk => by first | exact hk.2 | grind) (.int .i64 t566)) (fun _ hk => by first | exact hk.2 | grind) (.int .i64 t567)) (fun _ hk => by first | exact hk.2 | grind) (.int .i64 t568)) (fun _ hk => by first | exact hk.2 | grind) (.bool t569)) (fun _ hk => by first | exact hk.2 | grind) (.bool t570)) (fun _ hk => by first | exact hk.1.2 | grind)))⟩; have n2_ : Aside0 (Kd.R (Kd.int .i64) 3 w18 w.heap.size (fun k_ => some k_ ≠ (v563 : Value).ownBlock) v572 t571) := ⟨(by rw [hw]; exact (by (with_reducible repeat (first | apply Kd.R_alloc | apply Kd.R_drewN | apply Kd.R_drew)); exact Kd.R_mono (Kd.R_far (p := ⟨gb574, 4, none⟩) (Kd.R_far (p := ⟨gb574, 3, none⟩) (Kd.R_far (p := ⟨gb574, 2, none⟩) (Kd.R_far (p := ⟨gb574, 1, none⟩) (Kd.R_far (p := ⟨gb574, 0, none⟩) (Kd.R_types HO573.out BK574.out (by decide)) (fun _ hk => by first | exact hk.2 | grind) (.int .i64 t566)) (fun _ hk => by first | exact hk.2 | grind) (.int .i64 t567)) (fun _ hk => by first | exact hk.2 | grind) (.int .i64 t568)) (fun _ hk => by first | exact hk.2 | grind) (.bool t569)) (fun _ hk => by first | exact hk.2 | grind) (.bool t570)) (fun _ hk => by first | exact hk.1.2 | grind)))⟩; have n3_ : Aside0 (w18.heap[gb565]? = some (.cells #[.int .i64 t557, .int .i64 t558, .int .i64 t559, .bool t560, .bool t561] 72 (0, 0))) := ⟨(by rw [hw]; exact (uf_ BK565.out))⟩; have n4_ : Aside0 (w18.heap[gb574]? = some (.cells #[.int .i64 t566, .int .i64 t567, .int .i64 t568, .bool t569, .bool t570] 72 (0, 0))) := ⟨(by rw [hw]; exact (by (with_reducible repeat first|apply bn_|apply bd_|apply ba_); refine blk_put (cs := #[.int .i64 t566, .int .i64 t567, .int .i64 t568, .bool t569, .bool false]) ?_ 4 _ rfl; refine blk_put (cs := #[.int .i64 t566, .int .i64 t567, .int .i64 t568, .bool false, .bool false]) ?_ 3 _ rfl; refine blk_put (cs := #[.int .i64 t566, .int .i64 t567, .int .i64 0, .bool false, .bool false]) ?_ 2 _ rfl; refine blk_put (cs := #[.int .i64 t566, .int .i64 0, .int .i64 0, .bool false, .bool false]) ?_ 1 _ rfl; refine blk_put (cs := #[.int .i64 0, .int .i64 0, .int .i64 0, .bool false, .bool false]) ?_ 0 _ rfl; (with_reducible repeat first|apply bn_|apply bd_|apply ba_); exact BK574.out))⟩; have n5_ : Aside0 (Below w.heap.size w w18) := ⟨(by rw [hw]; exact (ue_ HB.out))⟩; clear hw HO556 HO564 HO573 BK565 BK574 HB; have HO556 := n0_; have HO564 := n1_; have HO573 := n2_; have BK565 := n3_; have BK574 := n4_; have HB := n5_; clear n0_ n1_ n2_ n3_ n4_ n5_))
  (try simp only [Act.put, List.setIfInBounds_toArray, List.set_cons_zero, List.set_cons_succ])
  go_cut [46] (fun v46 wc => ∃ (kq : Nat) (x46_6 : Bool), v46 = .bool x46_6 ∧ Aside0 (laws_FnMarks.j0 kq l0 t571 x46_6 = some r) ∧ Aside0 (kq ≤ k) ∧ Aside0 (Kd.R (Kd.int .i64) 3 wc w.heap.size (fun _ => True) v572 t571) ∧ Aside0 (wc.heap[gb565]? = some (.cells #[.int .i64 t557, .int .i64 t558, .int .i64 t559, .bool t560, .bool t561] 72 (0, 0))) ∧ Aside0 (wc.heap[gb574]? = some (.cells #[.int .i64 t566, .int .i64 t567, .int .i64 t568, .bool t569, .bool t570] 72 (0, 0))) ∧ Aside0 (Below w.heap.size w wc))
  case first =>
   have H := HC7.out
   clear HC7
   by_cases c19 : (!(t566 == t557) || (!(t567 == t558) || (!(t568 == t559) || (!(t569 == t560) || (!(t570 == t561)))))) = true
   ·
    rw [if_pos c19] at H
    have c19b0 : (!(t566 == t557) || (!(t567 == t558) || (!(t568 == t559) || (!(t569 == t560) || (!(t570 == t561)))))) = true := c19
    clear c19
    (first | rw [c19b0] | (simp only [i64_w, i32_w]; rw [c19b0]) | skip)
    have H' := Aside0.mk H
    clear H
    have hnb20 := NB574_565.out
    have hnc20 := NB565_574.out
    have hcz21_0 := cb_ BK574.out 0 rfl
    have hcz21_1 := cb_ BK574.out 1 rfl
    have hcz21_2 := cb_ BK574.out 2 rfl
    have hcz21_3 := cb_ BK574.out 3 rfl
    have hcz21_4 := cb_ BK574.out 4 rfl
    have hfz21_0 := blk_frozen BK574.out 0
    have hfz21_1 := blk_frozen BK574.out 1
    have hfz21_2 := blk_frozen BK574.out 2
    have hfz21_3 := blk_frozen BK574.out 3
    have hfz21_4 := blk_frozen BK574.out 4
    have hcz22_0 := cb_ BK565.out 0 rfl
    have hcz22_1 := cb_ BK565.out 1 rfl
    have hcz22_2 := cb_ BK565.out 2 rfl
    have hcz22_3 := cb_ BK565.out 3 rfl
    have hcz22_4 := cb_ BK565.out 4 rfl
    have hfz22_0 := blk_frozen BK565.out 0
    have hfz22_1 := blk_frozen BK565.out 1
    have hfz22_2 := blk_frozen BK565.out 2
    have hfz22_3 := blk_frozen BK565.out 3
    have hfz22_4 := blk_frozen BK565.out 4
    go_wp2
    go_meet
    case rel => exact ⟨_, (true), (by first | rfl | (simp; done) | (simp [*]; done)), H', ⟨by first | omega | exact Nat.le_refl _⟩, ⟨by (with_reducible repeat (first | apply Kd.R_alloc | apply Kd.R_drewN | apply Kd.R_drew)); exact Kd.R_mono HO573.out (fun _ hk => trivial)⟩, ⟨by (with_reducible repeat first|apply bn_|apply bd_|apply ba_); exact BK565.out⟩, ⟨by (with_reducible repeat first|apply bn_|apply bd_|apply ba_); exact BK574.out⟩, ⟨ue_ HB.out⟩⟩
   ·
    rw [if_neg c19] at H
    have c19b0 : (!(t566 == t557) || (!(t567 == t558) || (!(t568 == t559) || (!(t569 == t560) || (!(t570 == t561)))))) = false := by simpa using c19
    clear c19
    (first | rw [c19b0] | (simp only [i64_w, i32_w]; rw [c19b0]) | skip)
    replace H := Option.bind_eq_some_iff.mp H
    obtain ⟨t575, A230, H⟩ := H
    replace H : (laws_FnMarks.j0 k l0 t571 (!t575)) = some r := H
    have A23 := Aside0.mk A230
    clear A230
    have H' := Aside0.mk H
    clear H
    have hnb24 := NB574_565.out
    have hnc24 := NB565_574.out
    have hcz25_0 := cb_ BK574.out 0 rfl
    have hcz25_1 := cb_ BK574.out 1 rfl
    have hcz25_2 := cb_ BK574.out 2 rfl
    have hcz25_3 := cb_ BK574.out 3 rfl
    have hcz25_4 := cb_ BK574.out 4 rfl
    have hfz25_0 := blk_frozen BK574.out 0
    have hfz25_1 := blk_frozen BK574.out 1
    have hfz25_2 := blk_frozen BK574.out 2
    have hfz25_3 := blk_frozen BK574.out 3
    have hfz25_4 := blk_frozen BK574.out 4
    have hcz26_0 := cb_ BK565.out 0 rfl
    have hcz26_1 := cb_ BK565.out 1 rfl
    have hcz26_2 := cb_ BK565.out 2 rfl
    have hcz26_3 := cb_ BK565.out 3 rfl
    have hcz26_4 := cb_ BK565.out 4 rfl
    have hfz26_0 := blk_frozen BK565.out 0
    have hfz26_1 := blk_frozen BK565.out 1
    have hfz26_2 := blk_frozen BK565.out 2
    have hfz26_3 := blk_frozen BK565.out 3
    have hfz26_4 := blk_frozen BK565.out 4
    obtain ⟨Ao27, co27, eo27⟩ := Kd.R_slice HO573.out
    subst eo27
    obtain ⟨Ao28, co28, eo28⟩ := Kd.R_slice HO564.out
    subst eo28
    go_wp2_with (first | (go_at_call 33; (with_reducible refine (laws_same.calls k _ _ t571 _ _ t562 t575 _ ?side1 ?side2 ?side3 ?side4 A23.out).mono ?_); (case side1 => repeat (first | exact (Kd.R_reads' HO573.out).2.2 | (with_reducible refine Kd.C_alloc ?_ _) | (with_reducible refine Kd.C_drewN ?_ _) | (with_reducible refine Kd.C_drew ?_))); (case side2 => exact (Kd.R_reads' HO573.out).2.1); (case side3 => repeat (first | exact (Kd.R_reads' HO564.out).2.2 | (with_reducible refine Kd.C_alloc ?_ _) | (with_reducible refine Kd.C_drewN ?_ _) | (with_reducible refine Kd.C_drew ?_))); (case side4 => exact (Kd.R_reads' HO564.out).2.1); rintro e w' ⟨rfl, ⟨nd, rfl⟩⟩))
    go_meet
    case rel => exact ⟨_, (!t575), (by first | rfl | (simp; done) | (simp [*]; done)), H', ⟨by first | omega | exact Nat.le_refl _⟩, ⟨by (with_reducible repeat (first | apply Kd.R_alloc | apply Kd.R_drewN | apply Kd.R_drew)); exact Kd.R_mono HO573.out (fun _ hk => trivial)⟩, ⟨by (with_reducible repeat first|apply bn_|apply bd_|apply ba_); exact BK565.out⟩, ⟨by (with_reducible repeat first|apply bn_|apply bd_|apply ba_); exact BK574.out⟩, ⟨ue_ HB.out⟩⟩
  case rest =>
   clear HC7
   try clear c1
   try clear c2
   try clear p2
   try clear c3
   try clear c5
   try clear c6
   try clear c11
   try clear c16
   try clear c19
   try clear c19b0
   try clear c20
   try clear c24
   try clear hcz12_0
   try clear hcz12_1
   try clear hcz12_2
   try clear hcz12_3
   try clear hcz12_4
   try clear hcz17_0
   try clear hcz17_1
   try clear hcz17_2
   try clear hcz17_3
   try clear hcz17_4
   try clear hcz21_0
   try clear hcz21_1
   try clear hcz21_2
   try clear hcz21_3
   try clear hcz21_4
   try clear hcz22_0
   try clear hcz22_1
   try clear hcz22_2
   try clear hcz22_3
   try clear hcz22_4
   try clear hcz25_0
   try clear hcz25_1
   try clear hcz25_2
   try clear hcz25_3
   try clear hcz25_4
   try clear hcz26_0
   try clear hcz26_1
   try clear hcz26_2
   try clear hcz26_3
   try clear hcz26_4
   try clear hfz12_0
   try clear hfz12_1
   try clear hfz12_2
   try clear hfz12_3
   try clear hfz12_4
   try clear hfz17_0
   try clear hfz17_1
   try clear hfz17_2
   try clear hfz17_3
   try clear hfz17_4
   try clear hfz21_0
   try clear hfz21_1
   try clear hfz21_2
   try clear hfz21_3
   try clear hfz21_4
   try clear hfz22_0
   try clear hfz22_1
   try clear hfz22_2
   try clear hfz22_3
   try clear hfz22_4
   try clear hfz25_0
   try clear hfz25_1
   try clear hfz25_2
   try clear hfz25_3
   try clear hfz25_4
   try clear hfz26_0
   try clear hfz26_1
   try clear hfz26_2
   try clear hfz26_3
   try clear hfz26_4
   obtain ⟨kq, x46_6, rfl, HA, HJ6, HO_9, BK565, BK574, HB⟩ := hcut
   cases kq with
   | zero => exact absurd HA.out (by simp [laws_FnMarks.j0])
   | succ kj6 =>
    have H := HA.out
    clear HA
    simp only [laws_FnMarks.j0] at H
    by_cases c29 : x46_6 = true
    ·
     subst c29
     have H1 : (some false) = some r := by rw [if_pos rfl] at H; exact H
     clear H
     have H := H1
     clear H1
     exact absurd ((Option.some.inj H).trans hT.out) (by decide)
    ·
     replace c29 := Bool.eq_false_iff.mpr c29
     subst c29
     have H1 : (laws_FnMarks.l0 kj6 l0 t571 (-1) 0) = some r := by rw [if_neg (show ¬ (false = true) by decide)] at H; exact H
     clear H
     have H := H1
     clear H1
     have H' := Aside0.mk H
     clear H
     go_wp2
     (try simp only [Act.put, List.setIfInBounds_toArray, List.set_cons_zero, List.set_cons_succ])
     go_loopg [10, 11] kj6 (fun kq v10 v11 w' => ∃ (x10_2 : Int) (x11_2 : Int), v10 = .int .i64 x10_2 ∧ v11 = .int .i64 x11_2 ∧ Aside0 (laws_FnMarks.l0 kq l0 t571 x10_2 x11_2 = some r) ∧ Aside0 (kq ≤ kj6) ∧ Aside0 (Kd.R (Kd.int .i64) 3 w' w.heap.size (fun _ => True) v572 t571) ∧ Aside0 (w'.heap[gb565]? = some (.cells #[.int .i64 t557, .int .i64 t558, .int .i64 t559, .bool t560, .bool t561] 72 (0, 0))) ∧ Aside0 (w'.heap[gb574]? = some (.cells #[.int .i64 t566, .int .i64 t567, .int .i64 t568, .bool t569, .bool t570] 72 (0, 0))) ∧ Aside0 (Below w.heap.size w w'))
     case atStart => exact ⟨((-1)), (0), (by first | rfl | (simp; done) | (simp [*]; done)), (by first | rfl | (simp; done) | (simp [*]; done)), H', ⟨Nat.le_refl _⟩, ⟨by (with_reducible repeat (first | apply Kd.R_alloc | apply Kd.R_drewN | apply Kd.R_drew)); exact HO_9.out⟩, ⟨by (with_reducible repeat first|apply bn_|apply bd_|apply ba_); exact BK565.out⟩, ⟨by (with_reducible repeat first|apply bn_|apply bd_|apply ba_); exact BK574.out⟩, ⟨ue_ HB.out⟩⟩
     case round =>
      clear H'
      try clear c1
      try clear c2
      try clear p2
      try clear c3
      try clear c5
      try clear c6
      try clear c11
      try clear c16
      try clear c19
      try clear c19b0
      try clear c20
      try clear c24
      try clear c29
      try clear hcz12_0
      try clear hcz12_1
      try clear hcz12_2
      try clear hcz12_3
      try clear hcz12_4
      try clear hcz17_0
      try clear hcz17_1
      try clear hcz17_2
      try clear hcz17_3
      try clear hcz17_4
      try clear hcz21_0
      try clear hcz21_1
      try clear hcz21_2
      try clear hcz21_3
      try clear hcz21_4
      try clear hcz22_0
      try clear hcz22_1
      try clear hcz22_2
      try clear hcz22_3
      try clear hcz22_4
      try clear hcz25_0
      try clear hcz25_1
      try clear hcz25_2
      try clear hcz25_3
      try clear hcz25_4
      try clear hcz26_0
      try clear hcz26_1
      try clear hcz26_2
      try clear hcz26_3
      try clear hcz26_4
      try clear hfz12_0
      try clear hfz12_1
      try clear hfz12_2
      try clear hfz12_3
      try clear hfz12_4
      try clear hfz17_0
      try clear hfz17_1
      try clear hfz17_2
      try clear hfz17_3
      try clear hfz17_4
      try clear hfz21_0
      try clear hfz21_1
      try clear hfz21_2
      try clear hfz21_3
      try clear hfz21_4
      try clear hfz22_0
      try clear hfz22_1
      try clear hfz22_2
      try clear hfz22_3
      try clear hfz22_4
      try clear hfz25_0
      try clear hfz25_1
      try clear hfz25_2
      try clear hfz25_3
      try clear hfz25_4
      try clear hfz26_0
      try clear hfz26_1
      try clear hfz26_2
      try clear hfz26_3
      try clear hfz26_4
      try clear p2
      obtain ⟨x10_2, x11_2, rfl, rfl, HA, HK2, HO_9, BK565, BK574, HB⟩ := hrel
      cases gk with
      | zero => exact absurd HA.out (by simp [laws_FnMarks.l0])
      | succ k2 =>
       have H := HA.out
       clear HA
       simp only [laws_FnMarks.l0] at H
       by_cases c30 : x11_2 < (t571.length : Int)
       ·
        rw [if_pos c30] at H
        have c30b0 : decide (x11_2 < (t571.length : Int)) = true := decide_eq_true c30
        clear c30
        by_cases c31 : 0 ≤ x11_2
        ·
         rw [if_pos c31] at H
         have c31b0 : decide (0 ≤ x11_2) = true := decide_eq_true c31
         clear c31
         by_cases c32 : (rd t571 x11_2) = (-2)
         ·
          rw [if_pos c32] at H
          have c32b0 : ((rd t571 x11_2) == (-2)) = true := beq_iff_eq.mpr c32
          have c32b1 : ((rd t571 x11_2) != (-2)) = false := bne_eq_false_iff_eq.mpr c32
          clear c32
          have H' := Aside0.mk H
          clear H
          obtain ⟨Ao33, co33, eo33⟩ := Kd.R_slice HO_9.out
          subst eo33
          have p576 : 0 ≤ (x11_2 : Int) := of_decide_eq_true ua_
          have q576 : x11_2 < (t571.length : Int) := of_decide_eq_true ua_
          obtain ⟨ad576, e576, hx576_0⟩ := Kd.at_int (Kd.R_reads' HO_9.out).2.2 x11_2 p576 q576
          cases e576
          replace p576 := eq_true p576
          replace q576 := eq_true q576
          go_wp2
          go_roundg k2
          case measure => have := HJ6.out; have := HK2.out; omega
          case rel => exact ⟨(x10_2), (wrap64 (x11_2 + 1)), (by first | rfl | (simp; done) | (simp [*]; done)), (by first | rfl | (simp; done) | (simp [*]; done)), H', ⟨by have := HJ6.out; have := HK2.out; omega⟩, ⟨by (with_reducible repeat (first | apply Kd.R_alloc | apply Kd.R_drewN | apply Kd.R_drew)); exact HO_9.out⟩, ⟨by (with_reducible repeat first|apply bn_|apply bd_|apply ba_); exact BK565.out⟩, ⟨by (with_reducible repeat first|apply bn_|apply bd_|apply ba_); exact BK574.out⟩, ⟨ue_ HB.out⟩⟩
         ·
          rw [if_neg c32] at H
          have c32b0 : ((rd t571 x11_2) == (-2)) = false := beq_eq_false_iff_ne.mpr c32
          have c32b1 : ((rd t571 x11_2) != (-2)) = true := bne_iff_ne.mpr c32
          by_cases c34 : (rd t571 x11_2) < x10_2
          ·
           rw [if_pos c34] at H
           have c34b0 : decide ((rd t571 x11_2) < x10_2) = true := decide_eq_true c34
           clear c34
           exact absurd ((Option.some.inj H).trans hT.out) (by decide)
          ·
           rw [if_neg c34] at H
           have c34b0 : decide ((rd t571 x11_2) < x10_2) = false := decide_eq_false c34
           clear c34
           have H' := Aside0.mk H
           clear H
           obtain ⟨Ao35, co35, eo35⟩ := Kd.R_slice HO_9.out
           subst eo35
           have p576 : 0 ≤ (x11_2 : Int) := of_decide_eq_true ua_
           have q576 : x11_2 < (t571.length : Int) := of_decide_eq_true ua_
           obtain ⟨ad576, e576, hx576_0⟩ := Kd.at_int (Kd.R_reads' HO_9.out).2.2 x11_2 p576 q576
           cases e576
           replace p576 := eq_true p576
           replace q576 := eq_true q576
           have p577 : 0 ≤ (x11_2 : Int) := of_decide_eq_true ua_
           have q577 : x11_2 < (t571.length : Int) := of_decide_eq_true ua_
           obtain ⟨ad577, e577, hx577_0⟩ := Kd.at_int (Kd.R_reads' HO_9.out).2.2 x11_2 p577 q577
           obtain rfl : ad576 = ad577 := (by injection e577)
           replace p577 := eq_true p577
           replace q577 := eq_true q577
           have p578 : 0 ≤ (x11_2 : Int) := of_decide_eq_true ua_
           have q578 : x11_2 < (t571.length : Int) := of_decide_eq_true ua_
           obtain ⟨ad578, e578, hx578_0⟩ := Kd.at_int (Kd.R_reads' HO_9.out).2.2 x11_2 p578 q578
           obtain rfl : ad576 = ad578 := (by injection e578)
           replace p578 := eq_true p578
           replace q578 := eq_true q578
           go_wp2
           go_roundg k2
           case measure => have := HJ6.out; have := HK2.out; omega
           case rel => exact ⟨(rd t571 x11_2), (wrap64 (x11_2 + 1)), (by first | rfl | (simp; done) | (simp [*]; done)), (by first | rfl | (simp; done) | (simp [*]; done)), H', ⟨by have := HJ6.out; have := HK2.out; omega⟩, ⟨by (with_reducible repeat (first | apply Kd.R_alloc | apply Kd.R_drewN | apply Kd.R_drew)); exact HO_9.out⟩, ⟨by (with_reducible repeat first|apply bn_|apply bd_|apply ba_); exact BK565.out⟩, ⟨by (with_reducible repeat first|apply bn_|apply bd_|apply ba_); exact BK574.out⟩, ⟨ue_ HB.out⟩⟩
        ·
         rw [if_neg c31] at H
         exact absurd H (by simp)
       ·
        rw [if_neg c30] at H
        have c30b0 : decide (x11_2 < (t571.length : Int)) = false := decide_eq_false c30
        clear c30
        replace H := Option.bind_eq_some_iff.mp H
        obtain ⟨t579, A360, H⟩ := H
        replace H : ((spec_DrawAllMarks.f k2 t579).bind fun bt582 => ((impl_AllMarks.f k2 bt582.1 bt582.2).bind fun t586 => ((spec_AllMarks.f k2 bt582.1 bt582.2).bind fun t587 => (if t586 = t587 then (if t586 = (-2) then (some true) else (laws_FnMarks.l1 k2 bt582.1 bt582.2 t586 0)) else (some false))))) = some r := H
        have A36 := Aside0.mk A360
        clear A360
        replace H := Option.bind_eq_some_iff.mp H
        obtain ⟨⟨t582, t583⟩, A370, H⟩ := H
        replace H : ((impl_AllMarks.f k2 t582 t583).bind fun t586 => ((spec_AllMarks.f k2 t582 t583).bind fun t587 => (if t586 = t587 then (if t586 = (-2) then (some true) else (laws_FnMarks.l1 k2 t582 t583 t586 0)) else (some false)))) = some r := H
        have A37 := Aside0.mk A370
        clear A370
        replace H := Option.bind_eq_some_iff.mp H
        obtain ⟨t586, A380, H⟩ := H
        replace H : ((spec_AllMarks.f k2 t582 t583).bind fun t587 => (if t586 = t587 then (if t586 = (-2) then (some true) else (laws_FnMarks.l1 k2 t582 t583 t586 0)) else (some false))) = some r := H
        have A38 := Aside0.mk A380
        clear A380
        replace H := Option.bind_eq_some_iff.mp H
        obtain ⟨t587, A390, H⟩ := H
        replace H : (if t586 = t587 then (if t586 = (-2) then (some true) else (laws_FnMarks.l1 k2 t582 t583 t586 0)) else (some false)) = some r := H
        have A39 := Aside0.mk A390
        clear A390
        by_cases c40 : t586 = t587
        ·
         rw [if_pos c40] at H
         have c40b0 : (t586 == t587) = true := beq_iff_eq.mpr c40
         have c40b1 : (t586 != t587) = false := bne_eq_false_iff_eq.mpr c40
         clear c40
         by_cases c41 : t586 = (-2)
         ·
          rw [if_pos c41] at H
          have c41b0 : (t586 == (-2)) = true := beq_iff_eq.mpr c41
          have c41b1 : (t586 != (-2)) = false := bne_eq_false_iff_eq.mpr c41
          clear c41
          obtain rfl := Option.some.inj H
          obtain ⟨Ao42, co42, eo42⟩ := Kd.R_slice HO_9.out
          subst eo42
          go_wp2_with (first | ((with_reducible refine gate_callee (f := 66) rfl ?_); refine goesL_ (some 70) rfl rfl Try.func66 (by kernel_rfl) rfl #[.slice A0 l0.length c0, .int .i64 1] rfl ul_ ?_; (with_reducible refine (laws_alt.calls k2 _ _ l0 1 t579 _ ?side1 ?side2 A36.out).mono ?_); (case side1 => repeat (first | exact (Kd.C_below HR0.out HB.out) | (with_reducible refine Kd.C_alloc ?_ _) | (with_reducible refine Kd.C_drewN ?_ _) | (with_reducible refine Kd.C_drew ?_))); (case side2 => exact HC0.out); rintro e w43 ⟨v580, rfl, ho0, hb⟩; refine ⟨_, rfl, ?_⟩; have n0_ := am_ (Kd.R_below (ur_ HO_9.out) hb); have n1_ := am_ (Kd.R_lower ho0 (below_size (ue_ HB.out))); have n2_ := am_ (bb_ BK565.out hb); have n3_ := am_ (bb_ BK574.out hb); have n4_ := am_ (below_step (ue_ HB.out) hb); clear HO_9 BK565 BK574 HB; have HO_9 := n0_; have HO581 := n1_; have BK565 := n2_; have BK574 := n3_; have HB := n4_; clear n0_ n1_ n2_ n3_ n4_; (try clear hb); (try clear hb2); (try clear hk); (try clear hi); (try clear ho0); obtain ⟨Ao44, co44, eo44⟩ := Kd.R_slice HO581.out; subst eo44) | ((with_reducible refine gate_callee (f := 65) rfl ?_); refine goesL_ (some 71) rfl rfl Try.func65 (by kernel_rfl) rfl #[.slice Ao44 t579.length co44] rfl ul_ ?_; (with_reducible refine (spec_DrawAllMarks.calls k2 _ _ t579 t582 t583 _ ?side1 ?side2 A37.out).mono ?_); (case side1 => repeat (first | exact (Kd.R_reads' HO581.out).2.2 | (with_reducible refine Kd.C_alloc ?_ _) | (with_reducible refine Kd.C_drewN ?_ _) | (with_reducible refine Kd.C_drew ?_))); (case side2 => exact (Kd.R_reads' HO581.out).2.1); rintro e w45 ⟨v584, rfl, ho0, hb⟩; refine ⟨_, rfl, ?_⟩; have n0_ := am_ (Kd.R_below (ur_ HO_9.out) hb); have n1_ := am_ (Kd.R_below (ur_ HO581.out) hb); have n2_ := am_ (Kd.R_lower (Kd.R_newB (Kd.R_newB ho0 (g := gb565) (o := .cells #[.int .i64 t557, .int .i64 t558, .int .i64 t559, .bool t560, .bool t561] 72 (0, 0)) (ub_ BK565.out)) (g := gb574) (o := .cells #[.int .i64 t566, .int .i64 t567, .int .i64 t568, .bool t569, .bool t570] 72 (0, 0)) (ub_ BK574.out)) (below_size (ue_ HB.out))); have n3_ := am_ (bb_ BK565.out hb); have n4_ := am_ (bb_ BK574.out hb); have n5_ := am_ (below_step (ue_ HB.out) hb); clear HO_9 HO581 BK565 BK574 HB; have HO_9 := n0_; have HO581 := n1_; have HO585 := n2_; have BK565 := n3_; have BK574 := n4_; have HB := n5_; clear n0_ n1_ n2_ n3_ n4_ n5_; (try clear hb); (try clear hb2); (try clear hk); (try clear hi); (try clear ho0); obtain ⟨Ao46, co46, eo46⟩ := Kd.R_slice HO585.out; subst eo46) | ((with_reducible refine gate_callee (f := 67) rfl ?_); refine goesL_ (some 76) rfl rfl Try.func67 (by kernel_rfl) rfl #[.slice Ao46 t582.length co46, .int .i64 t583] rfl ul_ ?_; (with_reducible refine (impl_AllMarks.calls k2 _ _ t582 t583 t586 _ ?side1 ?side2 A38.out).mono ?_); (case side1 => repeat (first | exact (Kd.R_reads' HO585.out).2.2 | (with_reducible refine Kd.C_alloc ?_ _) | (with_reducible refine Kd.C_drewN ?_ _) | (with_reducible refine Kd.C_drew ?_))); (case side2 => exact (Kd.R_reads' HO585.out).2.1); rintro e w47 ⟨rfl, hb⟩; refine ⟨_, rfl, ?_⟩; have n0_ := am_ (Kd.R_below (ur_ HO_9.out) hb); have n1_ := am_ (Kd.R_below (ur_ HO581.out) hb); have n2_ := am_ (Kd.R_below (ur_ HO585.out) hb); have n3_ := am_ (bb_ BK565.out hb); have n4_ := am_ (bb_ BK574.out hb); have n5_ := am_ (below_step (ue_ HB.out) hb); clear HO_9 HO581 HO585 BK565 BK574 HB; have HO_9 := n0_; have HO581 := n1_; have HO585 := n2_; have BK565 := n3_; have BK574 := n4_; have HB := n5_; clear n0_ n1_ n2_ n3_ n4_ n5_; (try clear hb); (try clear hb2); (try clear hk); (try clear hi)) | ((with_reducible refine gate_callee (f := 68) rfl ?_); refine goesL_ (some 80) rfl rfl Try.func68 (by kernel_rfl) rfl #[.slice Ao46 t582.length co46, .int .i64 t583] rfl ul_ ?_; (with_reducible refine (spec_AllMarks.calls k2 _ _ t582 t583 t587 _ ?side1 ?side2 A39.out).mono ?_); (case side1 => repeat (first | exact (Kd.R_reads' HO585.out).2.2 | (with_reducible refine Kd.C_alloc ?_ _) | (with_reducible refine Kd.C_drewN ?_ _) | (with_reducible refine Kd.C_drew ?_))); (case side2 => exact (Kd.R_reads' HO585.out).2.1); rintro e w48 ⟨rfl, hb⟩; refine ⟨_, rfl, ?_⟩; have n0_ := am_ (Kd.R_below (ur_ HO_9.out) hb); have n1_ := am_ (Kd.R_below (ur_ HO581.out) hb); have n2_ := am_ (Kd.R_below (ur_ HO585.out) hb); have n3_ := am_ (bb_ BK565.out hb); have n4_ := am_ (bb_ BK574.out hb); have n5_ := am_ (below_step (ue_ HB.out) hb); clear HO_9 HO581 HO585 BK565 BK574 HB; have HO_9 := n0_; have HO581 := n1_; have HO585 := n2_; have BK565 := n3_; have BK574 := n4_; have HB := n5_; clear n0_ n1_ n2_ n3_ n4_ n5_; (try clear hb); (try clear hb2); (try clear hk); (try clear hi)))
          go_ret
          exact ⟨ew_, ue_ HB.out⟩
         ·
          rw [if_neg c41] at H
          have c41b0 : (t586 == (-2)) = false := beq_eq_false_iff_ne.mpr c41
          have c41b1 : (t586 != (-2)) = true := bne_iff_ne.mpr c41
          have H' := Aside0.mk H
          clear H
          obtain ⟨Ao49, co49, eo49⟩ := Kd.R_slice HO_9.out
          subst eo49
          go_wp2_with (first | ((with_reducible refine gate_callee (f := 66) rfl ?_); refine goesL_ (some 70) rfl rfl Try.func66 (by kernel_rfl) rfl #[.slice A0 l0.length c0, .int .i64 1] rfl ul_ ?_; (with_reducible refine (laws_alt.calls k2 _ _ l0 1 t579 _ ?side1 ?side2 A36.out).mono ?_); (case side1 => repeat (first | exact (Kd.C_below HR0.out HB.out) | (with_reducible refine Kd.C_alloc ?_ _) | (with_reducible refine Kd.C_drewN ?_ _) | (with_reducible refine Kd.C_drew ?_))); (case side2 => exact HC0.out); rintro e w50 ⟨v580, rfl, ho0, hb⟩; refine ⟨_, rfl, ?_⟩; have n0_ := am_ (Kd.R_below (ur_ HO_9.out) hb); have n1_ := am_ (Kd.R_lower ho0 (below_size (ue_ HB.out))); have n2_ := am_ (bb_ BK565.out hb); have n3_ := am_ (bb_ BK574.out hb); have n4_ := am_ (below_step (ue_ HB.out) hb); clear HO_9 BK565 BK574 HB; have HO_9 := n0_; have HO581 := n1_; have BK565 := n2_; have BK574 := n3_; have HB := n4_; clear n0_ n1_ n2_ n3_ n4_; (try clear hb); (try clear hb2); (try clear hk); (try clear hi); (try clear ho0); obtain ⟨Ao51, co51, eo51⟩ := Kd.R_slice HO581.out; subst eo51) | ((with_reducible refine gate_callee (f := 65) rfl ?_); refine goesL_ (some 71) rfl rfl Try.func65 (by kernel_rfl) rfl #[.slice Ao51 t579.length co51] rfl ul_ ?_; (with_reducible refine (spec_DrawAllMarks.calls k2 _ _ t579 t582 t583 _ ?side1 ?side2 A37.out).mono ?_); (case side1 => repeat (first | exact (Kd.R_reads' HO581.out).2.2 | (with_reducible refine Kd.C_alloc ?_ _) | (with_reducible refine Kd.C_drewN ?_ _) | (with_reducible refine Kd.C_drew ?_))); (case side2 => exact (Kd.R_reads' HO581.out).2.1); rintro e w52 ⟨v584, rfl, ho0, hb⟩; refine ⟨_, rfl, ?_⟩; have n0_ := am_ (Kd.R_below (ur_ HO_9.out) hb); have n1_ := am_ (Kd.R_below (ur_ HO581.out) hb); have n2_ := am_ (Kd.R_lower (Kd.R_newB (Kd.R_newB ho0 (g := gb565) (o := .cells #[.int .i64 t557, .int .i64 t558, .int .i64 t559, .bool t560, .bool t561] 72 (0, 0)) (ub_ BK565.out)) (g := gb574) (o := .cells #[.int .i64 t566, .int .i64 t567, .int .i64 t568, .bool t569, .bool t570] 72 (0, 0)) (ub_ BK574.out)) (below_size (ue_ HB.out))); have n3_ := am_ (bb_ BK565.out hb); have n4_ := am_ (bb_ BK574.out hb); have n5_ := am_ (below_step (ue_ HB.out) hb); clear HO_9 HO581 BK565 BK574 HB; have HO_9 := n0_; have HO581 := n1_; have HO585 := n2_; have BK565 := n3_; have BK574 := n4_; have HB := n5_; clear n0_ n1_ n2_ n3_ n4_ n5_; (try clear hb); (try clear hb2); (try clear hk); (try clear hi); (try clear ho0); obtain ⟨Ao53, co53, eo53⟩ := Kd.R_slice HO585.out; subst eo53) | ((with_reducible refine gate_callee (f := 67) rfl ?_); refine goesL_ (some 76) rfl rfl Try.func67 (by kernel_rfl) rfl #[.slice Ao53 t582.length co53, .int .i64 t583] rfl ul_ ?_; (with_reducible refine (impl_AllMarks.calls k2 _ _ t582 t583 t586 _ ?side1 ?side2 A38.out).mono ?_); (case side1 => repeat (first | exact (Kd.R_reads' HO585.out).2.2 | (with_reducible refine Kd.C_alloc ?_ _) | (with_reducible refine Kd.C_drewN ?_ _) | (with_reducible refine Kd.C_drew ?_))); (case side2 => exact (Kd.R_reads' HO585.out).2.1); rintro e w54 ⟨rfl, hb⟩; refine ⟨_, rfl, ?_⟩; have n0_ := am_ (Kd.R_below (ur_ HO_9.out) hb); have n1_ := am_ (Kd.R_below (ur_ HO581.out) hb); have n2_ := am_ (Kd.R_below (ur_ HO585.out) hb); have n3_ := am_ (bb_ BK565.out hb); have n4_ := am_ (bb_ BK574.out hb); have n5_ := am_ (below_step (ue_ HB.out) hb); clear HO_9 HO581 HO585 BK565 BK574 HB; have HO_9 := n0_; have HO581 := n1_; have HO585 := n2_; have BK565 := n3_; have BK574 := n4_; have HB := n5_; clear n0_ n1_ n2_ n3_ n4_ n5_; (try clear hb); (try clear hb2); (try clear hk); (try clear hi)) | ((with_reducible refine gate_callee (f := 68) rfl ?_); refine goesL_ (some 80) rfl rfl Try.func68 (by kernel_rfl) rfl #[.slice Ao53 t582.length co53, .int .i64 t583] rfl ul_ ?_; (with_reducible refine (spec_AllMarks.calls k2 _ _ t582 t583 t587 _ ?side1 ?side2 A39.out).mono ?_); (case side1 => repeat (first | exact (Kd.R_reads' HO585.out).2.2 | (with_reducible refine Kd.C_alloc ?_ _) | (with_reducible refine Kd.C_drewN ?_ _) | (with_reducible refine Kd.C_drew ?_))); (case side2 => exact (Kd.R_reads' HO585.out).2.1); rintro e w55 ⟨rfl, hb⟩; refine ⟨_, rfl, ?_⟩; have n0_ := am_ (Kd.R_below (ur_ HO_9.out) hb); have n1_ := am_ (Kd.R_below (ur_ HO581.out) hb); have n2_ := am_ (Kd.R_below (ur_ HO585.out) hb); have n3_ := am_ (bb_ BK565.out hb); have n4_ := am_ (bb_ BK574.out hb); have n5_ := am_ (below_step (ue_ HB.out) hb); clear HO_9 HO581 HO585 BK565 BK574 HB; have HO_9 := n0_; have HO581 := n1_; have HO585 := n2_; have BK565 := n3_; have BK574 := n4_; have HB := n5_; clear n0_ n1_ n2_ n3_ n4_ n5_; (try clear hb); (try clear hb2); (try clear hk); (try clear hi)))
          (try simp only [Act.put, List.setIfInBounds_toArray, List.set_cons_zero, List.set_cons_succ])
          go_loopg [15] k2 (fun kq v15 w' => ∃ (x15_3 : Int), v15 = .int .i64 x15_3 ∧ Aside0 (laws_FnMarks.l1 kq t582 t583 t586 x15_3 = some r) ∧ Aside0 (kq ≤ k2) ∧ Aside0 (Kd.R k72 72 w' w.heap.size (fun k_ => k_ ≠ gb565 ∧ k_ ≠ gb574) (.slice Ao53 t582.length co53) t582) ∧ Aside0 (w'.heap[gb565]? = some (.cells #[.int .i64 t557, .int .i64 t558, .int .i64 t559, .bool t560, .bool t561] 72 (0, 0))) ∧ Aside0 (w'.heap[gb574]? = some (.cells #[.int .i64 t566, .int .i64 t567, .int .i64 t568, .bool t569, .bool t570] 72 (0, 0))) ∧ Aside0 (Below w.heap.size w w'))
          case atStart => exact ⟨(0), (by first | rfl | (simp; done) | (simp [*]; done)), H', ⟨Nat.le_refl _⟩, ⟨by (with_reducible repeat (first | apply Kd.R_alloc | apply Kd.R_drewN | apply Kd.R_drew)); exact Kd.R_mono HO585.out (fun _ hk => by first | exact ⟨hk.1.2, hk.2⟩ | grind)⟩, ⟨by (with_reducible repeat first|apply bn_|apply bd_|apply ba_); exact BK565.out⟩, ⟨by (with_reducible repeat first|apply bn_|apply bd_|apply ba_); exact BK574.out⟩, ⟨ue_ HB.out⟩⟩
          case round =>
           clear H'
           try clear c1
           try clear c2
           try clear p2
           try clear c3
           try clear c4
           try clear c5
           try clear p5
           try clear q5
           try clear hx5
           try clear c6
           try clear p6
           try clear c11
           try clear c16
           try clear c19
           try clear c19b0
           try clear c20
           try clear c24
           try clear c29
           try clear c30
           try clear c30b0
           try clear c31
           try clear c31b0
           try clear c32
           try clear c32b0
           try clear c32b1
           try clear c34
           try clear c34b0
           try clear c40
           try clear c40b0
           try clear c40b1
           try clear c41
           try clear c41b0
           try clear c41b1
           try clear c51
           try clear c53
           try clear hcz12_0
           try clear hcz12_1
           try clear hcz12_2
           try clear hcz12_3
           try clear hcz12_4
           try clear hcz17_0
           try clear hcz17_1
           try clear hcz17_2
           try clear hcz17_3
           try clear hcz17_4
           try clear hcz21_0
           try clear hcz21_1
           try clear hcz21_2
           try clear hcz21_3
           try clear hcz21_4
           try clear hcz22_0
           try clear hcz22_1
           try clear hcz22_2
           try clear hcz22_3
           try clear hcz22_4
           try clear hcz25_0
           try clear hcz25_1
           try clear hcz25_2
           try clear hcz25_3
           try clear hcz25_4
           try clear hcz26_0
           try clear hcz26_1
           try clear hcz26_2
           try clear hcz26_3
           try clear hcz26_4
           try clear hfz12_0
           try clear hfz12_1
           try clear hfz12_2
           try clear hfz12_3
           try clear hfz12_4
           try clear hfz17_0
           try clear hfz17_1
           try clear hfz17_2
           try clear hfz17_3
           try clear hfz17_4
           try clear hfz21_0
           try clear hfz21_1
           try clear hfz21_2
           try clear hfz21_3
           try clear hfz21_4
           try clear hfz22_0
           try clear hfz22_1
           try clear hfz22_2
           try clear hfz22_3
           try clear hfz22_4
           try clear hfz25_0
           try clear hfz25_1
           try clear hfz25_2
           try clear hfz25_3
           try clear hfz25_4
           try clear hfz26_0
           try clear hfz26_1
           try clear hfz26_2
           try clear hfz26_3
           try clear hfz26_4
           try clear hx576_0
           try clear hx577_0
           try clear hx578_0
           try clear p2
           try clear p576
           try clear p577
           try clear p578
           try clear q576
           try clear q577
           try clear q578
           obtain ⟨x15_3, rfl, HA, HK3, HO_12, BK565, BK574, HB⟩ := hrel
           cases gk with
           | zero => exact absurd HA.out (by simp [laws_FnMarks.l1])
           | succ k3 =>
            have H := HA.out
            clear HA
            simp only [laws_FnMarks.l1] at H
            by_cases c56 : x15_3 < (t582.length : Int)
            ·
             rw [if_pos c56] at H
             have c56b0 : decide (x15_3 < (t582.length : Int)) = true := decide_eq_true c56
             clear c56
             by_cases c57 : 0 ≤ x15_3
             ·
              rw [if_pos c57] at H
              have c57b0 : decide (0 ≤ x15_3) = true := decide_eq_true c57
              clear c57
              obtain ⟨bq58, hbq58⟩ : ∃ b_ : Bool, b_ = ((rd_T72 t582 x15_3).f4) := ⟨_, rfl⟩
              replace H : (if bq58 = true then (if ((rd_T72 t582 x15_3).f3 = true) then (laws_FnMarks.l1 k3 t582 t583 t586 (wrap64 (x15_3 + 1))) else (if t586 > ((rd_T72 t582 x15_3).f1) then (if t586 > t583 then (some false) else (laws_FnMarks.l1 k3 t582 t583 t586 (wrap64 (x15_3 + 1)))) else (laws_FnMarks.l1 k3 t582 t583 t586 (wrap64 (x15_3 + 1))))) else (laws_FnMarks.l1 k3 t582 t583 t586 (wrap64 (x15_3 + 1)))) = some r := by rw [← hbq58] at H; exact H
              (try rw [← hbq58] at A2)
              (try rw [← hbq58] at A4)
              (try rw [← hbq58] at A5)
              (try rw [← hbq58] at A6)
              (try rw [← hbq58] at A23)
              (try rw [← hbq58] at A36)
              (try rw [← hbq58] at A37)
              (try rw [← hbq58] at A38)
              (try rw [← hbq58] at A39)
              have Nbq58 := Aside0.mk hbq58
              clear hbq58
              by_cases c59 : bq58 = true
              ·
               subst c59
               have H1 : (if ((rd_T72 t582 x15_3).f3 = true) then (laws_FnMarks.l1 k3 t582 t583 t586 (wrap64 (x15_3 + 1))) else (if t586 > ((rd_T72 t582 x15_3).f1) then (if t586 > t583 then (some false) else (laws_FnMarks.l1 k3 t582 t583 t586 (wrap64 (x15_3 + 1)))) else (laws_FnMarks.l1 k3 t582 t583 t586 (wrap64 (x15_3 + 1))))) = some r := by rw [if_pos rfl] at H; exact H
               clear H
               have H := H1
               clear H1
               obtain ⟨bq60, hbq60⟩ : ∃ b_ : Bool, b_ = ((rd_T72 t582 x15_3).f3) := ⟨_, rfl⟩
               replace H : (if (bq60 = true) then (laws_FnMarks.l1 k3 t582 t583 t586 (wrap64 (x15_3 + 1))) else (if t586 > ((rd_T72 t582 x15_3).f1) then (if t586 > t583 then (some false) else (laws_FnMarks.l1 k3 t582 t583 t586 (wrap64 (x15_3 + 1)))) else (laws_FnMarks.l1 k3 t582 t583 t586 (wrap64 (x15_3 + 1))))) = some r := by rw [← hbq60] at H; exact H
               (try rw [← hbq60] at A2)
               (try rw [← hbq60] at A4)
               (try rw [← hbq60] at A5)
               (try rw [← hbq60] at A6)
               (try rw [← hbq60] at A23)
               (try rw [← hbq60] at A36)
               (try rw [← hbq60] at A37)
               (try rw [← hbq60] at A38)
               (try rw [← hbq60] at A39)
               have Nbq60 := Aside0.mk hbq60
               clear hbq60
               by_cases c61 : (bq60 = true)
               ·
                subst c61
                have H1 : (laws_FnMarks.l1 k3 t582 t583 t586 (wrap64 (x15_3 + 1))) = some r := by rw [if_pos rfl] at H; exact H
                clear H
                have H := H1
                clear H1
                have H' := Aside0.mk H
                clear H
                have p588 : 0 ≤ (x15_3 : Int) := of_decide_eq_true ua_
                have q588 : x15_3 < (t582.length : Int) := of_decide_eq_true ua_
                obtain ⟨ad588, e588, hx588_0, hx588_1, hx588_2, hx588_3, hx588_4⟩ := at_T72 (Kd.R_reads' HO_12.out).2.2 x15_3 p588 q588
                (try rw [← Nbq58.out] at hx588_3)
                (try rw [← Nbq60.out] at hx588_3)
                (try rw [← Nbq58.out] at hx588_4)
                (try rw [← Nbq60.out] at hx588_4)
                cases e588
                replace p588 := eq_true p588
                replace q588 := eq_true q588
                have p589 : 0 ≤ (x15_3 : Int) := of_decide_eq_true ua_
                have q589 : x15_3 < (t582.length : Int) := of_decide_eq_true ua_
                obtain ⟨ad589, e589, hx589_0, hx589_1, hx589_2, hx589_3, hx589_4⟩ := at_T72 (Kd.R_reads' HO_12.out).2.2 x15_3 p589 q589
                (try rw [← Nbq58.out] at hx589_3)
                (try rw [← Nbq60.out] at hx589_3)
                (try rw [← Nbq58.out] at hx589_4)
                (try rw [← Nbq60.out] at hx589_4)
                obtain rfl : ad588 = ad589 := (by injection e589)
                replace p589 := eq_true p589
                replace q589 := eq_true q589
                go_wp2
                go_roundg k3
                case measure => have := HJ6.out; have := HK2.out; have := HK3.out; omega
                case rel => exact ⟨(wrap64 (x15_3 + 1)), (by first | rfl | (simp; done) | (simp [*]; done)), H', ⟨by have := HJ6.out; have := HK2.out; have := HK3.out; omega⟩, ⟨by (with_reducible repeat (first | apply Kd.R_alloc | apply Kd.R_drewN | apply Kd.R_drew)); exact HO_12.out⟩, ⟨by (with_reducible repeat first|apply bn_|apply bd_|apply ba_); exact BK565.out⟩, ⟨by (with_reducible repeat first|apply bn_|apply bd_|apply ba_); exact BK574.out⟩, ⟨ue_ HB.out⟩⟩
               ·
                replace c61 := Bool.eq_false_iff.mpr c61
                subst c61
                have H1 : (if t586 > ((rd_T72 t582 x15_3).f1) then (if t586 > t583 then (some false) else (laws_FnMarks.l1 k3 t582 t583 t586 (wrap64 (x15_3 + 1)))) else (laws_FnMarks.l1 k3 t582 t583 t586 (wrap64 (x15_3 + 1)))) = some r := by rw [if_neg (show ¬ (false = true) by decide)] at H; exact H
                clear H
                have H := H1
                clear H1
                by_cases c62 : t586 > ((rd_T72 t582 x15_3).f1)
                ·
                 rw [if_pos c62] at H
                 have c62b0 : decide (((rd_T72 t582 x15_3).f1) < t586) = true := decide_eq_true c62
                 clear c62
                 by_cases c63 : t586 > t583
                 ·
                  rw [if_pos c63] at H
                  have c63b0 : decide (t583 < t586) = true := decide_eq_true c63
                  clear c63
                  exact absurd ((Option.some.inj H).trans hT.out) (by decide)
                 ·
                  rw [if_neg c63] at H
                  have c63b0 : decide (t583 < t586) = false := decide_eq_false c63
                  clear c63
                  have H' := Aside0.mk H
                  clear H
                  have p588 : 0 ≤ (x15_3 : Int) := of_decide_eq_true ua_
                  have q588 : x15_3 < (t582.length : Int) := of_decide_eq_true ua_
                  obtain ⟨ad588, e588, hx588_0, hx588_1, hx588_2, hx588_3, hx588_4⟩ := at_T72 (Kd.R_reads' HO_12.out).2.2 x15_3 p588 q588
                  (try rw [← Nbq58.out] at hx588_3)
                  (try rw [← Nbq60.out] at hx588_3)
                  (try rw [← Nbq58.out] at hx588_4)
                  (try rw [← Nbq60.out] at hx588_4)
                  cases e588
                  replace p588 := eq_true p588
                  replace q588 := eq_true q588
                  have p589 : 0 ≤ (x15_3 : Int) := of_decide_eq_true ua_
                  have q589 : x15_3 < (t582.length : Int) := of_decide_eq_true ua_
                  obtain ⟨ad589, e589, hx589_0, hx589_1, hx589_2, hx589_3, hx589_4⟩ := at_T72 (Kd.R_reads' HO_12.out).2.2 x15_3 p589 q589
                  (try rw [← Nbq58.out] at hx589_3)
                  (try rw [← Nbq60.out] at hx589_3)
                  (try rw [← Nbq58.out] at hx589_4)
                  (try rw [← Nbq60.out] at hx589_4)
                  obtain rfl : ad588 = ad589 := (by injection e589)
                  replace p589 := eq_true p589
                  replace q589 := eq_true q589
                  have p590 : 0 ≤ (x15_3 : Int) := of_decide_eq_true ua_
                  have q590 : x15_3 < (t582.length : Int) := of_decide_eq_true ua_
                  obtain ⟨ad590, e590, hx590_0, hx590_1, hx590_2, hx590_3, hx590_4⟩ := at_T72 (Kd.R_reads' HO_12.out).2.2 x15_3 p590 q590
                  (try rw [← Nbq58.out] at hx590_3)
                  (try rw [← Nbq60.out] at hx590_3)
                  (try rw [← Nbq58.out] at hx590_4)
                  (try rw [← Nbq60.out] at hx590_4)
                  obtain rfl : ad588 = ad590 := (by injection e590)
                  replace p590 := eq_true p590
                  replace q590 := eq_true q590
                  go_wp2
                  go_roundg k3
                  case measure => have := HJ6.out; have := HK2.out; have := HK3.out; omega
                  case rel => exact ⟨(wrap64 (x15_3 + 1)), (by first | rfl | (simp; done) | (simp [*]; done)), H', ⟨by have := HJ6.out; have := HK2.out; have := HK3.out; omega⟩, ⟨by (with_reducible repeat (first | apply Kd.R_alloc | apply Kd.R_drewN | apply Kd.R_drew)); exact HO_12.out⟩, ⟨by (with_reducible repeat first|apply bn_|apply bd_|apply ba_); exact BK565.out⟩, ⟨by (with_reducible repeat first|apply bn_|apply bd_|apply ba_); exact BK574.out⟩, ⟨ue_ HB.out⟩⟩
                ·
                 rw [if_neg c62] at H
                 have c62b0 : decide (((rd_T72 t582 x15_3).f1) < t586) = false := decide_eq_false c62
                 clear c62
                 have H' := Aside0.mk H
                 clear H
                 have p588 : 0 ≤ (x15_3 : Int) := of_decide_eq_true ua_
                 have q588 : x15_3 < (t582.length : Int) := of_decide_eq_true ua_
                 obtain ⟨ad588, e588, hx588_0, hx588_1, hx588_2, hx588_3, hx588_4⟩ := at_T72 (Kd.R_reads' HO_12.out).2.2 x15_3 p588 q588
                 (try rw [← Nbq58.out] at hx588_3)
                 (try rw [← Nbq60.out] at hx588_3)
                 (try rw [← Nbq58.out] at hx588_4)
                 (try rw [← Nbq60.out] at hx588_4)
                 cases e588
                 replace p588 := eq_true p588
                 replace q588 := eq_true q588
                 have p589 : 0 ≤ (x15_3 : Int) := of_decide_eq_true ua_
                 have q589 : x15_3 < (t582.length : Int) := of_decide_eq_true ua_
                 obtain ⟨ad589, e589, hx589_0, hx589_1, hx589_2, hx589_3, hx589_4⟩ := at_T72 (Kd.R_reads' HO_12.out).2.2 x15_3 p589 q589
                 (try rw [← Nbq58.out] at hx589_3)
                 (try rw [← Nbq60.out] at hx589_3)
                 (try rw [← Nbq58.out] at hx589_4)
                 (try rw [← Nbq60.out] at hx589_4)
                 obtain rfl : ad588 = ad589 := (by injection e589)
                 replace p589 := eq_true p589
                 replace q589 := eq_true q589
                 have p590 : 0 ≤ (x15_3 : Int) := of_decide_eq_true ua_
                 have q590 : x15_3 < (t582.length : Int) := of_decide_eq_true ua_
                 obtain ⟨ad590, e590, hx590_0, hx590_1, hx590_2, hx590_3, hx590_4⟩ := at_T72 (Kd.R_reads' HO_12.out).2.2 x15_3 p590 q590
                 (try rw [← Nbq58.out] at hx590_3)
                 (try rw [← Nbq60.out] at hx590_3)
                 (try rw [← Nbq58.out] at hx590_4)
                 (try rw [← Nbq60.out] at hx590_4)
                 obtain rfl : ad588 = ad590 := (by injection e590)
                 replace p590 := eq_true p590
                 replace q590 := eq_true q590
                 go_wp2
                 go_roundg k3
                 case measure => have := HJ6.out; have := HK2.out; have := HK3.out; omega
                 case rel => exact ⟨(wrap64 (x15_3 + 1)), (by first | rfl | (simp; done) | (simp [*]; done)), H', ⟨by have := HJ6.out; have := HK2.out; have := HK3.out; omega⟩, ⟨by (with_reducible repeat (first | apply Kd.R_alloc | apply Kd.R_drewN | apply Kd.R_drew)); exact HO_12.out⟩, ⟨by (with_reducible repeat first|apply bn_|apply bd_|apply ba_); exact BK565.out⟩, ⟨by (with_reducible repeat first|apply bn_|apply bd_|apply ba_); exact BK574.out⟩, ⟨ue_ HB.out⟩⟩
              ·
               replace c59 := Bool.eq_false_iff.mpr c59
               subst c59
               have H1 : (laws_FnMarks.l1 k3 t582 t583 t586 (wrap64 (x15_3 + 1))) = some r := by rw [if_neg (show ¬ (false = true) by decide)] at H; exact H
               clear H
               have H := H1
               clear H1
               have H' := Aside0.mk H
               clear H
               have p588 : 0 ≤ (x15_3 : Int) := of_decide_eq_true ua_
               have q588 : x15_3 < (t582.length : Int) := of_decide_eq_true ua_
               obtain ⟨ad588, e588, hx588_0, hx588_1, hx588_2, hx588_3, hx588_4⟩ := at_T72 (Kd.R_reads' HO_12.out).2.2 x15_3 p588 q588
               (try rw [← Nbq58.out] at hx588_3)
               (try rw [← Nbq58.out] at hx588_4)
               cases e588
               replace p588 := eq_true p588
               replace q588 := eq_true q588
               go_wp2
               go_roundg k3
               case measure => have := HJ6.out; have := HK2.out; have := HK3.out; omega
               case rel => exact ⟨(wrap64 (x15_3 + 1)), (by first | rfl | (simp; done) | (simp [*]; done)), H', ⟨by have := HJ6.out; have := HK2.out; have := HK3.out; omega⟩, ⟨by (with_reducible repeat (first | apply Kd.R_alloc | apply Kd.R_drewN | apply Kd.R_drew)); exact HO_12.out⟩, ⟨by (with_reducible repeat first|apply bn_|apply bd_|apply ba_); exact BK565.out⟩, ⟨by (with_reducible repeat first|apply bn_|apply bd_|apply ba_); exact BK574.out⟩, ⟨ue_ HB.out⟩⟩
             ·
              rw [if_neg c57] at H
              exact absurd H (by simp)
            ·
             rw [if_neg c56] at H
             have c56b0 : decide (x15_3 < (t582.length : Int)) = false := decide_eq_false c56
             clear c56
             obtain rfl := Option.some.inj H
             go_wp2
             go_ret
             exact ⟨ew_, ue_ HB.out⟩
        ·
         rw [if_neg c40] at H
         have c40b0 : (t586 == t587) = false := beq_eq_false_iff_ne.mpr c40
         have c40b1 : (t586 != t587) = true := bne_iff_ne.mpr c40
         exact absurd ((Option.some.inj H).trans hT.out) (by decide)

/-- THE ONE PURE STATEMENT of laws_FnMarks: yours. -/
def laws_FnMarks.Pure : Prop := ∀ (l0 : List Int), l0.length ≤ maxLen → l0.length * 1 ≤ 140737488351232 → (∀ x ∈ l0, (Lit.int .u8 x).wf = true) → ∃ k, laws_FnMarks.f k l0 = some true
theorem laws_FnMarks.walk (P : laws_FnMarks.Pure) (a0 : Option Addr) (len0 cap0 : Nat) (z0 : List Int) (w : World) (w0 : (a0 = none ∧ len0 = 0 ∧ cap0 = 0 ∧ z0 = []) ∨ ∃ x, a0 = some x ∧ len0 ≤ cap0 ∧ cap0 ≤ maxLen ∧ z0.length = cap0 ∧ (∀ i, i < z0.length → w.cell? (x.add i) = some (.int .u8 (z0.getD i 0))) ∧ ∀ n ∈ z0, (Lit.int .u8 n).wf = true) (y0 : len0 * 1 ≤ 140737488351232) :
  Calls Try.prog 11 #[.slice a0 len0 cap0] w fun e w' => e = .returned (.bool true) ∧ Below w.heap.size w w' := by
 obtain ⟨l0, rfl, hr0, hm0, hw0, hc0⟩ := ReadsInt.ofRowC w0
 obtain ⟨k, h⟩ := P l0 hm0 y0 hw0
 refine (laws_FnMarks.calls k _ _ l0 true w (Kd.C_of_reads (d := (0 : Int)) (h1 := fun _ => rfl) hr0) hc0 (Aside0.mk rfl) h).mono ?_
 rintro e w' ⟨rfl, hd⟩
 exact ⟨rfl, hd⟩

end Go.Proofs.Ytcflalomjehiiaa.QFnMarks
