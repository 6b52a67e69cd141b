/- The machine side of a law: Lean functions with the Go functions' answers and the walks that show it. No condition. -/
import Derived.Test.YtaofcalmgodgjaaQFnExactAddEventx0
import Derived.Test.YtaofcalmgodgjaaQFnExactAddEventx2
import Derived.Test.YtaofcalmgodgjaaQFnExactAddEventx5
import Derived.Test.YtaofcalmgodgjaaQFnExactAddEventx6
import Derived.Test.YtaofcalmgodgjaaQFnExactAddEventx10
import Derived.Test.YtaofcalmgodgjaaQFnExactAddEventx11
import Derived.Test.YtaofcalmgodgjaaQFnExactAddEventx12
namespace Go.Proofs.Ytaofcalmgodgjaa.QFnExactAddEvent
open Go.RowKit Go.Proofs.YtaofcalmgodgjaaW.PrintWords Go.Proofs.YtaofcalmgodgjaaW.PrintLast Go.Proofs.YtaofcalmgodgjaaW.PrintMore
attribute [local go_sem] max2_int min2_int max_two min_two max_three min_three max_four min_four   -- for this text's walks alone
set_option linter.unusedVariables false
set_option linter.unusedSimpArgs false

/-! ### laws_FnExactAddEvent: function 3 -/
mutual
def laws_FnExactAddEvent.j0 : Nat → Int → Int → Int → Int → Bool → List (S86) → Int → Int → Int → Int → Int → Int → Int → List (S62) → Int → Int → Int → List (S62) → Int → Int → Int → List (S62) → Int → Int → Int → Option (Bool)
 | 0, _, _, _, _, _, _, _, _, _, _, _, _, _, _, _, _, _, _, _, _, _, _, _, _, _ => none
 | k + 1, x1, x2, x11, x14, x54, x357000, x357001, x357002, x357003, x358000, x358001, x358002, x358003, x377000, x377001, x377002, x377003, x384000, x384001, x384002, x384003, x396000, x396001, x396002, x396003 => if x54 = true then (some false) else ((laws_toShard.f k x357000 x357001 x357002 x357003).bind fun bt397 => ((laws_eqShard.f k x384000 x384001 x384002 x384003 bt397.1 bt397.2.1 bt397.2.2.1 bt397.2.2.2).bind fun t403 => (if t403 = true then ((laws_markShard.f k x384000 x384001 x384002 x384003 1).bind fun bt404 => (if bt404.1 < 0 then (laws_FnExactAddEvent.j1 k x1 x2 x11 true x357000 x357001 x357002 x357003 x358000 x358001 x358002 x358003 x377000 x377001 x377002 x377003 x396000 x396001 x396002 x396003) else ((laws_eqShard.f k x396000 x396001 x396002 x396003 x377000 x377001 x377002 x377003).bind fun t406 => (if t406 = true then (laws_FnExactAddEvent.j1 k x1 x2 x11 (x14 != x11) x357000 x357001 x357002 x357003 x358000 x358001 x358002 x358003 x377000 x377001 x377002 x377003 x396000 x396001 x396002 x396003) else (laws_FnExactAddEvent.j1 k x1 x2 x11 true x357000 x357001 x357002 x357003 x358000 x358001 x358002 x358003 x377000 x377001 x377002 x377003 x396000 x396001 x396002 x396003))))) else (some false))))
def laws_FnExactAddEvent.j1 : Nat → Int → Int → Int → Bool → List (S86) → Int → Int → Int → Int → Int → Int → Int → List (S62) → Int → Int → Int → List (S62) → Int → Int → Int → Option (Bool)
 | 0, _, _, _, _, _, _, _, _, _, _, _, _, _, _, _, _, _, _, _, _ => none
 | k + 1, x1, x2, x11, x75, x357000, x357001, x357002, x357003, x358000, x358001, x358002, x358003, x377000, x377001, x377002, x377003, x396000, x396001, x396002, x396003 => if x75 = true then (some false) else ((laws_markShard.f k x396000 x396001 x396002 x396003 1).bind fun bt407 => ((laws_heldShard.f k bt407.2 x396001 x396002 x396003 1).bind fun t409 => (if t409 < 0 then (some false) else (if t409 = bt407.1 then ((laws_toShard.f k x357000 x357001 x357002 x357003).bind fun bt410 => ((laws_toFrame.f x358000 x358001 x358002 x358003).bind fun bt416 => ((impl_AddEvent.f k bt410.1 bt410.2.1 bt410.2.2.1 bt410.2.2.2 x1 x2 bt416.1 bt416.2.1 bt416.2.2.1 bt416.2.2.2).bind fun bt420 => ((laws_eqShard.f k bt420.1 bt420.2.1 bt420.2.2.1 bt420.2.2.2.1 x377000 x377001 x377002 x377003).bind fun t428 => (if t428 = true then (laws_FnExactAddEvent.j2 k bt407.1 (bt420.2.2.2.2 != x11) bt407.2 x396001 x396002 x396003) else (laws_FnExactAddEvent.j2 k bt407.1 true bt407.2 x396001 x396002 x396003)))))) else (some false)))))
def laws_FnExactAddEvent.j2 : Nat → Int → Bool → List (S62) → Int → Int → Int → Option (Bool)
 | 0, _, _, _, _, _, _ => none
 | k + 1, x16, x105, x396000, x396001, x396002, x396003 => if x105 = true then (some false) else ((laws_heldShard.f k x396000 x396001 x396002 x396003 1).bind fun t429 => (if t429 < 0 then (some false) else (if t429 = x16 then (some true) else (some false))))
end
def laws_FnExactAddEvent.f (k : Nat) (l0_0 : List (S86)) (a0_1 : Int) (a0_2 : Int) (a0_3 : Int) (a1 : Int) (a2 : Int) (a3_0 : Int) (a3_1 : Int) (a3_2 : Int) (a3_3 : Int) : Option (Bool) := (laws_szShard.f l0_0 a0_1 a0_2 a0_3 1048576).bind fun t358 => (if t358 < 0 then (some true) else ((laws_toShard.f k l0_0 a0_1 a0_2 a0_3).bind fun bt359 => ((laws_toFrame.f a3_0 a3_1 a3_2 a3_3).bind fun bt365 => ((spec_AddEvent.f k bt359.1 bt359.2.1 bt359.2.2.1 bt359.2.2.2 a1 a2 bt365.1 bt365.2.1 bt365.2.2.1 bt365.2.2.2).bind fun bt369 => ((laws_toShard.f k l0_0 a0_1 a0_2 a0_3).bind fun bt377 => ((laws_toFrame.f a3_0 a3_1 a3_2 a3_3).bind fun bt384 => ((impl_AddEvent.f k bt377.1 bt377.2.1 bt377.2.2.1 bt377.2.2.2 a1 a2 bt384.1 bt384.2.1 bt384.2.2.1 bt384.2.2.2).bind fun bt388 => ((laws_eqShard.f k bt388.1 bt388.2.1 bt388.2.2.1 bt388.2.2.2.1 bt369.1 bt369.2.1 bt369.2.2.1 bt369.2.2.2.1).bind fun t396 => (if t396 = true then (laws_FnExactAddEvent.j0 k a1 a2 bt369.2.2.2.2 bt388.2.2.2.2 (bt388.2.2.2.2 != bt369.2.2.2.2) l0_0 a0_1 a0_2 a0_3 a3_0 a3_1 a3_2 a3_3 bt369.1 bt369.2.1 bt369.2.2.1 bt369.2.2.2.1 bt377.1 bt377.2.1 bt377.2.2.1 bt377.2.2.2 bt388.1 bt388.2.1 bt388.2.2.1 bt388.2.2.2.1) else (laws_FnExactAddEvent.j0 k a1 a2 bt369.2.2.2.2 bt388.2.2.2.2 true l0_0 a0_1 a0_2 a0_3 a3_0 a3_1 a3_2 a3_3 bt369.1 bt369.2.1 bt369.2.2.1 bt369.2.2.2.1 bt377.1 bt377.2.1 bt377.2.2.1 bt377.2.2.2 bt388.1 bt388.2.1 bt388.2.2.1 bt388.2.2.2.1))))))))))
theorem laws_FnExactAddEvent.mono_l : ∀ k, (∀ y0 y1 y2 y3 y4 y5 y6 y7 y8 y9 y10 y11 y12 y13 y14 y15 y16 y17 y18 y19 y20 y21 y22 y23 y24, LeO (laws_FnExactAddEvent.j0 k y0 y1 y2 y3 y4 y5 y6 y7 y8 y9 y10 y11 y12 y13 y14 y15 y16 y17 y18 y19 y20 y21 y22 y23 y24) (laws_FnExactAddEvent.j0 (k + 1) y0 y1 y2 y3 y4 y5 y6 y7 y8 y9 y10 y11 y12 y13 y14 y15 y16 y17 y18 y19 y20 y21 y22 y23 y24)) ∧ (∀ y0 y1 y2 y3 y4 y5 y6 y7 y8 y9 y10 y11 y12 y13 y14 y15 y16 y17 y18 y19, LeO (laws_FnExactAddEvent.j1 k y0 y1 y2 y3 y4 y5 y6 y7 y8 y9 y10 y11 y12 y13 y14 y15 y16 y17 y18 y19) (laws_FnExactAddEvent.j1 (k + 1) y0 y1 y2 y3 y4 y5 y6 y7 y8 y9 y10 y11 y12 y13 y14 y15 y16 y17 y18 y19)) ∧ (∀ y0 y1 y2 y3 y4 y5, LeO (laws_FnExactAddEvent.j2 k y0 y1 y2 y3 y4 y5) (laws_FnExactAddEvent.j2 (k + 1) y0 y1 y2 y3 y4 y5))
 | 0 => ⟨fun _ _ _ _ _ _ _ _ _ _ _ _ _ _ _ _ _ _ _ _ _ _ _ _ _ r h => by simp [laws_FnExactAddEvent.j0] at h, fun _ _ _ _ _ _ _ _ _ _ _ _ _ _ _ _ _ _ _ _ r h => by simp [laws_FnExactAddEvent.j1] at h, fun _ _ _ _ _ _ r h => by simp [laws_FnExactAddEvent.j2] at h⟩
 | k + 1 => by
  obtain ⟨ih0, ih1, ih2⟩ := laws_FnExactAddEvent.mono_l k
  refine ⟨?_, ?_, ?_⟩
  ·
   intro y0 y1 y2 y3 y4 y5 y6 y7 y8 y9 y10 y11 y12 y13 y14 y15 y16 y17 y18 y19 y20 y21 y22 y23 y24
   unfold laws_FnExactAddEvent.j0
   repeat' first
   | (with_reducible exact ih0 _ _ _ _ _ _ _ _ _ _ _ _ _ _ _ _ _ _ _ _ _ _ _ _ _)
   | (with_reducible exact ih1 _ _ _ _ _ _ _ _ _ _ _ _ _ _ _ _ _ _ _ _)
   | (with_reducible exact ih2 _ _ _ _ _ _)
   | (with_reducible exact impl_AddEvent.mono _ _ _ _ _ _ _ _ _ _ _)
   | (with_reducible exact laws_eqShard.mono _ _ _ _ _ _ _ _ _)
   | (with_reducible exact laws_heldShard.mono _ _ _ _ _ _)
   | (with_reducible exact laws_markShard.mono _ _ _ _ _ _)
   | (with_reducible exact laws_toShard.mono _ _ _ _ _)
   | (with_reducible exact spec_AddEvent.mono _ _ _ _ _ _ _ _ _ _ _)
   | (with_reducible exact LeO.refl _)
   | (with_reducible exact LeO.none _)
   | (with_reducible refine LeO.ite ?_ ?_)
   | (with_reducible refine LeO.bind ?_ (fun _ => ?_))
   | exact ih0 _ _ _ _ _ _ _ _ _ _ _ _ _ _ _ _ _ _ _ _ _ _ _ _ _
   | exact ih1 _ _ _ _ _ _ _ _ _ _ _ _ _ _ _ _ _ _ _ _
   | exact ih2 _ _ _ _ _ _
   | exact impl_AddEvent.mono _ _ _ _ _ _ _ _ _ _ _
   | exact laws_eqShard.mono _ _ _ _ _ _ _ _ _
   | exact laws_heldShard.mono _ _ _ _ _ _
   | exact laws_markShard.mono _ _ _ _ _ _
   | exact laws_toShard.mono _ _ _ _ _
   | exact spec_AddEvent.mono _ _ _ _ _ _ _ _ _ _ _
   | exact LeO.none _
   | refine LeO.ite ?_ ?_
   | refine LeO.bind ?_ (fun _ => ?_)
  ·
   intro y0 y1 y2 y3 y4 y5 y6 y7 y8 y9 y10 y11 y12 y13 y14 y15 y16 y17 y18 y19
   unfold laws_FnExactAddEvent.j1
   repeat' first
   | (with_reducible exact ih0 _ _ _ _ _ _ _ _ _ _ _ _ _ _ _ _ _ _ _ _ _ _ _ _ _)
   | (with_reducible exact ih1 _ _ _ _ _ _ _ _ _ _ _ _ _ _ _ _ _ _ _ _)
   | (with_reducible exact ih2 _ _ _ _ _ _)
   | (with_reducible exact impl_AddEvent.mono _ _ _ _ _ _ _ _ _ _ _)
   | (with_reducible exact laws_eqShard.mono _ _ _ _ _ _ _ _ _)
   | (with_reducible exact laws_heldShard.mono _ _ _ _ _ _)
   | (with_reducible exact laws_markShard.mono _ _ _ _ _ _)
   | (with_reducible exact laws_toShard.mono _ _ _ _ _)
   | (with_reducible exact spec_AddEvent.mono _ _ _ _ _ _ _ _ _ _ _)
   | (with_reducible exact LeO.refl _)
   | (with_reducible exact LeO.none _)
   | (with_reducible refine LeO.ite ?_ ?_)
   | (with_reducible refine LeO.bind ?_ (fun _ => ?_))
   | exact ih0 _ _ _ _ _ _ _ _ _ _ _ _ _ _ _ _ _ _ _ _ _ _ _ _ _
   | exact ih1 _ _ _ _ _ _ _ _ _ _ _ _ _ _ _ _ _ _ _ _
   | exact ih2 _ _ _ _ _ _
   | exact impl_AddEvent.mono _ _ _ _ _ _ _ _ _ _ _
   | exact laws_eqShard.mono _ _ _ _ _ _ _ _ _
   | exact laws_heldShard.mono _ _ _ _ _ _
   | exact laws_markShard.mono _ _ _ _ _ _
   | exact laws_toShard.mono _ _ _ _ _
   | exact spec_AddEvent.mono _ _ _ _ _ _ _ _ _ _ _
   | exact LeO.none _
   | refine LeO.ite ?_ ?_
   | refine LeO.bind ?_ (fun _ => ?_)
  intro y0 y1 y2 y3 y4 y5
  unfold laws_FnExactAddEvent.j2
  repeat' first
  | (with_reducible exact ih0 _ _ _ _ _ _ _ _ _ _ _ _ _ _ _ _ _ _ _ _ _ _ _ _ _)
  | (with_reducible exact ih1 _ _ _ _ _ _ _ _ _ _ _ _ _ _ _ _ _ _ _ _)
  | (with_reducible exact ih2 _ _ _ _ _ _)
  | (with_reducible exact impl_AddEvent.mono _ _ _ _ _ _ _ _ _ _ _)
  | (with_reducible exact laws_eqShard.mono _ _ _ _ _ _ _ _ _)
  | (with_reducible exact laws_heldShard.mono _ _ _ _ _ _)
  | (with_reducible exact laws_markShard.mono _ _ _ _ _ _)
  | (with_reducible exact laws_toShard.mono _ _ _ _ _)
  | (with_reducible exact spec_AddEvent.mono _ _ _ _ _ _ _ _ _ _ _)
  | (with_reducible exact LeO.refl _)
  | (with_reducible exact LeO.none _)
  | (with_reducible refine LeO.ite ?_ ?_)
  | (with_reducible refine LeO.bind ?_ (fun _ => ?_))
  | exact ih0 _ _ _ _ _ _ _ _ _ _ _ _ _ _ _ _ _ _ _ _ _ _ _ _ _
  | exact ih1 _ _ _ _ _ _ _ _ _ _ _ _ _ _ _ _ _ _ _ _
  | exact ih2 _ _ _ _ _ _
  | exact impl_AddEvent.mono _ _ _ _ _ _ _ _ _ _ _
  | exact laws_eqShard.mono _ _ _ _ _ _ _ _ _
  | exact laws_heldShard.mono _ _ _ _ _ _
  | exact laws_markShard.mono _ _ _ _ _ _
  | exact laws_toShard.mono _ _ _ _ _
  | exact spec_AddEvent.mono _ _ _ _ _ _ _ _ _ _ _
  | exact LeO.none _
  | refine LeO.ite ?_ ?_
  | refine LeO.bind ?_ (fun _ => ?_)
theorem laws_FnExactAddEvent.mono : ∀ a0 a1 a2 a3 a4 a5 a6 a7 a8 a9 k, LeO (laws_FnExactAddEvent.f k a0 a1 a2 a3 a4 a5 a6 a7 a8 a9) (laws_FnExactAddEvent.f (k + 1) a0 a1 a2 a3 a4 a5 a6 a7 a8 a9) := by
 intro a0 a1 a2 a3 a4 a5 a6 a7 a8 a9 k
 obtain ⟨ih0, ih1, ih2⟩ := laws_FnExactAddEvent.mono_l k
 unfold laws_FnExactAddEvent.f
 repeat' first
   | (with_reducible exact ih0 _ _ _ _ _ _ _ _ _ _ _ _ _ _ _ _ _ _ _ _ _ _ _ _ _)
   | (with_reducible exact ih1 _ _ _ _ _ _ _ _ _ _ _ _ _ _ _ _ _ _ _ _)
   | (with_reducible exact ih2 _ _ _ _ _ _)
   | (with_reducible exact impl_AddEvent.mono _ _ _ _ _ _ _ _ _ _ _)
   | (with_reducible exact laws_eqShard.mono _ _ _ _ _ _ _ _ _)
   | (with_reducible exact laws_heldShard.mono _ _ _ _ _ _)
   | (with_reducible exact laws_markShard.mono _ _ _ _ _ _)
   | (with_reducible exact laws_toShard.mono _ _ _ _ _)
   | (with_reducible exact spec_AddEvent.mono _ _ _ _ _ _ _ _ _ _ _)
   | (with_reducible exact LeO.refl _)
   | (with_reducible exact LeO.none _)
   | (with_reducible refine LeO.ite ?_ ?_)
   | (with_reducible refine LeO.bind ?_ (fun _ => ?_))
   | exact ih0 _ _ _ _ _ _ _ _ _ _ _ _ _ _ _ _ _ _ _ _ _ _ _ _ _
   | exact ih1 _ _ _ _ _ _ _ _ _ _ _ _ _ _ _ _ _ _ _ _
   | exact ih2 _ _ _ _ _ _
   | exact impl_AddEvent.mono _ _ _ _ _ _ _ _ _ _ _
   | exact laws_eqShard.mono _ _ _ _ _ _ _ _ _
   | exact laws_heldShard.mono _ _ _ _ _ _
   | exact laws_markShard.mono _ _ _ _ _ _
   | exact laws_toShard.mono _ _ _ _ _
   | exact spec_AddEvent.mono _ _ _ _ _ _ _ _ _ _ _
   | exact LeO.none _
   | refine LeO.ite ?_ ?_
   | refine LeO.bind ?_ (fun _ => ?_)
def laws_FnExactAddEvent.T5 : Bool × List (List Nat × List Nat) := (true, [([], []), ([0], [0]), ([], []), ([], []), ([], []), ([4, 1], [4]), ([1, 2, 3, 5, 5], [1, 2, 3, 5]), ([6], [6]), ([7], [7]), ([7], [7]), ([], []), ([10, 8, 6, 0, 1, 2, 3, 4, 5, 6, 7, 8, 10], [8, 10]), ([9, 11, 0, 1, 2, 3, 4, 5, 6, 7, 8, 9, 10, 11], [9])])
def laws_FnExactAddEvent.B5 : List Nat := [0, 1, 0, 0, 0, 19, 63, 127, 255, 255, 0, 1535, 4095]
theorem laws_FnExactAddEvent.tab5 : rtab .any (opsOf Try.f3 5) = laws_FnExactAddEvent.T5 := by kernel_rfl
theorem laws_FnExactAddEvent.bits5 : waitsOk laws_FnExactAddEvent.T5.2 laws_FnExactAddEvent.B5 = true := by kernel_rfl
def laws_FnExactAddEvent.T7 : Bool × List (List Nat × List Nat) := (true, [([], []), ([], []), ([], []), ([], []), ([3], [3]), ([0, 1, 2, 4, 4], [0, 1, 2, 4]), ([5], [5]), ([6], [6]), ([6], [6]), ([], []), ([9, 7, 5, 0, 1, 2, 3, 4, 5, 6, 7, 9], [7, 9]), ([8, 10, 0, 1, 2, 3, 4, 5, 6, 7, 8, 9, 10], [8])])
def laws_FnExactAddEvent.B7 : List Nat := [0, 0, 0, 0, 8, 31, 63, 127, 127, 0, 767, 2047]
theorem laws_FnExactAddEvent.tab7 : rtab .any (opsOf Try.f3 7) = laws_FnExactAddEvent.T7 := by kernel_rfl
theorem laws_FnExactAddEvent.bits7 : waitsOk laws_FnExactAddEvent.T7.2 laws_FnExactAddEvent.B7 = true := by kernel_rfl
def laws_FnExactAddEvent.T24 : Bool × List (List Nat × List Nat) := (true, [([], []), ([0], [0]), ([], []), ([], []), ([], []), ([4, 1], [4]), ([1, 2, 3, 5, 5], [1, 2, 3, 5]), ([6], [6]), ([7], [7]), ([7], [7]), ([], []), ([10, 8, 6, 0, 1, 2, 3, 4, 5, 6, 7, 8, 10], [8, 10]), ([9, 11, 0, 1, 2, 3, 4, 5, 6, 7, 8, 9, 10, 11], [9])])
def laws_FnExactAddEvent.B24 : List Nat := [0, 1, 0, 0, 0, 19, 63, 127, 255, 255, 0, 1535, 4095]
theorem laws_FnExactAddEvent.tab24 : rtab .any (opsOf Try.f3 24) = laws_FnExactAddEvent.T24 := by kernel_rfl
theorem laws_FnExactAddEvent.bits24 : waitsOk laws_FnExactAddEvent.T24.2 laws_FnExactAddEvent.B24 = true := by kernel_rfl
set_option maxHeartbeats 8000000 in
set_option maxRecDepth 100000 in
theorem laws_FnExactAddEvent.calls (k : Nat) (A0_0 : Option Addr) (c0_0 : Nat) (l0_0 : List (S86)) (a0_1 : Int) (a0_2 : Int) (a0_3 : Int) (a1 : Int) (a2 : Int) (a3_0 : Int) (a3_1 : Int) (a3_2 : Int) (a3_3 : Int) (r : Bool) (w : World) (hr0_0 : Kd.C k86 w A0_0 l0_0.length l0_0) (hc0_0 : l0_0.length ≤ c0_0) (hT : Aside0 (r = true)) (h : laws_FnExactAddEvent.f k l0_0 a0_1 a0_2 a0_3 a1 a2 a3_0 a3_1 a3_2 a3_3 = some r) :
  Calls Try.prog 3 #[.agg #[.slice A0_0 l0_0.length c0_0, .int .i64 a0_1, .int .i64 a0_2, .int .i64 a0_3], .int .i64 a1, .int .i64 a2, .agg #[.int .i64 a3_0, .int .i64 a3_1, .int .i64 a3_2, .int .i64 a3_3]] w fun e w' => e = .returned (.bool r) ∧ Below w.heap.size w w' := by
 have hu24 := Try.underlying24
 have hu26 := Try.underlying26
 have hu30 := Try.underlying30
 have HR0_0 := Aside0.mk hr0_0
 have HC0_0 := Aside0.mk hc0_0
 clear hr0_0 hc0_0
 have HB := am_ (Below.refl w.heap.size w)
 have H : ((laws_szShard.f l0_0 a0_1 a0_2 a0_3 1048576).bind fun t358 => (if t358 < 0 then (some true) else ((laws_toShard.f k l0_0 a0_1 a0_2 a0_3).bind fun bt359 => ((laws_toFrame.f a3_0 a3_1 a3_2 a3_3).bind fun bt365 => ((spec_AddEvent.f k bt359.1 bt359.2.1 bt359.2.2.1 bt359.2.2.2 a1 a2 bt365.1 bt365.2.1 bt365.2.2.1 bt365.2.2.2).bind fun bt369 => ((laws_toShard.f k l0_0 a0_1 a0_2 a0_3).bind fun bt377 => ((laws_toFrame.f a3_0 a3_1 a3_2 a3_3).bind fun bt384 => ((impl_AddEvent.f k bt377.1 bt377.2.1 bt377.2.2.1 bt377.2.2.2 a1 a2 bt384.1 bt384.2.1 bt384.2.2.1 bt384.2.2.2).bind fun bt388 => ((laws_eqShard.f k bt388.1 bt388.2.1 bt388.2.2.1 bt388.2.2.2.1 bt369.1 bt369.2.1 bt369.2.2.1 bt369.2.2.2.1).bind fun t396 => (if t396 = true then (laws_FnExactAddEvent.j0 k a1 a2 bt369.2.2.2.2 bt388.2.2.2.2 (bt388.2.2.2.2 != bt369.2.2.2.2) l0_0 a0_1 a0_2 a0_3 a3_0 a3_1 a3_2 a3_3 bt369.1 bt369.2.1 bt369.2.2.1 bt369.2.2.2.1 bt377.1 bt377.2.1 bt377.2.2.1 bt377.2.2.2 bt388.1 bt388.2.1 bt388.2.2.1 bt388.2.2.2.1) else (laws_FnExactAddEvent.j0 k a1 a2 bt369.2.2.2.2 bt388.2.2.2.2 true l0_0 a0_1 a0_2 a0_3 a3_0 a3_1 a3_2 a3_3 bt369.1 bt369.2.1 bt369.2.2.1 bt369.2.2.2.1 bt377.1 bt377.2.1 bt377.2.2.1 bt377.2.2.2 bt388.1 bt388.2.1 bt388.2.2.1 bt388.2.2.2.1))))))))))) = some r := h
 clear h
 replace H := Option.bind_eq_some_iff.mp H
 obtain ⟨t358, A50, H⟩ := H
 replace H : (if t358 < 0 then (some true) else ((laws_toShard.f k l0_0 a0_1 a0_2 a0_3).bind fun bt359 => ((laws_toFrame.f a3_0 a3_1 a3_2 a3_3).bind fun bt365 => ((spec_AddEvent.f k bt359.1 bt359.2.1 bt359.2.2.1 bt359.2.2.2 a1 a2 bt365.1 bt365.2.1 bt365.2.2.1 bt365.2.2.2).bind fun bt369 => ((laws_toShard.f k l0_0 a0_1 a0_2 a0_3).bind fun bt377 => ((laws_toFrame.f a3_0 a3_1 a3_2 a3_3).bind fun bt384 => ((impl_AddEvent.f k bt377.1 bt377.2.1 bt377.2.2.1 bt377.2.2.2 a1 a2 bt384.1 bt384.2.1 bt384.2.2.1 bt384.2.2.2).bind fun bt388 => ((laws_eqShard.f k bt388.1 bt388.2.1 bt388.2.2.1 bt388.2.2.2.1 bt369.1 bt369.2.1 bt369.2.2.1 bt369.2.2.2.1).bind fun t396 => (if t396 = true then (laws_FnExactAddEvent.j0 k a1 a2 bt369.2.2.2.2 bt388.2.2.2.2 (bt388.2.2.2.2 != bt369.2.2.2.2) l0_0 a0_1 a0_2 a0_3 a3_0 a3_1 a3_2 a3_3 bt369.1 bt369.2.1 bt369.2.2.1 bt369.2.2.2.1 bt377.1 bt377.2.1 bt377.2.2.1 bt377.2.2.2 bt388.1 bt388.2.1 bt388.2.2.1 bt388.2.2.2.1) else (laws_FnExactAddEvent.j0 k a1 a2 bt369.2.2.2.2 bt388.2.2.2.2 true l0_0 a0_1 a0_2 a0_3 a3_0 a3_1 a3_2 a3_3 bt369.1 bt369.2.1 bt369.2.2.1 bt369.2.2.2.1 bt377.1 bt377.2.1 bt377.2.2.1 bt377.2.2.2 bt388.1 bt388.2.1 bt388.2.2.1 bt388.2.2.2.1)))))))))) = some r := H
 have A5 := Aside0.mk A50
 clear A50
 by_cases c6 : t358 < 0
 ·
  rw [if_pos c6] at H
  have c6b0 : decide (t358 < 0) = true := decide_eq_true c6
  clear c6
  obtain rfl := Option.some.inj H
  go_enter Try.func3, Try.ntmps3
  go_wp2_with (first | ((with_reducible refine gate_dst (N := 4) rfl ?_); refine bx_ (N := 4) (cs := #[.slice A0_0 l0_0.length c0_0, .int .i64 a0_1, .int .i64 a0_2, .int .i64 a0_3]) (t := 24) ?_; intro gb356 hg w7 hbox hb; have BK356 := am_ (hbox); have GW356 := gs_ hg HB.out; have GE356 := gs_ hg HB.out; replace HB := hs_ HB hb; clear hb hbox hg) | ((with_reducible refine gate_dst (N := 7) rfl ?_); refine bx_ (N := 7) (cs := #[.int .i64 a3_0, .int .i64 a3_1, .int .i64 a3_2, .int .i64 a3_3]) (t := 26) ?_; intro gb357 hg w8 hbox hb; have BK357 := am_ (hbox); have GW357 := gs_ hg HB.out; have GE357 := gs_ hg HB.out; replace HB := hs_ HB hb; have NB356_357 := nl_ hg BK356.out; have NB357_356 := ng_ hg BK356.out; replace BK356 := bs_ BK356 hb; clear hb hbox hg; have hnb9 := NB356_357.out; have hnc9 := NB357_356.out; obtain ⟨hcz10_0, hcz10_1, hcz10_2, hcz10_3⟩ := cb4_ BK356.out; obtain ⟨hfz10_0, hfz10_1, hfz10_2⟩ := bf3_ BK356.out; have hfz10_3 := blk_frozen BK356.out 3) | ((with_reducible refine gate_callee (f := 5) rfl ?_); refine goesL_ (some 22) rfl rfl Try.func5 (by kernel_rfl) rfl #[.agg #[.slice A0_0 l0_0.length c0_0, .int .i64 a0_1, .int .i64 a0_2, .int .i64 a0_3], .int .i64 1048576] rfl ul_ ?_; (with_reducible refine (laws_szShard.calls _ _ l0_0 a0_1 a0_2 a0_3 1048576 t358 _ ?side1 ?side2 A5.out).mono ?_); (case side1 => repeat (first | exact (Kd.C_below HR0_0.out HB.out) | (with_reducible refine Kd.C_alloc ?_ _) | (with_reducible refine Kd.C_drewN ?_ _) | (with_reducible refine Kd.C_drew ?_))); (case side2 => exact HC0_0.out); rintro e w11 ⟨rfl, hb⟩; refine ⟨_, rfl, ?_⟩; replace BK356 := bs_ BK356 hb; replace BK357 := bs_ BK357 hb; replace HB := hs_ HB hb; (try clear hb); (try clear hb2); (try clear hk); (try clear hi)))
  go_ret
  exact ⟨ew_, ue_ HB.out⟩
 rw [if_neg c6] at H
 have c6b0 : decide (t358 < 0) = false := decide_eq_false c6
 clear c6
 replace H := Option.bind_eq_some_iff.mp H
 obtain ⟨⟨t359, t362, t363, t364⟩, A120, H⟩ := H
 replace H : ((laws_toFrame.f a3_0 a3_1 a3_2 a3_3).bind fun bt365 => ((spec_AddEvent.f k t359 t362 t363 t364 a1 a2 bt365.1 bt365.2.1 bt365.2.2.1 bt365.2.2.2).bind fun bt369 => ((laws_toShard.f k l0_0 a0_1 a0_2 a0_3).bind fun bt377 => ((laws_toFrame.f a3_0 a3_1 a3_2 a3_3).bind fun bt384 => ((impl_AddEvent.f k bt377.1 bt377.2.1 bt377.2.2.1 bt377.2.2.2 a1 a2 bt384.1 bt384.2.1 bt384.2.2.1 bt384.2.2.2).bind fun bt388 => ((laws_eqShard.f k bt388.1 bt388.2.1 bt388.2.2.1 bt388.2.2.2.1 bt369.1 bt369.2.1 bt369.2.2.1 bt369.2.2.2.1).bind fun t396 => (if t396 = true then (laws_FnExactAddEvent.j0 k a1 a2 bt369.2.2.2.2 bt388.2.2.2.2 (bt388.2.2.2.2 != bt369.2.2.2.2) l0_0 a0_1 a0_2 a0_3 a3_0 a3_1 a3_2 a3_3 bt369.1 bt369.2.1 bt369.2.2.1 bt369.2.2.2.1 bt377.1 bt377.2.1 bt377.2.2.1 bt377.2.2.2 bt388.1 bt388.2.1 bt388.2.2.1 bt388.2.2.2.1) else (laws_FnExactAddEvent.j0 k a1 a2 bt369.2.2.2.2 bt388.2.2.2.2 true l0_0 a0_1 a0_2 a0_3 a3_0 a3_1 a3_2 a3_3 bt369.1 bt369.2.1 bt369.2.2.1 bt369.2.2.2.1 bt377.1 bt377.2.1 bt377.2.2.1 bt377.2.2.2 bt388.1 bt388.2.1 bt388.2.2.1 bt388.2.2.2.1)))))))) = some r := H
 have A12 := Aside0.mk A120
 clear A120
 replace H := Option.bind_eq_some_iff.mp H
 obtain ⟨⟨t365, t366, t367, t368⟩, A130, H⟩ := H
 replace H : ((spec_AddEvent.f k t359 t362 t363 t364 a1 a2 t365 t366 t367 t368).bind fun bt369 => ((laws_toShard.f k l0_0 a0_1 a0_2 a0_3).bind fun bt377 => ((laws_toFrame.f a3_0 a3_1 a3_2 a3_3).bind fun bt384 => ((impl_AddEvent.f k bt377.1 bt377.2.1 bt377.2.2.1 bt377.2.2.2 a1 a2 bt384.1 bt384.2.1 bt384.2.2.1 bt384.2.2.2).bind fun bt388 => ((laws_eqShard.f k bt388.1 bt388.2.1 bt388.2.2.1 bt388.2.2.2.1 bt369.1 bt369.2.1 bt369.2.2.1 bt369.2.2.2.1).bind fun t396 => (if t396 = true then (laws_FnExactAddEvent.j0 k a1 a2 bt369.2.2.2.2 bt388.2.2.2.2 (bt388.2.2.2.2 != bt369.2.2.2.2) l0_0 a0_1 a0_2 a0_3 a3_0 a3_1 a3_2 a3_3 bt369.1 bt369.2.1 bt369.2.2.1 bt369.2.2.2.1 bt377.1 bt377.2.1 bt377.2.2.1 bt377.2.2.2 bt388.1 bt388.2.1 bt388.2.2.1 bt388.2.2.2.1) else (laws_FnExactAddEvent.j0 k a1 a2 bt369.2.2.2.2 bt388.2.2.2.2 true l0_0 a0_1 a0_2 a0_3 a3_0 a3_1 a3_2 a3_3 bt369.1 bt369.2.1 bt369.2.2.1 bt369.2.2.2.1 bt377.1 bt377.2.1 bt377.2.2.1 bt377.2.2.2 bt388.1 bt388.2.1 bt388.2.2.1 bt388.2.2.2.1))))))) = some r := H
 have A13 := Aside0.mk A130
 clear A130
 replace H := Option.bind_eq_some_iff.mp H
 obtain ⟨⟨t369, t372, t373, t374, t375⟩, A140, H⟩ := H
 replace H : ((laws_toShard.f k l0_0 a0_1 a0_2 a0_3).bind fun bt377 => ((laws_toFrame.f a3_0 a3_1 a3_2 a3_3).bind fun bt384 => ((impl_AddEvent.f k bt377.1 bt377.2.1 bt377.2.2.1 bt377.2.2.2 a1 a2 bt384.1 bt384.2.1 bt384.2.2.1 bt384.2.2.2).bind fun bt388 => ((laws_eqShard.f k bt388.1 bt388.2.1 bt388.2.2.1 bt388.2.2.2.1 t369 t372 t373 t374).bind fun t396 => (if t396 = true then (laws_FnExactAddEvent.j0 k a1 a2 t375 bt388.2.2.2.2 (bt388.2.2.2.2 != t375) l0_0 a0_1 a0_2 a0_3 a3_0 a3_1 a3_2 a3_3 t369 t372 t373 t374 bt377.1 bt377.2.1 bt377.2.2.1 bt377.2.2.2 bt388.1 bt388.2.1 bt388.2.2.1 bt388.2.2.2.1) else (laws_FnExactAddEvent.j0 k a1 a2 t375 bt388.2.2.2.2 true l0_0 a0_1 a0_2 a0_3 a3_0 a3_1 a3_2 a3_3 t369 t372 t373 t374 bt377.1 bt377.2.1 bt377.2.2.1 bt377.2.2.2 bt388.1 bt388.2.1 bt388.2.2.1 bt388.2.2.2.1)))))) = some r := H
 have A14 := Aside0.mk A140
 clear A140
 replace H := Option.bind_eq_some_iff.mp H
 obtain ⟨⟨t377, t380, t381, t382⟩, A150, H⟩ := H
 replace H : ((laws_toFrame.f a3_0 a3_1 a3_2 a3_3).bind fun bt384 => ((impl_AddEvent.f k t377 t380 t381 t382 a1 a2 bt384.1 bt384.2.1 bt384.2.2.1 bt384.2.2.2).bind fun bt388 => ((laws_eqShard.f k bt388.1 bt388.2.1 bt388.2.2.1 bt388.2.2.2.1 t369 t372 t373 t374).bind fun t396 => (if t396 = true then (laws_FnExactAddEvent.j0 k a1 a2 t375 bt388.2.2.2.2 (bt388.2.2.2.2 != t375) l0_0 a0_1 a0_2 a0_3 a3_0 a3_1 a3_2 a3_3 t369 t372 t373 t374 t377 t380 t381 t382 bt388.1 bt388.2.1 bt388.2.2.1 bt388.2.2.2.1) else (laws_FnExactAddEvent.j0 k a1 a2 t375 bt388.2.2.2.2 true l0_0 a0_1 a0_2 a0_3 a3_0 a3_1 a3_2 a3_3 t369 t372 t373 t374 t377 t380 t381 t382 bt388.1 bt388.2.1 bt388.2.2.1 bt388.2.2.2.1))))) = some r := H
 have A15 := Aside0.mk A150
 clear A150
 replace H := Option.bind_eq_some_iff.mp H
 obtain ⟨⟨t384, t385, t386, t387⟩, A160, H⟩ := H
 replace H : ((impl_AddEvent.f k t377 t380 t381 t382 a1 a2 t384 t385 t386 t387).bind fun bt388 => ((laws_eqShard.f k bt388.1 bt388.2.1 bt388.2.2.1 bt388.2.2.2.1 t369 t372 t373 t374).bind fun t396 => (if t396 = true then (laws_FnExactAddEvent.j0 k a1 a2 t375 bt388.2.2.2.2 (bt388.2.2.2.2 != t375) l0_0 a0_1 a0_2 a0_3 a3_0 a3_1 a3_2 a3_3 t369 t372 t373 t374 t377 t380 t381 t382 bt388.1 bt388.2.1 bt388.2.2.1 bt388.2.2.2.1) else (laws_FnExactAddEvent.j0 k a1 a2 t375 bt388.2.2.2.2 true l0_0 a0_1 a0_2 a0_3 a3_0 a3_1 a3_2 a3_3 t369 t372 t373 t374 t377 t380 t381 t382 bt388.1 bt388.2.1 bt388.2.2.1 bt388.2.2.2.1)))) = some r := H
 have A16 := Aside0.mk A160
 clear A160
 replace H := Option.bind_eq_some_iff.mp H
 obtain ⟨⟨t388, t391, t392, t393, t394⟩, A170, H⟩ := H
 replace H : ((laws_eqShard.f k t388 t391 t392 t393 t369 t372 t373 t374).bind fun t396 => (if t396 = true then (laws_FnExactAddEvent.j0 k a1 a2 t375 t394 (t394 != t375) l0_0 a0_1 a0_2 a0_3 a3_0 a3_1 a3_2 a3_3 t369 t372 t373 t374 t377 t380 t381 t382 t388 t391 t392 t393) else (laws_FnExactAddEvent.j0 k a1 a2 t375 t394 true l0_0 a0_1 a0_2 a0_3 a3_0 a3_1 a3_2 a3_3 t369 t372 t373 t374 t377 t380 t381 t382 t388 t391 t392 t393))) = some r := H
 have A17 := Aside0.mk A170
 clear A170
 have HC18 := Aside0.mk H
 clear H
 go_enter Try.func3, Try.ntmps3
 try go_wp2_with (first | ((with_reducible refine gate_dst (N := 4) rfl ?_); refine bx_ (N := 4) (cs := #[.slice A0_0 l0_0.length c0_0, .int .i64 a0_1, .int .i64 a0_2, .int .i64 a0_3]) (t := 24) ?_; intro gb356 hg w19 hbox hb; have BK356 := am_ (hbox); have GW356 := gs_ hg HB.out; have GE356 := gs_ hg HB.out; replace HB := hs_ HB hb; clear hb hbox hg) | ((with_reducible refine gate_dst (N := 7) rfl ?_); refine bx_ (N := 7) (cs := #[.int .i64 a3_0, .int .i64 a3_1, .int .i64 a3_2, .int .i64 a3_3]) (t := 26) ?_; intro gb357 hg w20 hbox hb; have BK357 := am_ (hbox); have GW357 := gs_ hg HB.out; have GE357 := gs_ hg HB.out; replace HB := hs_ HB hb; have NB356_357 := nl_ hg BK356.out; have NB357_356 := ng_ hg BK356.out; replace BK356 := bs_ BK356 hb; clear hb hbox hg; have hnb21 := NB356_357.out; have hnc21 := NB357_356.out; obtain ⟨hcz22_0, hcz22_1, hcz22_2, hcz22_3⟩ := cb4_ BK356.out; obtain ⟨hfz22_0, hfz22_1, hfz22_2⟩ := bf3_ BK356.out; have hfz22_3 := blk_frozen BK356.out 3) | ((with_reducible refine gate_callee (f := 5) rfl ?_); refine goesL_ (some 22) rfl rfl Try.func5 (by kernel_rfl) rfl #[.agg #[.slice A0_0 l0_0.length c0_0, .int .i64 a0_1, .int .i64 a0_2, .int .i64 a0_3], .int .i64 1048576] rfl ul_ ?_; (with_reducible refine (laws_szShard.calls _ _ l0_0 a0_1 a0_2 a0_3 1048576 t358 _ ?side1 ?side2 A5.out).mono ?_); (case side1 => repeat (first | exact (Kd.C_below HR0_0.out HB.out) | (with_reducible refine Kd.C_alloc ?_ _) | (with_reducible refine Kd.C_drewN ?_ _) | (with_reducible refine Kd.C_drew ?_))); (case side2 => exact HC0_0.out); rintro e w23 ⟨rfl, hb⟩; refine ⟨_, rfl, ?_⟩; replace BK356 := bs_ BK356 hb; replace BK357 := bs_ BK357 hb; replace HB := hs_ HB hb; (try clear hb); (try clear hb2); (try clear hk); (try clear hi)))
 replace BK356 := am_ (blk_drew BK356.out)
 replace BK357 := am_ (blk_drew BK357.out)
 replace HB := am_ (below_drew1 HB.out)
 refine start_ (n := 13) (S := fun w' => w'.cell? ⟨gb356, 0, none⟩ = some (.slice A0_0 l0_0.length c0_0) ∧ w'.cell? ⟨gb356, 1, none⟩ = some (.int .i64 a0_1) ∧ w'.cell? ⟨gb356, 2, none⟩ = some (.int .i64 a0_2) ∧ w'.cell? ⟨gb356, 3, none⟩ = some (.int .i64 a0_3) ∧ w'.cell? ⟨gb357, 0, none⟩ = some (.int .i64 a3_0) ∧ w'.cell? ⟨gb357, 1, none⟩ = some (.int .i64 a3_1) ∧ w'.cell? ⟨gb357, 2, none⟩ = some (.int .i64 a3_2) ∧ w'.cell? ⟨gb357, 3, none⟩ = some (.int .i64 a3_3)) (ds := []) #[false, false, false, false, false, false, false, false, false, false, false, false, false] (by kernel_rfl) rfl rfl ⟨cb_ BK356.out 0 rfl, cb_ BK356.out 1 rfl, cb_ BK356.out 2 rfl, cb_ BK356.out 3 rfl, cb_ BK357.out 0 rfl, cb_ BK357.out 1 rfl, cb_ BK357.out 2 rfl, cb_ BK357.out 3 rfl⟩ (fun hHeld => ?_); refine with_tabW laws_FnExactAddEvent.tab5 laws_FnExactAddEvent.bits5 (fun HT_ HW_ => ?_)
 generalize w23.drew = w24 at BK356 BK357 HB hHeld ⊢
 refine pu_ (i := 2) (N := some 28) #[false, false, true, false, false, false, false, false, false, false, false, false, false] HT_ ?_
 refine pu_ (i := 3) (N := some 29) #[false, false, true, true, false, false, false, false, false, false, false, false, false] HT_ ?_
 refine tk_ (i := 0) (N := some 26) #[true, false, true, true, false, false, false, false, false, false, false, false, false] HT_ HW_ hHeld ?_
 refine tk_ (i := 4) (N := some 30) #[true, false, true, true, true, false, false, false, false, false, false, false, false] HT_ HW_ hHeld ?_
 refine join_ (σ := Value × Value × Nat) 2 #[true, true, true, true, true, true, true, true, true, true, true, false, false] (fun s_ => [(27, .agg #[s_.1, .int .i64 t362, .int .i64 t363, .int .i64 t364]), (31, .agg #[.int .i64 t365, .int .i64 t366, .int .i64 t367, .int .i64 t368]), (32, .tuple #[.agg #[s_.2.1, .int .i64 t372, .int .i64 t373, .int .i64 t374], .int .i64 t375]), (10, .pointer (some ⟨s_.2.2, 0, none⟩)), (25, .tuple #[.agg #[s_.2.1, .int .i64 t372, .int .i64 t373, .int .i64 t374], .int .i64 t375]), (33, .agg #[s_.2.1, .int .i64 t372, .int .i64 t373, .int .i64 t374]), (34, .int .i64 t375)]) (fun s_ w' => (w'.cell? ⟨gb356, 0, none⟩ = some (.slice A0_0 l0_0.length c0_0) ∧ w'.cell? ⟨gb356, 1, none⟩ = some (.int .i64 a0_1) ∧ w'.cell? ⟨gb356, 2, none⟩ = some (.int .i64 a0_2) ∧ w'.cell? ⟨gb356, 3, none⟩ = some (.int .i64 a0_3) ∧ w'.cell? ⟨gb357, 0, none⟩ = some (.int .i64 a3_0) ∧ w'.cell? ⟨gb357, 1, none⟩ = some (.int .i64 a3_1) ∧ w'.cell? ⟨gb357, 2, none⟩ = some (.int .i64 a3_2) ∧ w'.cell? ⟨gb357, 3, none⟩ = some (.int .i64 a3_3)) ∧ (Kd.R k62 62 w' w.heap.size (fun k_ => some k_ ≠ (s_.2.1 : Value).ownBlock) s_.1 t359) ∧ (Kd.R k62 62 w' w.heap.size (fun k_ => some k_ ≠ (s_.1 : Value).ownBlock) s_.2.1 t369) ∧ (w'.heap[gb356]? = some (.cells #[.slice A0_0 l0_0.length c0_0, .int .i64 a0_1, .int .i64 a0_2, .int .i64 a0_3] 24 (0, 0))) ∧ (w'.heap[gb357]? = some (.cells #[.int .i64 a3_0, .int .i64 a3_1, .int .i64 a3_2, .int .i64 a3_3] 26 (0, 0))) ∧ (w'.heap[s_.2.2]? = some (.cells #[.slice none 0 0, .int .i64 0, .int .i64 0, .int .i64 0] 30 (0, 0))) ∧ (w.heap.size ≤ s_.2.2) ∧ (w.heap.size ≤ s_.2.2) ∧ (gb356 ≠ s_.2.2) ∧ (s_.2.2 ≠ gb356) ∧ (gb357 ≠ s_.2.2) ∧ (s_.2.2 ≠ gb357) ∧ (Below w.heap.size w w')) ?_ ?_
 rotate_left
 ·
  intro hCont
  refine two_ (i := 1) (j := 10) (Ni := some 27) (Nj := some 10) #[true, true, true, true, true, false, false, false, false, false, false, false, false] #[true, false, true, true, true, false, false, false, false, false, true, false, false] rfl rfl rfl rfl (two_of HT_.out (by kernel_rfl)) (by decide) (by decide) (fun K hK => ?_) (fun K hK => ?_)
  ·
   skip
   refine goes_ Try.func7 (by kernel_rfl) rfl #[.agg #[.slice A0_0 l0_0.length c0_0, .int .i64 a0_1, .int .i64 a0_2, .int .i64 a0_3]] (by rfl) rfl rfl ul_ ?_
   with_reducible refine (laws_toShard.calls k _ _ l0_0 a0_1 a0_2 a0_3 t359 t362 t363 t364 _ ?side1 ?side2 A12.out).mono ?_
   (case side1 => repeat (first | exact (Kd.C_below HR0_0.out HB.out) | (with_reducible refine Kd.C_alloc ?_ _) | (with_reducible refine Kd.C_drewN ?_ _) | (with_reducible refine Kd.C_drew ?_)))
   (case side2 => exact HC0_0.out)
   rintro e w25 ⟨v360, rfl, ho0, hb⟩
   refine ⟨_, rfl, ?_⟩
   have HO361 := am_ (Kd.R_lower ho0 (below_size (ue_ HB.out)))
   replace BK356 := bs_ BK356 hb
   replace BK357 := bs_ BK357 hb
   replace HB := hs_ HB hb
   (try clear hb)
   (try clear hb2)
   (try clear hk)
   (try clear hi)
   (try clear ho0)
   refine hK.out _ _ ⟨cb_ BK356.out 0 rfl, cb_ BK356.out 1 rfl, cb_ BK356.out 2 rfl, cb_ BK356.out 3 rfl, cb_ BK357.out 0 rfl, cb_ BK357.out 1 rfl, cb_ BK357.out 2 rfl, cb_ BK357.out 3 rfl⟩ (fun hHeld => ?_)
   clear hK K
   refine norm_ (a' := ?_) ?_ ?_
   rotate_left
   ·
    show Act.put _ (some 27) _ = _
    simp only [Act.put, List.setIfInBounds_toArray, List.set_cons_zero, List.set_cons_succ, i64_w, i32_w]
    rfl
   refine two_ (i := 5) (j := 10) (Ni := some 31) (Nj := some 10) #[true, true, true, true, true, true, false, false, false, false, false, false, false] #[true, true, true, true, true, false, false, false, false, false, true, false, false] rfl rfl rfl rfl (two_of HT_.out (by kernel_rfl)) (by decide) (by decide) (fun K hK => ?_) (fun K hK => ?_)
   ·
    skip
    refine goes_ Try.func8 (by kernel_rfl) rfl #[.agg #[.int .i64 a3_0, .int .i64 a3_1, .int .i64 a3_2, .int .i64 a3_3]] (by rfl) rfl rfl ul_ ?_
    with_reducible refine (laws_toFrame.calls a3_0 a3_1 a3_2 a3_3 t365 t366 t367 t368 _ A13.out).mono ?_
    rintro e w26 ⟨rfl, hb⟩
    refine ⟨_, rfl, ?_⟩
    replace HO361 := am_ (Kd.R_below (ur_ HO361.out) hb)
    replace BK356 := bs_ BK356 hb
    replace BK357 := bs_ BK357 hb
    replace HB := hs_ HB hb
    (try clear hb)
    (try clear hb2)
    (try clear hk)
    (try clear hi)
    obtain ⟨Ao27, co27, eo27⟩ := Kd.R_slice HO361.out
    (first | subst eo27 | (injection eo27 with f1_ f2_ f3_; have f4_ := f1_.symm; have f5_ := f3_.symm; clear f1_ f2_ f3_; subst f4_; subst f5_))
    refine hK.out _ _ ⟨cb_ BK356.out 0 rfl, cb_ BK356.out 1 rfl, cb_ BK356.out 2 rfl, cb_ BK356.out 3 rfl, cb_ BK357.out 0 rfl, cb_ BK357.out 1 rfl, cb_ BK357.out 2 rfl, cb_ BK357.out 3 rfl⟩ (fun hHeld => ?_)
    clear hK K
    refine norm_ (a' := ?_) ?_ ?_
    rotate_left
    ·
     show Act.put _ (some 31) _ = _
     simp only [Act.put, List.setIfInBounds_toArray, List.set_cons_zero, List.set_cons_succ, i64_w, i32_w]
     rfl
    refine two_ (i := 6) (j := 10) (Ni := some 32) (Nj := some 10) #[true, true, true, true, true, true, true, false, false, false, false, false, false] #[true, true, true, true, true, true, false, false, false, false, true, false, false] rfl rfl rfl rfl (two_of HT_.out (by kernel_rfl)) (by decide) (by decide) (fun K hK => ?_) (fun K hK => ?_)
    ·
     skip
     refine goes_ Try.func6 (by kernel_rfl) rfl #[.agg #[.slice Ao27 t359.length co27, .int .i64 t362, .int .i64 t363, .int .i64 t364], .int .i64 a1, .int .i64 a2, .agg #[.int .i64 t365, .int .i64 t366, .int .i64 t367, .int .i64 t368]] (by rfl) rfl rfl ul_ ?_
     with_reducible refine (spec_AddEvent.calls k _ _ t359 t362 t363 t364 a1 a2 t365 t366 t367 t368 t369 t372 t373 t374 t375 _ ?side1 ?side2 A14.out).mono ?_
     (case side1 => repeat (first | exact (Kd.R_reads' HO361.out).2.2 | (with_reducible refine Kd.C_alloc ?_ _) | (with_reducible refine Kd.C_drewN ?_ _) | (with_reducible refine Kd.C_drew ?_)))
     (case side2 => exact (Kd.R_reads' HO361.out).2.1)
     rintro e w28 ⟨v370, rfl, ho0, hb⟩
     refine ⟨_, rfl, ?_⟩
     have HO371 := am_ (Kd.R_lower (Kd.R_new' ho0 (Kd.R_lt (ur_ HO361.out))) (below_size (ue_ HB.out)))
     replace HO361 := am_ (Kd.R_elder' (ur_ HO361.out) (Kd.R_base ho0) hb)
     replace BK356 := bs_ BK356 hb
     replace BK357 := bs_ BK357 hb
     replace HB := hs_ HB hb
     (try clear hb)
     (try clear hb2)
     (try clear hk)
     (try clear hi)
     (try clear ho0)
     refine hK.out _ _ ⟨cb_ BK356.out 0 rfl, cb_ BK356.out 1 rfl, cb_ BK356.out 2 rfl, cb_ BK356.out 3 rfl, cb_ BK357.out 0 rfl, cb_ BK357.out 1 rfl, cb_ BK357.out 2 rfl, cb_ BK357.out 3 rfl⟩ (fun hHeld => ?_)
     clear hK K
     refine norm_ (a' := ?_) ?_ ?_
     rotate_left
     ·
      show Act.put _ (some 32) _ = _
      simp only [Act.put, List.setIfInBounds_toArray, List.set_cons_zero, List.set_cons_succ, i64_w, i32_w]
      rfl
     refine pu_ (i := 7) (N := some 25) #[true, true, true, true, true, true, true, true, false, false, false, false, false] HT_ ?_
     refine pu_ (i := 8) (N := some 33) #[true, true, true, true, true, true, true, true, true, false, false, false, false] HT_ ?_
     refine pu_ (i := 9) (N := some 34) #[true, true, true, true, true, true, true, true, true, true, false, false, false] HT_ ?_
     refine one_ (i := 10) (N := some 10) #[true, true, true, true, true, true, true, true, true, true, true, false, false] rfl rfl (one_of HT_.out (by kernel_rfl)) (by decide) (fun K hK => ?_)
     refine box_step ?hg (N := 10) ?hd (cs := #[.slice none 0 0, .int .i64 0, .int .i64 0, .int .i64 0]) (t := 30) ?hr ?_; (case hd => rfl); (case hg => rfl); (case hr => first | (go_simp; done) | (go_simp; rfl))
     intro gb376 hg w29 hbox hb
     replace HO361 := am_ (Kd.R_below (ur_ HO361.out) hb)
     replace HO371 := am_ (Kd.R_below (ur_ HO371.out) hb)
     have BK376 := am_ (hbox)
     have GW376 := gs_ hg HB.out
     have GE376 := gs_ hg HB.out
     replace HB := hs_ HB hb
     have NB356_376 := nl_ hg BK356.out
     have NB376_356 := ng_ hg BK356.out
     replace BK356 := bs_ BK356 hb
     have NB357_376 := nl_ hg BK357.out
     have NB376_357 := ng_ hg BK357.out
     replace BK357 := bs_ BK357 hb
     clear hb hbox hg
     refine hK.out _ _ ⟨cb_ BK356.out 0 rfl, cb_ BK356.out 1 rfl, cb_ BK356.out 2 rfl, cb_ BK356.out 3 rfl, cb_ BK357.out 0 rfl, cb_ BK357.out 1 rfl, cb_ BK357.out 2 rfl, cb_ BK357.out 3 rfl⟩ (fun hHeld => ?_)
     clear hK K
     refine norm_ (a' := ?_) ?_ ?_
     rotate_left
     ·
      show Act.put _ (some 10) _ = _
      simp only [Act.put, List.setIfInBounds_toArray, List.set_cons_zero, List.set_cons_succ, i64_w, i32_w]
      rfl
     exact norm_ (by simp only [putAll, Act.put, List.setIfInBounds_toArray, List.set_cons_zero, List.set_cons_succ]) (hCont (.slice Ao27 t359.length co27, v370, gb376) _ ⟨hHeld, (by (with_reducible repeat (first | apply Kd.R_alloc | apply Kd.R_drewN | apply Kd.R_drew)); exact Kd.R_mono HO361.out h2_), (by (with_reducible repeat (first | apply Kd.R_alloc | apply Kd.R_drewN | apply Kd.R_drew)); exact Kd.R_mono HO371.out h2_), (ub_ BK356.out), (ub_ BK357.out), (ub_ BK376.out), GW376.out, GE376.out, NB356_376.out, NB376_356.out, NB357_376.out, NB376_357.out, (ue_ HB.out)⟩)
    skip
    refine box_step ?hg (N := 10) ?hd (cs := #[.slice none 0 0, .int .i64 0, .int .i64 0, .int .i64 0]) (t := 30) ?hr ?_; (case hd => rfl); (case hg => rfl); (case hr => first | (go_simp; done) | (go_simp; rfl))
    intro gb376 hg w27 hbox hb
    replace HO361 := am_ (Kd.R_below (ur_ HO361.out) hb)
    have BK376 := am_ (hbox)
    have GW376 := gs_ hg HB.out
    have GE376 := gs_ hg HB.out
    replace HB := hs_ HB hb
    have NB356_376 := nl_ hg BK356.out
    have NB376_356 := ng_ hg BK356.out
    replace BK356 := bs_ BK356 hb
    have NB357_376 := nl_ hg BK357.out
    have NB376_357 := ng_ hg BK357.out
    replace BK357 := bs_ BK357 hb
    clear hb hbox hg
    obtain ⟨Ao28, co28, eo28⟩ := Kd.R_slice HO361.out
    (first | subst eo28 | (injection eo28 with f1_ f2_ f3_; have f4_ := f1_.symm; have f5_ := f3_.symm; clear f1_ f2_ f3_; subst f4_; subst f5_))
    refine hK.out _ _ ⟨cb_ BK356.out 0 rfl, cb_ BK356.out 1 rfl, cb_ BK356.out 2 rfl, cb_ BK356.out 3 rfl, cb_ BK357.out 0 rfl, cb_ BK357.out 1 rfl, cb_ BK357.out 2 rfl, cb_ BK357.out 3 rfl⟩ (fun hHeld => ?_)
    clear hK K
    refine norm_ (a' := ?_) ?_ ?_
    rotate_left
    ·
     show Act.put _ (some 10) _ = _
     simp only [Act.put, List.setIfInBounds_toArray, List.set_cons_zero, List.set_cons_succ, i64_w, i32_w]
     rfl
    refine one_ (i := 6) (N := some 32) #[true, true, true, true, true, true, true, false, false, false, true, false, false] rfl rfl (one_of HT_.out (by kernel_rfl)) (by decide) (fun K hK => ?_)
    refine goes_ Try.func6 (by kernel_rfl) rfl #[.agg #[.slice Ao28 t359.length co28, .int .i64 t362, .int .i64 t363, .int .i64 t364], .int .i64 a1, .int .i64 a2, .agg #[.int .i64 t365, .int .i64 t366, .int .i64 t367, .int .i64 t368]] (by rfl) rfl rfl ul_ ?_
    with_reducible refine (spec_AddEvent.calls k _ _ t359 t362 t363 t364 a1 a2 t365 t366 t367 t368 t369 t372 t373 t374 t375 _ ?side1 ?side2 A14.out).mono ?_
    (case side1 => repeat (first | exact (Kd.R_reads' HO361.out).2.2 | (with_reducible refine Kd.C_alloc ?_ _) | (with_reducible refine Kd.C_drewN ?_ _) | (with_reducible refine Kd.C_drew ?_)))
    (case side2 => exact (Kd.R_reads' HO361.out).2.1)
    rintro e w29 ⟨v370, rfl, ho0, hb⟩
    refine ⟨_, rfl, ?_⟩
    have HO371 := am_ (Kd.R_lower (Kd.R_new' ho0 (Kd.R_lt (ur_ HO361.out))) (below_size (ue_ HB.out)))
    replace HO361 := am_ (Kd.R_elder' (ur_ HO361.out) (Kd.R_base ho0) hb)
    replace BK356 := bs_ BK356 hb
    replace BK357 := bs_ BK357 hb
    replace BK376 := bs_ BK376 hb
    replace HB := hs_ HB hb
    (try clear hb)
    (try clear hb2)
    (try clear hk)
    (try clear hi)
    (try clear ho0)
    refine hK.out _ _ ⟨cb_ BK356.out 0 rfl, cb_ BK356.out 1 rfl, cb_ BK356.out 2 rfl, cb_ BK356.out 3 rfl, cb_ BK357.out 0 rfl, cb_ BK357.out 1 rfl, cb_ BK357.out 2 rfl, cb_ BK357.out 3 rfl⟩ (fun hHeld => ?_)
    clear hK K
    refine norm_ (a' := ?_) ?_ ?_
    rotate_left
    ·
     show Act.put _ (some 32) _ = _
     simp only [Act.put, List.setIfInBounds_toArray, List.set_cons_zero, List.set_cons_succ, i64_w, i32_w]
     rfl
    refine pu_ (i := 7) (N := some 25) #[true, true, true, true, true, true, true, true, false, false, true, false, false] HT_ ?_
    refine pu_ (i := 8) (N := some 33) #[true, true, true, true, true, true, true, true, true, false, true, false, false] HT_ ?_
    refine pu_ (i := 9) (N := some 34) #[true, true, true, true, true, true, true, true, true, true, true, false, false] HT_ ?_
    exact norm_ (by simp only [putAll, Act.put, List.setIfInBounds_toArray, List.set_cons_zero, List.set_cons_succ]) (hCont (.slice Ao28 t359.length co28, v370, gb376) _ ⟨hHeld, (by (with_reducible repeat (first | apply Kd.R_alloc | apply Kd.R_drewN | apply Kd.R_drew)); exact Kd.R_mono HO361.out h2_), (by (with_reducible repeat (first | apply Kd.R_alloc | apply Kd.R_drewN | apply Kd.R_drew)); exact Kd.R_mono HO371.out h2_), (ub_ BK356.out), (ub_ BK357.out), (ub_ BK376.out), GW376.out, GE376.out, NB356_376.out, NB376_356.out, NB357_376.out, NB376_357.out, (ue_ HB.out)⟩)
   skip
   refine box_step ?hg (N := 10) ?hd (cs := #[.slice none 0 0, .int .i64 0, .int .i64 0, .int .i64 0]) (t := 30) ?hr ?_; (case hd => rfl); (case hg => rfl); (case hr => first | (go_simp; done) | (go_simp; rfl))
   intro gb376 hg w26 hbox hb
   replace HO361 := am_ (Kd.R_below (ur_ HO361.out) hb)
   have BK376 := am_ (hbox)
   have GW376 := gs_ hg HB.out
   have GE376 := gs_ hg HB.out
   replace HB := hs_ HB hb
   have NB356_376 := nl_ hg BK356.out
   have NB376_356 := ng_ hg BK356.out
   replace BK356 := bs_ BK356 hb
   have NB357_376 := nl_ hg BK357.out
   have NB376_357 := ng_ hg BK357.out
   replace BK357 := bs_ BK357 hb
   clear hb hbox hg
   refine hK.out _ _ ⟨cb_ BK356.out 0 rfl, cb_ BK356.out 1 rfl, cb_ BK356.out 2 rfl, cb_ BK356.out 3 rfl, cb_ BK357.out 0 rfl, cb_ BK357.out 1 rfl, cb_ BK357.out 2 rfl, cb_ BK357.out 3 rfl⟩ (fun hHeld => ?_)
   clear hK K
   refine norm_ (a' := ?_) ?_ ?_
   rotate_left
   ·
    show Act.put _ (some 10) _ = _
    simp only [Act.put, List.setIfInBounds_toArray, List.set_cons_zero, List.set_cons_succ, i64_w, i32_w]
    rfl
   refine one_ (i := 5) (N := some 31) #[true, true, true, true, true, true, false, false, false, false, true, false, false] rfl rfl (one_of HT_.out (by kernel_rfl)) (by decide) (fun K hK => ?_)
   refine goes_ Try.func8 (by kernel_rfl) rfl #[.agg #[.int .i64 a3_0, .int .i64 a3_1, .int .i64 a3_2, .int .i64 a3_3]] (by rfl) rfl rfl ul_ ?_
   with_reducible refine (laws_toFrame.calls a3_0 a3_1 a3_2 a3_3 t365 t366 t367 t368 _ A13.out).mono ?_
   rintro e w27 ⟨rfl, hb⟩
   refine ⟨_, rfl, ?_⟩
   replace HO361 := am_ (Kd.R_below (ur_ HO361.out) hb)
   replace BK356 := bs_ BK356 hb
   replace BK357 := bs_ BK357 hb
   replace BK376 := bs_ BK376 hb
   replace HB := hs_ HB hb
   (try clear hb)
   (try clear hb2)
   (try clear hk)
   (try clear hi)
   obtain ⟨Ao28, co28, eo28⟩ := Kd.R_slice HO361.out
   (first | subst eo28 | (injection eo28 with f1_ f2_ f3_; have f4_ := f1_.symm; have f5_ := f3_.symm; clear f1_ f2_ f3_; subst f4_; subst f5_))
   refine hK.out _ _ ⟨cb_ BK356.out 0 rfl, cb_ BK356.out 1 rfl, cb_ BK356.out 2 rfl, cb_ BK356.out 3 rfl, cb_ BK357.out 0 rfl, cb_ BK357.out 1 rfl, cb_ BK357.out 2 rfl, cb_ BK357.out 3 rfl⟩ (fun hHeld => ?_)
   clear hK K
   refine norm_ (a' := ?_) ?_ ?_
   rotate_left
   ·
    show Act.put _ (some 31) _ = _
    simp only [Act.put, List.setIfInBounds_toArray, List.set_cons_zero, List.set_cons_succ, i64_w, i32_w]
    rfl
   refine one_ (i := 6) (N := some 32) #[true, true, true, true, true, true, true, false, false, false, true, false, false] rfl rfl (one_of HT_.out (by kernel_rfl)) (by decide) (fun K hK => ?_)
   refine goes_ Try.func6 (by kernel_rfl) rfl #[.agg #[.slice Ao28 t359.length co28, .int .i64 t362, .int .i64 t363, .int .i64 t364], .int .i64 a1, .int .i64 a2, .agg #[.int .i64 t365, .int .i64 t366, .int .i64 t367, .int .i64 t368]] (by rfl) rfl rfl ul_ ?_
   with_reducible refine (spec_AddEvent.calls k _ _ t359 t362 t363 t364 a1 a2 t365 t366 t367 t368 t369 t372 t373 t374 t375 _ ?side1 ?side2 A14.out).mono ?_
   (case side1 => repeat (first | exact (Kd.R_reads' HO361.out).2.2 | (with_reducible refine Kd.C_alloc ?_ _) | (with_reducible refine Kd.C_drewN ?_ _) | (with_reducible refine Kd.C_drew ?_)))
   (case side2 => exact (Kd.R_reads' HO361.out).2.1)
   rintro e w29 ⟨v370, rfl, ho0, hb⟩
   refine ⟨_, rfl, ?_⟩
   have HO371 := am_ (Kd.R_lower (Kd.R_new' ho0 (Kd.R_lt (ur_ HO361.out))) (below_size (ue_ HB.out)))
   replace HO361 := am_ (Kd.R_elder' (ur_ HO361.out) (Kd.R_base ho0) hb)
   replace BK356 := bs_ BK356 hb
   replace BK357 := bs_ BK357 hb
   replace BK376 := bs_ BK376 hb
   replace HB := hs_ HB hb
   (try clear hb)
   (try clear hb2)
   (try clear hk)
   (try clear hi)
   (try clear ho0)
   refine hK.out _ _ ⟨cb_ BK356.out 0 rfl, cb_ BK356.out 1 rfl, cb_ BK356.out 2 rfl, cb_ BK356.out 3 rfl, cb_ BK357.out 0 rfl, cb_ BK357.out 1 rfl, cb_ BK357.out 2 rfl, cb_ BK357.out 3 rfl⟩ (fun hHeld => ?_)
   clear hK K
   refine norm_ (a' := ?_) ?_ ?_
   rotate_left
   ·
    show Act.put _ (some 32) _ = _
    simp only [Act.put, List.setIfInBounds_toArray, List.set_cons_zero, List.set_cons_succ, i64_w, i32_w]
    rfl
   refine pu_ (i := 7) (N := some 25) #[true, true, true, true, true, true, true, true, false, false, true, false, false] HT_ ?_
   refine pu_ (i := 8) (N := some 33) #[true, true, true, true, true, true, true, true, true, false, true, false, false] HT_ ?_
   refine pu_ (i := 9) (N := some 34) #[true, true, true, true, true, true, true, true, true, true, true, false, false] HT_ ?_
   exact norm_ (by simp only [putAll, Act.put, List.setIfInBounds_toArray, List.set_cons_zero, List.set_cons_succ]) (hCont (.slice Ao28 t359.length co28, v370, gb376) _ ⟨hHeld, (by (with_reducible repeat (first | apply Kd.R_alloc | apply Kd.R_drewN | apply Kd.R_drew)); exact Kd.R_mono HO361.out h2_), (by (with_reducible repeat (first | apply Kd.R_alloc | apply Kd.R_drewN | apply Kd.R_drew)); exact Kd.R_mono HO371.out h2_), (ub_ BK356.out), (ub_ BK357.out), (ub_ BK376.out), GW376.out, GE376.out, NB356_376.out, NB376_356.out, NB357_376.out, NB376_357.out, (ue_ HB.out)⟩)
  skip
  refine box_step ?hg (N := 10) ?hd (cs := #[.slice none 0 0, .int .i64 0, .int .i64 0, .int .i64 0]) (t := 30) ?hr ?_; (case hd => rfl); (case hg => rfl); (case hr => first | (go_simp; done) | (go_simp; rfl))
  intro gb376 hg w25 hbox hb
  have BK376 := am_ (hbox)
  have GW376 := gs_ hg HB.out
  have GE376 := gs_ hg HB.out
  replace HB := hs_ HB hb
  have NB356_376 := nl_ hg BK356.out
  have NB376_356 := ng_ hg BK356.out
  replace BK356 := bs_ BK356 hb
  have NB357_376 := nl_ hg BK357.out
  have NB376_357 := ng_ hg BK357.out
  replace BK357 := bs_ BK357 hb
  clear hb hbox hg
  refine hK.out _ _ ⟨cb_ BK356.out 0 rfl, cb_ BK356.out 1 rfl, cb_ BK356.out 2 rfl, cb_ BK356.out 3 rfl, cb_ BK357.out 0 rfl, cb_ BK357.out 1 rfl, cb_ BK357.out 2 rfl, cb_ BK357.out 3 rfl⟩ (fun hHeld => ?_)
  clear hK K
  refine norm_ (a' := ?_) ?_ ?_
  rotate_left
  ·
   show Act.put _ (some 10) _ = _
   simp only [Act.put, List.setIfInBounds_toArray, List.set_cons_zero, List.set_cons_succ, i64_w, i32_w]
   rfl
  refine one_ (i := 1) (N := some 27) #[true, true, true, true, true, false, false, false, false, false, true, false, false] rfl rfl (one_of HT_.out (by kernel_rfl)) (by decide) (fun K hK => ?_)
  refine goes_ Try.func7 (by kernel_rfl) rfl #[.agg #[.slice A0_0 l0_0.length c0_0, .int .i64 a0_1, .int .i64 a0_2, .int .i64 a0_3]] (by rfl) rfl rfl ul_ ?_
  with_reducible refine (laws_toShard.calls k _ _ l0_0 a0_1 a0_2 a0_3 t359 t362 t363 t364 _ ?side1 ?side2 A12.out).mono ?_
  (case side1 => repeat (first | exact (Kd.C_below HR0_0.out HB.out) | (with_reducible refine Kd.C_alloc ?_ _) | (with_reducible refine Kd.C_drewN ?_ _) | (with_reducible refine Kd.C_drew ?_)))
  (case side2 => exact HC0_0.out)
  rintro e w26 ⟨v360, rfl, ho0, hb⟩
  refine ⟨_, rfl, ?_⟩
  have HO361 := am_ (Kd.R_lower ho0 (below_size (ue_ HB.out)))
  replace BK356 := bs_ BK356 hb
  replace BK357 := bs_ BK357 hb
  replace BK376 := bs_ BK376 hb
  replace HB := hs_ HB hb
  (try clear hb)
  (try clear hb2)
  (try clear hk)
  (try clear hi)
  (try clear ho0)
  refine hK.out _ _ ⟨cb_ BK356.out 0 rfl, cb_ BK356.out 1 rfl, cb_ BK356.out 2 rfl, cb_ BK356.out 3 rfl, cb_ BK357.out 0 rfl, cb_ BK357.out 1 rfl, cb_ BK357.out 2 rfl, cb_ BK357.out 3 rfl⟩ (fun hHeld => ?_)
  clear hK K
  refine norm_ (a' := ?_) ?_ ?_
  rotate_left
  ·
   show Act.put _ (some 27) _ = _
   simp only [Act.put, List.setIfInBounds_toArray, List.set_cons_zero, List.set_cons_succ, i64_w, i32_w]
   rfl
  refine one_ (i := 5) (N := some 31) #[true, true, true, true, true, true, false, false, false, false, true, false, false] rfl rfl (one_of HT_.out (by kernel_rfl)) (by decide) (fun K hK => ?_)
  refine goes_ Try.func8 (by kernel_rfl) rfl #[.agg #[.int .i64 a3_0, .int .i64 a3_1, .int .i64 a3_2, .int .i64 a3_3]] (by rfl) rfl rfl ul_ ?_
  with_reducible refine (laws_toFrame.calls a3_0 a3_1 a3_2 a3_3 t365 t366 t367 t368 _ A13.out).mono ?_
  rintro e w27 ⟨rfl, hb⟩
  refine ⟨_, rfl, ?_⟩
  replace HO361 := am_ (Kd.R_below (ur_ HO361.out) hb)
  replace BK356 := bs_ BK356 hb
  replace BK357 := bs_ BK357 hb
  replace BK376 := bs_ BK376 hb
  replace HB := hs_ HB hb
  (try clear hb)
  (try clear hb2)
  (try clear hk)
  (try clear hi)
  obtain ⟨Ao28, co28, eo28⟩ := Kd.R_slice HO361.out
  (first | subst eo28 | (injection eo28 with f1_ f2_ f3_; have f4_ := f1_.symm; have f5_ := f3_.symm; clear f1_ f2_ f3_; subst f4_; subst f5_))
  refine hK.out _ _ ⟨cb_ BK356.out 0 rfl, cb_ BK356.out 1 rfl, cb_ BK356.out 2 rfl, cb_ BK356.out 3 rfl, cb_ BK357.out 0 rfl, cb_ BK357.out 1 rfl, cb_ BK357.out 2 rfl, cb_ BK357.out 3 rfl⟩ (fun hHeld => ?_)
  clear hK K
  refine norm_ (a' := ?_) ?_ ?_
  rotate_left
  ·
   show Act.put _ (some 31) _ = _
   simp only [Act.put, List.setIfInBounds_toArray, List.set_cons_zero, List.set_cons_succ, i64_w, i32_w]
   rfl
  refine one_ (i := 6) (N := some 32) #[true, true, true, true, true, true, true, false, false, false, true, false, false] rfl rfl (one_of HT_.out (by kernel_rfl)) (by decide) (fun K hK => ?_)
  refine goes_ Try.func6 (by kernel_rfl) rfl #[.agg #[.slice Ao28 t359.length co28, .int .i64 t362, .int .i64 t363, .int .i64 t364], .int .i64 a1, .int .i64 a2, .agg #[.int .i64 t365, .int .i64 t366, .int .i64 t367, .int .i64 t368]] (by rfl) rfl rfl ul_ ?_
  with_reducible refine (spec_AddEvent.calls k _ _ t359 t362 t363 t364 a1 a2 t365 t366 t367 t368 t369 t372 t373 t374 t375 _ ?side1 ?side2 A14.out).mono ?_
  (case side1 => repeat (first | exact (Kd.R_reads' HO361.out).2.2 | (with_reducible refine Kd.C_alloc ?_ _) | (with_reducible refine Kd.C_drewN ?_ _) | (with_reducible refine Kd.C_drew ?_)))
  (case side2 => exact (Kd.R_reads' HO361.out).2.1)
  rintro e w29 ⟨v370, rfl, ho0, hb⟩
  refine ⟨_, rfl, ?_⟩
  have HO371 := am_ (Kd.R_lower (Kd.R_new' ho0 (Kd.R_lt (ur_ HO361.out))) (below_size (ue_ HB.out)))
  replace HO361 := am_ (Kd.R_elder' (ur_ HO361.out) (Kd.R_base ho0) hb)
  replace BK356 := bs_ BK356 hb
  replace BK357 := bs_ BK357 hb
  replace BK376 := bs_ BK376 hb
  replace HB := hs_ HB hb
  (try clear hb)
  (try clear hb2)
  (try clear hk)
  (try clear hi)
  (try clear ho0)
  refine hK.out _ _ ⟨cb_ BK356.out 0 rfl, cb_ BK356.out 1 rfl, cb_ BK356.out 2 rfl, cb_ BK356.out 3 rfl, cb_ BK357.out 0 rfl, cb_ BK357.out 1 rfl, cb_ BK357.out 2 rfl, cb_ BK357.out 3 rfl⟩ (fun hHeld => ?_)
  clear hK K
  refine norm_ (a' := ?_) ?_ ?_
  rotate_left
  ·
   show Act.put _ (some 32) _ = _
   simp only [Act.put, List.setIfInBounds_toArray, List.set_cons_zero, List.set_cons_succ, i64_w, i32_w]
   rfl
  refine pu_ (i := 7) (N := some 25) #[true, true, true, true, true, true, true, true, false, false, true, false, false] HT_ ?_
  refine pu_ (i := 8) (N := some 33) #[true, true, true, true, true, true, true, true, true, false, true, false, false] HT_ ?_
  refine pu_ (i := 9) (N := some 34) #[true, true, true, true, true, true, true, true, true, true, true, false, false] HT_ ?_
  exact norm_ (by simp only [putAll, Act.put, List.setIfInBounds_toArray, List.set_cons_zero, List.set_cons_succ]) (hCont (.slice Ao28 t359.length co28, v370, gb376) _ ⟨hHeld, (by (with_reducible repeat (first | apply Kd.R_alloc | apply Kd.R_drewN | apply Kd.R_drew)); exact Kd.R_mono HO361.out h2_), (by (with_reducible repeat (first | apply Kd.R_alloc | apply Kd.R_drewN | apply Kd.R_drew)); exact Kd.R_mono HO371.out h2_), (ub_ BK356.out), (ub_ BK357.out), (ub_ BK376.out), GW376.out, GE376.out, NB356_376.out, NB376_356.out, NB357_376.out, NB376_357.out, (ue_ HB.out)⟩)
 rintro ⟨v360, v370, gb376⟩ w30 ⟨hS_, h0_, h1_, h2_, h3_, h4_, h5_, h6_, h7_, h8_, h9_, h10_, h11_⟩
 have HO361 : Aside0 (Kd.R k62 62 w30 w.heap.size (fun k_ => some k_ ≠ (v370 : Value).ownBlock) v360 t359) := ⟨h0_⟩
 have HO371 : Aside0 (Kd.R k62 62 w30 w.heap.size (fun k_ => some k_ ≠ (v360 : Value).ownBlock) v370 t369) := ⟨h1_⟩
 replace BK356 : Aside0 (w30.heap[gb356]? = some (.cells #[.slice A0_0 l0_0.length c0_0, .int .i64 a0_1, .int .i64 a0_2, .int .i64 a0_3] 24 (0, 0))) := ⟨h2_⟩
 replace BK357 : Aside0 (w30.heap[gb357]? = some (.cells #[.int .i64 a3_0, .int .i64 a3_1, .int .i64 a3_2, .int .i64 a3_3] 26 (0, 0))) := ⟨h3_⟩
 have BK376 : Aside0 (w30.heap[gb376]? = some (.cells #[.slice none 0 0, .int .i64 0, .int .i64 0, .int .i64 0] 30 (0, 0))) := ⟨h4_⟩
 have GW376 : Aside0 (w.heap.size ≤ gb376) := ⟨h5_⟩
 have GE376 : Aside0 (w.heap.size ≤ gb376) := ⟨h6_⟩
 have NB356_376 : Aside0 (gb356 ≠ gb376) := ⟨h7_⟩
 have NB376_356 : Aside0 (gb376 ≠ gb356) := ⟨h8_⟩
 have NB357_376 : Aside0 (gb357 ≠ gb376) := ⟨h9_⟩
 have NB376_357 : Aside0 (gb376 ≠ gb357) := ⟨h10_⟩
 replace HB : Aside0 (Below w.heap.size w w30) := ⟨h11_⟩
 clear h0_ h1_ h2_ h3_ h4_ h5_ h6_ h7_ h8_ h9_ h10_ h11_
 have hHeld : w30.cell? ⟨gb356, 0, none⟩ = some (.slice A0_0 l0_0.length c0_0) ∧ w30.cell? ⟨gb356, 1, none⟩ = some (.int .i64 a0_1) ∧ w30.cell? ⟨gb356, 2, none⟩ = some (.int .i64 a0_2) ∧ w30.cell? ⟨gb356, 3, none⟩ = some (.int .i64 a0_3) ∧ w30.cell? ⟨gb357, 0, none⟩ = some (.int .i64 a3_0) ∧ w30.cell? ⟨gb357, 1, none⟩ = some (.int .i64 a3_1) ∧ w30.cell? ⟨gb357, 2, none⟩ = some (.int .i64 a3_2) ∧ w30.cell? ⟨gb357, 3, none⟩ = some (.int .i64 a3_3) := hS_
 obtain ⟨Ao31, co31, eo31⟩ := Kd.R_slice HO371.out
 (first | subst eo31 | (injection eo31 with f1_ f2_ f3_; have f4_ := f1_.symm; have f5_ := f3_.symm; clear f1_ f2_ f3_; subst f4_; subst f5_))
 refine norm_ (a' := ?_) ?_ ?_
 rotate_left
 ·
  simp only [putAll, Act.put, List.setIfInBounds_toArray, List.set_cons_zero, List.set_cons_succ]
  rfl
 refine one_ (i := 11) (N := none) #[true, true, true, true, true, true, true, true, true, true, true, true, false] rfl rfl (one_of HT_.out (by kernel_rfl)) (by decide) (fun K hK => ?_)
 have hs32 := cb_ BK376.out 0 rfl
 have hfs32 := blk_frozen BK376.out 0
 have hns32_0 := NB356_376.out
 have hns32_1 := NB357_376.out
 have hms32_0 := NB376_356.out
 have hms32_1 := NB376_357.out
 have hs33 := cb_ BK376.out 1 rfl
 have hfs33 := blk_frozen BK376.out 1
 have hns33_0 := NB356_376.out
 have hns33_1 := NB357_376.out
 have hms33_0 := NB376_356.out
 have hms33_1 := NB376_357.out
 have hs34 := cb_ BK376.out 2 rfl
 have hfs34 := blk_frozen BK376.out 2
 have hns34_0 := NB356_376.out
 have hns34_1 := NB357_376.out
 have hms34_0 := NB376_356.out
 have hms34_1 := NB376_357.out
 have hs35 := cb_ BK376.out 3 rfl
 have hfs35 := blk_frozen BK376.out 3
 have hns35_0 := NB356_376.out
 have hns35_1 := NB357_376.out
 have hms35_0 := NB376_356.out
 have hms35_1 := NB376_357.out
 refine skip_ (w1 := ?_) (by rfl) rfl ?_ ?_
 rotate_left
 ·
  go_simp
  rfl
 refine hK.out _ _ ⟨(cf4_ hHeld.1 NB356_376.out), (cf4_ hHeld.2.1 NB356_376.out), (cf4_ hHeld.2.2.1 NB356_376.out), (cf4_ hHeld.2.2.2.1 NB356_376.out), (cf4_ hHeld.2.2.2.2.1 NB357_376.out), (cf4_ hHeld.2.2.2.2.2.1 NB357_376.out), (cf4_ hHeld.2.2.2.2.2.2.1 NB357_376.out), (cf4_ hHeld.2.2.2.2.2.2.2 NB357_376.out)⟩ (fun hHeld => ?_)
 clear hK K
 refine pu_ (i := 12) (N := some 11) #[true, true, true, true, true, true, true, true, true, true, true, true, true] HT_ ?_
 refine done_ (done_of HT_.out (by kernel_rfl)) ?_
 have hnb36 := NB356_376.out
 have hnc36 := NB376_356.out
 obtain ⟨hcz37_0, hcz37_1, hcz37_2, hcz37_3⟩ := cbz4_ BK356.out
 obtain ⟨hfz37_0, hfz37_1, hfz37_2, hfz37_3⟩ := bfz4_ BK356.out
 try go_wp2_with (first | ((with_reducible refine gate_callee (f := 7) rfl ?_); refine goesL_ (some 36) rfl rfl Try.func7 (by kernel_rfl) rfl #[.agg #[.slice A0_0 l0_0.length c0_0, .int .i64 a0_1, .int .i64 a0_2, .int .i64 a0_3]] rfl ul_ ?_; (with_reducible refine (laws_toShard.calls k _ _ l0_0 a0_1 a0_2 a0_3 t377 t380 t381 t382 _ ?side1 ?side2 A15.out).mono ?_); (case side1 => exact Kd.C_below HR0_0.out (ue_ HB.out)); (case side2 => exact HC0_0.out); rintro e w38 ⟨v378, rfl, ho0, hb⟩; refine ⟨_, rfl, ?_⟩; have HO379 := am_ (Kd.R_lower (Kd.R_new' (Kd.R_new' ho0 (Kd.R_lt (by (with_reducible repeat (first | apply Kd.R_alloc | apply Kd.R_drewN | apply Kd.R_drew)); exact (Kd.R_mono (Rf4_ (g := gb376) (Kd.R_types HO361.out BK376.out (by decide))) (fun _ h_ => h_.1))))) (Kd.R_lt (by (with_reducible repeat (first | apply Kd.R_alloc | apply Kd.R_drewN | apply Kd.R_drew)); exact (Kd.R_mono (Rf4_ (g := gb376) (Kd.R_types HO371.out BK376.out (by decide))) (fun _ h_ => h_.1))))) (below_size (ue_ HB.out))); replace HO361 := am_ (Kd.R_elder' (by (with_reducible repeat (first | apply Kd.R_alloc | apply Kd.R_drewN | apply Kd.R_drew)); exact (Kd.R_mono (Rf4_ (g := gb376) (Kd.R_types HO361.out BK376.out (by decide))) (fun _ h_ => h_.1))) (Kd.R_base ho0) hb); replace HO371 := am_ (Kd.R_elder' (by (with_reducible repeat (first | apply Kd.R_alloc | apply Kd.R_drewN | apply Kd.R_drew)); exact (Kd.R_mono (Rf4_ (g := gb376) (Kd.R_types HO371.out BK376.out (by decide))) (fun _ h_ => h_.1))) (Kd.R_base ho0) hb); replace BK356 := am_ (blk_below (g := gb356) (o := .cells #[.slice A0_0 l0_0.length c0_0, .int .i64 a0_1, .int .i64 a0_2, .int .i64 a0_3] 24 (0, 0)) (uf_ BK356.out) hb); replace BK357 := am_ (blk_below (g := gb357) (o := .cells #[.int .i64 a3_0, .int .i64 a3_1, .int .i64 a3_2, .int .i64 a3_3] 26 (0, 0)) (uf_ BK357.out) hb); replace BK376 := am_ (blk_below (g := gb376) (o := .cells #[.slice Ao31 t369.length co31, .int .i64 t372, .int .i64 t373, .int .i64 t374] 30 (0, 0)) (by (with_reducible repeat first|apply bn_|apply bd_|apply ba_); apply bp4_; (with_reducible repeat first|apply bn_|apply bd_|apply ba_); exact BK376.out) hb); replace HB := hs_ HB hb; (try clear hb); (try clear hb2); (try clear hk); (try clear hi); (try clear ho0)) | ((with_reducible refine gate_dst (N := 12) rfl ?_); refine bx_ (N := 12) (cs := #[.slice none 0 0, .int .i64 0, .int .i64 0, .int .i64 0]) (t := 30) ?_; intro gb383 hg w39 hbox hb; replace HO361 := am_ (Kd.R_below (ur_ HO361.out) hb); replace HO371 := am_ (Kd.R_below (ur_ HO371.out) hb); replace HO379 := am_ (Kd.R_below (ur_ HO379.out) hb); have BK383 := am_ (hbox); have GW383 := gs_ hg HB.out; have GE383 := gs_ hg HB.out; replace HB := hs_ HB hb; have NB356_383 := nl_ hg BK356.out; have NB383_356 := ng_ hg BK356.out; replace BK356 := bs_ BK356 hb; have NB357_383 := nl_ hg BK357.out; have NB383_357 := ng_ hg BK357.out; replace BK357 := bs_ BK357 hb; have NB376_383 := nl_ hg BK376.out; have NB383_376 := ng_ hg BK376.out; replace BK376 := bs_ BK376 hb; clear hb hbox hg; obtain ⟨Ao40, co40, eo40⟩ := Kd.R_slice HO379.out; subst eo40; have hnb41 := NB383_356.out; have hnc41 := NB356_383.out; have hnb42 := NB383_357.out; have hnc42 := NB357_383.out; have hnb43 := NB383_376.out; have hnc43 := NB376_383.out; obtain ⟨hcz44_0, hcz44_1, hcz44_2, hcz44_3⟩ := cb4_ BK383.out; obtain ⟨hfz44_0, hfz44_1, hfz44_2⟩ := bf3_ BK383.out; have hfz44_3 := blk_frozen BK383.out 3) | ((with_reducible refine gate_store (t := 30) (p := 12) rfl ?_); refine st_ (w1 := ((((w39.setCell ⟨gb383, 0, none⟩ (.slice Ao40 t377.length co40)).setCell ⟨gb383, 1, none⟩ (.int .i64 t380)).setCell ⟨gb383, 2, none⟩ (.int .i64 t381)).setCell ⟨gb383, 3, none⟩ (.int .i64 t382))) ?_; intro w45 hw; replace HO361 : Aside0 (Kd.R k62 62 w45 w.heap.size (fun k_ => some k_ ≠ (.slice Ao31 t369.length co31 : Value).ownBlock ∧ some k_ ≠ (.slice Ao40 t377.length co40 : Value).ownBlock) v360 t359) := ⟨(by rw [hw]; exact (by (with_reducible repeat (first | apply Kd.R_alloc | apply Kd.R_drewN | apply Kd.R_drew)); exact Kd.R_mono (Rf4_ (g := gb383) (Kd.R_types HO361.out BK383.out (by decide))) (fun _ hk => by first | exact ⟨hk.1.1, hk.1.2⟩ | grind)))⟩; replace HO371 : Aside0 (Kd.R k62 62 w45 w.heap.size (fun k_ => some k_ ≠ (v360 : Value).ownBlock ∧ some k_ ≠ (.slice Ao40 t377.length co40 : Value).ownBlock) (.slice Ao31 t369.length co31) t369) := ⟨(by rw [hw]; exact (by (with_reducible repeat (first | apply Kd.R_alloc | apply Kd.R_drewN | apply Kd.R_drew)); exact Kd.R_mono (Rf4_ (g := gb383) (Kd.R_types HO371.out BK383.out (by decide))) (fun _ hk => by first | exact ⟨hk.1.1, hk.1.2⟩ | grind)))⟩; replace HO379 : Aside0 (Kd.R k62 62 w45 w.heap.size (fun k_ => some k_ ≠ (v360 : Value).ownBlock ∧ some k_ ≠ (.slice Ao31 t369.length co31 : Value).ownBlock) (.slice Ao40 t377.length co40) t377) := ⟨(by rw [hw]; exact (by (with_reducible repeat (first | apply Kd.R_alloc | apply Kd.R_drewN | apply Kd.R_drew)); exact Kd.R_mono (Rf4_ (g := gb383) (Kd.R_types HO379.out BK383.out (by decide))) (fun _ hk => by first | exact ⟨hk.1.1.2, hk.1.2⟩ | grind)))⟩; replace BK356 := uk_ hw BK356.out; replace BK357 := uk_ hw BK357.out; replace BK376 := uk_ hw BK376.out; replace BK383 : Aside0 (w45.heap[gb383]? = some (.cells #[.slice Ao40 t377.length co40, .int .i64 t380, .int .i64 t381, .int .i64 t382] 30 (0, 0))) := ⟨(by rw [hw]; exact (by (with_reducible repeat first|apply bn_|apply bd_|apply ba_); apply bp4_; (with_reducible repeat first|apply bn_|apply bd_|apply ba_); exact BK383.out))⟩; replace HB := uh_ hw HB.out; clear hw))
 replace HO361 := am_ (Kd.R_drew HO361.out)
 replace HO371 := am_ (Kd.R_drew HO371.out)
 replace HO379 := am_ (Kd.R_drew HO379.out)
 replace BK356 := am_ (blk_drew BK356.out)
 replace BK357 := am_ (blk_drew BK357.out)
 replace BK376 := am_ (blk_drew BK376.out)
 replace BK383 := am_ (blk_drew BK383.out)
 replace HB := am_ (below_drew1 HB.out)
 refine start_ (n := 12) (S := fun w' => w'.cell? ⟨gb383, 0, none⟩ = some (.slice Ao40 t377.length co40) ∧ w'.cell? ⟨gb383, 1, none⟩ = some (.int .i64 t380) ∧ w'.cell? ⟨gb383, 2, none⟩ = some (.int .i64 t381) ∧ w'.cell? ⟨gb383, 3, none⟩ = some (.int .i64 t382) ∧ w'.cell? ⟨gb357, 0, none⟩ = some (.int .i64 a3_0) ∧ w'.cell? ⟨gb357, 1, none⟩ = some (.int .i64 a3_1) ∧ w'.cell? ⟨gb357, 2, none⟩ = some (.int .i64 a3_2) ∧ w'.cell? ⟨gb357, 3, none⟩ = some (.int .i64 a3_3)) (ds := []) #[false, false, false, false, false, false, false, false, false, false, false, false] (by kernel_rfl) rfl rfl ⟨cb_ BK383.out 0 rfl, cb_ BK383.out 1 rfl, cb_ BK383.out 2 rfl, cb_ BK383.out 3 rfl, cb_ BK357.out 0 rfl, cb_ BK357.out 1 rfl, cb_ BK357.out 2 rfl, cb_ BK357.out 3 rfl⟩ (fun hHeld => ?_); refine with_tabW laws_FnExactAddEvent.tab7 laws_FnExactAddEvent.bits7 (fun HT_ HW_ => ?_)
 generalize w45.drew = w46 at HO361 HO371 HO379 BK356 BK357 BK376 BK383 HB hHeld ⊢
 refine pu_ (i := 1) (N := some 39) #[false, true, false, false, false, false, false, false, false, false, false, false] HT_ ?_
 refine pu_ (i := 2) (N := some 40) #[false, true, true, false, false, false, false, false, false, false, false, false] HT_ ?_
 refine tk_ (i := 0) (N := some 38) #[true, true, true, false, false, false, false, false, false, false, false, false] HT_ HW_ hHeld ?_
 refine tk_ (i := 3) (N := some 41) #[true, true, true, true, false, false, false, false, false, false, false, false] HT_ HW_ hHeld ?_
 refine join_ (σ := Value × Nat) 2 #[true, true, true, true, true, true, true, true, true, true, false, false] (fun s_ => [(42, .agg #[.int .i64 t384, .int .i64 t385, .int .i64 t386, .int .i64 t387]), (43, .tuple #[.agg #[s_.1, .int .i64 t391, .int .i64 t392, .int .i64 t393], .int .i64 t394]), (13, .pointer (some ⟨s_.2, 0, none⟩)), (37, .tuple #[.agg #[s_.1, .int .i64 t391, .int .i64 t392, .int .i64 t393], .int .i64 t394]), (44, .agg #[s_.1, .int .i64 t391, .int .i64 t392, .int .i64 t393]), (45, .int .i64 t394)]) (fun s_ w' => (w'.cell? ⟨gb383, 0, none⟩ = some (.slice Ao40 t377.length co40) ∧ w'.cell? ⟨gb383, 1, none⟩ = some (.int .i64 t380) ∧ w'.cell? ⟨gb383, 2, none⟩ = some (.int .i64 t381) ∧ w'.cell? ⟨gb383, 3, none⟩ = some (.int .i64 t382) ∧ w'.cell? ⟨gb357, 0, none⟩ = some (.int .i64 a3_0) ∧ w'.cell? ⟨gb357, 1, none⟩ = some (.int .i64 a3_1) ∧ w'.cell? ⟨gb357, 2, none⟩ = some (.int .i64 a3_2) ∧ w'.cell? ⟨gb357, 3, none⟩ = some (.int .i64 a3_3)) ∧ (Kd.R k62 62 w' w.heap.size (fun k_ => some k_ ≠ (.slice Ao31 t369.length co31 : Value).ownBlock ∧ some k_ ≠ (.slice Ao40 t377.length co40 : Value).ownBlock ∧ some k_ ≠ (s_.1 : Value).ownBlock) v360 t359) ∧ (Kd.R k62 62 w' w.heap.size (fun k_ => some k_ ≠ (v360 : Value).ownBlock ∧ some k_ ≠ (.slice Ao40 t377.length co40 : Value).ownBlock ∧ some k_ ≠ (s_.1 : Value).ownBlock) (.slice Ao31 t369.length co31) t369) ∧ (Kd.R k62 62 w' w.heap.size (fun k_ => some k_ ≠ (v360 : Value).ownBlock ∧ some k_ ≠ (.slice Ao31 t369.length co31 : Value).ownBlock ∧ some k_ ≠ (s_.1 : Value).ownBlock) (.slice Ao40 t377.length co40) t377) ∧ (Kd.R k62 62 w' w.heap.size (fun k_ => some k_ ≠ (v360 : Value).ownBlock ∧ some k_ ≠ (.slice Ao31 t369.length co31 : Value).ownBlock ∧ some k_ ≠ (.slice Ao40 t377.length co40 : Value).ownBlock) s_.1 t388) ∧ (w'.heap[gb356]? = some (.cells #[.slice A0_0 l0_0.length c0_0, .int .i64 a0_1, .int .i64 a0_2, .int .i64 a0_3] 24 (0, 0))) ∧ (w'.heap[gb357]? = some (.cells #[.int .i64 a3_0, .int .i64 a3_1, .int .i64 a3_2, .int .i64 a3_3] 26 (0, 0))) ∧ (w'.heap[gb376]? = some (.cells #[.slice Ao31 t369.length co31, .int .i64 t372, .int .i64 t373, .int .i64 t374] 30 (0, 0))) ∧ (w'.heap[gb383]? = some (.cells #[.slice Ao40 t377.length co40, .int .i64 t380, .int .i64 t381, .int .i64 t382] 30 (0, 0))) ∧ (w'.heap[s_.2]? = some (.cells #[.slice none 0 0, .int .i64 0, .int .i64 0, .int .i64 0] 30 (0, 0))) ∧ (w.heap.size ≤ s_.2) ∧ (w.heap.size ≤ s_.2) ∧ (gb356 ≠ s_.2) ∧ (s_.2 ≠ gb356) ∧ (gb357 ≠ s_.2) ∧ (s_.2 ≠ gb357) ∧ (gb376 ≠ s_.2) ∧ (s_.2 ≠ gb376) ∧ (gb383 ≠ s_.2) ∧ (s_.2 ≠ gb383) ∧ (Below w.heap.size w w')) ?_ ?_
 rotate_left
 ·
  intro hCont
  refine two_ (i := 4) (j := 9) (Ni := some 42) (Nj := some 13) #[true, true, true, true, true, false, false, false, false, false, false, false] #[true, true, true, true, false, false, false, false, false, true, false, false] rfl rfl rfl rfl (two_of HT_.out (by kernel_rfl)) (by decide) (by decide) (fun K hK => ?_) (fun K hK => ?_)
  ·
   skip
   refine goes_ Try.func8 (by kernel_rfl) rfl #[.agg #[.int .i64 a3_0, .int .i64 a3_1, .int .i64 a3_2, .int .i64 a3_3]] (by rfl) rfl rfl ul_ ?_
   with_reducible refine (laws_toFrame.calls a3_0 a3_1 a3_2 a3_3 t384 t385 t386 t387 _ A16.out).mono ?_
   rintro e w47 ⟨rfl, hb⟩
   refine ⟨_, rfl, ?_⟩
   replace HO361 := am_ (Kd.R_below (ur_ HO361.out) hb)
   replace HO371 := am_ (Kd.R_below (ur_ HO371.out) hb)
   replace HO379 := am_ (Kd.R_below (ur_ HO379.out) hb)
   replace BK356 := bs_ BK356 hb
   replace BK357 := bs_ BK357 hb
   replace BK376 := bs_ BK376 hb
   replace BK383 := bs_ BK383 hb
   replace HB := hs_ HB hb
   (try clear hb)
   (try clear hb2)
   (try clear hk)
   (try clear hi)
   refine hK.out _ _ ⟨cb_ BK383.out 0 rfl, cb_ BK383.out 1 rfl, cb_ BK383.out 2 rfl, cb_ BK383.out 3 rfl, cb_ BK357.out 0 rfl, cb_ BK357.out 1 rfl, cb_ BK357.out 2 rfl, cb_ BK357.out 3 rfl⟩ (fun hHeld => ?_)
   clear hK K
   refine norm_ (a' := ?_) ?_ ?_
   rotate_left
   ·
    show Act.put _ (some 42) _ = _
    simp only [Act.put, List.setIfInBounds_toArray, List.set_cons_zero, List.set_cons_succ, i64_w, i32_w]
    rfl
   refine two_ (i := 5) (j := 9) (Ni := some 43) (Nj := some 13) #[true, true, true, true, true, true, false, false, false, false, false, false] #[true, true, true, true, true, false, false, false, false, true, false, false] rfl rfl rfl rfl (two_of HT_.out (by kernel_rfl)) (by decide) (by decide) (fun K hK => ?_) (fun K hK => ?_)
   ·
    skip
    refine goes_ Try.func9 (by kernel_rfl) rfl #[.agg #[.slice Ao40 t377.length co40, .int .i64 t380, .int .i64 t381, .int .i64 t382], .int .i64 a1, .int .i64 a2, .agg #[.int .i64 t384, .int .i64 t385, .int .i64 t386, .int .i64 t387]] (by rfl) rfl rfl ul_ ?_
    with_reducible refine (impl_AddEvent.calls k _ _ t377 t380 t381 t382 a1 a2 t384 t385 t386 t387 t388 t391 t392 t393 t394 _ ?side1 ?side2 A17.out).mono ?_
    (case side1 => repeat (first | exact (Kd.R_reads' HO379.out).2.2 | (with_reducible refine Kd.C_alloc ?_ _) | (with_reducible refine Kd.C_drewN ?_ _) | (with_reducible refine Kd.C_drew ?_)))
    (case side2 => exact (Kd.R_reads' HO379.out).2.1)
    rintro e w48 ⟨v389, rfl, ho0, hb⟩
    refine ⟨_, rfl, ?_⟩
    have HO390 := am_ (Kd.R_lower (Kd.R_new' (Kd.R_new' (Kd.R_new' ho0 (Kd.R_lt (ur_ HO361.out))) (Kd.R_lt (ur_ HO371.out))) (Kd.R_lt (ur_ HO379.out))) (below_size (ue_ HB.out)))
    replace HO361 := am_ (Kd.R_elder' (ur_ HO361.out) (Kd.R_base ho0) hb)
    replace HO371 := am_ (Kd.R_elder' (ur_ HO371.out) (Kd.R_base ho0) hb)
    replace HO379 := am_ (Kd.R_elder' (ur_ HO379.out) (Kd.R_base ho0) hb)
    replace BK356 := bs_ BK356 hb
    replace BK357 := bs_ BK357 hb
    replace BK376 := bs_ BK376 hb
    replace BK383 := bs_ BK383 hb
    replace HB := hs_ HB hb
    (try clear hb)
    (try clear hb2)
    (try clear hk)
    (try clear hi)
    (try clear ho0)
    refine hK.out _ _ ⟨cb_ BK383.out 0 rfl, cb_ BK383.out 1 rfl, cb_ BK383.out 2 rfl, cb_ BK383.out 3 rfl, cb_ BK357.out 0 rfl, cb_ BK357.out 1 rfl, cb_ BK357.out 2 rfl, cb_ BK357.out 3 rfl⟩ (fun hHeld => ?_)
    clear hK K
    refine norm_ (a' := ?_) ?_ ?_
    rotate_left
    ·
     show Act.put _ (some 43) _ = _
     simp only [Act.put, List.setIfInBounds_toArray, List.set_cons_zero, List.set_cons_succ, i64_w, i32_w]
     rfl
    refine pu_ (i := 6) (N := some 37) #[true, true, true, true, true, true, true, false, false, false, false, false] HT_ ?_
    refine pu_ (i := 7) (N := some 44) #[true, true, true, true, true, true, true, true, false, false, false, false] HT_ ?_
    refine pu_ (i := 8) (N := some 45) #[true, true, true, true, true, true, true, true, true, false, false, false] HT_ ?_
    refine one_ (i := 9) (N := some 13) #[true, true, true, true, true, true, true, true, true, true, false, false] rfl rfl (one_of HT_.out (by kernel_rfl)) (by decide) (fun K hK => ?_)
    refine box_step ?hg (N := 13) ?hd (cs := #[.slice none 0 0, .int .i64 0, .int .i64 0, .int .i64 0]) (t := 30) ?hr ?_; (case hd => rfl); (case hg => rfl); (case hr => first | (go_simp; done) | (go_simp; rfl))
    intro gb395 hg w49 hbox hb
    replace HO361 := am_ (Kd.R_below (ur_ HO361.out) hb)
    replace HO371 := am_ (Kd.R_below (ur_ HO371.out) hb)
    replace HO379 := am_ (Kd.R_below (ur_ HO379.out) hb)
    replace HO390 := am_ (Kd.R_below (ur_ HO390.out) hb)
    have BK395 := am_ (hbox)
    have GW395 := gs_ hg HB.out
    have GE395 := gs_ hg HB.out
    replace HB := hs_ HB hb
    have NB356_395 := nl_ hg BK356.out
    have NB395_356 := ng_ hg BK356.out
    replace BK356 := bs_ BK356 hb
    have NB357_395 := nl_ hg BK357.out
    have NB395_357 := ng_ hg BK357.out
    replace BK357 := bs_ BK357 hb
    have NB376_395 := nl_ hg BK376.out
    have NB395_376 := ng_ hg BK376.out
    replace BK376 := bs_ BK376 hb
    have NB383_395 := nl_ hg BK383.out
    have NB395_383 := ng_ hg BK383.out
    replace BK383 := bs_ BK383 hb
    clear hb hbox hg
    refine hK.out _ _ ⟨cb_ BK383.out 0 rfl, cb_ BK383.out 1 rfl, cb_ BK383.out 2 rfl, cb_ BK383.out 3 rfl, cb_ BK357.out 0 rfl, cb_ BK357.out 1 rfl, cb_ BK357.out 2 rfl, cb_ BK357.out 3 rfl⟩ (fun hHeld => ?_)
    clear hK K
    refine norm_ (a' := ?_) ?_ ?_
    rotate_left
    ·
     show Act.put _ (some 13) _ = _
     simp only [Act.put, List.setIfInBounds_toArray, List.set_cons_zero, List.set_cons_succ, i64_w, i32_w]
     rfl
    exact norm_ (by simp only [putAll, Act.put, List.setIfInBounds_toArray, List.set_cons_zero, List.set_cons_succ]) (hCont (v389, gb395) _ ⟨hHeld, (by (with_reducible repeat (first | apply Kd.R_alloc | apply Kd.R_drewN | apply Kd.R_drew)); exact Kd.R_mono HO361.out (fun _ hk => by first | exact ⟨hk.1.1, ⟨hk.1.2, hk.2⟩⟩ | grind)), (by (with_reducible repeat (first | apply Kd.R_alloc | apply Kd.R_drewN | apply Kd.R_drew)); exact Kd.R_mono HO371.out (fun _ hk => by first | exact ⟨hk.1.1, ⟨hk.1.2, hk.2⟩⟩ | grind)), (by (with_reducible repeat (first | apply Kd.R_alloc | apply Kd.R_drewN | apply Kd.R_drew)); exact Kd.R_mono HO379.out (fun _ hk => by first | exact ⟨hk.1.1, ⟨hk.1.2, hk.2⟩⟩ | grind)), (by (with_reducible repeat (first | apply Kd.R_alloc | apply Kd.R_drewN | apply Kd.R_drew)); exact Kd.R_mono HO390.out (fun _ hk => by first | exact ⟨hk.1.1.2, ⟨hk.1.2, hk.2⟩⟩ | grind)), (ub_ BK356.out), (ub_ BK357.out), (ub_ BK376.out), (ub_ BK383.out), (ub_ BK395.out), GW395.out, GE395.out, NB356_395.out, NB395_356.out, NB357_395.out, NB395_357.out, NB376_395.out, NB395_376.out, NB383_395.out, NB395_383.out, (ue_ HB.out)⟩)
   skip
   refine box_step ?hg (N := 13) ?hd (cs := #[.slice none 0 0, .int .i64 0, .int .i64 0, .int .i64 0]) (t := 30) ?hr ?_; (case hd => rfl); (case hg => rfl); (case hr => first | (go_simp; done) | (go_simp; rfl))
   intro gb395 hg w48 hbox hb
   replace HO361 := am_ (Kd.R_below (ur_ HO361.out) hb)
   replace HO371 := am_ (Kd.R_below (ur_ HO371.out) hb)
   replace HO379 := am_ (Kd.R_below (ur_ HO379.out) hb)
   have BK395 := am_ (hbox)
   have GW395 := gs_ hg HB.out
   have GE395 := gs_ hg HB.out
   replace HB := hs_ HB hb
   have NB356_395 := nl_ hg BK356.out
   have NB395_356 := ng_ hg BK356.out
   replace BK356 := bs_ BK356 hb
   have NB357_395 := nl_ hg BK357.out
   have NB395_357 := ng_ hg BK357.out
   replace BK357 := bs_ BK357 hb
   have NB376_395 := nl_ hg BK376.out
   have NB395_376 := ng_ hg BK376.out
   replace BK376 := bs_ BK376 hb
   have NB383_395 := nl_ hg BK383.out
   have NB395_383 := ng_ hg BK383.out
   replace BK383 := bs_ BK383 hb
   clear hb hbox hg
   refine hK.out _ _ ⟨cb_ BK383.out 0 rfl, cb_ BK383.out 1 rfl, cb_ BK383.out 2 rfl, cb_ BK383.out 3 rfl, cb_ BK357.out 0 rfl, cb_ BK357.out 1 rfl, cb_ BK357.out 2 rfl, cb_ BK357.out 3 rfl⟩ (fun hHeld => ?_)
   clear hK K
   refine norm_ (a' := ?_) ?_ ?_
   rotate_left
   ·
    show Act.put _ (some 13) _ = _
    simp only [Act.put, List.setIfInBounds_toArray, List.set_cons_zero, List.set_cons_succ, i64_w, i32_w]
    rfl
   refine one_ (i := 5) (N := some 43) #[true, true, true, true, true, true, false, false, false, true, false, false] rfl rfl (one_of HT_.out (by kernel_rfl)) (by decide) (fun K hK => ?_)
   refine goes_ Try.func9 (by kernel_rfl) rfl #[.agg #[.slice Ao40 t377.length co40, .int .i64 t380, .int .i64 t381, .int .i64 t382], .int .i64 a1, .int .i64 a2, .agg #[.int .i64 t384, .int .i64 t385, .int .i64 t386, .int .i64 t387]] (by rfl) rfl rfl ul_ ?_
   with_reducible refine (impl_AddEvent.calls k _ _ t377 t380 t381 t382 a1 a2 t384 t385 t386 t387 t388 t391 t392 t393 t394 _ ?side1 ?side2 A17.out).mono ?_
   (case side1 => repeat (first | exact (Kd.R_reads' HO379.out).2.2 | (with_reducible refine Kd.C_alloc ?_ _) | (with_reducible refine Kd.C_drewN ?_ _) | (with_reducible refine Kd.C_drew ?_)))
   (case side2 => exact (Kd.R_reads' HO379.out).2.1)
   rintro e w49 ⟨v389, rfl, ho0, hb⟩
   refine ⟨_, rfl, ?_⟩
   have HO390 := am_ (Kd.R_lower (Kd.R_new' (Kd.R_new' (Kd.R_new' ho0 (Kd.R_lt (ur_ HO361.out))) (Kd.R_lt (ur_ HO371.out))) (Kd.R_lt (ur_ HO379.out))) (below_size (ue_ HB.out)))
   replace HO361 := am_ (Kd.R_elder' (ur_ HO361.out) (Kd.R_base ho0) hb)
   replace HO371 := am_ (Kd.R_elder' (ur_ HO371.out) (Kd.R_base ho0) hb)
   replace HO379 := am_ (Kd.R_elder' (ur_ HO379.out) (Kd.R_base ho0) hb)
   replace BK356 := bs_ BK356 hb
   replace BK357 := bs_ BK357 hb
   replace BK376 := bs_ BK376 hb
   replace BK383 := bs_ BK383 hb
   replace BK395 := bs_ BK395 hb
   replace HB := hs_ HB hb
   (try clear hb)
   (try clear hb2)
   (try clear hk)
   (try clear hi)
   (try clear ho0)
   refine hK.out _ _ ⟨cb_ BK383.out 0 rfl, cb_ BK383.out 1 rfl, cb_ BK383.out 2 rfl, cb_ BK383.out 3 rfl, cb_ BK357.out 0 rfl, cb_ BK357.out 1 rfl, cb_ BK357.out 2 rfl, cb_ BK357.out 3 rfl⟩ (fun hHeld => ?_)
   clear hK K
   refine norm_ (a' := ?_) ?_ ?_
   rotate_left
   ·
    show Act.put _ (some 43) _ = _
    simp only [Act.put, List.setIfInBounds_toArray, List.set_cons_zero, List.set_cons_succ, i64_w, i32_w]
    rfl
   refine pu_ (i := 6) (N := some 37) #[true, true, true, true, true, true, true, false, false, true, false, false] HT_ ?_
   refine pu_ (i := 7) (N := some 44) #[true, true, true, true, true, true, true, true, false, true, false, false] HT_ ?_
   refine pu_ (i := 8) (N := some 45) #[true, true, true, true, true, true, true, true, true, true, false, false] HT_ ?_
   exact norm_ (by simp only [putAll, Act.put, List.setIfInBounds_toArray, List.set_cons_zero, List.set_cons_succ]) (hCont (v389, gb395) _ ⟨hHeld, (by (with_reducible repeat (first | apply Kd.R_alloc | apply Kd.R_drewN | apply Kd.R_drew)); exact Kd.R_mono HO361.out (fun _ hk => by first | exact ⟨hk.1.1, ⟨hk.1.2, hk.2⟩⟩ | grind)), (by (with_reducible repeat (first | apply Kd.R_alloc | apply Kd.R_drewN | apply Kd.R_drew)); exact Kd.R_mono HO371.out (fun _ hk => by first | exact ⟨hk.1.1, ⟨hk.1.2, hk.2⟩⟩ | grind)), (by (with_reducible repeat (first | apply Kd.R_alloc | apply Kd.R_drewN | apply Kd.R_drew)); exact Kd.R_mono HO379.out (fun _ hk => by first | exact ⟨hk.1.1, ⟨hk.1.2, hk.2⟩⟩ | grind)), (by (with_reducible repeat (first | apply Kd.R_alloc | apply Kd.R_drewN | apply Kd.R_drew)); exact Kd.R_mono HO390.out (fun _ hk => by first | exact ⟨hk.1.1.2, ⟨hk.1.2, hk.2⟩⟩ | grind)), (ub_ BK356.out), (ub_ BK357.out), (ub_ BK376.out), (ub_ BK383.out), (ub_ BK395.out), GW395.out, GE395.out, NB356_395.out, NB395_356.out, NB357_395.out, NB395_357.out, NB376_395.out, NB395_376.out, NB383_395.out, NB395_383.out, (ue_ HB.out)⟩)
  skip
  refine box_step ?hg (N := 13) ?hd (cs := #[.slice none 0 0, .int .i64 0, .int .i64 0, .int .i64 0]) (t := 30) ?hr ?_; (case hd => rfl); (case hg => rfl); (case hr => first | (go_simp; done) | (go_simp; rfl))
  intro gb395 hg w47 hbox hb
  replace HO361 := am_ (Kd.R_below (ur_ HO361.out) hb)
  replace HO371 := am_ (Kd.R_below (ur_ HO371.out) hb)
  replace HO379 := am_ (Kd.R_below (ur_ HO379.out) hb)
  have BK395 := am_ (hbox)
  have GW395 := gs_ hg HB.out
  have GE395 := gs_ hg HB.out
  replace HB := hs_ HB hb
  have NB356_395 := nl_ hg BK356.out
  have NB395_356 := ng_ hg BK356.out
  replace BK356 := bs_ BK356 hb
  have NB357_395 := nl_ hg BK357.out
  have NB395_357 := ng_ hg BK357.out
  replace BK357 := bs_ BK357 hb
  have NB376_395 := nl_ hg BK376.out
  have NB395_376 := ng_ hg BK376.out
  replace BK376 := bs_ BK376 hb
  have NB383_395 := nl_ hg BK383.out
  have NB395_383 := ng_ hg BK383.out
  replace BK383 := bs_ BK383 hb
  clear hb hbox hg
  refine hK.out _ _ ⟨cb_ BK383.out 0 rfl, cb_ BK383.out 1 rfl, cb_ BK383.out 2 rfl, cb_ BK383.out 3 rfl, cb_ BK357.out 0 rfl, cb_ BK357.out 1 rfl, cb_ BK357.out 2 rfl, cb_ BK357.out 3 rfl⟩ (fun hHeld => ?_)
  clear hK K
  refine norm_ (a' := ?_) ?_ ?_
  rotate_left
  ·
   show Act.put _ (some 13) _ = _
   simp only [Act.put, List.setIfInBounds_toArray, List.set_cons_zero, List.set_cons_succ, i64_w, i32_w]
   rfl
  refine one_ (i := 4) (N := some 42) #[true, true, true, true, true, false, false, false, false, true, false, false] rfl rfl (one_of HT_.out (by kernel_rfl)) (by decide) (fun K hK => ?_)
  refine goes_ Try.func8 (by kernel_rfl) rfl #[.agg #[.int .i64 a3_0, .int .i64 a3_1, .int .i64 a3_2, .int .i64 a3_3]] (by rfl) rfl rfl ul_ ?_
  with_reducible refine (laws_toFrame.calls a3_0 a3_1 a3_2 a3_3 t384 t385 t386 t387 _ A16.out).mono ?_
  rintro e w48 ⟨rfl, hb⟩
  refine ⟨_, rfl, ?_⟩
  replace HO361 := am_ (Kd.R_below (ur_ HO361.out) hb)
  replace HO371 := am_ (Kd.R_below (ur_ HO371.out) hb)
  replace HO379 := am_ (Kd.R_below (ur_ HO379.out) hb)
  replace BK356 := bs_ BK356 hb
  replace BK357 := bs_ BK357 hb
  replace BK376 := bs_ BK376 hb
  replace BK383 := bs_ BK383 hb
  replace BK395 := bs_ BK395 hb
  replace HB := hs_ HB hb
  (try clear hb)
  (try clear hb2)
  (try clear hk)
  (try clear hi)
  refine hK.out _ _ ⟨cb_ BK383.out 0 rfl, cb_ BK383.out 1 rfl, cb_ BK383.out 2 rfl, cb_ BK383.out 3 rfl, cb_ BK357.out 0 rfl, cb_ BK357.out 1 rfl, cb_ BK357.out 2 rfl, cb_ BK357.out 3 rfl⟩ (fun hHeld => ?_)
  clear hK K
  refine norm_ (a' := ?_) ?_ ?_
  rotate_left
  ·
   show Act.put _ (some 42) _ = _
   simp only [Act.put, List.setIfInBounds_toArray, List.set_cons_zero, List.set_cons_succ, i64_w, i32_w]
   rfl
  refine one_ (i := 5) (N := some 43) #[true, true, true, true, true, true, false, false, false, true, false, false] rfl rfl (one_of HT_.out (by kernel_rfl)) (by decide) (fun K hK => ?_)
  refine goes_ Try.func9 (by kernel_rfl) rfl #[.agg #[.slice Ao40 t377.length co40, .int .i64 t380, .int .i64 t381, .int .i64 t382], .int .i64 a1, .int .i64 a2, .agg #[.int .i64 t384, .int .i64 t385, .int .i64 t386, .int .i64 t387]] (by rfl) rfl rfl ul_ ?_
  with_reducible refine (impl_AddEvent.calls k _ _ t377 t380 t381 t382 a1 a2 t384 t385 t386 t387 t388 t391 t392 t393 t394 _ ?side1 ?side2 A17.out).mono ?_
  (case side1 => repeat (first | exact (Kd.R_reads' HO379.out).2.2 | (with_reducible refine Kd.C_alloc ?_ _) | (with_reducible refine Kd.C_drewN ?_ _) | (with_reducible refine Kd.C_drew ?_)))
  (case side2 => exact (Kd.R_reads' HO379.out).2.1)
  rintro e w49 ⟨v389, rfl, ho0, hb⟩
  refine ⟨_, rfl, ?_⟩
  have HO390 := am_ (Kd.R_lower (Kd.R_new' (Kd.R_new' (Kd.R_new' ho0 (Kd.R_lt (ur_ HO361.out))) (Kd.R_lt (ur_ HO371.out))) (Kd.R_lt (ur_ HO379.out))) (below_size (ue_ HB.out)))
  replace HO361 := am_ (Kd.R_elder' (ur_ HO361.out) (Kd.R_base ho0) hb)
  replace HO371 := am_ (Kd.R_elder' (ur_ HO371.out) (Kd.R_base ho0) hb)
  replace HO379 := am_ (Kd.R_elder' (ur_ HO379.out) (Kd.R_base ho0) hb)
  replace BK356 := bs_ BK356 hb
  replace BK357 := bs_ BK357 hb
  replace BK376 := bs_ BK376 hb
  replace BK383 := bs_ BK383 hb
  replace BK395 := bs_ BK395 hb
  replace HB := hs_ HB hb
  (try clear hb)
  (try clear hb2)
  (try clear hk)
  (try clear hi)
  (try clear ho0)
  refine hK.out _ _ ⟨cb_ BK383.out 0 rfl, cb_ BK383.out 1 rfl, cb_ BK383.out 2 rfl, cb_ BK383.out 3 rfl, cb_ BK357.out 0 rfl, cb_ BK357.out 1 rfl, cb_ BK357.out 2 rfl, cb_ BK357.out 3 rfl⟩ (fun hHeld => ?_)
  clear hK K
  refine norm_ (a' := ?_) ?_ ?_
  rotate_left
  ·
   show Act.put _ (some 43) _ = _
   simp only [Act.put, List.setIfInBounds_toArray, List.set_cons_zero, List.set_cons_succ, i64_w, i32_w]
   rfl
  refine pu_ (i := 6) (N := some 37) #[true, true, true, true, true, true, true, false, false, true, false, false] HT_ ?_
  refine pu_ (i := 7) (N := some 44) #[true, true, true, true, true, true, true, true, false, true, false, false] HT_ ?_
  refine pu_ (i := 8) (N := some 45) #[true, true, true, true, true, true, true, true, true, true, false, false] HT_ ?_
  exact norm_ (by simp only [putAll, Act.put, List.setIfInBounds_toArray, List.set_cons_zero, List.set_cons_succ]) (hCont (v389, gb395) _ ⟨hHeld, (by (with_reducible repeat (first | apply Kd.R_alloc | apply Kd.R_drewN | apply Kd.R_drew)); exact Kd.R_mono HO361.out (fun _ hk => by first | exact ⟨hk.1.1, ⟨hk.1.2, hk.2⟩⟩ | grind)), (by (with_reducible repeat (first | apply Kd.R_alloc | apply Kd.R_drewN | apply Kd.R_drew)); exact Kd.R_mono HO371.out (fun _ hk => by first | exact ⟨hk.1.1, ⟨hk.1.2, hk.2⟩⟩ | grind)), (by (with_reducible repeat (first | apply Kd.R_alloc | apply Kd.R_drewN | apply Kd.R_drew)); exact Kd.R_mono HO379.out (fun _ hk => by first | exact ⟨hk.1.1, ⟨hk.1.2, hk.2⟩⟩ | grind)), (by (with_reducible repeat (first | apply Kd.R_alloc | apply Kd.R_drewN | apply Kd.R_drew)); exact Kd.R_mono HO390.out (fun _ hk => by first | exact ⟨hk.1.1.2, ⟨hk.1.2, hk.2⟩⟩ | grind)), (ub_ BK356.out), (ub_ BK357.out), (ub_ BK376.out), (ub_ BK383.out), (ub_ BK395.out), GW395.out, GE395.out, NB356_395.out, NB395_356.out, NB357_395.out, NB395_357.out, NB376_395.out, NB395_376.out, NB383_395.out, NB395_383.out, (ue_ HB.out)⟩)
 rintro ⟨v389, gb395⟩ w50 ⟨hS_, h0_, h1_, h2_, h3_, h4_, h5_, h6_, h7_, h8_, h9_, h10_, h11_, h12_, h13_, h14_, h15_, h16_, h17_, h18_, h19_⟩
 replace HO361 : Aside0 (Kd.R k62 62 w50 w.heap.size (fun k_ => some k_ ≠ (.slice Ao31 t369.length co31 : Value).ownBlock ∧ some k_ ≠ (.slice Ao40 t377.length co40 : Value).ownBlock ∧ some k_ ≠ (v389 : Value).ownBlock) v360 t359) := ⟨h0_⟩
 replace HO371 : Aside0 (Kd.R k62 62 w50 w.heap.size (fun k_ => some k_ ≠ (v360 : Value).ownBlock ∧ some k_ ≠ (.slice Ao40 t377.length co40 : Value).ownBlock ∧ some k_ ≠ (v389 : Value).ownBlock) (.slice Ao31 t369.length co31) t369) := ⟨h1_⟩
 replace HO379 : Aside0 (Kd.R k62 62 w50 w.heap.size (fun k_ => some k_ ≠ (v360 : Value).ownBlock ∧ some k_ ≠ (.slice Ao31 t369.length co31 : Value).ownBlock ∧ some k_ ≠ (v389 : Value).ownBlock) (.slice Ao40 t377.length co40) t377) := ⟨h2_⟩
 have HO390 : Aside0 (Kd.R k62 62 w50 w.heap.size (fun k_ => some k_ ≠ (v360 : Value).ownBlock ∧ some k_ ≠ (.slice Ao31 t369.length co31 : Value).ownBlock ∧ some k_ ≠ (.slice Ao40 t377.length co40 : Value).ownBlock) v389 t388) := ⟨h3_⟩
 replace BK356 : Aside0 (w50.heap[gb356]? = some (.cells #[.slice A0_0 l0_0.length c0_0, .int .i64 a0_1, .int .i64 a0_2, .int .i64 a0_3] 24 (0, 0))) := ⟨h4_⟩
 replace BK357 : Aside0 (w50.heap[gb357]? = some (.cells #[.int .i64 a3_0, .int .i64 a3_1, .int .i64 a3_2, .int .i64 a3_3] 26 (0, 0))) := ⟨h5_⟩
 replace BK376 : Aside0 (w50.heap[gb376]? = some (.cells #[.slice Ao31 t369.length co31, .int .i64 t372, .int .i64 t373, .int .i64 t374] 30 (0, 0))) := ⟨h6_⟩
 replace BK383 : Aside0 (w50.heap[gb383]? = some (.cells #[.slice Ao40 t377.length co40, .int .i64 t380, .int .i64 t381, .int .i64 t382] 30 (0, 0))) := ⟨h7_⟩
 have BK395 : Aside0 (w50.heap[gb395]? = some (.cells #[.slice none 0 0, .int .i64 0, .int .i64 0, .int .i64 0] 30 (0, 0))) := ⟨h8_⟩
 have GW395 : Aside0 (w.heap.size ≤ gb395) := ⟨h9_⟩
 have GE395 : Aside0 (w.heap.size ≤ gb395) := ⟨h10_⟩
 have NB356_395 : Aside0 (gb356 ≠ gb395) := ⟨h11_⟩
 have NB395_356 : Aside0 (gb395 ≠ gb356) := ⟨h12_⟩
 have NB357_395 : Aside0 (gb357 ≠ gb395) := ⟨h13_⟩
 have NB395_357 : Aside0 (gb395 ≠ gb357) := ⟨h14_⟩
 have NB376_395 : Aside0 (gb376 ≠ gb395) := ⟨h15_⟩
 have NB395_376 : Aside0 (gb395 ≠ gb376) := ⟨h16_⟩
 have NB383_395 : Aside0 (gb383 ≠ gb395) := ⟨h17_⟩
 have NB395_383 : Aside0 (gb395 ≠ gb383) := ⟨h18_⟩
 replace HB : Aside0 (Below w.heap.size w w50) := ⟨h19_⟩
 clear h0_ h1_ h2_ h3_ h4_ h5_ h6_ h7_ h8_ h9_ h10_ h11_ h12_ h13_ h14_ h15_ h16_ h17_ h18_ h19_
 have hHeld : w50.cell? ⟨gb383, 0, none⟩ = some (.slice Ao40 t377.length co40) ∧ w50.cell? ⟨gb383, 1, none⟩ = some (.int .i64 t380) ∧ w50.cell? ⟨gb383, 2, none⟩ = some (.int .i64 t381) ∧ w50.cell? ⟨gb383, 3, none⟩ = some (.int .i64 t382) ∧ w50.cell? ⟨gb357, 0, none⟩ = some (.int .i64 a3_0) ∧ w50.cell? ⟨gb357, 1, none⟩ = some (.int .i64 a3_1) ∧ w50.cell? ⟨gb357, 2, none⟩ = some (.int .i64 a3_2) ∧ w50.cell? ⟨gb357, 3, none⟩ = some (.int .i64 a3_3) := hS_
 obtain ⟨Ao51, co51, eo51⟩ := Kd.R_slice HO390.out
 (first | subst eo51 | (injection eo51 with f1_ f2_ f3_; have f4_ := f1_.symm; have f5_ := f3_.symm; clear f1_ f2_ f3_; subst f4_; subst f5_))
 refine norm_ (a' := ?_) ?_ ?_
 rotate_left
 ·
  simp only [putAll, Act.put, List.setIfInBounds_toArray, List.set_cons_zero, List.set_cons_succ]
  rfl
 refine one_ (i := 10) (N := none) #[true, true, true, true, true, true, true, true, true, true, true, false] rfl rfl (one_of HT_.out (by kernel_rfl)) (by decide) (fun K hK => ?_)
 have hs52 := cb_ BK395.out 0 rfl
 have hfs52 := blk_frozen BK395.out 0
 have hns52_0 := NB356_395.out
 have hns52_1 := NB357_395.out
 have hns52_2 := NB376_395.out
 have hns52_3 := NB383_395.out
 have hms52_0 := NB395_356.out
 have hms52_1 := NB395_357.out
 have hms52_2 := NB395_376.out
 have hms52_3 := NB395_383.out
 have hs53 := cb_ BK395.out 1 rfl
 have hfs53 := blk_frozen BK395.out 1
 have hns53_0 := NB356_395.out
 have hns53_1 := NB357_395.out
 have hns53_2 := NB376_395.out
 have hns53_3 := NB383_395.out
 have hms53_0 := NB395_356.out
 have hms53_1 := NB395_357.out
 have hms53_2 := NB395_376.out
 have hms53_3 := NB395_383.out
 have hs54 := cb_ BK395.out 2 rfl
 have hfs54 := blk_frozen BK395.out 2
 have hns54_0 := NB356_395.out
 have hns54_1 := NB357_395.out
 have hns54_2 := NB376_395.out
 have hns54_3 := NB383_395.out
 have hms54_0 := NB395_356.out
 have hms54_1 := NB395_357.out
 have hms54_2 := NB395_376.out
 have hms54_3 := NB395_383.out
 have hs55 := cb_ BK395.out 3 rfl
 have hfs55 := blk_frozen BK395.out 3
 have hns55_0 := NB356_395.out
 have hns55_1 := NB357_395.out
 have hns55_2 := NB376_395.out
 have hns55_3 := NB383_395.out
 have hms55_0 := NB395_356.out
 have hms55_1 := NB395_357.out
 have hms55_2 := NB395_376.out
 have hms55_3 := NB395_383.out
 refine skip_ (w1 := ?_) (by rfl) rfl ?_ ?_
 rotate_left
 ·
  go_simp
  rfl
 refine hK.out _ _ ⟨(cf4_ hHeld.1 NB383_395.out), (cf4_ hHeld.2.1 NB383_395.out), (cf4_ hHeld.2.2.1 NB383_395.out), (cf4_ hHeld.2.2.2.1 NB383_395.out), (cf4_ hHeld.2.2.2.2.1 NB357_395.out), (cf4_ hHeld.2.2.2.2.2.1 NB357_395.out), (cf4_ hHeld.2.2.2.2.2.2.1 NB357_395.out), (cf4_ hHeld.2.2.2.2.2.2.2 NB357_395.out)⟩ (fun hHeld => ?_)
 clear hK K
 refine pu_ (i := 11) (N := some 14) #[true, true, true, true, true, true, true, true, true, true, true, true] HT_ ?_
 refine done_ (done_of HT_.out (by kernel_rfl)) ?_
 go_upto_region 8 with (fail)
 go_cut [54] (fun v54 wc => ∃ (kq : Nat) (x54_17 : Bool), v54 = .bool x54_17 ∧ Aside0 (laws_FnExactAddEvent.j0 kq a1 a2 t375 t394 x54_17 l0_0 a0_1 a0_2 a0_3 a3_0 a3_1 a3_2 a3_3 t369 t372 t373 t374 t377 t380 t381 t382 t388 t391 t392 t393 = some r) ∧ Aside0 (kq ≤ k) ∧ Aside0 (Kd.R k62 62 wc w.heap.size (fun k_ => some k_ ≠ ((.slice Ao40 t377.length co40) : Value).ownBlock ∧ some k_ ≠ ((.slice Ao51 t388.length co51) : Value).ownBlock) (.slice Ao31 t369.length co31) t369) ∧ Aside0 (Kd.R k62 62 wc w.heap.size (fun k_ => some k_ ≠ ((.slice Ao31 t369.length co31) : Value).ownBlock ∧ some k_ ≠ ((.slice Ao51 t388.length co51) : Value).ownBlock) (.slice Ao40 t377.length co40) t377) ∧ Aside0 (Kd.R k62 62 wc w.heap.size (fun k_ => some k_ ≠ ((.slice Ao31 t369.length co31) : Value).ownBlock ∧ some k_ ≠ ((.slice Ao40 t377.length co40) : Value).ownBlock) (.slice Ao51 t388.length co51) t388) ∧ Aside0 (wc.heap[gb356]? = some (.cells #[(.slice A0_0 l0_0.length c0_0), .int .i64 a0_1, .int .i64 a0_2, .int .i64 a0_3] 24 (0, 0))) ∧ Aside0 (wc.heap[gb357]? = some (.cells #[.int .i64 a3_0, .int .i64 a3_1, .int .i64 a3_2, .int .i64 a3_3] 26 (0, 0))) ∧ Aside0 (wc.heap[gb376]? = some (.cells #[(.slice Ao31 t369.length co31), .int .i64 t372, .int .i64 t373, .int .i64 t374] 30 (0, 0))) ∧ Aside0 (wc.heap[gb383]? = some (.cells #[(.slice Ao40 t377.length co40), .int .i64 t380, .int .i64 t381, .int .i64 t382] 30 (0, 0))) ∧ Aside0 (wc.heap[gb395]? = some (.cells #[(.slice Ao51 t388.length co51), .int .i64 t391, .int .i64 t392, .int .i64 t393] 30 (0, 0))) ∧ Aside0 (Below w.heap.size w wc))
 case first =>
  have H := HC18.out
  clear HC18
  replace H := Option.bind_eq_some_iff.mp H
  obtain ⟨t396, A560, H⟩ := H
  replace H : (if t396 = true then (laws_FnExactAddEvent.j0 k a1 a2 t375 t394 (t394 != t375) l0_0 a0_1 a0_2 a0_3 a3_0 a3_1 a3_2 a3_3 t369 t372 t373 t374 t377 t380 t381 t382 t388 t391 t392 t393) else (laws_FnExactAddEvent.j0 k a1 a2 t375 t394 true l0_0 a0_1 a0_2 a0_3 a3_0 a3_1 a3_2 a3_3 t369 t372 t373 t374 t377 t380 t381 t382 t388 t391 t392 t393)) = some r := H
  have A56 := Aside0.mk A560
  clear A560
  by_cases c57 : t396 = true
  ·
   subst c57
   have H1 : (laws_FnExactAddEvent.j0 k a1 a2 t375 t394 (t394 != t375) l0_0 a0_1 a0_2 a0_3 a3_0 a3_1 a3_2 a3_3 t369 t372 t373 t374 t377 t380 t381 t382 t388 t391 t392 t393) = some r := by rw [if_pos rfl] at H; exact H
   clear H
   have H := H1
   clear H1
   have H' := Aside0.mk H
   clear H
   have hnb58 := NB395_356.out
   have hnc58 := NB356_395.out
   have hnb59 := NB395_357.out
   have hnc59 := NB357_395.out
   have hnb60 := NB395_376.out
   have hnc60 := NB376_395.out
   have hnb61 := NB395_383.out
   have hnc61 := NB383_395.out
   obtain ⟨hcz62_0, hcz62_1, hcz62_2, hcz62_3⟩ := cbz4_ BK395.out
   obtain ⟨hfz62_0, hfz62_1, hfz62_2, hfz62_3⟩ := bfz4_ BK395.out
   have hnb63 := NB376_356.out
   have hnc63 := NB356_376.out
   have hnb64 := NB376_357.out
   have hnc64 := NB357_376.out
   have hnb65 := NB376_383.out
   have hnc65 := NB383_376.out
   obtain ⟨hcz66_0, hcz66_1, hcz66_2, hcz66_3⟩ := cbz4_ BK376.out
   obtain ⟨hfz66_0, hfz66_1, hfz66_2, hfz66_3⟩ := bfz4_ BK376.out
   go_wp2_with (first | ((with_reducible refine gate_callee (f := 10) rfl ?_); refine goesL_ (some 48) rfl rfl Try.func10 (by kernel_rfl) rfl #[.agg #[.slice Ao51 t388.length co51, .int .i64 t391, .int .i64 t392, .int .i64 t393], .agg #[.slice Ao31 t369.length co31, .int .i64 t372, .int .i64 t373, .int .i64 t374]] rfl ul_ ?_; (with_reducible refine (laws_eqShard.calls k _ _ t388 t391 t392 t393 _ _ t369 t372 t373 t374 true _ ?side1 ?side2 ?side3 ?side4 A56.out).mono ?_); (case side1 => refine (Kd.R_reads' (e := 62) (base := w.heap.size) (ok := fun k_ => (some k_ ≠ (v360 : Value).ownBlock ∧ (some k_ ≠ (.slice Ao31 t369.length co31 : Value).ownBlock ∧ some k_ ≠ (.slice Ao40 t377.length co40 : Value).ownBlock))) (n := t388.length) (c := co51) ?_).2.2; exact (by (with_reducible repeat (first | apply Kd.R_alloc | apply Kd.R_drewN | apply Kd.R_drew)); exact (Kd.R_mono (Rf4_ (g := gb395) (Kd.R_types HO390.out BK395.out (by decide))) (fun _ h_ => h_.1)))); (case side2 => exact (Kd.R_reads' HO390.out).2.1); (case side3 => refine (Kd.R_reads' (e := 62) (base := w.heap.size) (ok := fun k_ => (some k_ ≠ (v360 : Value).ownBlock ∧ (some k_ ≠ (.slice Ao40 t377.length co40 : Value).ownBlock ∧ some k_ ≠ (.slice Ao51 t388.length co51 : Value).ownBlock))) (n := t369.length) (c := co31) ?_).2.2; exact (by (with_reducible repeat (first | apply Kd.R_alloc | apply Kd.R_drewN | apply Kd.R_drew)); exact (Kd.R_mono (Rf4_ (g := gb395) (Kd.R_types HO371.out BK395.out (by decide))) (fun _ h_ => h_.1)))); (case side4 => exact (Kd.R_reads' HO371.out).2.1); rintro e w67 ⟨rfl, hb⟩; refine ⟨_, rfl, ?_⟩; replace HO361 := am_ (Kd.R_below (by (with_reducible repeat (first | apply Kd.R_alloc | apply Kd.R_drewN | apply Kd.R_drew)); exact (Kd.R_mono (Rf4_ (g := gb395) (Kd.R_types HO361.out BK395.out (by decide))) (fun _ h_ => h_.1))) hb); replace HO371 := am_ (Kd.R_below (by (with_reducible repeat (first | apply Kd.R_alloc | apply Kd.R_drewN | apply Kd.R_drew)); exact (Kd.R_mono (Rf4_ (g := gb395) (Kd.R_types HO371.out BK395.out (by decide))) (fun _ h_ => h_.1))) hb); replace HO379 := am_ (Kd.R_below (by (with_reducible repeat (first | apply Kd.R_alloc | apply Kd.R_drewN | apply Kd.R_drew)); exact (Kd.R_mono (Rf4_ (g := gb395) (Kd.R_types HO379.out BK395.out (by decide))) (fun _ h_ => h_.1))) hb); replace HO390 := am_ (Kd.R_below (by (with_reducible repeat (first | apply Kd.R_alloc | apply Kd.R_drewN | apply Kd.R_drew)); exact (Kd.R_mono (Rf4_ (g := gb395) (Kd.R_types HO390.out BK395.out (by decide))) (fun _ h_ => h_.1))) hb); replace BK356 := am_ (blk_below (g := gb356) (o := .cells #[.slice A0_0 l0_0.length c0_0, .int .i64 a0_1, .int .i64 a0_2, .int .i64 a0_3] 24 (0, 0)) (uf_ BK356.out) hb); replace BK357 := am_ (blk_below (g := gb357) (o := .cells #[.int .i64 a3_0, .int .i64 a3_1, .int .i64 a3_2, .int .i64 a3_3] 26 (0, 0)) (uf_ BK357.out) hb); replace BK376 := am_ (blk_below (g := gb376) (o := .cells #[.slice Ao31 t369.length co31, .int .i64 t372, .int .i64 t373, .int .i64 t374] 30 (0, 0)) (uf_ BK376.out) hb); replace BK383 := am_ (blk_below (g := gb383) (o := .cells #[.slice Ao40 t377.length co40, .int .i64 t380, .int .i64 t381, .int .i64 t382] 30 (0, 0)) (uf_ BK383.out) hb); replace BK395 := am_ (blk_below (g := gb395) (o := .cells #[.slice Ao51 t388.length co51, .int .i64 t391, .int .i64 t392, .int .i64 t393] 30 (0, 0)) (by (with_reducible repeat first|apply bn_|apply bd_|apply ba_); apply bp4_; (with_reducible repeat first|apply bn_|apply bd_|apply ba_); exact BK395.out) hb); replace HB := hs_ HB hb; (try clear hb); (try clear hb2); (try clear hk); (try clear hi)))
   go_meet
   case rel => exact ⟨_, ((t394 != t375)), (by first | rfl | (simp; done) | (simp [*]; done)), H', ⟨by first | omega | exact Nat.le_refl _⟩, ⟨by (with_reducible repeat (first | apply Kd.R_alloc | apply Kd.R_drewN | apply Kd.R_drew)); exact Kd.R_mono HO371.out (fun _ hk => by first | exact ⟨hk.2.1, hk.2.2⟩ | grind)⟩, ⟨by (with_reducible repeat (first | apply Kd.R_alloc | apply Kd.R_drewN | apply Kd.R_drew)); exact Kd.R_mono HO379.out (fun _ hk => by first | exact ⟨hk.2.1, hk.2.2⟩ | grind)⟩, ⟨by (with_reducible repeat (first | apply Kd.R_alloc | apply Kd.R_drewN | apply Kd.R_drew)); exact Kd.R_mono HO390.out (fun _ hk => by first | exact ⟨hk.2.1, hk.2.2⟩ | grind)⟩, ⟨by (with_reducible repeat first|apply bn_|apply bd_|apply ba_); exact BK356.out⟩, ⟨by (with_reducible repeat first|apply bn_|apply bd_|apply ba_); exact BK357.out⟩, ⟨by (with_reducible repeat first|apply bn_|apply bd_|apply ba_); exact BK376.out⟩, ⟨by (with_reducible repeat first|apply bn_|apply bd_|apply ba_); exact BK383.out⟩, ⟨by (with_reducible repeat first|apply bn_|apply bd_|apply ba_); exact BK395.out⟩, ⟨ue_ HB.out⟩⟩
  replace c57 := Bool.eq_false_iff.mpr c57
  subst c57
  have H1 : (laws_FnExactAddEvent.j0 k a1 a2 t375 t394 true l0_0 a0_1 a0_2 a0_3 a3_0 a3_1 a3_2 a3_3 t369 t372 t373 t374 t377 t380 t381 t382 t388 t391 t392 t393) = some r := by rw [if_neg (show ¬ (false = true) by decide)] at H; exact H
  clear H
  have H := H1
  clear H1
  have H' := Aside0.mk H
  clear H
  have hnb68 := NB395_356.out
  have hnc68 := NB356_395.out
  have hnb69 := NB395_357.out
  have hnc69 := NB357_395.out
  have hnb70 := NB395_376.out
  have hnc70 := NB376_395.out
  have hnb71 := NB395_383.out
  have hnc71 := NB383_395.out
  obtain ⟨hcz72_0, hcz72_1, hcz72_2, hcz72_3⟩ := cbz4_ BK395.out
  obtain ⟨hfz72_0, hfz72_1, hfz72_2, hfz72_3⟩ := bfz4_ BK395.out
  have hnb73 := NB376_356.out
  have hnc73 := NB356_376.out
  have hnb74 := NB376_357.out
  have hnc74 := NB357_376.out
  have hnb75 := NB376_383.out
  have hnc75 := NB383_376.out
  obtain ⟨hcz76_0, hcz76_1, hcz76_2, hcz76_3⟩ := cbz4_ BK376.out
  obtain ⟨hfz76_0, hfz76_1, hfz76_2, hfz76_3⟩ := bfz4_ BK376.out
  go_wp2_with (first | ((with_reducible refine gate_callee (f := 10) rfl ?_); refine goesL_ (some 48) rfl rfl Try.func10 (by kernel_rfl) rfl #[.agg #[.slice Ao51 t388.length co51, .int .i64 t391, .int .i64 t392, .int .i64 t393], .agg #[.slice Ao31 t369.length co31, .int .i64 t372, .int .i64 t373, .int .i64 t374]] rfl ul_ ?_; (with_reducible refine (laws_eqShard.calls k _ _ t388 t391 t392 t393 _ _ t369 t372 t373 t374 false _ ?side1 ?side2 ?side3 ?side4 A56.out).mono ?_); (case side1 => refine (Kd.R_reads' (e := 62) (base := w.heap.size) (ok := fun k_ => (some k_ ≠ (v360 : Value).ownBlock ∧ (some k_ ≠ (.slice Ao31 t369.length co31 : Value).ownBlock ∧ some k_ ≠ (.slice Ao40 t377.length co40 : Value).ownBlock))) (n := t388.length) (c := co51) ?_).2.2; exact (by (with_reducible repeat (first | apply Kd.R_alloc | apply Kd.R_drewN | apply Kd.R_drew)); exact (Kd.R_mono (Rf4_ (g := gb395) (Kd.R_types HO390.out BK395.out (by decide))) (fun _ h_ => h_.1)))); (case side2 => exact (Kd.R_reads' HO390.out).2.1); (case side3 => refine (Kd.R_reads' (e := 62) (base := w.heap.size) (ok := fun k_ => (some k_ ≠ (v360 : Value).ownBlock ∧ (some k_ ≠ (.slice Ao40 t377.length co40 : Value).ownBlock ∧ some k_ ≠ (.slice Ao51 t388.length co51 : Value).ownBlock))) (n := t369.length) (c := co31) ?_).2.2; exact (by (with_reducible repeat (first | apply Kd.R_alloc | apply Kd.R_drewN | apply Kd.R_drew)); exact (Kd.R_mono (Rf4_ (g := gb395) (Kd.R_types HO371.out BK395.out (by decide))) (fun _ h_ => h_.1)))); (case side4 => exact (Kd.R_reads' HO371.out).2.1); rintro e w77 ⟨rfl, hb⟩; refine ⟨_, rfl, ?_⟩; replace HO361 := am_ (Kd.R_below (by (with_reducible repeat (first | apply Kd.R_alloc | apply Kd.R_drewN | apply Kd.R_drew)); exact (Kd.R_mono (Rf4_ (g := gb395) (Kd.R_types HO361.out BK395.out (by decide))) (fun _ h_ => h_.1))) hb); replace HO371 := am_ (Kd.R_below (by (with_reducible repeat (first | apply Kd.R_alloc | apply Kd.R_drewN | apply Kd.R_drew)); exact (Kd.R_mono (Rf4_ (g := gb395) (Kd.R_types HO371.out BK395.out (by decide))) (fun _ h_ => h_.1))) hb); replace HO379 := am_ (Kd.R_below (by (with_reducible repeat (first | apply Kd.R_alloc | apply Kd.R_drewN | apply Kd.R_drew)); exact (Kd.R_mono (Rf4_ (g := gb395) (Kd.R_types HO379.out BK395.out (by decide))) (fun _ h_ => h_.1))) hb); replace HO390 := am_ (Kd.R_below (by (with_reducible repeat (first | apply Kd.R_alloc | apply Kd.R_drewN | apply Kd.R_drew)); exact (Kd.R_mono (Rf4_ (g := gb395) (Kd.R_types HO390.out BK395.out (by decide))) (fun _ h_ => h_.1))) hb); replace BK356 := am_ (blk_below (g := gb356) (o := .cells #[.slice A0_0 l0_0.length c0_0, .int .i64 a0_1, .int .i64 a0_2, .int .i64 a0_3] 24 (0, 0)) (uf_ BK356.out) hb); replace BK357 := am_ (blk_below (g := gb357) (o := .cells #[.int .i64 a3_0, .int .i64 a3_1, .int .i64 a3_2, .int .i64 a3_3] 26 (0, 0)) (uf_ BK357.out) hb); replace BK376 := am_ (blk_below (g := gb376) (o := .cells #[.slice Ao31 t369.length co31, .int .i64 t372, .int .i64 t373, .int .i64 t374] 30 (0, 0)) (uf_ BK376.out) hb); replace BK383 := am_ (blk_below (g := gb383) (o := .cells #[.slice Ao40 t377.length co40, .int .i64 t380, .int .i64 t381, .int .i64 t382] 30 (0, 0)) (uf_ BK383.out) hb); replace BK395 := am_ (blk_below (g := gb395) (o := .cells #[.slice Ao51 t388.length co51, .int .i64 t391, .int .i64 t392, .int .i64 t393] 30 (0, 0)) (by (with_reducible repeat first|apply bn_|apply bd_|apply ba_); apply bp4_; (with_reducible repeat first|apply bn_|apply bd_|apply ba_); exact BK395.out) hb); replace HB := hs_ HB hb; (try clear hb); (try clear hb2); (try clear hk); (try clear hi)))
  go_meet
  case rel => exact ⟨_, (true), (by first | rfl | (simp; done) | (simp [*]; done)), H', ⟨by first | omega | exact Nat.le_refl _⟩, ⟨by (with_reducible repeat (first | apply Kd.R_alloc | apply Kd.R_drewN | apply Kd.R_drew)); exact Kd.R_mono HO371.out (fun _ hk => by first | exact ⟨hk.2.1, hk.2.2⟩ | grind)⟩, ⟨by (with_reducible repeat (first | apply Kd.R_alloc | apply Kd.R_drewN | apply Kd.R_drew)); exact Kd.R_mono HO379.out (fun _ hk => by first | exact ⟨hk.2.1, hk.2.2⟩ | grind)⟩, ⟨by (with_reducible repeat (first | apply Kd.R_alloc | apply Kd.R_drewN | apply Kd.R_drew)); exact Kd.R_mono HO390.out (fun _ hk => by first | exact ⟨hk.2.1, hk.2.2⟩ | grind)⟩, ⟨by (with_reducible repeat first|apply bn_|apply bd_|apply ba_); exact BK356.out⟩, ⟨by (with_reducible repeat first|apply bn_|apply bd_|apply ba_); exact BK357.out⟩, ⟨by (with_reducible repeat first|apply bn_|apply bd_|apply ba_); exact BK376.out⟩, ⟨by (with_reducible repeat first|apply bn_|apply bd_|apply ba_); exact BK383.out⟩, ⟨by (with_reducible repeat first|apply bn_|apply bd_|apply ba_); exact BK395.out⟩, ⟨ue_ HB.out⟩⟩
 case rest =>
  clear HC18
  try clear c1
  try clear p2
  try clear c5
  try clear c6
  try clear c7
  try clear c8
  try clear c9
  try clear c10
  try clear c57
  try clear c58
  try clear c59
  try clear c60
  try clear c61
  try clear c63
  try clear c64
  try clear c65
  try clear c68
  try clear c69
  try clear c70
  try clear c71
  try clear c73
  try clear c74
  try clear c75
  try clear hcz62_0
  try clear hcz62_1
  try clear hcz62_2
  try clear hcz62_3
  try clear hcz66_0
  try clear hcz66_1
  try clear hcz66_2
  try clear hcz66_3
  try clear hcz72_0
  try clear hcz72_1
  try clear hcz72_2
  try clear hcz72_3
  try clear hcz76_0
  try clear hcz76_1
  try clear hcz76_2
  try clear hcz76_3
  try clear hfz62_0
  try clear hfz62_1
  try clear hfz62_2
  try clear hfz62_3
  try clear hfz66_0
  try clear hfz66_1
  try clear hfz66_2
  try clear hfz66_3
  try clear hfz72_0
  try clear hfz72_1
  try clear hfz72_2
  try clear hfz72_3
  try clear hfz76_0
  try clear hfz76_1
  try clear hfz76_2
  try clear hfz76_3
  obtain ⟨kq, x54_17, rfl, HA, HJ17, HO_377000, HO_384000, HO_396000, BK356, BK357, BK376, BK383, BK395, HB⟩ := hcut
  cases kq with
  | zero => exact absurd HA.out (by simp [laws_FnExactAddEvent.j0])
  | succ kj17 =>
   have H := HA.out
   clear HA
   simp only [laws_FnExactAddEvent.j0] at H
   by_cases c78 : x54_17 = true
   ·
    subst c78
    have H1 : (some false) = some r := by rw [if_pos rfl] at H; exact H
    clear H
    have H := H1
    clear H1
    exact absurd ((Option.some.inj H).trans hT.out) (by decide)
   replace c78 := Bool.eq_false_iff.mpr c78
   subst c78
   have H1 : ((laws_toShard.f kj17 l0_0 a0_1 a0_2 a0_3).bind fun bt397 => ((laws_eqShard.f kj17 t377 t380 t381 t382 bt397.1 bt397.2.1 bt397.2.2.1 bt397.2.2.2).bind fun t403 => (if t403 = true then ((laws_markShard.f kj17 t377 t380 t381 t382 1).bind fun bt404 => (if bt404.1 < 0 then (laws_FnExactAddEvent.j1 kj17 a1 a2 t375 true l0_0 a0_1 a0_2 a0_3 a3_0 a3_1 a3_2 a3_3 t369 t372 t373 t374 t388 t391 t392 t393) else ((laws_eqShard.f kj17 t388 t391 t392 t393 t369 t372 t373 t374).bind fun t406 => (if t406 = true then (laws_FnExactAddEvent.j1 kj17 a1 a2 t375 (t394 != t375) l0_0 a0_1 a0_2 a0_3 a3_0 a3_1 a3_2 a3_3 t369 t372 t373 t374 t388 t391 t392 t393) else (laws_FnExactAddEvent.j1 kj17 a1 a2 t375 true l0_0 a0_1 a0_2 a0_3 a3_0 a3_1 a3_2 a3_3 t369 t372 t373 t374 t388 t391 t392 t393))))) else (some false)))) = some r := by rw [if_neg (show ¬ (false = true) by decide)] at H; exact H
   clear H
   have H := H1
   clear H1
   replace H := Option.bind_eq_some_iff.mp H
   obtain ⟨⟨t397, t400, t401, t402⟩, A790, H⟩ := H
   replace H : ((laws_eqShard.f kj17 t377 t380 t381 t382 t397 t400 t401 t402).bind fun t403 => (if t403 = true then ((laws_markShard.f kj17 t377 t380 t381 t382 1).bind fun bt404 => (if bt404.1 < 0 then (laws_FnExactAddEvent.j1 kj17 a1 a2 t375 true l0_0 a0_1 a0_2 a0_3 a3_0 a3_1 a3_2 a3_3 t369 t372 t373 t374 t388 t391 t392 t393) else ((laws_eqShard.f kj17 t388 t391 t392 t393 t369 t372 t373 t374).bind fun t406 => (if t406 = true then (laws_FnExactAddEvent.j1 kj17 a1 a2 t375 (t394 != t375) l0_0 a0_1 a0_2 a0_3 a3_0 a3_1 a3_2 a3_3 t369 t372 t373 t374 t388 t391 t392 t393) else (laws_FnExactAddEvent.j1 kj17 a1 a2 t375 true l0_0 a0_1 a0_2 a0_3 a3_0 a3_1 a3_2 a3_3 t369 t372 t373 t374 t388 t391 t392 t393))))) else (some false))) = some r := H
   have A79 := Aside0.mk A790
   clear A790
   replace H := Option.bind_eq_some_iff.mp H
   obtain ⟨t403, A800, H⟩ := H
   replace H : (if t403 = true then ((laws_markShard.f kj17 t377 t380 t381 t382 1).bind fun bt404 => (if bt404.1 < 0 then (laws_FnExactAddEvent.j1 kj17 a1 a2 t375 true l0_0 a0_1 a0_2 a0_3 a3_0 a3_1 a3_2 a3_3 t369 t372 t373 t374 t388 t391 t392 t393) else ((laws_eqShard.f kj17 t388 t391 t392 t393 t369 t372 t373 t374).bind fun t406 => (if t406 = true then (laws_FnExactAddEvent.j1 kj17 a1 a2 t375 (t394 != t375) l0_0 a0_1 a0_2 a0_3 a3_0 a3_1 a3_2 a3_3 t369 t372 t373 t374 t388 t391 t392 t393) else (laws_FnExactAddEvent.j1 kj17 a1 a2 t375 true l0_0 a0_1 a0_2 a0_3 a3_0 a3_1 a3_2 a3_3 t369 t372 t373 t374 t388 t391 t392 t393))))) else (some false)) = some r := H
   have A80 := Aside0.mk A800
   clear A800
   by_cases c81 : t403 = true
   ·
    subst c81
    have H1 : ((laws_markShard.f kj17 t377 t380 t381 t382 1).bind fun bt404 => (if bt404.1 < 0 then (laws_FnExactAddEvent.j1 kj17 a1 a2 t375 true l0_0 a0_1 a0_2 a0_3 a3_0 a3_1 a3_2 a3_3 t369 t372 t373 t374 t388 t391 t392 t393) else ((laws_eqShard.f kj17 t388 t391 t392 t393 t369 t372 t373 t374).bind fun t406 => (if t406 = true then (laws_FnExactAddEvent.j1 kj17 a1 a2 t375 (t394 != t375) l0_0 a0_1 a0_2 a0_3 a3_0 a3_1 a3_2 a3_3 t369 t372 t373 t374 t388 t391 t392 t393) else (laws_FnExactAddEvent.j1 kj17 a1 a2 t375 true l0_0 a0_1 a0_2 a0_3 a3_0 a3_1 a3_2 a3_3 t369 t372 t373 t374 t388 t391 t392 t393))))) = some r := by rw [if_pos rfl] at H; exact H
    clear H
    have H := H1
    clear H1
    replace H := Option.bind_eq_some_iff.mp H
    obtain ⟨⟨t404, t405⟩, A820, H⟩ := H
    replace H : (if t404 < 0 then (laws_FnExactAddEvent.j1 kj17 a1 a2 t375 true l0_0 a0_1 a0_2 a0_3 a3_0 a3_1 a3_2 a3_3 t369 t372 t373 t374 t388 t391 t392 t393) else ((laws_eqShard.f kj17 t388 t391 t392 t393 t369 t372 t373 t374).bind fun t406 => (if t406 = true then (laws_FnExactAddEvent.j1 kj17 a1 a2 t375 (t394 != t375) l0_0 a0_1 a0_2 a0_3 a3_0 a3_1 a3_2 a3_3 t369 t372 t373 t374 t388 t391 t392 t393) else (laws_FnExactAddEvent.j1 kj17 a1 a2 t375 true l0_0 a0_1 a0_2 a0_3 a3_0 a3_1 a3_2 a3_3 t369 t372 t373 t374 t388 t391 t392 t393)))) = some r := H
    have A82 := Aside0.mk A820
    clear A820
    have HC83 := Aside0.mk H
    clear H
    try go_wp2
    replace HO_377000 := am_ (Kd.R_drew HO_377000.out)
    replace HO_384000 := am_ (Kd.R_drew HO_384000.out)
    replace HO_396000 := am_ (Kd.R_drew HO_396000.out)
    replace BK356 := am_ (blk_drew BK356.out)
    replace BK357 := am_ (blk_drew BK357.out)
    replace BK376 := am_ (blk_drew BK376.out)
    replace BK383 := am_ (blk_drew BK383.out)
    replace BK395 := am_ (blk_drew BK395.out)
    replace HB := am_ (below_drew1 HB.out)
    refine start_ (n := 5) (S := fun w' => w'.cell? ⟨gb383, 0, none⟩ = some (.slice Ao40 t377.length co40) ∧ w'.cell? ⟨gb383, 1, none⟩ = some (.int .i64 t380) ∧ w'.cell? ⟨gb383, 2, none⟩ = some (.int .i64 t381) ∧ w'.cell? ⟨gb383, 3, none⟩ = some (.int .i64 t382) ∧ w'.cell? ⟨gb356, 0, none⟩ = some (.slice A0_0 l0_0.length c0_0) ∧ w'.cell? ⟨gb356, 1, none⟩ = some (.int .i64 a0_1) ∧ w'.cell? ⟨gb356, 2, none⟩ = some (.int .i64 a0_2) ∧ w'.cell? ⟨gb356, 3, none⟩ = some (.int .i64 a0_3)) (ds := []) #[false, false, false, false, false] (by kernel_rfl) rfl rfl ⟨cb_ BK383.out 0 rfl, cb_ BK383.out 1 rfl, cb_ BK383.out 2 rfl, cb_ BK383.out 3 rfl, cb_ BK356.out 0 rfl, cb_ BK356.out 1 rfl, cb_ BK356.out 2 rfl, cb_ BK356.out 3 rfl⟩ (fun hHeld => ?_)
    generalize wc.drew = w84 at HO_377000 HO_384000 HO_396000 BK356 BK357 BK376 BK383 BK395 HB hHeld ⊢
    refine take_ (i := 0) (N := some 55) (v := ?_) (a' := ?_) #[true, false, false, false, false] rfl rfl (by kernel_rfl) (fun _ _ _ h => h) (Or.inl ⟨by rfl, ?_⟩) hHeld ?_ ?_
    rotate_left
    ·
     rintro w' ⟨s0, s1, s2, s3, s4, s5, s6, s7⟩
     go_simp
     with_reducible rfl
    rotate_left
    ·
     simp only [Act.put, List.setIfInBounds_toArray, List.set_cons_zero, List.set_cons_succ, i64_w, i32_w]
     rfl
    refine take_ (i := 1) (N := some 56) (v := ?_) (a' := ?_) #[true, true, false, false, false] rfl rfl (by kernel_rfl) (fun _ _ _ h => h) (Or.inl ⟨by rfl, ?_⟩) hHeld ?_ ?_
    rotate_left
    ·
     rintro w' ⟨s0, s1, s2, s3, s4, s5, s6, s7⟩
     go_simp
     with_reducible rfl
    rotate_left
    ·
     simp only [Act.put, List.setIfInBounds_toArray, List.set_cons_zero, List.set_cons_succ, i64_w, i32_w]
     rfl
    refine one_ (i := 2) (N := some 57) #[true, true, true, false, false] rfl rfl (by kernel_rfl) (by decide) (fun K hK => ?_)
    refine goes_ Try.func7 (by kernel_rfl) rfl #[.agg #[.slice A0_0 l0_0.length c0_0, .int .i64 a0_1, .int .i64 a0_2, .int .i64 a0_3]] (by rfl) rfl rfl ul_ ?_
    with_reducible refine (laws_toShard.calls kj17 _ _ l0_0 a0_1 a0_2 a0_3 t397 t400 t401 t402 _ ?side1 ?side2 A79.out).mono ?_
    (case side1 => repeat (first | exact (Kd.C_below HR0_0.out HB.out) | (with_reducible refine Kd.C_alloc ?_ _) | (with_reducible refine Kd.C_drewN ?_ _) | (with_reducible refine Kd.C_drew ?_)))
    (case side2 => exact HC0_0.out)
    rintro e w85 ⟨v398, rfl, ho0, hb⟩
    refine ⟨_, rfl, ?_⟩
    have HO399 := am_ (Kd.R_lower (Kd.R_new' (Kd.R_new' (Kd.R_new' ho0 (Kd.R_lt (ur_ HO_377000.out))) (Kd.R_lt (ur_ HO_384000.out))) (Kd.R_lt (ur_ HO_396000.out))) (below_size (ue_ HB.out)))
    replace HO_377000 := am_ (Kd.R_elder' (ur_ HO_377000.out) (Kd.R_base ho0) hb)
    replace HO_384000 := am_ (Kd.R_elder' (ur_ HO_384000.out) (Kd.R_base ho0) hb)
    replace HO_396000 := am_ (Kd.R_elder' (ur_ HO_396000.out) (Kd.R_base ho0) hb)
    replace BK356 := bs_ BK356 hb
    replace BK357 := bs_ BK357 hb
    replace BK376 := bs_ BK376 hb
    replace BK383 := bs_ BK383 hb
    replace BK395 := bs_ BK395 hb
    replace HB := hs_ HB hb
    (try clear hb)
    (try clear hb2)
    (try clear hk)
    (try clear hi)
    (try clear ho0)
    obtain ⟨Ao86, co86, eo86⟩ := Kd.R_slice HO399.out
    (first | subst eo86 | (injection eo86 with f1_ f2_ f3_; have f4_ := f1_.symm; have f5_ := f3_.symm; clear f1_ f2_ f3_; subst f4_; subst f5_))
    refine hK.out _ _ ⟨cb_ BK383.out 0 rfl, cb_ BK383.out 1 rfl, cb_ BK383.out 2 rfl, cb_ BK383.out 3 rfl, cb_ BK356.out 0 rfl, cb_ BK356.out 1 rfl, cb_ BK356.out 2 rfl, cb_ BK356.out 3 rfl⟩ (fun hHeld => ?_)
    clear hK K
    refine norm_ (a' := ?_) ?_ ?_
    rotate_left
    ·
     show Act.put _ (some 57) _ = _
     simp only [Act.put, List.setIfInBounds_toArray, List.set_cons_zero, List.set_cons_succ, i64_w, i32_w]
     rfl
    refine one_ (i := 3) (N := some 58) #[true, true, true, true, false] rfl rfl (by kernel_rfl) (by decide) (fun K hK => ?_)
    refine goes_ Try.func10 (by kernel_rfl) rfl #[.agg #[.slice Ao40 t377.length co40, .int .i64 t380, .int .i64 t381, .int .i64 t382], .agg #[.slice Ao86 t397.length co86, .int .i64 t400, .int .i64 t401, .int .i64 t402]] (by rfl) rfl rfl ul_ ?_
    with_reducible refine (laws_eqShard.calls kj17 _ _ t377 t380 t381 t382 _ _ t397 t400 t401 t402 true _ ?side1 ?side2 ?side3 ?side4 A80.out).mono ?_
    (case side1 => repeat (first | exact (Kd.R_reads' HO_384000.out).2.2 | (with_reducible refine Kd.C_alloc ?_ _) | (with_reducible refine Kd.C_drewN ?_ _) | (with_reducible refine Kd.C_drew ?_)))
    (case side2 => exact (Kd.R_reads' HO_384000.out).2.1)
    (case side3 => repeat (first | exact (Kd.R_reads' HO399.out).2.2 | (with_reducible refine Kd.C_alloc ?_ _) | (with_reducible refine Kd.C_drewN ?_ _) | (with_reducible refine Kd.C_drew ?_)))
    (case side4 => exact (Kd.R_reads' HO399.out).2.1)
    rintro e w87 ⟨rfl, hb⟩
    refine ⟨_, rfl, ?_⟩
    replace HO_377000 := am_ (Kd.R_below (ur_ HO_377000.out) hb)
    replace HO_384000 := am_ (Kd.R_below (ur_ HO_384000.out) hb)
    replace HO_396000 := am_ (Kd.R_below (ur_ HO_396000.out) hb)
    replace HO399 := am_ (Kd.R_below (ur_ HO399.out) hb)
    replace BK356 := bs_ BK356 hb
    replace BK357 := bs_ BK357 hb
    replace BK376 := bs_ BK376 hb
    replace BK383 := bs_ BK383 hb
    replace BK395 := bs_ BK395 hb
    replace HB := hs_ HB hb
    (try clear hb)
    (try clear hb2)
    (try clear hk)
    (try clear hi)
    refine hK.out _ _ ⟨cb_ BK383.out 0 rfl, cb_ BK383.out 1 rfl, cb_ BK383.out 2 rfl, cb_ BK383.out 3 rfl, cb_ BK356.out 0 rfl, cb_ BK356.out 1 rfl, cb_ BK356.out 2 rfl, cb_ BK356.out 3 rfl⟩ (fun hHeld => ?_)
    clear hK K
    refine norm_ (a' := ?_) ?_ ?_
    rotate_left
    ·
     show Act.put _ (some 58) _ = _
     simp only [Act.put, List.setIfInBounds_toArray, List.set_cons_zero, List.set_cons_succ, i64_w, i32_w]
     rfl
    refine pure_ (i := 4) (N := some 59) (v := ?_) (a' := ?_) #[true, true, true, true, true] rfl rfl (by kernel_rfl) (fun _ _ _ h => h) (Or.inl ⟨by rfl, ?_⟩) ?_ ?_
    rotate_left
    ·
     intro w'
     go_simp
     with_reducible rfl
    rotate_left
    ·
     simp only [Act.put, List.setIfInBounds_toArray, List.set_cons_zero, List.set_cons_succ, i64_w, i32_w]
     rfl
    refine done_ (by kernel_rfl) ?_
    have hnb88 := NB383_356.out
    have hnc88 := NB356_383.out
    have hnb89 := NB383_357.out
    have hnc89 := NB357_383.out
    have hnb90 := NB383_376.out
    have hnc90 := NB376_383.out
    have hnb91 := NB383_395.out
    have hnc91 := NB395_383.out
    obtain ⟨hcz92_0, hcz92_1, hcz92_2, hcz92_3⟩ := cbz4_ BK383.out
    obtain ⟨hfz92_0, hfz92_1, hfz92_2, hfz92_3⟩ := bfz4_ BK383.out
    go_upto_region 14 with (first | ((with_reducible refine gate_callee (f := 11) rfl ?_); refine goesL_ (some 62) rfl rfl Try.func11 (by kernel_rfl) rfl #[.agg #[.slice Ao40 t377.length co40, .int .i64 t380, .int .i64 t381, .int .i64 t382], .int .i64 1] rfl ul_ ?_; (with_reducible refine (laws_markShard.calls kj17 (fun k_ => some k_ = (.slice Ao40 t377.length co40 : Value).ownBlock) (.slice Ao40 t377.length co40) t377 t380 t381 t382 1 t404 t405 w _ ?side1 ?side2 A82.out).mono ?_); (case side1 => repeat (first | (with_reducible first | exact HB.out | apply below_alloc | apply pw_below_drewN | apply below_drew1 | refine below_set ?_ GE356.out | refine below_set ?_ GE357.out | refine below_set ?_ GE376.out | refine below_set ?_ GE383.out | refine below_set ?_ GE395.out) | exact HB.out)); (case side2 => exact Kd.R_tight rfl HO_384000.out); rintro e w93 ⟨rfl, hy0, hb, hkp⟩; refine ⟨_, rfl, ?_⟩; replace HO_377000 := am_ (Kd.R_mono (ok' := fun k_ => some k_ ≠ (.slice Ao40 t377.length co40 : Value).ownBlock ∧ some k_ ≠ (.slice Ao51 t388.length co51 : Value).ownBlock ∧ some k_ ≠ (.slice Ao86 t397.length co86 : Value).ownBlock) (Kd.R_keptB (HO_377000.out) hkp (fun k_ hk_ hs_ => by first | exact (hk_.1.1) hs_ | grind)) (fun k_ hk_ => by first | exact ⟨hk_.1.1.1, hk_.1.1.2, hk_.1.2⟩ | grind)); replace HO_396000 := am_ (Kd.R_mono (ok' := fun k_ => some k_ ≠ (.slice Ao31 t369.length co31 : Value).ownBlock ∧ some k_ ≠ (.slice Ao40 t377.length co40 : Value).ownBlock ∧ some k_ ≠ (.slice Ao86 t397.length co86 : Value).ownBlock) (Kd.R_keptB (HO_396000.out) hkp (fun k_ hk_ hs_ => by first | exact (hk_.1.2) hs_ | grind)) (fun k_ hk_ => by first | exact ⟨hk_.1.1.1, hk_.1.1.2, hk_.1.2⟩ | grind)); replace BK356 := am_ (blk_kept (g := gb356) (o := .cells #[.slice A0_0 l0_0.length c0_0, .int .i64 a0_1, .int .i64 a0_2, .int .i64 a0_3] 24 (0, 0)) (ub_ BK356.out) hkp (fun hs_ => (fun e_ => (Kd.R_ne HO_384000.out BK356.out (by decide)) e_) hs_)); replace BK357 := am_ (blk_kept (g := gb357) (o := .cells #[.int .i64 a3_0, .int .i64 a3_1, .int .i64 a3_2, .int .i64 a3_3] 26 (0, 0)) (ub_ BK357.out) hkp (fun hs_ => (fun e_ => (Kd.R_ne HO_384000.out BK357.out (by decide)) e_) hs_)); replace BK376 := am_ (blk_kept (g := gb376) (o := .cells #[.slice Ao31 t369.length co31, .int .i64 t372, .int .i64 t373, .int .i64 t374] 30 (0, 0)) (ub_ BK376.out) hkp (fun hs_ => (fun e_ => (Kd.R_ne HO_384000.out BK376.out (by decide)) e_) hs_)); replace BK383 := am_ (blk_kept (g := gb383) (o := .cells #[.slice Ao40 t377.length co40, .int .i64 t380, .int .i64 t381, .int .i64 t382] 30 (0, 0)) (ub_ BK383.out) hkp (fun hs_ => (fun e_ => (Kd.R_ne HO_384000.out BK383.out (by decide)) e_) hs_)); replace BK395 := am_ (blk_kept (g := gb395) (o := .cells #[.slice Ao51 t388.length co51, .int .i64 t391, .int .i64 t392, .int .i64 t393] 30 (0, 0)) (ub_ BK395.out) hkp (fun hs_ => (fun e_ => (Kd.R_ne HO_384000.out BK395.out (by decide)) e_) hs_)); replace HO_384000 := am_ (Kd.R_reok rfl hy0 (fun k_ e_ => HO_384000.out.1 k_ e_)); replace HO399 := am_ (Kd.R_mono (ok' := fun k_ => some k_ ≠ (.slice Ao31 t369.length co31 : Value).ownBlock ∧ some k_ ≠ (.slice Ao40 t377.length co40 : Value).ownBlock ∧ some k_ ≠ (.slice Ao51 t388.length co51 : Value).ownBlock) (Kd.R_keptB (HO399.out) hkp (fun k_ hk_ hs_ => by first | exact (hk_.1.2) hs_ | grind)) (fun k_ hk_ => by first | exact ⟨hk_.1.1.1.2, hk_.1.1.2, hk_.1.2⟩ | grind)); replace HB := am_ (hb); (try clear hb); (try clear hkp); (try clear hy0)))
    (try simp only [Act.put, List.setIfInBounds_toArray, List.set_cons_zero, List.set_cons_succ])
    go_cut [75] (fun v75 wc => ∃ (kq : Nat) (x75_82 : Bool), v75 = .bool x75_82 ∧ Aside0 (laws_FnExactAddEvent.j1 kq a1 a2 t375 x75_82 l0_0 a0_1 a0_2 a0_3 a3_0 a3_1 a3_2 a3_3 t369 t372 t373 t374 t388 t391 t392 t393 = some r) ∧ Aside0 (kq ≤ kj17) ∧ Aside0 (Kd.R k62 62 wc w.heap.size (fun k_ => some k_ ≠ ((.slice Ao40 t377.length co40) : Value).ownBlock ∧ some k_ ≠ ((.slice Ao51 t388.length co51) : Value).ownBlock) (.slice Ao31 t369.length co31) t369) ∧ Aside0 (Kd.R k62 62 wc w.heap.size (fun k_ => some k_ ≠ ((.slice Ao31 t369.length co31) : Value).ownBlock ∧ some k_ ≠ ((.slice Ao51 t388.length co51) : Value).ownBlock) (.slice Ao40 t377.length co40) t405) ∧ Aside0 (Kd.R k62 62 wc w.heap.size (fun k_ => some k_ ≠ ((.slice Ao31 t369.length co31) : Value).ownBlock ∧ some k_ ≠ ((.slice Ao40 t377.length co40) : Value).ownBlock) (.slice Ao51 t388.length co51) t388) ∧ Aside0 (wc.heap[gb356]? = some (.cells #[(.slice A0_0 l0_0.length c0_0), .int .i64 a0_1, .int .i64 a0_2, .int .i64 a0_3] 24 (0, 0))) ∧ Aside0 (wc.heap[gb357]? = some (.cells #[.int .i64 a3_0, .int .i64 a3_1, .int .i64 a3_2, .int .i64 a3_3] 26 (0, 0))) ∧ Aside0 (wc.heap[gb376]? = some (.cells #[(.slice Ao31 t369.length co31), .int .i64 t372, .int .i64 t373, .int .i64 t374] 30 (0, 0))) ∧ Aside0 (wc.heap[gb383]? = some (.cells #[(.slice Ao40 t377.length co40), .int .i64 t380, .int .i64 t381, .int .i64 t382] 30 (0, 0))) ∧ Aside0 (wc.heap[gb395]? = some (.cells #[(.slice Ao51 t388.length co51), .int .i64 t391, .int .i64 t392, .int .i64 t393] 30 (0, 0))) ∧ Aside0 (Below w.heap.size w wc))
    case first =>
     have H := HC83.out
     clear HC83
     by_cases c94 : t404 < 0
     ·
      rw [if_pos c94] at H
      have c94b0 : decide (t404 < 0) = true := decide_eq_true c94
      clear c94
      (first | rw [c94b0] | (simp only [i64_w, i32_w]; rw [c94b0]) | skip)
      have H' := Aside0.mk H
      clear H
      go_wp2
      go_meet
      case rel => exact ⟨_, (true), (by first | rfl | (simp; done) | (simp [*]; done)), H', ⟨by have := HJ17.out; first | omega | exact Nat.le_refl _⟩, ⟨by (with_reducible repeat (first | apply Kd.R_alloc | apply Kd.R_drewN | apply Kd.R_drew)); exact Kd.R_mono HO_377000.out (fun _ hk => by first | exact ⟨hk.1, hk.2.1⟩ | grind)⟩, ⟨by (with_reducible repeat (first | apply Kd.R_alloc | apply Kd.R_drewN | apply Kd.R_drew)); exact Kd.R_mono HO_384000.out (fun _ hk => by first | exact ⟨hk.1.1, hk.1.2⟩ | grind)⟩, ⟨by (with_reducible repeat (first | apply Kd.R_alloc | apply Kd.R_drewN | apply Kd.R_drew)); exact Kd.R_mono HO_396000.out (fun _ hk => by first | exact ⟨hk.1, hk.2.1⟩ | grind)⟩, ⟨by (with_reducible repeat first|apply bn_|apply bd_|apply ba_); exact BK356.out⟩, ⟨by (with_reducible repeat first|apply bn_|apply bd_|apply ba_); exact BK357.out⟩, ⟨by (with_reducible repeat first|apply bn_|apply bd_|apply ba_); exact BK376.out⟩, ⟨by (with_reducible repeat first|apply bn_|apply bd_|apply ba_); exact BK383.out⟩, ⟨by (with_reducible repeat first|apply bn_|apply bd_|apply ba_); exact BK395.out⟩, ⟨ue_ HB.out⟩⟩
     rw [if_neg c94] at H
     have c94b0 : decide (t404 < 0) = false := decide_eq_false c94
     clear c94
     (first | rw [c94b0] | (simp only [i64_w, i32_w]; rw [c94b0]) | skip)
     replace H := Option.bind_eq_some_iff.mp H
     obtain ⟨t406, A950, H⟩ := H
     replace H : (if t406 = true then (laws_FnExactAddEvent.j1 kj17 a1 a2 t375 (t394 != t375) l0_0 a0_1 a0_2 a0_3 a3_0 a3_1 a3_2 a3_3 t369 t372 t373 t374 t388 t391 t392 t393) else (laws_FnExactAddEvent.j1 kj17 a1 a2 t375 true l0_0 a0_1 a0_2 a0_3 a3_0 a3_1 a3_2 a3_3 t369 t372 t373 t374 t388 t391 t392 t393)) = some r := H
     have A95 := Aside0.mk A950
     clear A950
     by_cases c96 : t406 = true
     ·
      subst c96
      have H1 : (laws_FnExactAddEvent.j1 kj17 a1 a2 t375 (t394 != t375) l0_0 a0_1 a0_2 a0_3 a3_0 a3_1 a3_2 a3_3 t369 t372 t373 t374 t388 t391 t392 t393) = some r := by rw [if_pos rfl] at H; exact H
      clear H
      have H := H1
      clear H1
      have H' := Aside0.mk H
      clear H
      have hnb97 := NB395_356.out
      have hnc97 := NB356_395.out
      have hnb98 := NB395_357.out
      have hnc98 := NB357_395.out
      have hnb99 := NB395_376.out
      have hnc99 := NB376_395.out
      have hnb100 := NB395_383.out
      have hnc100 := NB383_395.out
      obtain ⟨hcz101_0, hcz101_1, hcz101_2, hcz101_3⟩ := cbz4_ BK395.out
      obtain ⟨hfz101_0, hfz101_1, hfz101_2, hfz101_3⟩ := bfz4_ BK395.out
      have hnb102 := NB376_356.out
      have hnc102 := NB356_376.out
      have hnb103 := NB376_357.out
      have hnc103 := NB357_376.out
      have hnb104 := NB376_383.out
      have hnc104 := NB383_376.out
      obtain ⟨hcz105_0, hcz105_1, hcz105_2, hcz105_3⟩ := cbz4_ BK376.out
      obtain ⟨hfz105_0, hfz105_1, hfz105_2, hfz105_3⟩ := bfz4_ BK376.out
      go_wp2_with (first | (go_at_call 10; (with_reducible refine (laws_eqShard.calls kj17 _ _ t388 t391 t392 t393 _ _ t369 t372 t373 t374 true _ ?side1 ?side2 ?side3 ?side4 A95.out).mono ?_); (case side1 => repeat (first | exact (Kd.R_reads' HO_396000.out).2.2 | (with_reducible refine Kd.C_alloc ?_ _) | (with_reducible refine Kd.C_drewN ?_ _) | (with_reducible refine Kd.C_drew ?_))); (case side2 => exact (Kd.R_reads' HO_396000.out).2.1); (case side3 => repeat (first | exact (Kd.R_reads' HO_377000.out).2.2 | (with_reducible refine Kd.C_alloc ?_ _) | (with_reducible refine Kd.C_drewN ?_ _) | (with_reducible refine Kd.C_drew ?_))); (case side4 => exact (Kd.R_reads' HO_377000.out).2.1); rintro e w106 ⟨rfl, hb⟩; replace HO_377000 := am_ (Kd.R_below (ur_ HO_377000.out) hb); replace HO_384000 := am_ (Kd.R_below (ur_ HO_384000.out) hb); replace HO_396000 := am_ (Kd.R_below (ur_ HO_396000.out) hb); replace HO399 := am_ (Kd.R_below (ur_ HO399.out) hb); replace BK356 := bs_ BK356 hb; replace BK357 := bs_ BK357 hb; replace BK376 := bs_ BK376 hb; replace BK383 := bs_ BK383 hb; replace BK395 := bs_ BK395 hb; replace HB := hs_ HB hb; (try clear hb); (try clear hb2); (try clear hk); (try clear hi)))
      go_meet
      case rel => exact ⟨_, ((t394 != t375)), (by first | rfl | (simp; done) | (simp [*]; done)), H', ⟨by have := HJ17.out; first | omega | exact Nat.le_refl _⟩, ⟨by (with_reducible repeat (first | apply Kd.R_alloc | apply Kd.R_drewN | apply Kd.R_drew)); exact Kd.R_mono HO_377000.out (fun _ hk => by first | exact ⟨hk.1, hk.2.1⟩ | grind)⟩, ⟨by (with_reducible repeat (first | apply Kd.R_alloc | apply Kd.R_drewN | apply Kd.R_drew)); exact Kd.R_mono HO_384000.out (fun _ hk => by first | exact ⟨hk.1.1, hk.1.2⟩ | grind)⟩, ⟨by (with_reducible repeat (first | apply Kd.R_alloc | apply Kd.R_drewN | apply Kd.R_drew)); exact Kd.R_mono HO_396000.out (fun _ hk => by first | exact ⟨hk.1, hk.2.1⟩ | grind)⟩, ⟨by (with_reducible repeat first|apply bn_|apply bd_|apply ba_); exact BK356.out⟩, ⟨by (with_reducible repeat first|apply bn_|apply bd_|apply ba_); exact BK357.out⟩, ⟨by (with_reducible repeat first|apply bn_|apply bd_|apply ba_); exact BK376.out⟩, ⟨by (with_reducible repeat first|apply bn_|apply bd_|apply ba_); exact BK383.out⟩, ⟨by (with_reducible repeat first|apply bn_|apply bd_|apply ba_); exact BK395.out⟩, ⟨ue_ HB.out⟩⟩
     replace c96 := Bool.eq_false_iff.mpr c96
     subst c96
     have H1 : (laws_FnExactAddEvent.j1 kj17 a1 a2 t375 true l0_0 a0_1 a0_2 a0_3 a3_0 a3_1 a3_2 a3_3 t369 t372 t373 t374 t388 t391 t392 t393) = some r := by rw [if_neg (show ¬ (false = true) by decide)] at H; exact H
     clear H
     have H := H1
     clear H1
     have H' := Aside0.mk H
     clear H
     have hnb107 := NB395_356.out
     have hnc107 := NB356_395.out
     have hnb108 := NB395_357.out
     have hnc108 := NB357_395.out
     have hnb109 := NB395_376.out
     have hnc109 := NB376_395.out
     have hnb110 := NB395_383.out
     have hnc110 := NB383_395.out
     obtain ⟨hcz111_0, hcz111_1, hcz111_2, hcz111_3⟩ := cbz4_ BK395.out
     obtain ⟨hfz111_0, hfz111_1, hfz111_2, hfz111_3⟩ := bfz4_ BK395.out
     have hnb112 := NB376_356.out
     have hnc112 := NB356_376.out
     have hnb113 := NB376_357.out
     have hnc113 := NB357_376.out
     have hnb114 := NB376_383.out
     have hnc114 := NB383_376.out
     obtain ⟨hcz115_0, hcz115_1, hcz115_2, hcz115_3⟩ := cbz4_ BK376.out
     obtain ⟨hfz115_0, hfz115_1, hfz115_2, hfz115_3⟩ := bfz4_ BK376.out
     go_wp2_with (first | (go_at_call 10; (with_reducible refine (laws_eqShard.calls kj17 _ _ t388 t391 t392 t393 _ _ t369 t372 t373 t374 false _ ?side1 ?side2 ?side3 ?side4 A95.out).mono ?_); (case side1 => repeat (first | exact (Kd.R_reads' HO_396000.out).2.2 | (with_reducible refine Kd.C_alloc ?_ _) | (with_reducible refine Kd.C_drewN ?_ _) | (with_reducible refine Kd.C_drew ?_))); (case side2 => exact (Kd.R_reads' HO_396000.out).2.1); (case side3 => repeat (first | exact (Kd.R_reads' HO_377000.out).2.2 | (with_reducible refine Kd.C_alloc ?_ _) | (with_reducible refine Kd.C_drewN ?_ _) | (with_reducible refine Kd.C_drew ?_))); (case side4 => exact (Kd.R_reads' HO_377000.out).2.1); rintro e w116 ⟨rfl, hb⟩; replace HO_377000 := am_ (Kd.R_below (ur_ HO_377000.out) hb); replace HO_384000 := am_ (Kd.R_below (ur_ HO_384000.out) hb); replace HO_396000 := am_ (Kd.R_below (ur_ HO_396000.out) hb); replace HO399 := am_ (Kd.R_below (ur_ HO399.out) hb); replace BK356 := bs_ BK356 hb; replace BK357 := bs_ BK357 hb; replace BK376 := bs_ BK376 hb; replace BK383 := bs_ BK383 hb; replace BK395 := bs_ BK395 hb; replace HB := hs_ HB hb; (try clear hb); (try clear hb2); (try clear hk); (try clear hi)))
     go_meet
     case rel => exact ⟨_, (true), (by first | rfl | (simp; done) | (simp [*]; done)), H', ⟨by have := HJ17.out; first | omega | exact Nat.le_refl _⟩, ⟨by (with_reducible repeat (first | apply Kd.R_alloc | apply Kd.R_drewN | apply Kd.R_drew)); exact Kd.R_mono HO_377000.out (fun _ hk => by first | exact ⟨hk.1, hk.2.1⟩ | grind)⟩, ⟨by (with_reducible repeat (first | apply Kd.R_alloc | apply Kd.R_drewN | apply Kd.R_drew)); exact Kd.R_mono HO_384000.out (fun _ hk => by first | exact ⟨hk.1.1, hk.1.2⟩ | grind)⟩, ⟨by (with_reducible repeat (first | apply Kd.R_alloc | apply Kd.R_drewN | apply Kd.R_drew)); exact Kd.R_mono HO_396000.out (fun _ hk => by first | exact ⟨hk.1, hk.2.1⟩ | grind)⟩, ⟨by (with_reducible repeat first|apply bn_|apply bd_|apply ba_); exact BK356.out⟩, ⟨by (with_reducible repeat first|apply bn_|apply bd_|apply ba_); exact BK357.out⟩, ⟨by (with_reducible repeat first|apply bn_|apply bd_|apply ba_); exact BK376.out⟩, ⟨by (with_reducible repeat first|apply bn_|apply bd_|apply ba_); exact BK383.out⟩, ⟨by (with_reducible repeat first|apply bn_|apply bd_|apply ba_); exact BK395.out⟩, ⟨ue_ HB.out⟩⟩
    case rest =>
     clear HC83
     try clear c1
     try clear p2
     try clear c5
     try clear c6
     try clear c7
     try clear c8
     try clear c9
     try clear c10
     try clear c11
     try clear c57
     try clear c58
     try clear c59
     try clear c60
     try clear c61
     try clear c63
     try clear c64
     try clear c65
     try clear c68
     try clear c69
     try clear c70
     try clear c71
     try clear c73
     try clear c74
     try clear c75
     try clear c78
     try clear c81
     try clear c88
     try clear c89
     try clear c90
     try clear c91
     try clear c94
     try clear c94b0
     try clear c96
     try clear c97
     try clear c98
     try clear c99
     try clear c100
     try clear c102
     try clear c103
     try clear c104
     try clear c107
     try clear c108
     try clear c109
     try clear c110
     try clear c112
     try clear c113
     try clear c114
     try clear hcz101_0
     try clear hcz101_1
     try clear hcz101_2
     try clear hcz101_3
     try clear hcz105_0
     try clear hcz105_1
     try clear hcz105_2
     try clear hcz105_3
     try clear hcz111_0
     try clear hcz111_1
     try clear hcz111_2
     try clear hcz111_3
     try clear hcz115_0
     try clear hcz115_1
     try clear hcz115_2
     try clear hcz115_3
     try clear hcz62_0
     try clear hcz62_1
     try clear hcz62_2
     try clear hcz62_3
     try clear hcz66_0
     try clear hcz66_1
     try clear hcz66_2
     try clear hcz66_3
     try clear hcz72_0
     try clear hcz72_1
     try clear hcz72_2
     try clear hcz72_3
     try clear hcz76_0
     try clear hcz76_1
     try clear hcz76_2
     try clear hcz76_3
     try clear hcz92_0
     try clear hcz92_1
     try clear hcz92_2
     try clear hcz92_3
     try clear hfz101_0
     try clear hfz101_1
     try clear hfz101_2
     try clear hfz101_3
     try clear hfz105_0
     try clear hfz105_1
     try clear hfz105_2
     try clear hfz105_3
     try clear hfz111_0
     try clear hfz111_1
     try clear hfz111_2
     try clear hfz111_3
     try clear hfz115_0
     try clear hfz115_1
     try clear hfz115_2
     try clear hfz115_3
     try clear hfz62_0
     try clear hfz62_1
     try clear hfz62_2
     try clear hfz62_3
     try clear hfz66_0
     try clear hfz66_1
     try clear hfz66_2
     try clear hfz66_3
     try clear hfz72_0
     try clear hfz72_1
     try clear hfz72_2
     try clear hfz72_3
     try clear hfz76_0
     try clear hfz76_1
     try clear hfz76_2
     try clear hfz76_3
     try clear hfz92_0
     try clear hfz92_1
     try clear hfz92_2
     try clear hfz92_3
     try clear p2
     obtain ⟨kq, x75_82, rfl, HA, HJ82, HO_377000, HO_384000, HO_396000, BK356, BK357, BK376, BK383, BK395, HB⟩ := hcut
     have hl384000_82 := (Kd.R_reads' HO_384000.out).1
     rw [hl384000_82] at HO_384000
     (try simp only [hl384000_82])
     (try simp only [hl384000_82] at BK356)
     (try simp only [hl384000_82] at BK357)
     (try simp only [hl384000_82] at BK376)
     (try simp only [hl384000_82] at BK383)
     (try simp only [hl384000_82] at BK395)
     (try simp only [hl384000_82] at HO_377000)
     (try simp only [hl384000_82] at HO_396000)
     cases kq with
     | zero => exact absurd HA.out (by simp [laws_FnExactAddEvent.j1])
     | succ kj82 =>
      have H := HA.out
      clear HA
      simp only [laws_FnExactAddEvent.j1] at H
      by_cases c117 : x75_82 = true
      ·
       subst c117
       have H1 : (some false) = some r := by rw [if_pos rfl] at H; exact H
       clear H
       have H := H1
       clear H1
       exact absurd ((Option.some.inj H).trans hT.out) (by decide)
      replace c117 := Bool.eq_false_iff.mpr c117
      subst c117
      have H1 : ((laws_markShard.f kj82 t388 t391 t392 t393 1).bind fun bt407 => ((laws_heldShard.f kj82 bt407.2 t391 t392 t393 1).bind fun t409 => (if t409 < 0 then (some false) else (if t409 = bt407.1 then ((laws_toShard.f kj82 l0_0 a0_1 a0_2 a0_3).bind fun bt410 => ((laws_toFrame.f a3_0 a3_1 a3_2 a3_3).bind fun bt416 => ((impl_AddEvent.f kj82 bt410.1 bt410.2.1 bt410.2.2.1 bt410.2.2.2 a1 a2 bt416.1 bt416.2.1 bt416.2.2.1 bt416.2.2.2).bind fun bt420 => ((laws_eqShard.f kj82 bt420.1 bt420.2.1 bt420.2.2.1 bt420.2.2.2.1 t369 t372 t373 t374).bind fun t428 => (if t428 = true then (laws_FnExactAddEvent.j2 kj82 bt407.1 (bt420.2.2.2.2 != t375) bt407.2 t391 t392 t393) else (laws_FnExactAddEvent.j2 kj82 bt407.1 true bt407.2 t391 t392 t393)))))) else (some false))))) = some r := by rw [if_neg (show ¬ (false = true) by decide)] at H; exact H
      clear H
      have H := H1
      clear H1
      replace H := Option.bind_eq_some_iff.mp H
      obtain ⟨⟨t407, t408⟩, A1180, H⟩ := H
      replace H : ((laws_heldShard.f kj82 t408 t391 t392 t393 1).bind fun t409 => (if t409 < 0 then (some false) else (if t409 = t407 then ((laws_toShard.f kj82 l0_0 a0_1 a0_2 a0_3).bind fun bt410 => ((laws_toFrame.f a3_0 a3_1 a3_2 a3_3).bind fun bt416 => ((impl_AddEvent.f kj82 bt410.1 bt410.2.1 bt410.2.2.1 bt410.2.2.2 a1 a2 bt416.1 bt416.2.1 bt416.2.2.1 bt416.2.2.2).bind fun bt420 => ((laws_eqShard.f kj82 bt420.1 bt420.2.1 bt420.2.2.1 bt420.2.2.2.1 t369 t372 t373 t374).bind fun t428 => (if t428 = true then (laws_FnExactAddEvent.j2 kj82 t407 (bt420.2.2.2.2 != t375) t408 t391 t392 t393) else (laws_FnExactAddEvent.j2 kj82 t407 true t408 t391 t392 t393)))))) else (some false)))) = some r := H
      have A118 := Aside0.mk A1180
      clear A1180
      replace H := Option.bind_eq_some_iff.mp H
      obtain ⟨t409, A1190, H⟩ := H
      replace H : (if t409 < 0 then (some false) else (if t409 = t407 then ((laws_toShard.f kj82 l0_0 a0_1 a0_2 a0_3).bind fun bt410 => ((laws_toFrame.f a3_0 a3_1 a3_2 a3_3).bind fun bt416 => ((impl_AddEvent.f kj82 bt410.1 bt410.2.1 bt410.2.2.1 bt410.2.2.2 a1 a2 bt416.1 bt416.2.1 bt416.2.2.1 bt416.2.2.2).bind fun bt420 => ((laws_eqShard.f kj82 bt420.1 bt420.2.1 bt420.2.2.1 bt420.2.2.2.1 t369 t372 t373 t374).bind fun t428 => (if t428 = true then (laws_FnExactAddEvent.j2 kj82 t407 (bt420.2.2.2.2 != t375) t408 t391 t392 t393) else (laws_FnExactAddEvent.j2 kj82 t407 true t408 t391 t392 t393)))))) else (some false))) = some r := H
      have A119 := Aside0.mk A1190
      clear A1190
      by_cases c120 : t409 < 0
      ·
       rw [if_pos c120] at H
       have c120b0 : decide (t409 < 0) = true := decide_eq_true c120
       clear c120
       exact absurd ((Option.some.inj H).trans hT.out) (by decide)
      rw [if_neg c120] at H
      have c120b0 : decide (t409 < 0) = false := decide_eq_false c120
      clear c120
      by_cases c121 : t409 = t407
      ·
       rw [if_pos c121] at H
       have c121b0 : (t409 == t407) = true := beq_iff_eq.mpr c121
       have c121b1 : (t409 != t407) = false := bne_eq_false_iff_eq.mpr c121
       clear c121
       replace H := Option.bind_eq_some_iff.mp H
       obtain ⟨⟨t410, t413, t414, t415⟩, A1220, H⟩ := H
       replace H : ((laws_toFrame.f a3_0 a3_1 a3_2 a3_3).bind fun bt416 => ((impl_AddEvent.f kj82 t410 t413 t414 t415 a1 a2 bt416.1 bt416.2.1 bt416.2.2.1 bt416.2.2.2).bind fun bt420 => ((laws_eqShard.f kj82 bt420.1 bt420.2.1 bt420.2.2.1 bt420.2.2.2.1 t369 t372 t373 t374).bind fun t428 => (if t428 = true then (laws_FnExactAddEvent.j2 kj82 t407 (bt420.2.2.2.2 != t375) t408 t391 t392 t393) else (laws_FnExactAddEvent.j2 kj82 t407 true t408 t391 t392 t393))))) = some r := H
       have A122 := Aside0.mk A1220
       clear A1220
       replace H := Option.bind_eq_some_iff.mp H
       obtain ⟨⟨t416, t417, t418, t419⟩, A1230, H⟩ := H
       replace H : ((impl_AddEvent.f kj82 t410 t413 t414 t415 a1 a2 t416 t417 t418 t419).bind fun bt420 => ((laws_eqShard.f kj82 bt420.1 bt420.2.1 bt420.2.2.1 bt420.2.2.2.1 t369 t372 t373 t374).bind fun t428 => (if t428 = true then (laws_FnExactAddEvent.j2 kj82 t407 (bt420.2.2.2.2 != t375) t408 t391 t392 t393) else (laws_FnExactAddEvent.j2 kj82 t407 true t408 t391 t392 t393)))) = some r := H
       have A123 := Aside0.mk A1230
       clear A1230
       replace H := Option.bind_eq_some_iff.mp H
       obtain ⟨⟨t420, t423, t424, t425, t426⟩, A1240, H⟩ := H
       replace H : ((laws_eqShard.f kj82 t420 t423 t424 t425 t369 t372 t373 t374).bind fun t428 => (if t428 = true then (laws_FnExactAddEvent.j2 kj82 t407 (t426 != t375) t408 t391 t392 t393) else (laws_FnExactAddEvent.j2 kj82 t407 true t408 t391 t392 t393))) = some r := H
       have A124 := Aside0.mk A1240
       clear A1240
       have HC125 := Aside0.mk H
       clear H
       have hnb126 := NB395_356.out
       have hnc126 := NB356_395.out
       have hnb127 := NB395_357.out
       have hnc127 := NB357_395.out
       have hnb128 := NB395_376.out
       have hnc128 := NB376_395.out
       have hnb129 := NB395_383.out
       have hnc129 := NB383_395.out
       obtain ⟨hcz130_0, hcz130_1, hcz130_2, hcz130_3⟩ := cbz4_ BK395.out
       obtain ⟨hfz130_0, hfz130_1, hfz130_2, hfz130_3⟩ := bfz4_ BK395.out
       try go_wp2_with (first | ((with_reducible refine gate_callee (f := 11) rfl ?_); refine goesL_ (some 78) rfl rfl Try.func11 (by kernel_rfl) rfl #[.agg #[.slice Ao51 t388.length co51, .int .i64 t391, .int .i64 t392, .int .i64 t393], .int .i64 1] rfl ul_ ?_; (with_reducible refine (laws_markShard.calls kj82 (fun k_ => some k_ = (.slice Ao51 t388.length co51 : Value).ownBlock) (.slice Ao51 t388.length co51) t388 t391 t392 t393 1 t407 t408 w _ ?side1 ?side2 A118.out).mono ?_); (case side1 => repeat (first | (with_reducible first | exact HB.out | apply below_alloc | apply pw_below_drewN | apply below_drew1 | refine below_set ?_ GE356.out | refine below_set ?_ GE357.out | refine below_set ?_ GE376.out | refine below_set ?_ GE383.out | refine below_set ?_ GE395.out) | exact HB.out)); (case side2 => exact Kd.R_tight rfl HO_396000.out); rintro e w131 ⟨rfl, hy0, hb, hkp⟩; refine ⟨_, rfl, ?_⟩; replace HO_377000 := am_ (Kd.R_mono (ok' := fun k_ => some k_ ≠ (.slice Ao40 t405.length co40 : Value).ownBlock ∧ some k_ ≠ (.slice Ao51 t388.length co51 : Value).ownBlock) (Kd.R_keptB (HO_377000.out) hkp (fun k_ hk_ hs_ => by first | exact (hk_.2) hs_ | grind)) (fun k_ hk_ => by first | exact ⟨hk_.1.1, hk_.1.2⟩ | grind)); replace HO_384000 := am_ (Kd.R_mono (ok' := fun k_ => some k_ ≠ (.slice Ao31 t369.length co31 : Value).ownBlock ∧ some k_ ≠ (.slice Ao51 t388.length co51 : Value).ownBlock) (Kd.R_keptB (HO_384000.out) hkp (fun k_ hk_ hs_ => by first | exact (hk_.2) hs_ | grind)) (fun k_ hk_ => by first | exact ⟨hk_.1.1, hk_.1.2⟩ | grind)); replace BK356 := am_ (blk_kept (g := gb356) (o := .cells #[.slice A0_0 l0_0.length c0_0, .int .i64 a0_1, .int .i64 a0_2, .int .i64 a0_3] 24 (0, 0)) (ub_ BK356.out) hkp (fun hs_ => (fun e_ => (Kd.R_ne HO_396000.out BK356.out (by decide)) e_) hs_)); replace BK357 := am_ (blk_kept (g := gb357) (o := .cells #[.int .i64 a3_0, .int .i64 a3_1, .int .i64 a3_2, .int .i64 a3_3] 26 (0, 0)) (ub_ BK357.out) hkp (fun hs_ => (fun e_ => (Kd.R_ne HO_396000.out BK357.out (by decide)) e_) hs_)); replace BK376 := am_ (blk_kept (g := gb376) (o := .cells #[.slice Ao31 t369.length co31, .int .i64 t372, .int .i64 t373, .int .i64 t374] 30 (0, 0)) (ub_ BK376.out) hkp (fun hs_ => (fun e_ => (Kd.R_ne HO_396000.out BK376.out (by decide)) e_) hs_)); replace BK383 := am_ (blk_kept (g := gb383) (o := .cells #[.slice Ao40 t405.length co40, .int .i64 t380, .int .i64 t381, .int .i64 t382] 30 (0, 0)) (ub_ BK383.out) hkp (fun hs_ => (fun e_ => (Kd.R_ne HO_396000.out BK383.out (by decide)) e_) hs_)); replace BK395 := am_ (blk_kept (g := gb395) (o := .cells #[.slice Ao51 t388.length co51, .int .i64 t391, .int .i64 t392, .int .i64 t393] 30 (0, 0)) (ub_ BK395.out) hkp (fun hs_ => (fun e_ => (Kd.R_ne HO_396000.out BK395.out (by decide)) e_) hs_)); replace HO_396000 := am_ (Kd.R_reok rfl hy0 (fun k_ e_ => HO_396000.out.1 k_ e_)); replace HB := am_ (hb); (try clear hb); (try clear hkp); (try clear hy0); obtain ⟨hcz132_0, hcz132_1, hcz132_2, hcz132_3⟩ := cb4_ BK395.out; obtain ⟨hfz132_0, hfz132_1, hfz132_2⟩ := bf3_ BK395.out; have hfz132_3 := blk_frozen BK395.out 3) | ((with_reducible refine gate_callee (f := 12) rfl ?_); refine goesL_ (some 81) rfl rfl Try.func12 (by kernel_rfl) rfl #[.agg #[.slice Ao51 t408.length co51, .int .i64 t391, .int .i64 t392, .int .i64 t393], .int .i64 1] rfl (by (try simp only [List.map_toArray, List.map_cons, List.map_nil]); first | done | (rw [show t408.length = t388.length from (Kd.R_reads' HO_396000.out).1.symm] <;> rfl) | rfl | (simp only [List.length_drop, List.length_take]; rfl)) ?_; (with_reducible refine (laws_heldShard.calls kj82 _ _ t408 t391 t392 t393 1 t409 _ ?side1 ?side2 A119.out).mono ?_); (case side1 => repeat (first | exact (Kd.R_reads' HO_396000.out).2.2 | (with_reducible refine Kd.C_alloc ?_ _) | (with_reducible refine Kd.C_drewN ?_ _) | (with_reducible refine Kd.C_drew ?_))); (case side2 => rw [show t408.length = t388.length from (Kd.R_reads' HO_396000.out).1.symm]; exact (Kd.R_reads' HO_396000.out).2.1); rintro e w133 ⟨rfl, hb⟩; refine ⟨_, rfl, ?_⟩; replace HO_377000 := am_ (Kd.R_below (ur_ HO_377000.out) hb); replace HO_384000 := am_ (Kd.R_below (ur_ HO_384000.out) hb); replace HO_396000 := am_ (Kd.R_below (ur_ HO_396000.out) hb); replace BK356 := bs_ BK356 hb; replace BK357 := bs_ BK357 hb; replace BK376 := bs_ BK376 hb; replace BK383 := bs_ BK383 hb; replace BK395 := bs_ BK395 hb; replace HB := hs_ HB hb; (try clear hb); (try clear hb2); (try clear hk); (try clear hi)))
       replace HO_377000 := am_ (Kd.R_drew HO_377000.out)
       replace HO_384000 := am_ (Kd.R_drew HO_384000.out)
       replace HO_396000 := am_ (Kd.R_drew HO_396000.out)
       replace BK356 := am_ (blk_drew BK356.out)
       replace BK357 := am_ (blk_drew BK357.out)
       replace BK376 := am_ (blk_drew BK376.out)
       replace BK383 := am_ (blk_drew BK383.out)
       replace BK395 := am_ (blk_drew BK395.out)
       replace HB := am_ (below_drew1 HB.out)
       refine start_ (n := 13) (S := fun w' => w'.cell? ⟨gb356, 0, none⟩ = some (.slice A0_0 l0_0.length c0_0) ∧ w'.cell? ⟨gb356, 1, none⟩ = some (.int .i64 a0_1) ∧ w'.cell? ⟨gb356, 2, none⟩ = some (.int .i64 a0_2) ∧ w'.cell? ⟨gb356, 3, none⟩ = some (.int .i64 a0_3) ∧ w'.cell? ⟨gb357, 0, none⟩ = some (.int .i64 a3_0) ∧ w'.cell? ⟨gb357, 1, none⟩ = some (.int .i64 a3_1) ∧ w'.cell? ⟨gb357, 2, none⟩ = some (.int .i64 a3_2) ∧ w'.cell? ⟨gb357, 3, none⟩ = some (.int .i64 a3_3)) (ds := []) #[false, false, false, false, false, false, false, false, false, false, false, false, false] (by kernel_rfl) rfl rfl ⟨cb_ BK356.out 0 rfl, cb_ BK356.out 1 rfl, cb_ BK356.out 2 rfl, cb_ BK356.out 3 rfl, cb_ BK357.out 0 rfl, cb_ BK357.out 1 rfl, cb_ BK357.out 2 rfl, cb_ BK357.out 3 rfl⟩ (fun hHeld => ?_); refine with_tabW laws_FnExactAddEvent.tab24 laws_FnExactAddEvent.bits24 (fun HT_ HW_ => ?_)
       generalize w133.drew = w134 at HO_377000 HO_384000 HO_396000 BK356 BK357 BK376 BK383 BK395 HB hHeld ⊢
       refine pu_ (i := 2) (N := some 90) #[false, false, true, false, false, false, false, false, false, false, false, false, false] HT_ ?_
       refine pu_ (i := 3) (N := some 91) #[false, false, true, true, false, false, false, false, false, false, false, false, false] HT_ ?_
       refine tk_ (i := 0) (N := some 88) #[true, false, true, true, false, false, false, false, false, false, false, false, false] HT_ HW_ hHeld ?_
       refine tk_ (i := 4) (N := some 92) #[true, false, true, true, true, false, false, false, false, false, false, false, false] HT_ HW_ hHeld ?_
       refine join_ (σ := Value × Value × Nat) 2 #[true, true, true, true, true, true, true, true, true, true, true, false, false] (fun s_ => [(89, .agg #[s_.1, .int .i64 t413, .int .i64 t414, .int .i64 t415]), (93, .agg #[.int .i64 t416, .int .i64 t417, .int .i64 t418, .int .i64 t419]), (94, .tuple #[.agg #[s_.2.1, .int .i64 t423, .int .i64 t424, .int .i64 t425], .int .i64 t426]), (18, .pointer (some ⟨s_.2.2, 0, none⟩)), (87, .tuple #[.agg #[s_.2.1, .int .i64 t423, .int .i64 t424, .int .i64 t425], .int .i64 t426]), (95, .agg #[s_.2.1, .int .i64 t423, .int .i64 t424, .int .i64 t425]), (96, .int .i64 t426)]) (fun s_ w' => (w'.cell? ⟨gb356, 0, none⟩ = some (.slice A0_0 l0_0.length c0_0) ∧ w'.cell? ⟨gb356, 1, none⟩ = some (.int .i64 a0_1) ∧ w'.cell? ⟨gb356, 2, none⟩ = some (.int .i64 a0_2) ∧ w'.cell? ⟨gb356, 3, none⟩ = some (.int .i64 a0_3) ∧ w'.cell? ⟨gb357, 0, none⟩ = some (.int .i64 a3_0) ∧ w'.cell? ⟨gb357, 1, none⟩ = some (.int .i64 a3_1) ∧ w'.cell? ⟨gb357, 2, none⟩ = some (.int .i64 a3_2) ∧ w'.cell? ⟨gb357, 3, none⟩ = some (.int .i64 a3_3)) ∧ (Kd.R k62 62 w' w.heap.size (fun k_ => some k_ ≠ (s_.2.1 : Value).ownBlock ∧ some k_ ≠ (.slice Ao31 t369.length co31 : Value).ownBlock ∧ some k_ ≠ (.slice Ao40 t405.length co40 : Value).ownBlock ∧ some k_ ≠ (.slice Ao51 t388.length co51 : Value).ownBlock) s_.1 t410) ∧ (Kd.R k62 62 w' w.heap.size (fun k_ => some k_ ≠ (s_.1 : Value).ownBlock ∧ some k_ ≠ (.slice Ao31 t369.length co31 : Value).ownBlock ∧ some k_ ≠ (.slice Ao40 t405.length co40 : Value).ownBlock ∧ some k_ ≠ (.slice Ao51 t388.length co51 : Value).ownBlock) s_.2.1 t420) ∧ (Kd.R k62 62 w' w.heap.size (fun k_ => some k_ ≠ (s_.1 : Value).ownBlock ∧ some k_ ≠ (s_.2.1 : Value).ownBlock ∧ some k_ ≠ (.slice Ao40 t405.length co40 : Value).ownBlock ∧ some k_ ≠ (.slice Ao51 t388.length co51 : Value).ownBlock) (.slice Ao31 t369.length co31) t369) ∧ (Kd.R k62 62 w' w.heap.size (fun k_ => some k_ ≠ (s_.1 : Value).ownBlock ∧ some k_ ≠ (s_.2.1 : Value).ownBlock ∧ some k_ ≠ (.slice Ao31 t369.length co31 : Value).ownBlock ∧ some k_ ≠ (.slice Ao51 t388.length co51 : Value).ownBlock) (.slice Ao40 t405.length co40) t405) ∧ (Kd.R k62 62 w' w.heap.size (fun k_ => some k_ ≠ (s_.1 : Value).ownBlock ∧ some k_ ≠ (s_.2.1 : Value).ownBlock ∧ some k_ ≠ (.slice Ao31 t369.length co31 : Value).ownBlock ∧ some k_ ≠ (.slice Ao40 t405.length co40 : Value).ownBlock) (.slice Ao51 t388.length co51) t408) ∧ (w'.heap[gb356]? = some (.cells #[.slice A0_0 l0_0.length c0_0, .int .i64 a0_1, .int .i64 a0_2, .int .i64 a0_3] 24 (0, 0))) ∧ (w'.heap[gb357]? = some (.cells #[.int .i64 a3_0, .int .i64 a3_1, .int .i64 a3_2, .int .i64 a3_3] 26 (0, 0))) ∧ (w'.heap[gb376]? = some (.cells #[.slice Ao31 t369.length co31, .int .i64 t372, .int .i64 t373, .int .i64 t374] 30 (0, 0))) ∧ (w'.heap[gb383]? = some (.cells #[.slice Ao40 t405.length co40, .int .i64 t380, .int .i64 t381, .int .i64 t382] 30 (0, 0))) ∧ (w'.heap[gb395]? = some (.cells #[.slice Ao51 t388.length co51, .int .i64 t391, .int .i64 t392, .int .i64 t393] 30 (0, 0))) ∧ (w'.heap[s_.2.2]? = some (.cells #[.slice none 0 0, .int .i64 0, .int .i64 0, .int .i64 0] 30 (0, 0))) ∧ (w.heap.size ≤ s_.2.2) ∧ (w.heap.size ≤ s_.2.2) ∧ (gb356 ≠ s_.2.2) ∧ (s_.2.2 ≠ gb356) ∧ (gb357 ≠ s_.2.2) ∧ (s_.2.2 ≠ gb357) ∧ (gb376 ≠ s_.2.2) ∧ (s_.2.2 ≠ gb376) ∧ (gb383 ≠ s_.2.2) ∧ (s_.2.2 ≠ gb383) ∧ (gb395 ≠ s_.2.2) ∧ (s_.2.2 ≠ gb395) ∧ (Below w.heap.size w w')) ?_ ?_
       rotate_left
       ·
        intro hCont
        refine two_ (i := 1) (j := 10) (Ni := some 89) (Nj := some 18) #[true, true, true, true, true, false, false, false, false, false, false, false, false] #[true, false, true, true, true, false, false, false, false, false, true, false, false] rfl rfl rfl rfl (two_of HT_.out (by kernel_rfl)) (by decide) (by decide) (fun K hK => ?_) (fun K hK => ?_)
        ·
         skip
         refine goes_ Try.func7 (by kernel_rfl) rfl #[.agg #[.slice A0_0 l0_0.length c0_0, .int .i64 a0_1, .int .i64 a0_2, .int .i64 a0_3]] (by rfl) rfl rfl ul_ ?_
         with_reducible refine (laws_toShard.calls kj82 _ _ l0_0 a0_1 a0_2 a0_3 t410 t413 t414 t415 _ ?side1 ?side2 A122.out).mono ?_
         (case side1 => repeat (first | exact (Kd.C_below HR0_0.out HB.out) | (with_reducible refine Kd.C_alloc ?_ _) | (with_reducible refine Kd.C_drewN ?_ _) | (with_reducible refine Kd.C_drew ?_)))
         (case side2 => exact HC0_0.out)
         rintro e w135 ⟨v411, rfl, ho0, hb⟩
         refine ⟨_, rfl, ?_⟩
         have HO412 := am_ (Kd.R_lower (Kd.R_new' (Kd.R_new' (Kd.R_new' ho0 (Kd.R_lt (ur_ HO_377000.out))) (Kd.R_lt (ur_ HO_384000.out))) (Kd.R_lt (ur_ HO_396000.out))) (below_size (ue_ HB.out)))
         replace HO_377000 := am_ (Kd.R_elder' (ur_ HO_377000.out) (Kd.R_base ho0) hb)
         replace HO_384000 := am_ (Kd.R_elder' (ur_ HO_384000.out) (Kd.R_base ho0) hb)
         replace HO_396000 := am_ (Kd.R_elder' (ur_ HO_396000.out) (Kd.R_base ho0) hb)
         replace BK356 := bs_ BK356 hb
         replace BK357 := bs_ BK357 hb
         replace BK376 := bs_ BK376 hb
         replace BK383 := bs_ BK383 hb
         replace BK395 := bs_ BK395 hb
         replace HB := hs_ HB hb
         (try clear hb)
         (try clear hb2)
         (try clear hk)
         (try clear hi)
         (try clear ho0)
         refine hK.out _ _ ⟨cb_ BK356.out 0 rfl, cb_ BK356.out 1 rfl, cb_ BK356.out 2 rfl, cb_ BK356.out 3 rfl, cb_ BK357.out 0 rfl, cb_ BK357.out 1 rfl, cb_ BK357.out 2 rfl, cb_ BK357.out 3 rfl⟩ (fun hHeld => ?_)
         clear hK K
         refine norm_ (a' := ?_) ?_ ?_
         rotate_left
         ·
          show Act.put _ (some 89) _ = _
          simp only [Act.put, List.setIfInBounds_toArray, List.set_cons_zero, List.set_cons_succ, i64_w, i32_w]
          rfl
         refine two_ (i := 5) (j := 10) (Ni := some 93) (Nj := some 18) #[true, true, true, true, true, true, false, false, false, false, false, false, false] #[true, true, true, true, true, false, false, false, false, false, true, false, false] rfl rfl rfl rfl (two_of HT_.out (by kernel_rfl)) (by decide) (by decide) (fun K hK => ?_) (fun K hK => ?_)
         ·
          skip
          refine goes_ Try.func8 (by kernel_rfl) rfl #[.agg #[.int .i64 a3_0, .int .i64 a3_1, .int .i64 a3_2, .int .i64 a3_3]] (by rfl) rfl rfl ul_ ?_
          with_reducible refine (laws_toFrame.calls a3_0 a3_1 a3_2 a3_3 t416 t417 t418 t419 _ A123.out).mono ?_
          rintro e w136 ⟨rfl, hb⟩
          refine ⟨_, rfl, ?_⟩
          replace HO_377000 := am_ (Kd.R_below (ur_ HO_377000.out) hb)
          replace HO_384000 := am_ (Kd.R_below (ur_ HO_384000.out) hb)
          replace HO_396000 := am_ (Kd.R_below (ur_ HO_396000.out) hb)
          replace HO412 := am_ (Kd.R_below (ur_ HO412.out) hb)
          replace BK356 := bs_ BK356 hb
          replace BK357 := bs_ BK357 hb
          replace BK376 := bs_ BK376 hb
          replace BK383 := bs_ BK383 hb
          replace BK395 := bs_ BK395 hb
          replace HB := hs_ HB hb
          (try clear hb)
          (try clear hb2)
          (try clear hk)
          (try clear hi)
          obtain ⟨Ao137, co137, eo137⟩ := Kd.R_slice HO412.out
          (first | subst eo137 | (injection eo137 with f1_ f2_ f3_; have f4_ := f1_.symm; have f5_ := f3_.symm; clear f1_ f2_ f3_; subst f4_; subst f5_))
          refine hK.out _ _ ⟨cb_ BK356.out 0 rfl, cb_ BK356.out 1 rfl, cb_ BK356.out 2 rfl, cb_ BK356.out 3 rfl, cb_ BK357.out 0 rfl, cb_ BK357.out 1 rfl, cb_ BK357.out 2 rfl, cb_ BK357.out 3 rfl⟩ (fun hHeld => ?_)
          clear hK K
          refine norm_ (a' := ?_) ?_ ?_
          rotate_left
          ·
           show Act.put _ (some 93) _ = _
           simp only [Act.put, List.setIfInBounds_toArray, List.set_cons_zero, List.set_cons_succ, i64_w, i32_w]
           rfl
          refine two_ (i := 6) (j := 10) (Ni := some 94) (Nj := some 18) #[true, true, true, true, true, true, true, false, false, false, false, false, false] #[true, true, true, true, true, true, false, false, false, false, true, false, false] rfl rfl rfl rfl (two_of HT_.out (by kernel_rfl)) (by decide) (by decide) (fun K hK => ?_) (fun K hK => ?_)
          ·
           skip
           refine goes_ Try.func9 (by kernel_rfl) rfl #[.agg #[.slice Ao137 t410.length co137, .int .i64 t413, .int .i64 t414, .int .i64 t415], .int .i64 a1, .int .i64 a2, .agg #[.int .i64 t416, .int .i64 t417, .int .i64 t418, .int .i64 t419]] (by rfl) rfl rfl ul_ ?_
           with_reducible refine (impl_AddEvent.calls kj82 _ _ t410 t413 t414 t415 a1 a2 t416 t417 t418 t419 t420 t423 t424 t425 t426 _ ?side1 ?side2 A124.out).mono ?_
           (case side1 => repeat (first | exact (Kd.R_reads' HO412.out).2.2 | (with_reducible refine Kd.C_alloc ?_ _) | (with_reducible refine Kd.C_drewN ?_ _) | (with_reducible refine Kd.C_drew ?_)))
           (case side2 => exact (Kd.R_reads' HO412.out).2.1)
           rintro e w138 ⟨v421, rfl, ho0, hb⟩
           refine ⟨_, rfl, ?_⟩
           have HO422 := am_ (Kd.R_lower (Kd.R_new' (Kd.R_new' (Kd.R_new' (Kd.R_new' ho0 (Kd.R_lt (ur_ HO_377000.out))) (Kd.R_lt (ur_ HO_384000.out))) (Kd.R_lt (ur_ HO_396000.out))) (Kd.R_lt (ur_ HO412.out))) (below_size (ue_ HB.out)))
           replace HO_377000 := am_ (Kd.R_elder' (ur_ HO_377000.out) (Kd.R_base ho0) hb)
           replace HO_384000 := am_ (Kd.R_elder' (ur_ HO_384000.out) (Kd.R_base ho0) hb)
           replace HO_396000 := am_ (Kd.R_elder' (ur_ HO_396000.out) (Kd.R_base ho0) hb)
           replace HO412 := am_ (Kd.R_elder' (ur_ HO412.out) (Kd.R_base ho0) hb)
           replace BK356 := bs_ BK356 hb
           replace BK357 := bs_ BK357 hb
           replace BK376 := bs_ BK376 hb
           replace BK383 := bs_ BK383 hb
           replace BK395 := bs_ BK395 hb
           replace HB := hs_ HB hb
           (try clear hb)
           (try clear hb2)
           (try clear hk)
           (try clear hi)
           (try clear ho0)
           refine hK.out _ _ ⟨cb_ BK356.out 0 rfl, cb_ BK356.out 1 rfl, cb_ BK356.out 2 rfl, cb_ BK356.out 3 rfl, cb_ BK357.out 0 rfl, cb_ BK357.out 1 rfl, cb_ BK357.out 2 rfl, cb_ BK357.out 3 rfl⟩ (fun hHeld => ?_)
           clear hK K
           refine norm_ (a' := ?_) ?_ ?_
           rotate_left
           ·
            show Act.put _ (some 94) _ = _
            simp only [Act.put, List.setIfInBounds_toArray, List.set_cons_zero, List.set_cons_succ, i64_w, i32_w]
            rfl
           refine pu_ (i := 7) (N := some 87) #[true, true, true, true, true, true, true, true, false, false, false, false, false] HT_ ?_
           refine pu_ (i := 8) (N := some 95) #[true, true, true, true, true, true, true, true, true, false, false, false, false] HT_ ?_
           refine pu_ (i := 9) (N := some 96) #[true, true, true, true, true, true, true, true, true, true, false, false, false] HT_ ?_
           refine one_ (i := 10) (N := some 18) #[true, true, true, true, true, true, true, true, true, true, true, false, false] rfl rfl (one_of HT_.out (by kernel_rfl)) (by decide) (fun K hK => ?_)
           refine box_step ?hg (N := 18) ?hd (cs := #[.slice none 0 0, .int .i64 0, .int .i64 0, .int .i64 0]) (t := 30) ?hr ?_; (case hd => rfl); (case hg => rfl); (case hr => first | (go_simp; done) | (go_simp; rfl))
           intro gb427 hg w139 hbox hb
           replace HO_377000 := am_ (Kd.R_below (ur_ HO_377000.out) hb)
           replace HO_384000 := am_ (Kd.R_below (ur_ HO_384000.out) hb)
           replace HO_396000 := am_ (Kd.R_below (ur_ HO_396000.out) hb)
           replace HO412 := am_ (Kd.R_below (ur_ HO412.out) hb)
           replace HO422 := am_ (Kd.R_below (ur_ HO422.out) hb)
           have BK427 := am_ (hbox)
           have GW427 := gs_ hg HB.out
           have GE427 := gs_ hg HB.out
           replace HB := hs_ HB hb
           have NB356_427 := nl_ hg BK356.out
           have NB427_356 := ng_ hg BK356.out
           replace BK356 := bs_ BK356 hb
           have NB357_427 := nl_ hg BK357.out
           have NB427_357 := ng_ hg BK357.out
           replace BK357 := bs_ BK357 hb
           have NB376_427 := nl_ hg BK376.out
           have NB427_376 := ng_ hg BK376.out
           replace BK376 := bs_ BK376 hb
           have NB383_427 := nl_ hg BK383.out
           have NB427_383 := ng_ hg BK383.out
           replace BK383 := bs_ BK383 hb
           have NB395_427 := nl_ hg BK395.out
           have NB427_395 := ng_ hg BK395.out
           replace BK395 := bs_ BK395 hb
           clear hb hbox hg
           refine hK.out _ _ ⟨cb_ BK356.out 0 rfl, cb_ BK356.out 1 rfl, cb_ BK356.out 2 rfl, cb_ BK356.out 3 rfl, cb_ BK357.out 0 rfl, cb_ BK357.out 1 rfl, cb_ BK357.out 2 rfl, cb_ BK357.out 3 rfl⟩ (fun hHeld => ?_)
           clear hK K
           refine norm_ (a' := ?_) ?_ ?_
           rotate_left
           ·
            show Act.put _ (some 18) _ = _
            simp only [Act.put, List.setIfInBounds_toArray, List.set_cons_zero, List.set_cons_succ, i64_w, i32_w]
            rfl
           exact norm_ (by simp only [putAll, Act.put, List.setIfInBounds_toArray, List.set_cons_zero, List.set_cons_succ]) (hCont (.slice Ao137 t410.length co137, v421, gb427) _ ⟨hHeld, (by (with_reducible repeat (first | apply Kd.R_alloc | apply Kd.R_drewN | apply Kd.R_drew)); exact Kd.R_mono HO412.out (fun _ hk => by first | exact ⟨hk.2, ⟨hk.1.1.1.2, ⟨hk.1.1.2, hk.1.2⟩⟩⟩ | grind)), (by (with_reducible repeat (first | apply Kd.R_alloc | apply Kd.R_drewN | apply Kd.R_drew)); exact Kd.R_mono HO422.out (fun _ hk => by first | exact ⟨hk.2, ⟨hk.1.1.1.2, ⟨hk.1.1.2, hk.1.2⟩⟩⟩ | grind)), (by (with_reducible repeat (first | apply Kd.R_alloc | apply Kd.R_drewN | apply Kd.R_drew)); exact Kd.R_mono HO_377000.out (fun _ hk => by first | exact ⟨hk.1.2, ⟨hk.2, ⟨hk.1.1.1, hk.1.1.2⟩⟩⟩ | grind)), (by (with_reducible repeat (first | apply Kd.R_alloc | apply Kd.R_drewN | apply Kd.R_drew)); exact Kd.R_mono HO_384000.out (fun _ hk => by first | exact ⟨hk.1.2, ⟨hk.2, ⟨hk.1.1.1, hk.1.1.2⟩⟩⟩ | grind)), (by (with_reducible repeat (first | apply Kd.R_alloc | apply Kd.R_drewN | apply Kd.R_drew)); exact Kd.R_mono HO_396000.out (fun _ hk => by first | exact ⟨hk.1.2, ⟨hk.2, ⟨hk.1.1.1, hk.1.1.2⟩⟩⟩ | grind)), (ub_ BK356.out), (ub_ BK357.out), (ub_ BK376.out), (ub_ BK383.out), (ub_ BK395.out), (ub_ BK427.out), GW427.out, GE427.out, NB356_427.out, NB427_356.out, NB357_427.out, NB427_357.out, NB376_427.out, NB427_376.out, NB383_427.out, NB427_383.out, NB395_427.out, NB427_395.out, (ue_ HB.out)⟩)
          skip
          refine box_step ?hg (N := 18) ?hd (cs := #[.slice none 0 0, .int .i64 0, .int .i64 0, .int .i64 0]) (t := 30) ?hr ?_; (case hd => rfl); (case hg => rfl); (case hr => first | (go_simp; done) | (go_simp; rfl))
          intro gb427 hg w137 hbox hb
          replace HO_377000 := am_ (Kd.R_below (ur_ HO_377000.out) hb)
          replace HO_384000 := am_ (Kd.R_below (ur_ HO_384000.out) hb)
          replace HO_396000 := am_ (Kd.R_below (ur_ HO_396000.out) hb)
          replace HO412 := am_ (Kd.R_below (ur_ HO412.out) hb)
          have BK427 := am_ (hbox)
          have GW427 := gs_ hg HB.out
          have GE427 := gs_ hg HB.out
          replace HB := hs_ HB hb
          have NB356_427 := nl_ hg BK356.out
          have NB427_356 := ng_ hg BK356.out
          replace BK356 := bs_ BK356 hb
          have NB357_427 := nl_ hg BK357.out
          have NB427_357 := ng_ hg BK357.out
          replace BK357 := bs_ BK357 hb
          have NB376_427 := nl_ hg BK376.out
          have NB427_376 := ng_ hg BK376.out
          replace BK376 := bs_ BK376 hb
          have NB383_427 := nl_ hg BK383.out
          have NB427_383 := ng_ hg BK383.out
          replace BK383 := bs_ BK383 hb
          have NB395_427 := nl_ hg BK395.out
          have NB427_395 := ng_ hg BK395.out
          replace BK395 := bs_ BK395 hb
          clear hb hbox hg
          obtain ⟨Ao138, co138, eo138⟩ := Kd.R_slice HO412.out
          (first | subst eo138 | (injection eo138 with f1_ f2_ f3_; have f4_ := f1_.symm; have f5_ := f3_.symm; clear f1_ f2_ f3_; subst f4_; subst f5_))
          refine hK.out _ _ ⟨cb_ BK356.out 0 rfl, cb_ BK356.out 1 rfl, cb_ BK356.out 2 rfl, cb_ BK356.out 3 rfl, cb_ BK357.out 0 rfl, cb_ BK357.out 1 rfl, cb_ BK357.out 2 rfl, cb_ BK357.out 3 rfl⟩ (fun hHeld => ?_)
          clear hK K
          refine norm_ (a' := ?_) ?_ ?_
          rotate_left
          ·
           show Act.put _ (some 18) _ = _
           simp only [Act.put, List.setIfInBounds_toArray, List.set_cons_zero, List.set_cons_succ, i64_w, i32_w]
           rfl
          refine one_ (i := 6) (N := some 94) #[true, true, true, true, true, true, true, false, false, false, true, false, false] rfl rfl (one_of HT_.out (by kernel_rfl)) (by decide) (fun K hK => ?_)
          refine goes_ Try.func9 (by kernel_rfl) rfl #[.agg #[.slice Ao138 t410.length co138, .int .i64 t413, .int .i64 t414, .int .i64 t415], .int .i64 a1, .int .i64 a2, .agg #[.int .i64 t416, .int .i64 t417, .int .i64 t418, .int .i64 t419]] (by rfl) rfl rfl ul_ ?_
          with_reducible refine (impl_AddEvent.calls kj82 _ _ t410 t413 t414 t415 a1 a2 t416 t417 t418 t419 t420 t423 t424 t425 t426 _ ?side1 ?side2 A124.out).mono ?_
          (case side1 => repeat (first | exact (Kd.R_reads' HO412.out).2.2 | (with_reducible refine Kd.C_alloc ?_ _) | (with_reducible refine Kd.C_drewN ?_ _) | (with_reducible refine Kd.C_drew ?_)))
          (case side2 => exact (Kd.R_reads' HO412.out).2.1)
          rintro e w139 ⟨v421, rfl, ho0, hb⟩
          refine ⟨_, rfl, ?_⟩
          have HO422 := am_ (Kd.R_lower (Kd.R_new' (Kd.R_new' (Kd.R_new' (Kd.R_new' ho0 (Kd.R_lt (ur_ HO_377000.out))) (Kd.R_lt (ur_ HO_384000.out))) (Kd.R_lt (ur_ HO_396000.out))) (Kd.R_lt (ur_ HO412.out))) (below_size (ue_ HB.out)))
          replace HO_377000 := am_ (Kd.R_elder' (ur_ HO_377000.out) (Kd.R_base ho0) hb)
          replace HO_384000 := am_ (Kd.R_elder' (ur_ HO_384000.out) (Kd.R_base ho0) hb)
          replace HO_396000 := am_ (Kd.R_elder' (ur_ HO_396000.out) (Kd.R_base ho0) hb)
          replace HO412 := am_ (Kd.R_elder' (ur_ HO412.out) (Kd.R_base ho0) hb)
          replace BK356 := bs_ BK356 hb
          replace BK357 := bs_ BK357 hb
          replace BK376 := bs_ BK376 hb
          replace BK383 := bs_ BK383 hb
          replace BK395 := bs_ BK395 hb
          replace BK427 := bs_ BK427 hb
          replace HB := hs_ HB hb
          (try clear hb)
          (try clear hb2)
          (try clear hk)
          (try clear hi)
          (try clear ho0)
          refine hK.out _ _ ⟨cb_ BK356.out 0 rfl, cb_ BK356.out 1 rfl, cb_ BK356.out 2 rfl, cb_ BK356.out 3 rfl, cb_ BK357.out 0 rfl, cb_ BK357.out 1 rfl, cb_ BK357.out 2 rfl, cb_ BK357.out 3 rfl⟩ (fun hHeld => ?_)
          clear hK K
          refine norm_ (a' := ?_) ?_ ?_
          rotate_left
          ·
           show Act.put _ (some 94) _ = _
           simp only [Act.put, List.setIfInBounds_toArray, List.set_cons_zero, List.set_cons_succ, i64_w, i32_w]
           rfl
          refine pu_ (i := 7) (N := some 87) #[true, true, true, true, true, true, true, true, false, false, true, false, false] HT_ ?_
          refine pu_ (i := 8) (N := some 95) #[true, true, true, true, true, true, true, true, true, false, true, false, false] HT_ ?_
          refine pu_ (i := 9) (N := some 96) #[true, true, true, true, true, true, true, true, true, true, true, false, false] HT_ ?_
          exact norm_ (by simp only [putAll, Act.put, List.setIfInBounds_toArray, List.set_cons_zero, List.set_cons_succ]) (hCont (.slice Ao138 t410.length co138, v421, gb427) _ ⟨hHeld, (by (with_reducible repeat (first | apply Kd.R_alloc | apply Kd.R_drewN | apply Kd.R_drew)); exact Kd.R_mono HO412.out (fun _ hk => by first | exact ⟨hk.2, ⟨hk.1.1.1.2, ⟨hk.1.1.2, hk.1.2⟩⟩⟩ | grind)), (by (with_reducible repeat (first | apply Kd.R_alloc | apply Kd.R_drewN | apply Kd.R_drew)); exact Kd.R_mono HO422.out (fun _ hk => by first | exact ⟨hk.2, ⟨hk.1.1.1.2, ⟨hk.1.1.2, hk.1.2⟩⟩⟩ | grind)), (by (with_reducible repeat (first | apply Kd.R_alloc | apply Kd.R_drewN | apply Kd.R_drew)); exact Kd.R_mono HO_377000.out (fun _ hk => by first | exact ⟨hk.1.2, ⟨hk.2, ⟨hk.1.1.1, hk.1.1.2⟩⟩⟩ | grind)), (by (with_reducible repeat (first | apply Kd.R_alloc | apply Kd.R_drewN | apply Kd.R_drew)); exact Kd.R_mono HO_384000.out (fun _ hk => by first | exact ⟨hk.1.2, ⟨hk.2, ⟨hk.1.1.1, hk.1.1.2⟩⟩⟩ | grind)), (by (with_reducible repeat (first | apply Kd.R_alloc | apply Kd.R_drewN | apply Kd.R_drew)); exact Kd.R_mono HO_396000.out (fun _ hk => by first | exact ⟨hk.1.2, ⟨hk.2, ⟨hk.1.1.1, hk.1.1.2⟩⟩⟩ | grind)), (ub_ BK356.out), (ub_ BK357.out), (ub_ BK376.out), (ub_ BK383.out), (ub_ BK395.out), (ub_ BK427.out), GW427.out, GE427.out, NB356_427.out, NB427_356.out, NB357_427.out, NB427_357.out, NB376_427.out, NB427_376.out, NB383_427.out, NB427_383.out, NB395_427.out, NB427_395.out, (ue_ HB.out)⟩)
         skip
         refine box_step ?hg (N := 18) ?hd (cs := #[.slice none 0 0, .int .i64 0, .int .i64 0, .int .i64 0]) (t := 30) ?hr ?_; (case hd => rfl); (case hg => rfl); (case hr => first | (go_simp; done) | (go_simp; rfl))
         intro gb427 hg w136 hbox hb
         replace HO_377000 := am_ (Kd.R_below (ur_ HO_377000.out) hb)
         replace HO_384000 := am_ (Kd.R_below (ur_ HO_384000.out) hb)
         replace HO_396000 := am_ (Kd.R_below (ur_ HO_396000.out) hb)
         replace HO412 := am_ (Kd.R_below (ur_ HO412.out) hb)
         have BK427 := am_ (hbox)
         have GW427 := gs_ hg HB.out
         have GE427 := gs_ hg HB.out
         replace HB := hs_ HB hb
         have NB356_427 := nl_ hg BK356.out
         have NB427_356 := ng_ hg BK356.out
         replace BK356 := bs_ BK356 hb
         have NB357_427 := nl_ hg BK357.out
         have NB427_357 := ng_ hg BK357.out
         replace BK357 := bs_ BK357 hb
         have NB376_427 := nl_ hg BK376.out
         have NB427_376 := ng_ hg BK376.out
         replace BK376 := bs_ BK376 hb
         have NB383_427 := nl_ hg BK383.out
         have NB427_383 := ng_ hg BK383.out
         replace BK383 := bs_ BK383 hb
         have NB395_427 := nl_ hg BK395.out
         have NB427_395 := ng_ hg BK395.out
         replace BK395 := bs_ BK395 hb
         clear hb hbox hg
         refine hK.out _ _ ⟨cb_ BK356.out 0 rfl, cb_ BK356.out 1 rfl, cb_ BK356.out 2 rfl, cb_ BK356.out 3 rfl, cb_ BK357.out 0 rfl, cb_ BK357.out 1 rfl, cb_ BK357.out 2 rfl, cb_ BK357.out 3 rfl⟩ (fun hHeld => ?_)
         clear hK K
         refine norm_ (a' := ?_) ?_ ?_
         rotate_left
         ·
          show Act.put _ (some 18) _ = _
          simp only [Act.put, List.setIfInBounds_toArray, List.set_cons_zero, List.set_cons_succ, i64_w, i32_w]
          rfl
         refine one_ (i := 5) (N := some 93) #[true, true, true, true, true, true, false, false, false, false, true, false, false] rfl rfl (one_of HT_.out (by kernel_rfl)) (by decide) (fun K hK => ?_)
         refine goes_ Try.func8 (by kernel_rfl) rfl #[.agg #[.int .i64 a3_0, .int .i64 a3_1, .int .i64 a3_2, .int .i64 a3_3]] (by rfl) rfl rfl ul_ ?_
         with_reducible refine (laws_toFrame.calls a3_0 a3_1 a3_2 a3_3 t416 t417 t418 t419 _ A123.out).mono ?_
         rintro e w137 ⟨rfl, hb⟩
         refine ⟨_, rfl, ?_⟩
         replace HO_377000 := am_ (Kd.R_below (ur_ HO_377000.out) hb)
         replace HO_384000 := am_ (Kd.R_below (ur_ HO_384000.out) hb)
         replace HO_396000 := am_ (Kd.R_below (ur_ HO_396000.out) hb)
         replace HO412 := am_ (Kd.R_below (ur_ HO412.out) hb)
         replace BK356 := bs_ BK356 hb
         replace BK357 := bs_ BK357 hb
         replace BK376 := bs_ BK376 hb
         replace BK383 := bs_ BK383 hb
         replace BK395 := bs_ BK395 hb
         replace BK427 := bs_ BK427 hb
         replace HB := hs_ HB hb
         (try clear hb)
         (try clear hb2)
         (try clear hk)
         (try clear hi)
         obtain ⟨Ao138, co138, eo138⟩ := Kd.R_slice HO412.out
         (first | subst eo138 | (injection eo138 with f1_ f2_ f3_; have f4_ := f1_.symm; have f5_ := f3_.symm; clear f1_ f2_ f3_; subst f4_; subst f5_))
         refine hK.out _ _ ⟨cb_ BK356.out 0 rfl, cb_ BK356.out 1 rfl, cb_ BK356.out 2 rfl, cb_ BK356.out 3 rfl, cb_ BK357.out 0 rfl, cb_ BK357.out 1 rfl, cb_ BK357.out 2 rfl, cb_ BK357.out 3 rfl⟩ (fun hHeld => ?_)
         clear hK K
         refine norm_ (a' := ?_) ?_ ?_
         rotate_left
         ·
          show Act.put _ (some 93) _ = _
          simp only [Act.put, List.setIfInBounds_toArray, List.set_cons_zero, List.set_cons_succ, i64_w, i32_w]
          rfl
         refine one_ (i := 6) (N := some 94) #[true, true, true, true, true, true, true, false, false, false, true, false, false] rfl rfl (one_of HT_.out (by kernel_rfl)) (by decide) (fun K hK => ?_)
         refine goes_ Try.func9 (by kernel_rfl) rfl #[.agg #[.slice Ao138 t410.length co138, .int .i64 t413, .int .i64 t414, .int .i64 t415], .int .i64 a1, .int .i64 a2, .agg #[.int .i64 t416, .int .i64 t417, .int .i64 t418, .int .i64 t419]] (by rfl) rfl rfl ul_ ?_
         with_reducible refine (impl_AddEvent.calls kj82 _ _ t410 t413 t414 t415 a1 a2 t416 t417 t418 t419 t420 t423 t424 t425 t426 _ ?side1 ?side2 A124.out).mono ?_
         (case side1 => repeat (first | exact (Kd.R_reads' HO412.out).2.2 | (with_reducible refine Kd.C_alloc ?_ _) | (with_reducible refine Kd.C_drewN ?_ _) | (with_reducible refine Kd.C_drew ?_)))
         (case side2 => exact (Kd.R_reads' HO412.out).2.1)
         rintro e w139 ⟨v421, rfl, ho0, hb⟩
         refine ⟨_, rfl, ?_⟩
         have HO422 := am_ (Kd.R_lower (Kd.R_new' (Kd.R_new' (Kd.R_new' (Kd.R_new' ho0 (Kd.R_lt (ur_ HO_377000.out))) (Kd.R_lt (ur_ HO_384000.out))) (Kd.R_lt (ur_ HO_396000.out))) (Kd.R_lt (ur_ HO412.out))) (below_size (ue_ HB.out)))
         replace HO_377000 := am_ (Kd.R_elder' (ur_ HO_377000.out) (Kd.R_base ho0) hb)
         replace HO_384000 := am_ (Kd.R_elder' (ur_ HO_384000.out) (Kd.R_base ho0) hb)
         replace HO_396000 := am_ (Kd.R_elder' (ur_ HO_396000.out) (Kd.R_base ho0) hb)
         replace HO412 := am_ (Kd.R_elder' (ur_ HO412.out) (Kd.R_base ho0) hb)
         replace BK356 := bs_ BK356 hb
         replace BK357 := bs_ BK357 hb
         replace BK376 := bs_ BK376 hb
         replace BK383 := bs_ BK383 hb
         replace BK395 := bs_ BK395 hb
         replace BK427 := bs_ BK427 hb
         replace HB := hs_ HB hb
         (try clear hb)
         (try clear hb2)
         (try clear hk)
         (try clear hi)
         (try clear ho0)
         refine hK.out _ _ ⟨cb_ BK356.out 0 rfl, cb_ BK356.out 1 rfl, cb_ BK356.out 2 rfl, cb_ BK356.out 3 rfl, cb_ BK357.out 0 rfl, cb_ BK357.out 1 rfl, cb_ BK357.out 2 rfl, cb_ BK357.out 3 rfl⟩ (fun hHeld => ?_)
         clear hK K
         refine norm_ (a' := ?_) ?_ ?_
         rotate_left
         ·
          show Act.put _ (some 94) _ = _
          simp only [Act.put, List.setIfInBounds_toArray, List.set_cons_zero, List.set_cons_succ, i64_w, i32_w]
          rfl
         refine pu_ (i := 7) (N := some 87) #[true, true, true, true, true, true, true, true, false, false, true, false, false] HT_ ?_
         refine pu_ (i := 8) (N := some 95) #[true, true, true, true, true, true, true, true, true, false, true, false, false] HT_ ?_
         refine pu_ (i := 9) (N := some 96) #[true, true, true, true, true, true, true, true, true, true, true, false, false] HT_ ?_
         exact norm_ (by simp only [putAll, Act.put, List.setIfInBounds_toArray, List.set_cons_zero, List.set_cons_succ]) (hCont (.slice Ao138 t410.length co138, v421, gb427) _ ⟨hHeld, (by (with_reducible repeat (first | apply Kd.R_alloc | apply Kd.R_drewN | apply Kd.R_drew)); exact Kd.R_mono HO412.out (fun _ hk => by first | exact ⟨hk.2, ⟨hk.1.1.1.2, ⟨hk.1.1.2, hk.1.2⟩⟩⟩ | grind)), (by (with_reducible repeat (first | apply Kd.R_alloc | apply Kd.R_drewN | apply Kd.R_drew)); exact Kd.R_mono HO422.out (fun _ hk => by first | exact ⟨hk.2, ⟨hk.1.1.1.2, ⟨hk.1.1.2, hk.1.2⟩⟩⟩ | grind)), (by (with_reducible repeat (first | apply Kd.R_alloc | apply Kd.R_drewN | apply Kd.R_drew)); exact Kd.R_mono HO_377000.out (fun _ hk => by first | exact ⟨hk.1.2, ⟨hk.2, ⟨hk.1.1.1, hk.1.1.2⟩⟩⟩ | grind)), (by (with_reducible repeat (first | apply Kd.R_alloc | apply Kd.R_drewN | apply Kd.R_drew)); exact Kd.R_mono HO_384000.out (fun _ hk => by first | exact ⟨hk.1.2, ⟨hk.2, ⟨hk.1.1.1, hk.1.1.2⟩⟩⟩ | grind)), (by (with_reducible repeat (first | apply Kd.R_alloc | apply Kd.R_drewN | apply Kd.R_drew)); exact Kd.R_mono HO_396000.out (fun _ hk => by first | exact ⟨hk.1.2, ⟨hk.2, ⟨hk.1.1.1, hk.1.1.2⟩⟩⟩ | grind)), (ub_ BK356.out), (ub_ BK357.out), (ub_ BK376.out), (ub_ BK383.out), (ub_ BK395.out), (ub_ BK427.out), GW427.out, GE427.out, NB356_427.out, NB427_356.out, NB357_427.out, NB427_357.out, NB376_427.out, NB427_376.out, NB383_427.out, NB427_383.out, NB395_427.out, NB427_395.out, (ue_ HB.out)⟩)
        skip
        refine box_step ?hg (N := 18) ?hd (cs := #[.slice none 0 0, .int .i64 0, .int .i64 0, .int .i64 0]) (t := 30) ?hr ?_; (case hd => rfl); (case hg => rfl); (case hr => first | (go_simp; done) | (go_simp; rfl))
        intro gb427 hg w135 hbox hb
        replace HO_377000 := am_ (Kd.R_below (ur_ HO_377000.out) hb)
        replace HO_384000 := am_ (Kd.R_below (ur_ HO_384000.out) hb)
        replace HO_396000 := am_ (Kd.R_below (ur_ HO_396000.out) hb)
        have BK427 := am_ (hbox)
        have GW427 := gs_ hg HB.out
        have GE427 := gs_ hg HB.out
        replace HB := hs_ HB hb
        have NB356_427 := nl_ hg BK356.out
        have NB427_356 := ng_ hg BK356.out
        replace BK356 := bs_ BK356 hb
        have NB357_427 := nl_ hg BK357.out
        have NB427_357 := ng_ hg BK357.out
        replace BK357 := bs_ BK357 hb
        have NB376_427 := nl_ hg BK376.out
        have NB427_376 := ng_ hg BK376.out
        replace BK376 := bs_ BK376 hb
        have NB383_427 := nl_ hg BK383.out
        have NB427_383 := ng_ hg BK383.out
        replace BK383 := bs_ BK383 hb
        have NB395_427 := nl_ hg BK395.out
        have NB427_395 := ng_ hg BK395.out
        replace BK395 := bs_ BK395 hb
        clear hb hbox hg
        refine hK.out _ _ ⟨cb_ BK356.out 0 rfl, cb_ BK356.out 1 rfl, cb_ BK356.out 2 rfl, cb_ BK356.out 3 rfl, cb_ BK357.out 0 rfl, cb_ BK357.out 1 rfl, cb_ BK357.out 2 rfl, cb_ BK357.out 3 rfl⟩ (fun hHeld => ?_)
        clear hK K
        refine norm_ (a' := ?_) ?_ ?_
        rotate_left
        ·
         show Act.put _ (some 18) _ = _
         simp only [Act.put, List.setIfInBounds_toArray, List.set_cons_zero, List.set_cons_succ, i64_w, i32_w]
         rfl
        refine one_ (i := 1) (N := some 89) #[true, true, true, true, true, false, false, false, false, false, true, false, false] rfl rfl (one_of HT_.out (by kernel_rfl)) (by decide) (fun K hK => ?_)
        refine goes_ Try.func7 (by kernel_rfl) rfl #[.agg #[.slice A0_0 l0_0.length c0_0, .int .i64 a0_1, .int .i64 a0_2, .int .i64 a0_3]] (by rfl) rfl rfl ul_ ?_
        with_reducible refine (laws_toShard.calls kj82 _ _ l0_0 a0_1 a0_2 a0_3 t410 t413 t414 t415 _ ?side1 ?side2 A122.out).mono ?_
        (case side1 => repeat (first | exact (Kd.C_below HR0_0.out HB.out) | (with_reducible refine Kd.C_alloc ?_ _) | (with_reducible refine Kd.C_drewN ?_ _) | (with_reducible refine Kd.C_drew ?_)))
        (case side2 => exact HC0_0.out)
        rintro e w136 ⟨v411, rfl, ho0, hb⟩
        refine ⟨_, rfl, ?_⟩
        have HO412 := am_ (Kd.R_lower (Kd.R_new' (Kd.R_new' (Kd.R_new' ho0 (Kd.R_lt (ur_ HO_377000.out))) (Kd.R_lt (ur_ HO_384000.out))) (Kd.R_lt (ur_ HO_396000.out))) (below_size (ue_ HB.out)))
        replace HO_377000 := am_ (Kd.R_elder' (ur_ HO_377000.out) (Kd.R_base ho0) hb)
        replace HO_384000 := am_ (Kd.R_elder' (ur_ HO_384000.out) (Kd.R_base ho0) hb)
        replace HO_396000 := am_ (Kd.R_elder' (ur_ HO_396000.out) (Kd.R_base ho0) hb)
        replace BK356 := bs_ BK356 hb
        replace BK357 := bs_ BK357 hb
        replace BK376 := bs_ BK376 hb
        replace BK383 := bs_ BK383 hb
        replace BK395 := bs_ BK395 hb
        replace BK427 := bs_ BK427 hb
        replace HB := hs_ HB hb
        (try clear hb)
        (try clear hb2)
        (try clear hk)
        (try clear hi)
        (try clear ho0)
        refine hK.out _ _ ⟨cb_ BK356.out 0 rfl, cb_ BK356.out 1 rfl, cb_ BK356.out 2 rfl, cb_ BK356.out 3 rfl, cb_ BK357.out 0 rfl, cb_ BK357.out 1 rfl, cb_ BK357.out 2 rfl, cb_ BK357.out 3 rfl⟩ (fun hHeld => ?_)
        clear hK K
        refine norm_ (a' := ?_) ?_ ?_
        rotate_left
        ·
         show Act.put _ (some 89) _ = _
         simp only [Act.put, List.setIfInBounds_toArray, List.set_cons_zero, List.set_cons_succ, i64_w, i32_w]
         rfl
        refine one_ (i := 5) (N := some 93) #[true, true, true, true, true, true, false, false, false, false, true, false, false] rfl rfl (one_of HT_.out (by kernel_rfl)) (by decide) (fun K hK => ?_)
        refine goes_ Try.func8 (by kernel_rfl) rfl #[.agg #[.int .i64 a3_0, .int .i64 a3_1, .int .i64 a3_2, .int .i64 a3_3]] (by rfl) rfl rfl ul_ ?_
        with_reducible refine (laws_toFrame.calls a3_0 a3_1 a3_2 a3_3 t416 t417 t418 t419 _ A123.out).mono ?_
        rintro e w137 ⟨rfl, hb⟩
        refine ⟨_, rfl, ?_⟩
        replace HO_377000 := am_ (Kd.R_below (ur_ HO_377000.out) hb)
        replace HO_384000 := am_ (Kd.R_below (ur_ HO_384000.out) hb)
        replace HO_396000 := am_ (Kd.R_below (ur_ HO_396000.out) hb)
        replace HO412 := am_ (Kd.R_below (ur_ HO412.out) hb)
        replace BK356 := bs_ BK356 hb
        replace BK357 := bs_ BK357 hb
        replace BK376 := bs_ BK376 hb
        replace BK383 := bs_ BK383 hb
        replace BK395 := bs_ BK395 hb
        replace BK427 := bs_ BK427 hb
        replace HB := hs_ HB hb
        (try clear hb)
        (try clear hb2)
        (try clear hk)
        (try clear hi)
        obtain ⟨Ao138, co138, eo138⟩ := Kd.R_slice HO412.out
        (first | subst eo138 | (injection eo138 with f1_ f2_ f3_; have f4_ := f1_.symm; have f5_ := f3_.symm; clear f1_ f2_ f3_; subst f4_; subst f5_))
        refine hK.out _ _ ⟨cb_ BK356.out 0 rfl, cb_ BK356.out 1 rfl, cb_ BK356.out 2 rfl, cb_ BK356.out 3 rfl, cb_ BK357.out 0 rfl, cb_ BK357.out 1 rfl, cb_ BK357.out 2 rfl, cb_ BK357.out 3 rfl⟩ (fun hHeld => ?_)
        clear hK K
        refine norm_ (a' := ?_) ?_ ?_
        rotate_left
        ·
         show Act.put _ (some 93) _ = _
         simp only [Act.put, List.setIfInBounds_toArray, List.set_cons_zero, List.set_cons_succ, i64_w, i32_w]
         rfl
        refine one_ (i := 6) (N := some 94) #[true, true, true, true, true, true, true, false, false, false, true, false, false] rfl rfl (one_of HT_.out (by kernel_rfl)) (by decide) (fun K hK => ?_)
        refine goes_ Try.func9 (by kernel_rfl) rfl #[.agg #[.slice Ao138 t410.length co138, .int .i64 t413, .int .i64 t414, .int .i64 t415], .int .i64 a1, .int .i64 a2, .agg #[.int .i64 t416, .int .i64 t417, .int .i64 t418, .int .i64 t419]] (by rfl) rfl rfl ul_ ?_
        with_reducible refine (impl_AddEvent.calls kj82 _ _ t410 t413 t414 t415 a1 a2 t416 t417 t418 t419 t420 t423 t424 t425 t426 _ ?side1 ?side2 A124.out).mono ?_
        (case side1 => repeat (first | exact (Kd.R_reads' HO412.out).2.2 | (with_reducible refine Kd.C_alloc ?_ _) | (with_reducible refine Kd.C_drewN ?_ _) | (with_reducible refine Kd.C_drew ?_)))
        (case side2 => exact (Kd.R_reads' HO412.out).2.1)
        rintro e w139 ⟨v421, rfl, ho0, hb⟩
        refine ⟨_, rfl, ?_⟩
        have HO422 := am_ (Kd.R_lower (Kd.R_new' (Kd.R_new' (Kd.R_new' (Kd.R_new' ho0 (Kd.R_lt (ur_ HO_377000.out))) (Kd.R_lt (ur_ HO_384000.out))) (Kd.R_lt (ur_ HO_396000.out))) (Kd.R_lt (ur_ HO412.out))) (below_size (ue_ HB.out)))
        replace HO_377000 := am_ (Kd.R_elder' (ur_ HO_377000.out) (Kd.R_base ho0) hb)
        replace HO_384000 := am_ (Kd.R_elder' (ur_ HO_384000.out) (Kd.R_base ho0) hb)
        replace HO_396000 := am_ (Kd.R_elder' (ur_ HO_396000.out) (Kd.R_base ho0) hb)
        replace HO412 := am_ (Kd.R_elder' (ur_ HO412.out) (Kd.R_base ho0) hb)
        replace BK356 := bs_ BK356 hb
        replace BK357 := bs_ BK357 hb
        replace BK376 := bs_ BK376 hb
        replace BK383 := bs_ BK383 hb
        replace BK395 := bs_ BK395 hb
        replace BK427 := bs_ BK427 hb
        replace HB := hs_ HB hb
        (try clear hb)
        (try clear hb2)
        (try clear hk)
        (try clear hi)
        (try clear ho0)
        refine hK.out _ _ ⟨cb_ BK356.out 0 rfl, cb_ BK356.out 1 rfl, cb_ BK356.out 2 rfl, cb_ BK356.out 3 rfl, cb_ BK357.out 0 rfl, cb_ BK357.out 1 rfl, cb_ BK357.out 2 rfl, cb_ BK357.out 3 rfl⟩ (fun hHeld => ?_)
        clear hK K
        refine norm_ (a' := ?_) ?_ ?_
        rotate_left
        ·
         show Act.put _ (some 94) _ = _
         simp only [Act.put, List.setIfInBounds_toArray, List.set_cons_zero, List.set_cons_succ, i64_w, i32_w]
         rfl
        refine pu_ (i := 7) (N := some 87) #[true, true, true, true, true, true, true, true, false, false, true, false, false] HT_ ?_
        refine pu_ (i := 8) (N := some 95) #[true, true, true, true, true, true, true, true, true, false, true, false, false] HT_ ?_
        refine pu_ (i := 9) (N := some 96) #[true, true, true, true, true, true, true, true, true, true, true, false, false] HT_ ?_
        exact norm_ (by simp only [putAll, Act.put, List.setIfInBounds_toArray, List.set_cons_zero, List.set_cons_succ]) (hCont (.slice Ao138 t410.length co138, v421, gb427) _ ⟨hHeld, (by (with_reducible repeat (first | apply Kd.R_alloc | apply Kd.R_drewN | apply Kd.R_drew)); exact Kd.R_mono HO412.out (fun _ hk => by first | exact ⟨hk.2, ⟨hk.1.1.1.2, ⟨hk.1.1.2, hk.1.2⟩⟩⟩ | grind)), (by (with_reducible repeat (first | apply Kd.R_alloc | apply Kd.R_drewN | apply Kd.R_drew)); exact Kd.R_mono HO422.out (fun _ hk => by first | exact ⟨hk.2, ⟨hk.1.1.1.2, ⟨hk.1.1.2, hk.1.2⟩⟩⟩ | grind)), (by (with_reducible repeat (first | apply Kd.R_alloc | apply Kd.R_drewN | apply Kd.R_drew)); exact Kd.R_mono HO_377000.out (fun _ hk => by first | exact ⟨hk.1.2, ⟨hk.2, ⟨hk.1.1.1, hk.1.1.2⟩⟩⟩ | grind)), (by (with_reducible repeat (first | apply Kd.R_alloc | apply Kd.R_drewN | apply Kd.R_drew)); exact Kd.R_mono HO_384000.out (fun _ hk => by first | exact ⟨hk.1.2, ⟨hk.2, ⟨hk.1.1.1, hk.1.1.2⟩⟩⟩ | grind)), (by (with_reducible repeat (first | apply Kd.R_alloc | apply Kd.R_drewN | apply Kd.R_drew)); exact Kd.R_mono HO_396000.out (fun _ hk => by first | exact ⟨hk.1.2, ⟨hk.2, ⟨hk.1.1.1, hk.1.1.2⟩⟩⟩ | grind)), (ub_ BK356.out), (ub_ BK357.out), (ub_ BK376.out), (ub_ BK383.out), (ub_ BK395.out), (ub_ BK427.out), GW427.out, GE427.out, NB356_427.out, NB427_356.out, NB357_427.out, NB427_357.out, NB376_427.out, NB427_376.out, NB383_427.out, NB427_383.out, NB395_427.out, NB427_395.out, (ue_ HB.out)⟩)
       rintro ⟨v411, v421, gb427⟩ w140 ⟨hS_, h0_, h1_, h2_, h3_, h4_, h5_, h6_, h7_, h8_, h9_, h10_, h11_, h12_, h13_, h14_, h15_, h16_, h17_, h18_, h19_, h20_, h21_, h22_, h23_⟩
       have HO412 : Aside0 (Kd.R k62 62 w140 w.heap.size (fun k_ => some k_ ≠ (v421 : Value).ownBlock ∧ some k_ ≠ (.slice Ao31 t369.length co31 : Value).ownBlock ∧ some k_ ≠ (.slice Ao40 t405.length co40 : Value).ownBlock ∧ some k_ ≠ (.slice Ao51 t388.length co51 : Value).ownBlock) v411 t410) := ⟨h0_⟩
       have HO422 : Aside0 (Kd.R k62 62 w140 w.heap.size (fun k_ => some k_ ≠ (v411 : Value).ownBlock ∧ some k_ ≠ (.slice Ao31 t369.length co31 : Value).ownBlock ∧ some k_ ≠ (.slice Ao40 t405.length co40 : Value).ownBlock ∧ some k_ ≠ (.slice Ao51 t388.length co51 : Value).ownBlock) v421 t420) := ⟨h1_⟩
       replace HO_377000 : Aside0 (Kd.R k62 62 w140 w.heap.size (fun k_ => some k_ ≠ (v411 : Value).ownBlock ∧ some k_ ≠ (v421 : Value).ownBlock ∧ some k_ ≠ (.slice Ao40 t405.length co40 : Value).ownBlock ∧ some k_ ≠ (.slice Ao51 t388.length co51 : Value).ownBlock) (.slice Ao31 t369.length co31) t369) := ⟨h2_⟩
       replace HO_384000 : Aside0 (Kd.R k62 62 w140 w.heap.size (fun k_ => some k_ ≠ (v411 : Value).ownBlock ∧ some k_ ≠ (v421 : Value).ownBlock ∧ some k_ ≠ (.slice Ao31 t369.length co31 : Value).ownBlock ∧ some k_ ≠ (.slice Ao51 t388.length co51 : Value).ownBlock) (.slice Ao40 t405.length co40) t405) := ⟨h3_⟩
       replace HO_396000 : Aside0 (Kd.R k62 62 w140 w.heap.size (fun k_ => some k_ ≠ (v411 : Value).ownBlock ∧ some k_ ≠ (v421 : Value).ownBlock ∧ some k_ ≠ (.slice Ao31 t369.length co31 : Value).ownBlock ∧ some k_ ≠ (.slice Ao40 t405.length co40 : Value).ownBlock) (.slice Ao51 t388.length co51) t408) := ⟨h4_⟩
       replace BK356 : Aside0 (w140.heap[gb356]? = some (.cells #[.slice A0_0 l0_0.length c0_0, .int .i64 a0_1, .int .i64 a0_2, .int .i64 a0_3] 24 (0, 0))) := ⟨h5_⟩
       replace BK357 : Aside0 (w140.heap[gb357]? = some (.cells #[.int .i64 a3_0, .int .i64 a3_1, .int .i64 a3_2, .int .i64 a3_3] 26 (0, 0))) := ⟨h6_⟩
       replace BK376 : Aside0 (w140.heap[gb376]? = some (.cells #[.slice Ao31 t369.length co31, .int .i64 t372, .int .i64 t373, .int .i64 t374] 30 (0, 0))) := ⟨h7_⟩
       replace BK383 : Aside0 (w140.heap[gb383]? = some (.cells #[.slice Ao40 t405.length co40, .int .i64 t380, .int .i64 t381, .int .i64 t382] 30 (0, 0))) := ⟨h8_⟩
       replace BK395 : Aside0 (w140.heap[gb395]? = some (.cells #[.slice Ao51 t388.length co51, .int .i64 t391, .int .i64 t392, .int .i64 t393] 30 (0, 0))) := ⟨h9_⟩
       have BK427 : Aside0 (w140.heap[gb427]? = some (.cells #[.slice none 0 0, .int .i64 0, .int .i64 0, .int .i64 0] 30 (0, 0))) := ⟨h10_⟩
       have GW427 : Aside0 (w.heap.size ≤ gb427) := ⟨h11_⟩
       have GE427 : Aside0 (w.heap.size ≤ gb427) := ⟨h12_⟩
       have NB356_427 : Aside0 (gb356 ≠ gb427) := ⟨h13_⟩
       have NB427_356 : Aside0 (gb427 ≠ gb356) := ⟨h14_⟩
       have NB357_427 : Aside0 (gb357 ≠ gb427) := ⟨h15_⟩
       have NB427_357 : Aside0 (gb427 ≠ gb357) := ⟨h16_⟩
       have NB376_427 : Aside0 (gb376 ≠ gb427) := ⟨h17_⟩
       have NB427_376 : Aside0 (gb427 ≠ gb376) := ⟨h18_⟩
       have NB383_427 : Aside0 (gb383 ≠ gb427) := ⟨h19_⟩
       have NB427_383 : Aside0 (gb427 ≠ gb383) := ⟨h20_⟩
       have NB395_427 : Aside0 (gb395 ≠ gb427) := ⟨h21_⟩
       have NB427_395 : Aside0 (gb427 ≠ gb395) := ⟨h22_⟩
       replace HB : Aside0 (Below w.heap.size w w140) := ⟨h23_⟩
       clear h0_ h1_ h2_ h3_ h4_ h5_ h6_ h7_ h8_ h9_ h10_ h11_ h12_ h13_ h14_ h15_ h16_ h17_ h18_ h19_ h20_ h21_ h22_ h23_
       have hHeld : w140.cell? ⟨gb356, 0, none⟩ = some (.slice A0_0 l0_0.length c0_0) ∧ w140.cell? ⟨gb356, 1, none⟩ = some (.int .i64 a0_1) ∧ w140.cell? ⟨gb356, 2, none⟩ = some (.int .i64 a0_2) ∧ w140.cell? ⟨gb356, 3, none⟩ = some (.int .i64 a0_3) ∧ w140.cell? ⟨gb357, 0, none⟩ = some (.int .i64 a3_0) ∧ w140.cell? ⟨gb357, 1, none⟩ = some (.int .i64 a3_1) ∧ w140.cell? ⟨gb357, 2, none⟩ = some (.int .i64 a3_2) ∧ w140.cell? ⟨gb357, 3, none⟩ = some (.int .i64 a3_3) := hS_
       obtain ⟨Ao141, co141, eo141⟩ := Kd.R_slice HO422.out
       (first | subst eo141 | (injection eo141 with f1_ f2_ f3_; have f4_ := f1_.symm; have f5_ := f3_.symm; clear f1_ f2_ f3_; subst f4_; subst f5_))
       refine norm_ (a' := ?_) ?_ ?_
       rotate_left
       ·
        simp only [putAll, Act.put, List.setIfInBounds_toArray, List.set_cons_zero, List.set_cons_succ]
        rfl
       refine one_ (i := 11) (N := none) #[true, true, true, true, true, true, true, true, true, true, true, true, false] rfl rfl (one_of HT_.out (by kernel_rfl)) (by decide) (fun K hK => ?_)
       have hs142 := cb_ BK427.out 0 rfl
       have hfs142 := blk_frozen BK427.out 0
       have hns142_0 := NB356_427.out
       have hns142_1 := NB357_427.out
       have hns142_2 := NB376_427.out
       have hns142_3 := NB383_427.out
       have hns142_4 := NB395_427.out
       have hms142_0 := NB427_356.out
       have hms142_1 := NB427_357.out
       have hms142_2 := NB427_376.out
       have hms142_3 := NB427_383.out
       have hms142_4 := NB427_395.out
       have hs143 := cb_ BK427.out 1 rfl
       have hfs143 := blk_frozen BK427.out 1
       have hns143_0 := NB356_427.out
       have hns143_1 := NB357_427.out
       have hns143_2 := NB376_427.out
       have hns143_3 := NB383_427.out
       have hns143_4 := NB395_427.out
       have hms143_0 := NB427_356.out
       have hms143_1 := NB427_357.out
       have hms143_2 := NB427_376.out
       have hms143_3 := NB427_383.out
       have hms143_4 := NB427_395.out
       have hs144 := cb_ BK427.out 2 rfl
       have hfs144 := blk_frozen BK427.out 2
       have hns144_0 := NB356_427.out
       have hns144_1 := NB357_427.out
       have hns144_2 := NB376_427.out
       have hns144_3 := NB383_427.out
       have hns144_4 := NB395_427.out
       have hms144_0 := NB427_356.out
       have hms144_1 := NB427_357.out
       have hms144_2 := NB427_376.out
       have hms144_3 := NB427_383.out
       have hms144_4 := NB427_395.out
       have hs145 := cb_ BK427.out 3 rfl
       have hfs145 := blk_frozen BK427.out 3
       have hns145_0 := NB356_427.out
       have hns145_1 := NB357_427.out
       have hns145_2 := NB376_427.out
       have hns145_3 := NB383_427.out
       have hns145_4 := NB395_427.out
       have hms145_0 := NB427_356.out
       have hms145_1 := NB427_357.out
       have hms145_2 := NB427_376.out
       have hms145_3 := NB427_383.out
       have hms145_4 := NB427_395.out
       refine skip_ (w1 := ?_) (by rfl) rfl ?_ ?_
       rotate_left
       ·
        go_simp
        rfl
       refine hK.out _ _ ⟨(cf4_ hHeld.1 NB356_427.out), (cf4_ hHeld.2.1 NB356_427.out), (cf4_ hHeld.2.2.1 NB356_427.out), (cf4_ hHeld.2.2.2.1 NB356_427.out), (cf4_ hHeld.2.2.2.2.1 NB357_427.out), (cf4_ hHeld.2.2.2.2.2.1 NB357_427.out), (cf4_ hHeld.2.2.2.2.2.2.1 NB357_427.out), (cf4_ hHeld.2.2.2.2.2.2.2 NB357_427.out)⟩ (fun hHeld => ?_)
       clear hK K
       refine pu_ (i := 12) (N := some 19) #[true, true, true, true, true, true, true, true, true, true, true, true, true] HT_ ?_
       refine done_ (done_of HT_.out (by kernel_rfl)) ?_
       go_upto_region 25 with (fail)
       go_cut [105] (fun v105 wc => ∃ (kq : Nat) (x105_124 : Bool), v105 = .bool x105_124 ∧ Aside0 (laws_FnExactAddEvent.j2 kq t407 x105_124 t408 t391 t392 t393 = some r) ∧ Aside0 (kq ≤ kj82) ∧ Aside0 (Kd.R k62 62 wc w.heap.size (fun k_ => some k_ ≠ ((.slice Ao40 t405.length co40) : Value).ownBlock ∧ some k_ ≠ ((.slice Ao51 t388.length co51) : Value).ownBlock ∧ some k_ ≠ ((.slice Ao141 t420.length co141) : Value).ownBlock) (.slice Ao31 t369.length co31) t369) ∧ Aside0 (Kd.R k62 62 wc w.heap.size (fun k_ => some k_ ≠ ((.slice Ao31 t369.length co31) : Value).ownBlock ∧ some k_ ≠ ((.slice Ao51 t388.length co51) : Value).ownBlock ∧ some k_ ≠ ((.slice Ao141 t420.length co141) : Value).ownBlock) (.slice Ao40 t405.length co40) t405) ∧ Aside0 (Kd.R k62 62 wc w.heap.size (fun k_ => some k_ ≠ ((.slice Ao31 t369.length co31) : Value).ownBlock ∧ some k_ ≠ ((.slice Ao40 t405.length co40) : Value).ownBlock ∧ some k_ ≠ ((.slice Ao141 t420.length co141) : Value).ownBlock) (.slice Ao51 t388.length co51) t408) ∧ Aside0 (Kd.R k62 62 wc w.heap.size (fun k_ => some k_ ≠ ((.slice Ao31 t369.length co31) : Value).ownBlock ∧ some k_ ≠ ((.slice Ao40 t405.length co40) : Value).ownBlock ∧ some k_ ≠ ((.slice Ao51 t388.length co51) : Value).ownBlock) (.slice Ao141 t420.length co141) t420) ∧ Aside0 (wc.heap[gb356]? = some (.cells #[(.slice A0_0 l0_0.length c0_0), .int .i64 a0_1, .int .i64 a0_2, .int .i64 a0_3] 24 (0, 0))) ∧ Aside0 (wc.heap[gb357]? = some (.cells #[.int .i64 a3_0, .int .i64 a3_1, .int .i64 a3_2, .int .i64 a3_3] 26 (0, 0))) ∧ Aside0 (wc.heap[gb376]? = some (.cells #[(.slice Ao31 t369.length co31), .int .i64 t372, .int .i64 t373, .int .i64 t374] 30 (0, 0))) ∧ Aside0 (wc.heap[gb383]? = some (.cells #[(.slice Ao40 t405.length co40), .int .i64 t380, .int .i64 t381, .int .i64 t382] 30 (0, 0))) ∧ Aside0 (wc.heap[gb395]? = some (.cells #[(.slice Ao51 t388.length co51), .int .i64 t391, .int .i64 t392, .int .i64 t393] 30 (0, 0))) ∧ Aside0 (wc.heap[gb427]? = some (.cells #[(.slice Ao141 t420.length co141), .int .i64 t423, .int .i64 t424, .int .i64 t425] 30 (0, 0))) ∧ Aside0 (Below w.heap.size w wc))
       case first =>
        have H := HC125.out
        clear HC125
        replace H := Option.bind_eq_some_iff.mp H
        obtain ⟨t428, A1460, H⟩ := H
        replace H : (if t428 = true then (laws_FnExactAddEvent.j2 kj82 t407 (t426 != t375) t408 t391 t392 t393) else (laws_FnExactAddEvent.j2 kj82 t407 true t408 t391 t392 t393)) = some r := H
        have A146 := Aside0.mk A1460
        clear A1460
        by_cases c147 : t428 = true
        ·
         subst c147
         have H1 : (laws_FnExactAddEvent.j2 kj82 t407 (t426 != t375) t408 t391 t392 t393) = some r := by rw [if_pos rfl] at H; exact H
         clear H
         have H := H1
         clear H1
         have H' := Aside0.mk H
         clear H
         have hnb148 := NB427_356.out
         have hnc148 := NB356_427.out
         have hnb149 := NB427_357.out
         have hnc149 := NB357_427.out
         have hnb150 := NB427_376.out
         have hnc150 := NB376_427.out
         have hnb151 := NB427_383.out
         have hnc151 := NB383_427.out
         have hnb152 := NB427_395.out
         have hnc152 := NB395_427.out
         obtain ⟨hcz153_0, hcz153_1, hcz153_2, hcz153_3⟩ := cbz4_ BK427.out
         obtain ⟨hfz153_0, hfz153_1, hfz153_2, hfz153_3⟩ := bfz4_ BK427.out
         have hnb154 := NB376_356.out
         have hnc154 := NB356_376.out
         have hnb155 := NB376_357.out
         have hnc155 := NB357_376.out
         have hnb156 := NB376_383.out
         have hnc156 := NB383_376.out
         have hnb157 := NB376_395.out
         have hnc157 := NB395_376.out
         obtain ⟨hcz158_0, hcz158_1, hcz158_2, hcz158_3⟩ := cbz4_ BK376.out
         obtain ⟨hfz158_0, hfz158_1, hfz158_2, hfz158_3⟩ := bfz4_ BK376.out
         go_wp2_with (first | ((with_reducible refine gate_callee (f := 10) rfl ?_); refine goesL_ (some 99) rfl rfl Try.func10 (by kernel_rfl) rfl #[.agg #[.slice Ao141 t420.length co141, .int .i64 t423, .int .i64 t424, .int .i64 t425], .agg #[.slice Ao31 t369.length co31, .int .i64 t372, .int .i64 t373, .int .i64 t374]] rfl ul_ ?_; (with_reducible refine (laws_eqShard.calls kj82 _ _ t420 t423 t424 t425 _ _ t369 t372 t373 t374 true _ ?side1 ?side2 ?side3 ?side4 A146.out).mono ?_); (case side1 => refine (Kd.R_reads' (e := 62) (base := w.heap.size) (ok := fun k_ => (some k_ ≠ (v411 : Value).ownBlock ∧ (some k_ ≠ (.slice Ao31 t369.length co31 : Value).ownBlock ∧ (some k_ ≠ (.slice Ao40 t405.length co40 : Value).ownBlock ∧ some k_ ≠ (.slice Ao51 t388.length co51 : Value).ownBlock)))) (n := t420.length) (c := co141) ?_).2.2; exact (by (with_reducible repeat (first | apply Kd.R_alloc | apply Kd.R_drewN | apply Kd.R_drew)); exact (Kd.R_mono (Rf4_ (g := gb427) (Kd.R_types HO422.out BK427.out (by decide))) (fun _ h_ => h_.1)))); (case side2 => exact (Kd.R_reads' HO422.out).2.1); (case side3 => refine (Kd.R_reads' (e := 62) (base := w.heap.size) (ok := fun k_ => (some k_ ≠ (v411 : Value).ownBlock ∧ (some k_ ≠ (.slice Ao141 t420.length co141 : Value).ownBlock ∧ (some k_ ≠ (.slice Ao40 t405.length co40 : Value).ownBlock ∧ some k_ ≠ (.slice Ao51 t388.length co51 : Value).ownBlock)))) (n := t369.length) (c := co31) ?_).2.2; exact (by (with_reducible repeat (first | apply Kd.R_alloc | apply Kd.R_drewN | apply Kd.R_drew)); exact (Kd.R_mono (Rf4_ (g := gb427) (Kd.R_types HO_377000.out BK427.out (by decide))) (fun _ h_ => h_.1)))); (case side4 => exact (Kd.R_reads' HO_377000.out).2.1); rintro e w159 ⟨rfl, hb⟩; refine ⟨_, rfl, ?_⟩; replace HO_377000 := am_ (Kd.R_below (by (with_reducible repeat (first | apply Kd.R_alloc | apply Kd.R_drewN | apply Kd.R_drew)); exact (Kd.R_mono (Rf4_ (g := gb427) (Kd.R_types HO_377000.out BK427.out (by decide))) (fun _ h_ => h_.1))) hb); replace HO_384000 := am_ (Kd.R_below (by (with_reducible repeat (first | apply Kd.R_alloc | apply Kd.R_drewN | apply Kd.R_drew)); exact (Kd.R_mono (Rf4_ (g := gb427) (Kd.R_types HO_384000.out BK427.out (by decide))) (fun _ h_ => h_.1))) hb); replace HO_396000 := am_ (Kd.R_below (by (with_reducible repeat (first | apply Kd.R_alloc | apply Kd.R_drewN | apply Kd.R_drew)); exact (Kd.R_mono (Rf4_ (g := gb427) (Kd.R_types HO_396000.out BK427.out (by decide))) (fun _ h_ => h_.1))) hb); replace HO412 := am_ (Kd.R_below (by (with_reducible repeat (first | apply Kd.R_alloc | apply Kd.R_drewN | apply Kd.R_drew)); exact (Kd.R_mono (Rf4_ (g := gb427) (Kd.R_types HO412.out BK427.out (by decide))) (fun _ h_ => h_.1))) hb); replace HO422 := am_ (Kd.R_below (by (with_reducible repeat (first | apply Kd.R_alloc | apply Kd.R_drewN | apply Kd.R_drew)); exact (Kd.R_mono (Rf4_ (g := gb427) (Kd.R_types HO422.out BK427.out (by decide))) (fun _ h_ => h_.1))) hb); replace BK356 := am_ (blk_below (g := gb356) (o := .cells #[.slice A0_0 l0_0.length c0_0, .int .i64 a0_1, .int .i64 a0_2, .int .i64 a0_3] 24 (0, 0)) (uf_ BK356.out) hb); replace BK357 := am_ (blk_below (g := gb357) (o := .cells #[.int .i64 a3_0, .int .i64 a3_1, .int .i64 a3_2, .int .i64 a3_3] 26 (0, 0)) (uf_ BK357.out) hb); replace BK376 := am_ (blk_below (g := gb376) (o := .cells #[.slice Ao31 t369.length co31, .int .i64 t372, .int .i64 t373, .int .i64 t374] 30 (0, 0)) (uf_ BK376.out) hb); replace BK383 := am_ (blk_below (g := gb383) (o := .cells #[.slice Ao40 t405.length co40, .int .i64 t380, .int .i64 t381, .int .i64 t382] 30 (0, 0)) (uf_ BK383.out) hb); replace BK395 := am_ (blk_below (g := gb395) (o := .cells #[.slice Ao51 t388.length co51, .int .i64 t391, .int .i64 t392, .int .i64 t393] 30 (0, 0)) (uf_ BK395.out) hb); replace BK427 := am_ (blk_below (g := gb427) (o := .cells #[.slice Ao141 t420.length co141, .int .i64 t423, .int .i64 t424, .int .i64 t425] 30 (0, 0)) (by (with_reducible repeat first|apply bn_|apply bd_|apply ba_); apply bp4_; (with_reducible repeat first|apply bn_|apply bd_|apply ba_); exact BK427.out) hb); replace HB := hs_ HB hb; (try clear hb); (try clear hb2); (try clear hk); (try clear hi)))
         go_meet
         case rel => exact ⟨_, ((t426 != t375)), (by first | rfl | (simp; done) | (simp [*]; done)), H', ⟨by have := HJ17.out; have := HJ82.out; first | omega | exact Nat.le_refl _⟩, ⟨by (try simp only [hl384000_82]); (with_reducible repeat (first | apply Kd.R_alloc | apply Kd.R_drewN | apply Kd.R_drew)); exact Kd.R_mono HO_377000.out (fun _ hk => by first | exact ⟨hk.2.2.1, ⟨hk.2.2.2, hk.2.1⟩⟩ | grind)⟩, ⟨by (try simp only [hl384000_82]); (with_reducible repeat (first | apply Kd.R_alloc | apply Kd.R_drewN | apply Kd.R_drew)); exact Kd.R_mono HO_384000.out (fun _ hk => by first | exact ⟨hk.2.2.1, ⟨hk.2.2.2, hk.2.1⟩⟩ | grind)⟩, ⟨by (try simp only [hl384000_82]); (with_reducible repeat (first | apply Kd.R_alloc | apply Kd.R_drewN | apply Kd.R_drew)); exact Kd.R_mono HO_396000.out (fun _ hk => by first | exact ⟨hk.2.2.1, ⟨hk.2.2.2, hk.2.1⟩⟩ | grind)⟩, ⟨by (try simp only [hl384000_82]); (with_reducible repeat (first | apply Kd.R_alloc | apply Kd.R_drewN | apply Kd.R_drew)); exact Kd.R_mono HO422.out (fun _ hk => by first | exact ⟨hk.2.1, ⟨hk.2.2.1, hk.2.2.2⟩⟩ | grind)⟩, ⟨by (try simp only [hl384000_82]); (with_reducible repeat first|apply bn_|apply bd_|apply ba_); exact BK356.out⟩, ⟨by (try simp only [hl384000_82]); (with_reducible repeat first|apply bn_|apply bd_|apply ba_); exact BK357.out⟩, ⟨by (try simp only [hl384000_82]); (with_reducible repeat first|apply bn_|apply bd_|apply ba_); exact BK376.out⟩, ⟨by (try simp only [hl384000_82]); (with_reducible repeat first|apply bn_|apply bd_|apply ba_); exact BK383.out⟩, ⟨by (try simp only [hl384000_82]); (with_reducible repeat first|apply bn_|apply bd_|apply ba_); exact BK395.out⟩, ⟨by (try simp only [hl384000_82]); (with_reducible repeat first|apply bn_|apply bd_|apply ba_); exact BK427.out⟩, ⟨ue_ HB.out⟩⟩
        replace c147 := Bool.eq_false_iff.mpr c147
        subst c147
        have H1 : (laws_FnExactAddEvent.j2 kj82 t407 true t408 t391 t392 t393) = some r := by rw [if_neg (show ¬ (false = true) by decide)] at H; exact H
        clear H
        have H := H1
        clear H1
        have H' := Aside0.mk H
        clear H
        have hnb160 := NB427_356.out
        have hnc160 := NB356_427.out
        have hnb161 := NB427_357.out
        have hnc161 := NB357_427.out
        have hnb162 := NB427_376.out
        have hnc162 := NB376_427.out
        have hnb163 := NB427_383.out
        have hnc163 := NB383_427.out
        have hnb164 := NB427_395.out
        have hnc164 := NB395_427.out
        obtain ⟨hcz165_0, hcz165_1, hcz165_2, hcz165_3⟩ := cbz4_ BK427.out
        obtain ⟨hfz165_0, hfz165_1, hfz165_2, hfz165_3⟩ := bfz4_ BK427.out
        have hnb166 := NB376_356.out
        have hnc166 := NB356_376.out
        have hnb167 := NB376_357.out
        have hnc167 := NB357_376.out
        have hnb168 := NB376_383.out
        have hnc168 := NB383_376.out
        have hnb169 := NB376_395.out
        have hnc169 := NB395_376.out
        obtain ⟨hcz170_0, hcz170_1, hcz170_2, hcz170_3⟩ := cbz4_ BK376.out
        obtain ⟨hfz170_0, hfz170_1, hfz170_2, hfz170_3⟩ := bfz4_ BK376.out
        go_wp2_with (first | ((with_reducible refine gate_callee (f := 10) rfl ?_); refine goesL_ (some 99) rfl rfl Try.func10 (by kernel_rfl) rfl #[.agg #[.slice Ao141 t420.length co141, .int .i64 t423, .int .i64 t424, .int .i64 t425], .agg #[.slice Ao31 t369.length co31, .int .i64 t372, .int .i64 t373, .int .i64 t374]] rfl ul_ ?_; (with_reducible refine (laws_eqShard.calls kj82 _ _ t420 t423 t424 t425 _ _ t369 t372 t373 t374 false _ ?side1 ?side2 ?side3 ?side4 A146.out).mono ?_); (case side1 => refine (Kd.R_reads' (e := 62) (base := w.heap.size) (ok := fun k_ => (some k_ ≠ (v411 : Value).ownBlock ∧ (some k_ ≠ (.slice Ao31 t369.length co31 : Value).ownBlock ∧ (some k_ ≠ (.slice Ao40 t405.length co40 : Value).ownBlock ∧ some k_ ≠ (.slice Ao51 t388.length co51 : Value).ownBlock)))) (n := t420.length) (c := co141) ?_).2.2; exact (by (with_reducible repeat (first | apply Kd.R_alloc | apply Kd.R_drewN | apply Kd.R_drew)); exact (Kd.R_mono (Rf4_ (g := gb427) (Kd.R_types HO422.out BK427.out (by decide))) (fun _ h_ => h_.1)))); (case side2 => exact (Kd.R_reads' HO422.out).2.1); (case side3 => refine (Kd.R_reads' (e := 62) (base := w.heap.size) (ok := fun k_ => (some k_ ≠ (v411 : Value).ownBlock ∧ (some k_ ≠ (.slice Ao141 t420.length co141 : Value).ownBlock ∧ (some k_ ≠ (.slice Ao40 t405.length co40 : Value).ownBlock ∧ some k_ ≠ (.slice Ao51 t388.length co51 : Value).ownBlock)))) (n := t369.length) (c := co31) ?_).2.2; exact (by (with_reducible repeat (first | apply Kd.R_alloc | apply Kd.R_drewN | apply Kd.R_drew)); exact (Kd.R_mono (Rf4_ (g := gb427) (Kd.R_types HO_377000.out BK427.out (by decide))) (fun _ h_ => h_.1)))); (case side4 => exact (Kd.R_reads' HO_377000.out).2.1); rintro e w171 ⟨rfl, hb⟩; refine ⟨_, rfl, ?_⟩; replace HO_377000 := am_ (Kd.R_below (by (with_reducible repeat (first | apply Kd.R_alloc | apply Kd.R_drewN | apply Kd.R_drew)); exact (Kd.R_mono (Rf4_ (g := gb427) (Kd.R_types HO_377000.out BK427.out (by decide))) (fun _ h_ => h_.1))) hb); replace HO_384000 := am_ (Kd.R_below (by (with_reducible repeat (first | apply Kd.R_alloc | apply Kd.R_drewN | apply Kd.R_drew)); exact (Kd.R_mono (Rf4_ (g := gb427) (Kd.R_types HO_384000.out BK427.out (by decide))) (fun _ h_ => h_.1))) hb); replace HO_396000 := am_ (Kd.R_below (by (with_reducible repeat (first | apply Kd.R_alloc | apply Kd.R_drewN | apply Kd.R_drew)); exact (Kd.R_mono (Rf4_ (g := gb427) (Kd.R_types HO_396000.out BK427.out (by decide))) (fun _ h_ => h_.1))) hb); replace HO412 := am_ (Kd.R_below (by (with_reducible repeat (first | apply Kd.R_alloc | apply Kd.R_drewN | apply Kd.R_drew)); exact (Kd.R_mono (Rf4_ (g := gb427) (Kd.R_types HO412.out BK427.out (by decide))) (fun _ h_ => h_.1))) hb); replace HO422 := am_ (Kd.R_below (by (with_reducible repeat (first | apply Kd.R_alloc | apply Kd.R_drewN | apply Kd.R_drew)); exact (Kd.R_mono (Rf4_ (g := gb427) (Kd.R_types HO422.out BK427.out (by decide))) (fun _ h_ => h_.1))) hb); replace BK356 := am_ (blk_below (g := gb356) (o := .cells #[.slice A0_0 l0_0.length c0_0, .int .i64 a0_1, .int .i64 a0_2, .int .i64 a0_3] 24 (0, 0)) (uf_ BK356.out) hb); replace BK357 := am_ (blk_below (g := gb357) (o := .cells #[.int .i64 a3_0, .int .i64 a3_1, .int .i64 a3_2, .int .i64 a3_3] 26 (0, 0)) (uf_ BK357.out) hb); replace BK376 := am_ (blk_below (g := gb376) (o := .cells #[.slice Ao31 t369.length co31, .int .i64 t372, .int .i64 t373, .int .i64 t374] 30 (0, 0)) (uf_ BK376.out) hb); replace BK383 := am_ (blk_below (g := gb383) (o := .cells #[.slice Ao40 t405.length co40, .int .i64 t380, .int .i64 t381, .int .i64 t382] 30 (0, 0)) (uf_ BK383.out) hb); replace BK395 := am_ (blk_below (g := gb395) (o := .cells #[.slice Ao51 t388.length co51, .int .i64 t391, .int .i64 t392, .int .i64 t393] 30 (0, 0)) (uf_ BK395.out) hb); replace BK427 := am_ (blk_below (g := gb427) (o := .cells #[.slice Ao141 t420.length co141, .int .i64 t423, .int .i64 t424, .int .i64 t425] 30 (0, 0)) (by (with_reducible repeat first|apply bn_|apply bd_|apply ba_); apply bp4_; (with_reducible repeat first|apply bn_|apply bd_|apply ba_); exact BK427.out) hb); replace HB := hs_ HB hb; (try clear hb); (try clear hb2); (try clear hk); (try clear hi)))
        go_meet
        case rel => exact ⟨_, (true), (by first | rfl | (simp; done) | (simp [*]; done)), H', ⟨by have := HJ17.out; have := HJ82.out; first | omega | exact Nat.le_refl _⟩, ⟨by (try simp only [hl384000_82]); (with_reducible repeat (first | apply Kd.R_alloc | apply Kd.R_drewN | apply Kd.R_drew)); exact Kd.R_mono HO_377000.out (fun _ hk => by first | exact ⟨hk.2.2.1, ⟨hk.2.2.2, hk.2.1⟩⟩ | grind)⟩, ⟨by (try simp only [hl384000_82]); (with_reducible repeat (first | apply Kd.R_alloc | apply Kd.R_drewN | apply Kd.R_drew)); exact Kd.R_mono HO_384000.out (fun _ hk => by first | exact ⟨hk.2.2.1, ⟨hk.2.2.2, hk.2.1⟩⟩ | grind)⟩, ⟨by (try simp only [hl384000_82]); (with_reducible repeat (first | apply Kd.R_alloc | apply Kd.R_drewN | apply Kd.R_drew)); exact Kd.R_mono HO_396000.out (fun _ hk => by first | exact ⟨hk.2.2.1, ⟨hk.2.2.2, hk.2.1⟩⟩ | grind)⟩, ⟨by (try simp only [hl384000_82]); (with_reducible repeat (first | apply Kd.R_alloc | apply Kd.R_drewN | apply Kd.R_drew)); exact Kd.R_mono HO422.out (fun _ hk => by first | exact ⟨hk.2.1, ⟨hk.2.2.1, hk.2.2.2⟩⟩ | grind)⟩, ⟨by (try simp only [hl384000_82]); (with_reducible repeat first|apply bn_|apply bd_|apply ba_); exact BK356.out⟩, ⟨by (try simp only [hl384000_82]); (with_reducible repeat first|apply bn_|apply bd_|apply ba_); exact BK357.out⟩, ⟨by (try simp only [hl384000_82]); (with_reducible repeat first|apply bn_|apply bd_|apply ba_); exact BK376.out⟩, ⟨by (try simp only [hl384000_82]); (with_reducible repeat first|apply bn_|apply bd_|apply ba_); exact BK383.out⟩, ⟨by (try simp only [hl384000_82]); (with_reducible repeat first|apply bn_|apply bd_|apply ba_); exact BK395.out⟩, ⟨by (try simp only [hl384000_82]); (with_reducible repeat first|apply bn_|apply bd_|apply ba_); exact BK427.out⟩, ⟨ue_ HB.out⟩⟩
       case rest =>
        clear HC125
        try clear c1
        try clear p2
        try clear c7
        try clear c8
        try clear c9
        try clear c10
        try clear c14
        try clear c15
        try clear c16
        try clear c147
        try clear c148
        try clear c149
        try clear c150
        try clear c151
        try clear c152
        try clear c154
        try clear c155
        try clear c156
        try clear c157
        try clear c160
        try clear c161
        try clear c162
        try clear c163
        try clear c164
        try clear c166
        try clear c167
        try clear c168
        try clear c169
        try clear hcz153_0
        try clear hcz153_1
        try clear hcz153_2
        try clear hcz153_3
        try clear hcz158_0
        try clear hcz158_1
        try clear hcz158_2
        try clear hcz158_3
        try clear hcz165_0
        try clear hcz165_1
        try clear hcz165_2
        try clear hcz165_3
        try clear hcz170_0
        try clear hcz170_1
        try clear hcz170_2
        try clear hcz170_3
        try clear hfz153_0
        try clear hfz153_1
        try clear hfz153_2
        try clear hfz153_3
        try clear hfz158_0
        try clear hfz158_1
        try clear hfz158_2
        try clear hfz158_3
        try clear hfz165_0
        try clear hfz165_1
        try clear hfz165_2
        try clear hfz165_3
        try clear hfz170_0
        try clear hfz170_1
        try clear hfz170_2
        try clear hfz170_3
        obtain ⟨kq, x105_124, rfl, HA, HJ124, HO_377000, HO_384000, HO_396000, HO_428000, BK356, BK357, BK376, BK383, BK395, BK427, HB⟩ := hcut
        have hl396000_124 := (Kd.R_reads' HO_396000.out).1
        rw [hl396000_124] at HO_396000
        (try simp only [hl396000_124])
        (try simp only [hl396000_124] at BK356)
        (try simp only [hl396000_124] at BK357)
        (try simp only [hl396000_124] at BK376)
        (try simp only [hl396000_124] at BK383)
        (try simp only [hl396000_124] at BK395)
        (try simp only [hl396000_124] at BK427)
        (try simp only [hl396000_124] at HO_377000)
        (try simp only [hl396000_124] at HO_384000)
        (try simp only [hl396000_124] at HO_428000)
        cases kq with
        | zero => exact absurd HA.out (by simp [laws_FnExactAddEvent.j2])
        | succ kj124 =>
         have H := HA.out
         clear HA
         simp only [laws_FnExactAddEvent.j2] at H
         by_cases c172 : x105_124 = true
         ·
          subst c172
          have H1 : (some false) = some r := by rw [if_pos rfl] at H; exact H
          clear H
          have H := H1
          clear H1
          exact absurd ((Option.some.inj H).trans hT.out) (by decide)
         replace c172 := Bool.eq_false_iff.mpr c172
         subst c172
         have H1 : ((laws_heldShard.f kj124 t408 t391 t392 t393 1).bind fun t429 => (if t429 < 0 then (some false) else (if t429 = t407 then (some true) else (some false)))) = some r := by rw [if_neg (show ¬ (false = true) by decide)] at H; exact H
         clear H
         have H := H1
         clear H1
         replace H := Option.bind_eq_some_iff.mp H
         obtain ⟨t429, A1730, H⟩ := H
         replace H : (if t429 < 0 then (some false) else (if t429 = t407 then (some true) else (some false))) = some r := H
         have A173 := Aside0.mk A1730
         clear A1730
         by_cases c174 : t429 < 0
         ·
          rw [if_pos c174] at H
          have c174b0 : decide (t429 < 0) = true := decide_eq_true c174
          clear c174
          exact absurd ((Option.some.inj H).trans hT.out) (by decide)
         rw [if_neg c174] at H
         have c174b0 : decide (t429 < 0) = false := decide_eq_false c174
         clear c174
         by_cases c175 : t429 = t407
         ·
          rw [if_pos c175] at H
          have c175b0 : (t429 == t407) = true := beq_iff_eq.mpr c175
          have c175b1 : (t429 != t407) = false := bne_eq_false_iff_eq.mpr c175
          clear c175
          obtain rfl := Option.some.inj H
          have hnb176 := NB395_356.out
          have hnc176 := NB356_395.out
          have hnb177 := NB395_357.out
          have hnc177 := NB357_395.out
          have hnb178 := NB395_376.out
          have hnc178 := NB376_395.out
          have hnb179 := NB395_383.out
          have hnc179 := NB383_395.out
          have hnb180 := NB395_427.out
          have hnc180 := NB427_395.out
          obtain ⟨hcz181_0, hcz181_1, hcz181_2, hcz181_3⟩ := cbz4_ BK395.out
          obtain ⟨hfz181_0, hfz181_1, hfz181_2, hfz181_3⟩ := bfz4_ BK395.out
          go_wp2_with (first | ((with_reducible refine gate_callee (f := 12) rfl ?_); refine goesL_ (some 108) rfl rfl Try.func12 (by kernel_rfl) rfl #[.agg #[.slice Ao51 t408.length co51, .int .i64 t391, .int .i64 t392, .int .i64 t393], .int .i64 1] rfl ul_ ?_; (with_reducible refine (laws_heldShard.calls kj124 _ _ t408 t391 t392 t393 1 t429 _ ?side1 ?side2 A173.out).mono ?_); (case side1 => repeat (first | exact (Kd.R_reads' HO_396000.out).2.2 | (with_reducible refine Kd.C_alloc ?_ _) | (with_reducible refine Kd.C_drewN ?_ _) | (with_reducible refine Kd.C_drew ?_))); (case side2 => exact (Kd.R_reads' HO_396000.out).2.1); rintro e w182 ⟨rfl, hb⟩; refine ⟨_, rfl, ?_⟩; replace HO_377000 := am_ (Kd.R_below (ur_ HO_377000.out) hb); replace HO_384000 := am_ (Kd.R_below (ur_ HO_384000.out) hb); replace HO_396000 := am_ (Kd.R_below (ur_ HO_396000.out) hb); replace HO_428000 := am_ (Kd.R_below (ur_ HO_428000.out) hb); replace BK356 := bs_ BK356 hb; replace BK357 := bs_ BK357 hb; replace BK376 := bs_ BK376 hb; replace BK383 := bs_ BK383 hb; replace BK395 := bs_ BK395 hb; replace BK427 := bs_ BK427 hb; replace HB := hs_ HB hb; (try clear hb); (try clear hb2); (try clear hk); (try clear hi)))
          go_ret
          exact ⟨ew_, ue_ HB.out⟩
         rw [if_neg c175] at H
         have c175b0 : (t429 == t407) = false := beq_eq_false_iff_ne.mpr c175
         have c175b1 : (t429 != t407) = true := bne_iff_ne.mpr c175
         exact absurd ((Option.some.inj H).trans hT.out) (by decide)
      rw [if_neg c121] at H
      have c121b0 : (t409 == t407) = false := beq_eq_false_iff_ne.mpr c121
      have c121b1 : (t409 != t407) = true := bne_iff_ne.mpr c121
      exact absurd ((Option.some.inj H).trans hT.out) (by decide)
   replace c81 := Bool.eq_false_iff.mpr c81
   subst c81
   have H1 : (some false) = some r := by rw [if_neg (show ¬ (false = true) by decide)] at H; exact H
   clear H
   have H := H1
   clear H1
   exact absurd ((Option.some.inj H).trans hT.out) (by decide)

end Go.Proofs.Ytaofcalmgodgjaa.QFnExactAddEvent
