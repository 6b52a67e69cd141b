/- The machine side of a law: Lean functions with the Go functions' answers and the walks that show it. No condition. -/
import Derived.Test.YtcflalomjehiiaaQFnExactTakeClosedx0
import Derived.Test.YtcflalomjehiiaaQFnExactTakeClosedx1
import Derived.Test.YtcflalomjehiiaaQFnExactTakeClosedx2
import Derived.Test.YtcflalomjehiiaaQFnExactTakeClosedx5
import Derived.Test.YtcflalomjehiiaaQFnExactTakeClosedx8
namespace Go.Proofs.Ytcflalomjehiiaa.QFnExactTakeClosed
open Go.RowKit Go.Proofs.YtcflalomjehiiaaW.PrintWords Go.Proofs.YtcflalomjehiiaaW.PrintLast Go.Proofs.YtcflalomjehiiaaW.PrintMore
attribute [local go_sem] max2_int min2_int max_two min_two max_three min_three max_four min_four   -- for this text's walks alone
set_option linter.unusedVariables false
set_option linter.unusedSimpArgs false

/-! ### laws_FnExactTakeClosed: function 9 -/
mutual
def laws_FnExactTakeClosed.j0 : Nat → Int → Bool → Bool → Bool → Bool → List (S152) → Int → Int → Int → List (S80) → Int → Int → Int → Int → Int → Int → Int → Int → Int → List (S80) → Int → Int → Int → List (S80) → Int → Int → Int → Int → Int → Int → Int → Int → Int → Option (Bool)
 | 0, _, _, _, _, _, _, _, _, _, _, _, _, _, _, _, _, _, _, _, _, _, _, _, _, _, _, _, _, _, _, _, _, _ => none
 | k + 1, x1, x2, x10, x14, x59, x281000, x281001, x281002, x281003, x302000, x302001, x302002, x302003, x303000, x303001, x303002, x303003, x303004, x303005, x310000, x310001, x310002, x310003, x324000, x324001, x324002, x324003, x325000, x325001, x325002, x325003, x325004, x325005 => if x59 = true then (some false) else ((laws_toShard.f k x281000 x281001 x281002 x281003).bind fun bt327 => ((laws_eqShard.f k x310000 x310001 x310002 x310003 bt327.1 bt327.2.1 bt327.2.2.1 bt327.2.2.2).bind fun t333 => (if t333 = true then ((laws_markShard.f k x310000 x310001 x310002 x310003 1).bind fun bt334 => (if bt334.1 < 0 then (laws_FnExactTakeClosed.j1 k x1 x2 x10 true x281000 x281001 x281002 x281003 x302000 x302001 x302002 x302003 x303000 x303001 x303002 x303003 x303004 x303005 x324000 x324001 x324002 x324003) else ((laws_eqShard.f k x324000 x324001 x324002 x324003 x302000 x302001 x302002 x302003).bind fun t336 => (if t336 = true then ((laws_eqAgg.f x325000 x325001 x325002 x325003 x325004 x325005 x303000 x303001 x303002 x303003 x303004 x303005).bind fun t337 => (if t337 = true then (laws_FnExactTakeClosed.j1 k x1 x2 x10 (x14 != x10) x281000 x281001 x281002 x281003 x302000 x302001 x302002 x302003 x303000 x303001 x303002 x303003 x303004 x303005 x324000 x324001 x324002 x324003) else (laws_FnExactTakeClosed.j1 k x1 x2 x10 true x281000 x281001 x281002 x281003 x302000 x302001 x302002 x302003 x303000 x303001 x303002 x303003 x303004 x303005 x324000 x324001 x324002 x324003))) else (laws_FnExactTakeClosed.j1 k x1 x2 x10 true x281000 x281001 x281002 x281003 x302000 x302001 x302002 x302003 x303000 x303001 x303002 x303003 x303004 x303005 x324000 x324001 x324002 x324003))))) else (some false))))
def laws_FnExactTakeClosed.j1 : Nat → Int → Bool → Bool → Bool → List (S152) → Int → Int → Int → List (S80) → Int → Int → Int → Int → Int → Int → Int → Int → Int → List (S80) → Int → Int → Int → Option (Bool)
 | 0, _, _, _, _, _, _, _, _, _, _, _, _, _, _, _, _, _, _, _, _, _, _ => none
 | k + 1, x1, x2, x10, x86, x281000, x281001, x281002, x281003, x302000, x302001, x302002, x302003, x303000, x303001, x303002, x303003, x303004, x303005, x324000, x324001, x324002, x324003 => if x86 = true then (some false) else ((laws_markShard.f k x324000 x324001 x324002 x324003 1).bind fun bt338 => ((laws_heldShard.f k bt338.2 x324001 x324002 x324003 1).bind fun t340 => (if t340 < 0 then (some false) else (if t340 = bt338.1 then ((laws_toShard.f k x281000 x281001 x281002 x281003).bind fun bt341 => ((impl_TakeClosed.f k bt341.1 bt341.2.1 bt341.2.2.1 bt341.2.2.2 x1 x2).bind fun bt347 => ((laws_eqShard.f k bt347.1 bt347.2.1 bt347.2.2.1 bt347.2.2.2.1 x302000 x302001 x302002 x302003).bind fun t362 => (if t362 = true then ((laws_eqAgg.f bt347.2.2.2.2.1 bt347.2.2.2.2.2.1 bt347.2.2.2.2.2.2.1 bt347.2.2.2.2.2.2.2.1 bt347.2.2.2.2.2.2.2.2.1 bt347.2.2.2.2.2.2.2.2.2.1 x303000 x303001 x303002 x303003 x303004 x303005).bind fun t363 => (if t363 = true then (laws_FnExactTakeClosed.j2 k bt338.1 (bt347.2.2.2.2.2.2.2.2.2.2 != x10) bt338.2 x324001 x324002 x324003) else (laws_FnExactTakeClosed.j2 k bt338.1 true bt338.2 x324001 x324002 x324003))) else (laws_FnExactTakeClosed.j2 k bt338.1 true bt338.2 x324001 x324002 x324003))))) else (some false)))))
def laws_FnExactTakeClosed.j2 : Nat → Int → Bool → List (S80) → Int → Int → Int → Option (Bool)
 | 0, _, _, _, _, _, _ => none
 | k + 1, x16, x121, x324000, x324001, x324002, x324003 => if x121 = true then (some false) else ((laws_heldShard.f k x324000 x324001 x324002 x324003 1).bind fun t364 => (if t364 < 0 then (some false) else (if t364 = x16 then (some true) else (some false))))
end
def laws_FnExactTakeClosed.f (k : Nat) (l0_0 : List (S152)) (a0_1 : Int) (a0_2 : Int) (a0_3 : Int) (a1 : Int) (a2 : Bool) : Option (Bool) := (laws_szShard.f l0_0 a0_1 a0_2 a0_3 1048576).bind fun t281 => (if t281 < 0 then (some true) else ((laws_toShard.f k l0_0 a0_1 a0_2 a0_3).bind fun bt282 => ((spec_TakeClosed.f k bt282.1 bt282.2.1 bt282.2.2.1 bt282.2.2.2 a1 a2).bind fun bt288 => ((laws_toShard.f k l0_0 a0_1 a0_2 a0_3).bind fun bt303 => ((impl_TakeClosed.f k bt303.1 bt303.2.1 bt303.2.2.1 bt303.2.2.2 a1 a2).bind fun bt310 => ((laws_eqShard.f k bt310.1 bt310.2.1 bt310.2.2.1 bt310.2.2.2.1 bt288.1 bt288.2.1 bt288.2.2.1 bt288.2.2.2.1).bind fun t325 => (if t325 = true then ((laws_eqAgg.f bt310.2.2.2.2.1 bt310.2.2.2.2.2.1 bt310.2.2.2.2.2.2.1 bt310.2.2.2.2.2.2.2.1 bt310.2.2.2.2.2.2.2.2.1 bt310.2.2.2.2.2.2.2.2.2.1 bt288.2.2.2.2.1 bt288.2.2.2.2.2.1 bt288.2.2.2.2.2.2.1 bt288.2.2.2.2.2.2.2.1 bt288.2.2.2.2.2.2.2.2.1 bt288.2.2.2.2.2.2.2.2.2.1).bind fun t326 => (if t326 = true then (laws_FnExactTakeClosed.j0 k a1 a2 bt288.2.2.2.2.2.2.2.2.2.2 bt310.2.2.2.2.2.2.2.2.2.2 (bt310.2.2.2.2.2.2.2.2.2.2 != bt288.2.2.2.2.2.2.2.2.2.2) l0_0 a0_1 a0_2 a0_3 bt288.1 bt288.2.1 bt288.2.2.1 bt288.2.2.2.1 bt288.2.2.2.2.1 bt288.2.2.2.2.2.1 bt288.2.2.2.2.2.2.1 bt288.2.2.2.2.2.2.2.1 bt288.2.2.2.2.2.2.2.2.1 bt288.2.2.2.2.2.2.2.2.2.1 bt303.1 bt303.2.1 bt303.2.2.1 bt303.2.2.2 bt310.1 bt310.2.1 bt310.2.2.1 bt310.2.2.2.1 bt310.2.2.2.2.1 bt310.2.2.2.2.2.1 bt310.2.2.2.2.2.2.1 bt310.2.2.2.2.2.2.2.1 bt310.2.2.2.2.2.2.2.2.1 bt310.2.2.2.2.2.2.2.2.2.1) else (laws_FnExactTakeClosed.j0 k a1 a2 bt288.2.2.2.2.2.2.2.2.2.2 bt310.2.2.2.2.2.2.2.2.2.2 true l0_0 a0_1 a0_2 a0_3 bt288.1 bt288.2.1 bt288.2.2.1 bt288.2.2.2.1 bt288.2.2.2.2.1 bt288.2.2.2.2.2.1 bt288.2.2.2.2.2.2.1 bt288.2.2.2.2.2.2.2.1 bt288.2.2.2.2.2.2.2.2.1 bt288.2.2.2.2.2.2.2.2.2.1 bt303.1 bt303.2.1 bt303.2.2.1 bt303.2.2.2 bt310.1 bt310.2.1 bt310.2.2.1 bt310.2.2.2.1 bt310.2.2.2.2.1 bt310.2.2.2.2.2.1 bt310.2.2.2.2.2.2.1 bt310.2.2.2.2.2.2.2.1 bt310.2.2.2.2.2.2.2.2.1 bt310.2.2.2.2.2.2.2.2.2.1))) else (laws_FnExactTakeClosed.j0 k a1 a2 bt288.2.2.2.2.2.2.2.2.2.2 bt310.2.2.2.2.2.2.2.2.2.2 true l0_0 a0_1 a0_2 a0_3 bt288.1 bt288.2.1 bt288.2.2.1 bt288.2.2.2.1 bt288.2.2.2.2.1 bt288.2.2.2.2.2.1 bt288.2.2.2.2.2.2.1 bt288.2.2.2.2.2.2.2.1 bt288.2.2.2.2.2.2.2.2.1 bt288.2.2.2.2.2.2.2.2.2.1 bt303.1 bt303.2.1 bt303.2.2.1 bt303.2.2.2 bt310.1 bt310.2.1 bt310.2.2.1 bt310.2.2.2.1 bt310.2.2.2.2.1 bt310.2.2.2.2.2.1 bt310.2.2.2.2.2.2.1 bt310.2.2.2.2.2.2.2.1 bt310.2.2.2.2.2.2.2.2.1 bt310.2.2.2.2.2.2.2.2.2.1))))))))
theorem laws_FnExactTakeClosed.mono_l : ∀ k, (∀ y0 y1 y2 y3 y4 y5 y6 y7 y8 y9 y10 y11 y12 y13 y14 y15 y16 y17 y18 y19 y20 y21 y22 y23 y24 y25 y26 y27 y28 y29 y30 y31 y32, LeO (laws_FnExactTakeClosed.j0 k y0 y1 y2 y3 y4 y5 y6 y7 y8 y9 y10 y11 y12 y13 y14 y15 y16 y17 y18 y19 y20 y21 y22 y23 y24 y25 y26 y27 y28 y29 y30 y31 y32) (laws_FnExactTakeClosed.j0 (k + 1) y0 y1 y2 y3 y4 y5 y6 y7 y8 y9 y10 y11 y12 y13 y14 y15 y16 y17 y18 y19 y20 y21 y22 y23 y24 y25 y26 y27 y28 y29 y30 y31 y32)) ∧ (∀ y0 y1 y2 y3 y4 y5 y6 y7 y8 y9 y10 y11 y12 y13 y14 y15 y16 y17 y18 y19 y20 y21, LeO (laws_FnExactTakeClosed.j1 k y0 y1 y2 y3 y4 y5 y6 y7 y8 y9 y10 y11 y12 y13 y14 y15 y16 y17 y18 y19 y20 y21) (laws_FnExactTakeClosed.j1 (k + 1) y0 y1 y2 y3 y4 y5 y6 y7 y8 y9 y10 y11 y12 y13 y14 y15 y16 y17 y18 y19 y20 y21)) ∧ (∀ y0 y1 y2 y3 y4 y5, LeO (laws_FnExactTakeClosed.j2 k y0 y1 y2 y3 y4 y5) (laws_FnExactTakeClosed.j2 (k + 1) y0 y1 y2 y3 y4 y5))
 | 0 => ⟨fun _ _ _ _ _ _ _ _ _ _ _ _ _ _ _ _ _ _ _ _ _ _ _ _ _ _ _ _ _ _ _ _ _ r h => by simp [laws_FnExactTakeClosed.j0] at h, fun _ _ _ _ _ _ _ _ _ _ _ _ _ _ _ _ _ _ _ _ _ _ r h => by simp [laws_FnExactTakeClosed.j1] at h, fun _ _ _ _ _ _ r h => by simp [laws_FnExactTakeClosed.j2] at h⟩
 | k + 1 => by
  obtain ⟨ih0, ih1, ih2⟩ := laws_FnExactTakeClosed.mono_l k
  refine ⟨?_, ?_, ?_⟩
  ·
   intro y0 y1 y2 y3 y4 y5 y6 y7 y8 y9 y10 y11 y12 y13 y14 y15 y16 y17 y18 y19 y20 y21 y22 y23 y24 y25 y26 y27 y28 y29 y30 y31 y32
   unfold laws_FnExactTakeClosed.j0
   repeat' first
   | (with_reducible exact ih0 _ _ _ _ _ _ _ _ _ _ _ _ _ _ _ _ _ _ _ _ _ _ _ _ _ _ _ _ _ _ _ _ _)
   | (with_reducible exact ih1 _ _ _ _ _ _ _ _ _ _ _ _ _ _ _ _ _ _ _ _ _ _)
   | (with_reducible exact ih2 _ _ _ _ _ _)
   | (with_reducible exact impl_TakeClosed.mono _ _ _ _ _ _ _)
   | (with_reducible exact laws_eqShard.mono _ _ _ _ _ _ _ _ _)
   | (with_reducible exact laws_heldShard.mono _ _ _ _ _ _)
   | (with_reducible exact laws_markShard.mono _ _ _ _ _ _)
   | (with_reducible exact laws_toShard.mono _ _ _ _ _)
   | (with_reducible exact spec_TakeClosed.mono _ _ _ _ _ _ _)
   | (with_reducible exact LeO.refl _)
   | (with_reducible exact LeO.none _)
   | (with_reducible refine LeO.ite ?_ ?_)
   | (with_reducible refine LeO.bind ?_ (fun _ => ?_))
   | exact ih0 _ _ _ _ _ _ _ _ _ _ _ _ _ _ _ _ _ _ _ _ _ _ _ _ _ _ _ _ _ _ _ _ _
   | exact ih1 _ _ _ _ _ _ _ _ _ _ _ _ _ _ _ _ _ _ _ _ _ _
   | exact ih2 _ _ _ _ _ _
   | exact impl_TakeClosed.mono _ _ _ _ _ _ _
   | exact laws_eqShard.mono _ _ _ _ _ _ _ _ _
   | exact laws_heldShard.mono _ _ _ _ _ _
   | exact laws_markShard.mono _ _ _ _ _ _
   | exact laws_toShard.mono _ _ _ _ _
   | exact spec_TakeClosed.mono _ _ _ _ _ _ _
   | exact LeO.none _
   | refine LeO.ite ?_ ?_
   | refine LeO.bind ?_ (fun _ => ?_)
  ·
   intro y0 y1 y2 y3 y4 y5 y6 y7 y8 y9 y10 y11 y12 y13 y14 y15 y16 y17 y18 y19 y20 y21
   unfold laws_FnExactTakeClosed.j1
   repeat' first
   | (with_reducible exact ih0 _ _ _ _ _ _ _ _ _ _ _ _ _ _ _ _ _ _ _ _ _ _ _ _ _ _ _ _ _ _ _ _ _)
   | (with_reducible exact ih1 _ _ _ _ _ _ _ _ _ _ _ _ _ _ _ _ _ _ _ _ _ _)
   | (with_reducible exact ih2 _ _ _ _ _ _)
   | (with_reducible exact impl_TakeClosed.mono _ _ _ _ _ _ _)
   | (with_reducible exact laws_eqShard.mono _ _ _ _ _ _ _ _ _)
   | (with_reducible exact laws_heldShard.mono _ _ _ _ _ _)
   | (with_reducible exact laws_markShard.mono _ _ _ _ _ _)
   | (with_reducible exact laws_toShard.mono _ _ _ _ _)
   | (with_reducible exact spec_TakeClosed.mono _ _ _ _ _ _ _)
   | (with_reducible exact LeO.refl _)
   | (with_reducible exact LeO.none _)
   | (with_reducible refine LeO.ite ?_ ?_)
   | (with_reducible refine LeO.bind ?_ (fun _ => ?_))
   | exact ih0 _ _ _ _ _ _ _ _ _ _ _ _ _ _ _ _ _ _ _ _ _ _ _ _ _ _ _ _ _ _ _ _ _
   | exact ih1 _ _ _ _ _ _ _ _ _ _ _ _ _ _ _ _ _ _ _ _ _ _
   | exact ih2 _ _ _ _ _ _
   | exact impl_TakeClosed.mono _ _ _ _ _ _ _
   | exact laws_eqShard.mono _ _ _ _ _ _ _ _ _
   | exact laws_heldShard.mono _ _ _ _ _ _
   | exact laws_markShard.mono _ _ _ _ _ _
   | exact laws_toShard.mono _ _ _ _ _
   | exact spec_TakeClosed.mono _ _ _ _ _ _ _
   | exact LeO.none _
   | refine LeO.ite ?_ ?_
   | refine LeO.bind ?_ (fun _ => ?_)
  ·
   intro y0 y1 y2 y3 y4 y5
   unfold laws_FnExactTakeClosed.j2
   repeat' first
   | (with_reducible exact ih0 _ _ _ _ _ _ _ _ _ _ _ _ _ _ _ _ _ _ _ _ _ _ _ _ _ _ _ _ _ _ _ _ _)
   | (with_reducible exact ih1 _ _ _ _ _ _ _ _ _ _ _ _ _ _ _ _ _ _ _ _ _ _)
   | (with_reducible exact ih2 _ _ _ _ _ _)
   | (with_reducible exact impl_TakeClosed.mono _ _ _ _ _ _ _)
   | (with_reducible exact laws_eqShard.mono _ _ _ _ _ _ _ _ _)
   | (with_reducible exact laws_heldShard.mono _ _ _ _ _ _)
   | (with_reducible exact laws_markShard.mono _ _ _ _ _ _)
   | (with_reducible exact laws_toShard.mono _ _ _ _ _)
   | (with_reducible exact spec_TakeClosed.mono _ _ _ _ _ _ _)
   | (with_reducible exact LeO.refl _)
   | (with_reducible exact LeO.none _)
   | (with_reducible refine LeO.ite ?_ ?_)
   | (with_reducible refine LeO.bind ?_ (fun _ => ?_))
   | exact ih0 _ _ _ _ _ _ _ _ _ _ _ _ _ _ _ _ _ _ _ _ _ _ _ _ _ _ _ _ _ _ _ _ _
   | exact ih1 _ _ _ _ _ _ _ _ _ _ _ _ _ _ _ _ _ _ _ _ _ _
   | exact ih2 _ _ _ _ _ _
   | exact impl_TakeClosed.mono _ _ _ _ _ _ _
   | exact laws_eqShard.mono _ _ _ _ _ _ _ _ _
   | exact laws_heldShard.mono _ _ _ _ _ _
   | exact laws_markShard.mono _ _ _ _ _ _
   | exact laws_toShard.mono _ _ _ _ _
   | exact spec_TakeClosed.mono _ _ _ _ _ _ _
   | exact LeO.none _
   | refine LeO.ite ?_ ?_
   | refine LeO.bind ?_ (fun _ => ?_)
theorem laws_FnExactTakeClosed.mono : ∀ a0 a1 a2 a3 a4 a5 k, LeO (laws_FnExactTakeClosed.f k a0 a1 a2 a3 a4 a5) (laws_FnExactTakeClosed.f (k + 1) a0 a1 a2 a3 a4 a5) := by
 intro a0 a1 a2 a3 a4 a5 k
 obtain ⟨ih0, ih1, ih2⟩ := laws_FnExactTakeClosed.mono_l k
 unfold laws_FnExactTakeClosed.f
 repeat' first
   | (with_reducible exact ih0 _ _ _ _ _ _ _ _ _ _ _ _ _ _ _ _ _ _ _ _ _ _ _ _ _ _ _ _ _ _ _ _ _)
   | (with_reducible exact ih1 _ _ _ _ _ _ _ _ _ _ _ _ _ _ _ _ _ _ _ _ _ _)
   | (with_reducible exact ih2 _ _ _ _ _ _)
   | (with_reducible exact impl_TakeClosed.mono _ _ _ _ _ _ _)
   | (with_reducible exact laws_eqShard.mono _ _ _ _ _ _ _ _ _)
   | (with_reducible exact laws_heldShard.mono _ _ _ _ _ _)
   | (with_reducible exact laws_markShard.mono _ _ _ _ _ _)
   | (with_reducible exact laws_toShard.mono _ _ _ _ _)
   | (with_reducible exact spec_TakeClosed.mono _ _ _ _ _ _ _)
   | (with_reducible exact LeO.refl _)
   | (with_reducible exact LeO.none _)
   | (with_reducible refine LeO.ite ?_ ?_)
   | (with_reducible refine LeO.bind ?_ (fun _ => ?_))
   | exact ih0 _ _ _ _ _ _ _ _ _ _ _ _ _ _ _ _ _ _ _ _ _ _ _ _ _ _ _ _ _ _ _ _ _
   | exact ih1 _ _ _ _ _ _ _ _ _ _ _ _ _ _ _ _ _ _ _ _ _ _
   | exact ih2 _ _ _ _ _ _
   | exact impl_TakeClosed.mono _ _ _ _ _ _ _
   | exact laws_eqShard.mono _ _ _ _ _ _ _ _ _
   | exact laws_heldShard.mono _ _ _ _ _ _
   | exact laws_markShard.mono _ _ _ _ _ _
   | exact laws_toShard.mono _ _ _ _ _
   | exact spec_TakeClosed.mono _ _ _ _ _ _ _
   | exact LeO.none _
   | refine LeO.ite ?_ ?_
   | refine LeO.bind ?_ (fun _ => ?_)
set_option maxHeartbeats 8000000 in
set_option maxRecDepth 100000 in
theorem laws_FnExactTakeClosed.calls (k : Nat) (A0_0 : Option Addr) (c0_0 : Nat) (l0_0 : List (S152)) (a0_1 : Int) (a0_2 : Int) (a0_3 : Int) (a1 : Int) (a2 : Bool) (r : Bool) (w : World) (hr0_0 : Kd.C k152 w A0_0 l0_0.length l0_0) (hc0_0 : l0_0.length ≤ c0_0) (hT : Aside0 (r = true)) (h : laws_FnExactTakeClosed.f k l0_0 a0_1 a0_2 a0_3 a1 a2 = some r) :
  Calls Try.prog 9 #[.agg #[.slice A0_0 l0_0.length c0_0, .int .i64 a0_1, .int .i64 a0_2, .int .i64 a0_3], .int .i64 a1, .bool a2] w fun e w' => e = .returned (.bool r) ∧ Below w.heap.size w w' := by
 have hu38 := Try.underlying38
 have hu42 := Try.underlying42
 have hu80 := Try.underlying80
 have HR0_0 := Aside0.mk hr0_0
 have HC0_0 := Aside0.mk hc0_0
 clear hr0_0 hc0_0
 have HB := am_ (Below.refl w.heap.size w)
 have H : ((laws_szShard.f l0_0 a0_1 a0_2 a0_3 1048576).bind fun t281 => (if t281 < 0 then (some true) else ((laws_toShard.f k l0_0 a0_1 a0_2 a0_3).bind fun bt282 => ((spec_TakeClosed.f k bt282.1 bt282.2.1 bt282.2.2.1 bt282.2.2.2 a1 a2).bind fun bt288 => ((laws_toShard.f k l0_0 a0_1 a0_2 a0_3).bind fun bt303 => ((impl_TakeClosed.f k bt303.1 bt303.2.1 bt303.2.2.1 bt303.2.2.2 a1 a2).bind fun bt310 => ((laws_eqShard.f k bt310.1 bt310.2.1 bt310.2.2.1 bt310.2.2.2.1 bt288.1 bt288.2.1 bt288.2.2.1 bt288.2.2.2.1).bind fun t325 => (if t325 = true then ((laws_eqAgg.f bt310.2.2.2.2.1 bt310.2.2.2.2.2.1 bt310.2.2.2.2.2.2.1 bt310.2.2.2.2.2.2.2.1 bt310.2.2.2.2.2.2.2.2.1 bt310.2.2.2.2.2.2.2.2.2.1 bt288.2.2.2.2.1 bt288.2.2.2.2.2.1 bt288.2.2.2.2.2.2.1 bt288.2.2.2.2.2.2.2.1 bt288.2.2.2.2.2.2.2.2.1 bt288.2.2.2.2.2.2.2.2.2.1).bind fun t326 => (if t326 = true then (laws_FnExactTakeClosed.j0 k a1 a2 bt288.2.2.2.2.2.2.2.2.2.2 bt310.2.2.2.2.2.2.2.2.2.2 (bt310.2.2.2.2.2.2.2.2.2.2 != bt288.2.2.2.2.2.2.2.2.2.2) l0_0 a0_1 a0_2 a0_3 bt288.1 bt288.2.1 bt288.2.2.1 bt288.2.2.2.1 bt288.2.2.2.2.1 bt288.2.2.2.2.2.1 bt288.2.2.2.2.2.2.1 bt288.2.2.2.2.2.2.2.1 bt288.2.2.2.2.2.2.2.2.1 bt288.2.2.2.2.2.2.2.2.2.1 bt303.1 bt303.2.1 bt303.2.2.1 bt303.2.2.2 bt310.1 bt310.2.1 bt310.2.2.1 bt310.2.2.2.1 bt310.2.2.2.2.1 bt310.2.2.2.2.2.1 bt310.2.2.2.2.2.2.1 bt310.2.2.2.2.2.2.2.1 bt310.2.2.2.2.2.2.2.2.1 bt310.2.2.2.2.2.2.2.2.2.1) else (laws_FnExactTakeClosed.j0 k a1 a2 bt288.2.2.2.2.2.2.2.2.2.2 bt310.2.2.2.2.2.2.2.2.2.2 true l0_0 a0_1 a0_2 a0_3 bt288.1 bt288.2.1 bt288.2.2.1 bt288.2.2.2.1 bt288.2.2.2.2.1 bt288.2.2.2.2.2.1 bt288.2.2.2.2.2.2.1 bt288.2.2.2.2.2.2.2.1 bt288.2.2.2.2.2.2.2.2.1 bt288.2.2.2.2.2.2.2.2.2.1 bt303.1 bt303.2.1 bt303.2.2.1 bt303.2.2.2 bt310.1 bt310.2.1 bt310.2.2.1 bt310.2.2.2.1 bt310.2.2.2.2.1 bt310.2.2.2.2.2.1 bt310.2.2.2.2.2.2.1 bt310.2.2.2.2.2.2.2.1 bt310.2.2.2.2.2.2.2.2.1 bt310.2.2.2.2.2.2.2.2.2.1))) else (laws_FnExactTakeClosed.j0 k a1 a2 bt288.2.2.2.2.2.2.2.2.2.2 bt310.2.2.2.2.2.2.2.2.2.2 true l0_0 a0_1 a0_2 a0_3 bt288.1 bt288.2.1 bt288.2.2.1 bt288.2.2.2.1 bt288.2.2.2.2.1 bt288.2.2.2.2.2.1 bt288.2.2.2.2.2.2.1 bt288.2.2.2.2.2.2.2.1 bt288.2.2.2.2.2.2.2.2.1 bt288.2.2.2.2.2.2.2.2.2.1 bt303.1 bt303.2.1 bt303.2.2.1 bt303.2.2.2 bt310.1 bt310.2.1 bt310.2.2.1 bt310.2.2.2.1 bt310.2.2.2.2.1 bt310.2.2.2.2.2.1 bt310.2.2.2.2.2.2.1 bt310.2.2.2.2.2.2.2.1 bt310.2.2.2.2.2.2.2.2.1 bt310.2.2.2.2.2.2.2.2.2.1))))))))) = some r := h
 clear h
 replace H := Option.bind_eq_some_iff.mp H
 obtain ⟨t281, A40, H⟩ := H
 replace H : (if t281 < 0 then (some true) else ((laws_toShard.f k l0_0 a0_1 a0_2 a0_3).bind fun bt282 => ((spec_TakeClosed.f k bt282.1 bt282.2.1 bt282.2.2.1 bt282.2.2.2 a1 a2).bind fun bt288 => ((laws_toShard.f k l0_0 a0_1 a0_2 a0_3).bind fun bt303 => ((impl_TakeClosed.f k bt303.1 bt303.2.1 bt303.2.2.1 bt303.2.2.2 a1 a2).bind fun bt310 => ((laws_eqShard.f k bt310.1 bt310.2.1 bt310.2.2.1 bt310.2.2.2.1 bt288.1 bt288.2.1 bt288.2.2.1 bt288.2.2.2.1).bind fun t325 => (if t325 = true then ((laws_eqAgg.f bt310.2.2.2.2.1 bt310.2.2.2.2.2.1 bt310.2.2.2.2.2.2.1 bt310.2.2.2.2.2.2.2.1 bt310.2.2.2.2.2.2.2.2.1 bt310.2.2.2.2.2.2.2.2.2.1 bt288.2.2.2.2.1 bt288.2.2.2.2.2.1 bt288.2.2.2.2.2.2.1 bt288.2.2.2.2.2.2.2.1 bt288.2.2.2.2.2.2.2.2.1 bt288.2.2.2.2.2.2.2.2.2.1).bind fun t326 => (if t326 = true then (laws_FnExactTakeClosed.j0 k a1 a2 bt288.2.2.2.2.2.2.2.2.2.2 bt310.2.2.2.2.2.2.2.2.2.2 (bt310.2.2.2.2.2.2.2.2.2.2 != bt288.2.2.2.2.2.2.2.2.2.2) l0_0 a0_1 a0_2 a0_3 bt288.1 bt288.2.1 bt288.2.2.1 bt288.2.2.2.1 bt288.2.2.2.2.1 bt288.2.2.2.2.2.1 bt288.2.2.2.2.2.2.1 bt288.2.2.2.2.2.2.2.1 bt288.2.2.2.2.2.2.2.2.1 bt288.2.2.2.2.2.2.2.2.2.1 bt303.1 bt303.2.1 bt303.2.2.1 bt303.2.2.2 bt310.1 bt310.2.1 bt310.2.2.1 bt310.2.2.2.1 bt310.2.2.2.2.1 bt310.2.2.2.2.2.1 bt310.2.2.2.2.2.2.1 bt310.2.2.2.2.2.2.2.1 bt310.2.2.2.2.2.2.2.2.1 bt310.2.2.2.2.2.2.2.2.2.1) else (laws_FnExactTakeClosed.j0 k a1 a2 bt288.2.2.2.2.2.2.2.2.2.2 bt310.2.2.2.2.2.2.2.2.2.2 true l0_0 a0_1 a0_2 a0_3 bt288.1 bt288.2.1 bt288.2.2.1 bt288.2.2.2.1 bt288.2.2.2.2.1 bt288.2.2.2.2.2.1 bt288.2.2.2.2.2.2.1 bt288.2.2.2.2.2.2.2.1 bt288.2.2.2.2.2.2.2.2.1 bt288.2.2.2.2.2.2.2.2.2.1 bt303.1 bt303.2.1 bt303.2.2.1 bt303.2.2.2 bt310.1 bt310.2.1 bt310.2.2.1 bt310.2.2.2.1 bt310.2.2.2.2.1 bt310.2.2.2.2.2.1 bt310.2.2.2.2.2.2.1 bt310.2.2.2.2.2.2.2.1 bt310.2.2.2.2.2.2.2.2.1 bt310.2.2.2.2.2.2.2.2.2.1))) else (laws_FnExactTakeClosed.j0 k a1 a2 bt288.2.2.2.2.2.2.2.2.2.2 bt310.2.2.2.2.2.2.2.2.2.2 true l0_0 a0_1 a0_2 a0_3 bt288.1 bt288.2.1 bt288.2.2.1 bt288.2.2.2.1 bt288.2.2.2.2.1 bt288.2.2.2.2.2.1 bt288.2.2.2.2.2.2.1 bt288.2.2.2.2.2.2.2.1 bt288.2.2.2.2.2.2.2.2.1 bt288.2.2.2.2.2.2.2.2.2.1 bt303.1 bt303.2.1 bt303.2.2.1 bt303.2.2.2 bt310.1 bt310.2.1 bt310.2.2.1 bt310.2.2.2.1 bt310.2.2.2.2.1 bt310.2.2.2.2.2.1 bt310.2.2.2.2.2.2.1 bt310.2.2.2.2.2.2.2.1 bt310.2.2.2.2.2.2.2.2.1 bt310.2.2.2.2.2.2.2.2.2.1)))))))) = some r := H
 have A4 := Aside0.mk A40
 clear A40
 by_cases c5 : t281 < 0
 ·
  rw [if_pos c5] at H
  have c5b0 : decide (t281 < 0) = true := decide_eq_true c5
  clear c5
  obtain rfl := Option.some.inj H
  go_enter Try.func9, Try.ntmps9
  go_wp2_with (first | ((with_reducible refine gate_dst (N := 3) rfl ?_); refine box_event ?hg (N := 3) ?hd (cs := #[.slice A0_0 l0_0.length c0_0, .int .i64 a0_1, .int .i64 a0_2, .int .i64 a0_3]) (t := 38) ?hr ?_; (case hd => rfl); (case hg => rfl); (case hr => first | (go_simp; done) | (go_simp; rfl)); intro gb280 hg w6 hbox hb; have n0_ := am_ (below_step (ue_ HB.out) hb); have n1_ := am_ (hbox); have n2_ := am_ ((by rw [hg]; exact (below_size (ue_ HB.out)) : w.heap.size ≤ gb280)); have n3_ := am_ ((by rw [hg]; exact (below_size (ue_ HB.out)) : w.heap.size ≤ gb280)); clear HB; have HB := n0_; have BK280 := n1_; have GW280 := n2_; have GE280 := n3_; clear n0_ n1_ n2_ n3_; clear hb hbox hg; obtain ⟨hcz7_0, hcz7_1, hcz7_2, hcz7_3⟩ := cb4_ BK280.out; obtain ⟨hfz7_0, hfz7_1, hfz7_2⟩ := bf3_ BK280.out; have hfz7_3 := blk_frozen BK280.out 3) | ((with_reducible refine gate_callee (f := 24) rfl ?_); refine goesL_ (some 23) rfl rfl Try.func24 (by kernel_rfl) rfl #[.agg #[.slice A0_0 l0_0.length c0_0, .int .i64 a0_1, .int .i64 a0_2, .int .i64 a0_3], .int .i64 1048576] rfl ul_ ?_; (with_reducible refine (laws_szShard.calls _ _ l0_0 a0_1 a0_2 a0_3 1048576 t281 _ ?side1 ?side2 A4.out).mono ?_); (case side1 => repeat (first | exact (Kd.C_below HR0_0.out HB.out) | (with_reducible refine Kd.C_alloc ?_ _) | (with_reducible refine Kd.C_drewN ?_ _) | (with_reducible refine Kd.C_drew ?_))); (case side2 => exact HC0_0.out); rintro e w8 ⟨rfl, hb⟩; refine ⟨_, rfl, ?_⟩; have n0_ := am_ (bb_ BK280.out hb); have n1_ := am_ (below_step (ue_ HB.out) hb); clear BK280 HB; have BK280 := n0_; have HB := n1_; clear n0_ n1_; (try clear hb); (try clear hb2); (try clear hk); (try clear hi)))
  go_ret
  exact ⟨ew_, ue_ HB.out⟩
 ·
  rw [if_neg c5] at H
  have c5b0 : decide (t281 < 0) = false := decide_eq_false c5
  clear c5
  replace H := Option.bind_eq_some_iff.mp H
  obtain ⟨⟨t282, t285, t286, t287⟩, A90, H⟩ := H
  replace H : ((spec_TakeClosed.f k t282 t285 t286 t287 a1 a2).bind fun bt288 => ((laws_toShard.f k l0_0 a0_1 a0_2 a0_3).bind fun bt303 => ((impl_TakeClosed.f k bt303.1 bt303.2.1 bt303.2.2.1 bt303.2.2.2 a1 a2).bind fun bt310 => ((laws_eqShard.f k bt310.1 bt310.2.1 bt310.2.2.1 bt310.2.2.2.1 bt288.1 bt288.2.1 bt288.2.2.1 bt288.2.2.2.1).bind fun t325 => (if t325 = true then ((laws_eqAgg.f bt310.2.2.2.2.1 bt310.2.2.2.2.2.1 bt310.2.2.2.2.2.2.1 bt310.2.2.2.2.2.2.2.1 bt310.2.2.2.2.2.2.2.2.1 bt310.2.2.2.2.2.2.2.2.2.1 bt288.2.2.2.2.1 bt288.2.2.2.2.2.1 bt288.2.2.2.2.2.2.1 bt288.2.2.2.2.2.2.2.1 bt288.2.2.2.2.2.2.2.2.1 bt288.2.2.2.2.2.2.2.2.2.1).bind fun t326 => (if t326 = true then (laws_FnExactTakeClosed.j0 k a1 a2 bt288.2.2.2.2.2.2.2.2.2.2 bt310.2.2.2.2.2.2.2.2.2.2 (bt310.2.2.2.2.2.2.2.2.2.2 != bt288.2.2.2.2.2.2.2.2.2.2) l0_0 a0_1 a0_2 a0_3 bt288.1 bt288.2.1 bt288.2.2.1 bt288.2.2.2.1 bt288.2.2.2.2.1 bt288.2.2.2.2.2.1 bt288.2.2.2.2.2.2.1 bt288.2.2.2.2.2.2.2.1 bt288.2.2.2.2.2.2.2.2.1 bt288.2.2.2.2.2.2.2.2.2.1 bt303.1 bt303.2.1 bt303.2.2.1 bt303.2.2.2 bt310.1 bt310.2.1 bt310.2.2.1 bt310.2.2.2.1 bt310.2.2.2.2.1 bt310.2.2.2.2.2.1 bt310.2.2.2.2.2.2.1 bt310.2.2.2.2.2.2.2.1 bt310.2.2.2.2.2.2.2.2.1 bt310.2.2.2.2.2.2.2.2.2.1) else (laws_FnExactTakeClosed.j0 k a1 a2 bt288.2.2.2.2.2.2.2.2.2.2 bt310.2.2.2.2.2.2.2.2.2.2 true l0_0 a0_1 a0_2 a0_3 bt288.1 bt288.2.1 bt288.2.2.1 bt288.2.2.2.1 bt288.2.2.2.2.1 bt288.2.2.2.2.2.1 bt288.2.2.2.2.2.2.1 bt288.2.2.2.2.2.2.2.1 bt288.2.2.2.2.2.2.2.2.1 bt288.2.2.2.2.2.2.2.2.2.1 bt303.1 bt303.2.1 bt303.2.2.1 bt303.2.2.2 bt310.1 bt310.2.1 bt310.2.2.1 bt310.2.2.2.1 bt310.2.2.2.2.1 bt310.2.2.2.2.2.1 bt310.2.2.2.2.2.2.1 bt310.2.2.2.2.2.2.2.1 bt310.2.2.2.2.2.2.2.2.1 bt310.2.2.2.2.2.2.2.2.2.1))) else (laws_FnExactTakeClosed.j0 k a1 a2 bt288.2.2.2.2.2.2.2.2.2.2 bt310.2.2.2.2.2.2.2.2.2.2 true l0_0 a0_1 a0_2 a0_3 bt288.1 bt288.2.1 bt288.2.2.1 bt288.2.2.2.1 bt288.2.2.2.2.1 bt288.2.2.2.2.2.1 bt288.2.2.2.2.2.2.1 bt288.2.2.2.2.2.2.2.1 bt288.2.2.2.2.2.2.2.2.1 bt288.2.2.2.2.2.2.2.2.2.1 bt303.1 bt303.2.1 bt303.2.2.1 bt303.2.2.2 bt310.1 bt310.2.1 bt310.2.2.1 bt310.2.2.2.1 bt310.2.2.2.2.1 bt310.2.2.2.2.2.1 bt310.2.2.2.2.2.2.1 bt310.2.2.2.2.2.2.2.1 bt310.2.2.2.2.2.2.2.2.1 bt310.2.2.2.2.2.2.2.2.2.1)))))) = some r := H
  have A9 := Aside0.mk A90
  clear A90
  replace H := Option.bind_eq_some_iff.mp H
  obtain ⟨⟨t288, t291, t292, t293, t294, t295, t296, t297, t298, t299, t300⟩, A100, H⟩ := H
  replace H : ((laws_toShard.f k l0_0 a0_1 a0_2 a0_3).bind fun bt303 => ((impl_TakeClosed.f k bt303.1 bt303.2.1 bt303.2.2.1 bt303.2.2.2 a1 a2).bind fun bt310 => ((laws_eqShard.f k bt310.1 bt310.2.1 bt310.2.2.1 bt310.2.2.2.1 t288 t291 t292 t293).bind fun t325 => (if t325 = true then ((laws_eqAgg.f bt310.2.2.2.2.1 bt310.2.2.2.2.2.1 bt310.2.2.2.2.2.2.1 bt310.2.2.2.2.2.2.2.1 bt310.2.2.2.2.2.2.2.2.1 bt310.2.2.2.2.2.2.2.2.2.1 t294 t295 t296 t297 t298 t299).bind fun t326 => (if t326 = true then (laws_FnExactTakeClosed.j0 k a1 a2 t300 bt310.2.2.2.2.2.2.2.2.2.2 (bt310.2.2.2.2.2.2.2.2.2.2 != t300) l0_0 a0_1 a0_2 a0_3 t288 t291 t292 t293 t294 t295 t296 t297 t298 t299 bt303.1 bt303.2.1 bt303.2.2.1 bt303.2.2.2 bt310.1 bt310.2.1 bt310.2.2.1 bt310.2.2.2.1 bt310.2.2.2.2.1 bt310.2.2.2.2.2.1 bt310.2.2.2.2.2.2.1 bt310.2.2.2.2.2.2.2.1 bt310.2.2.2.2.2.2.2.2.1 bt310.2.2.2.2.2.2.2.2.2.1) else (laws_FnExactTakeClosed.j0 k a1 a2 t300 bt310.2.2.2.2.2.2.2.2.2.2 true l0_0 a0_1 a0_2 a0_3 t288 t291 t292 t293 t294 t295 t296 t297 t298 t299 bt303.1 bt303.2.1 bt303.2.2.1 bt303.2.2.2 bt310.1 bt310.2.1 bt310.2.2.1 bt310.2.2.2.1 bt310.2.2.2.2.1 bt310.2.2.2.2.2.1 bt310.2.2.2.2.2.2.1 bt310.2.2.2.2.2.2.2.1 bt310.2.2.2.2.2.2.2.2.1 bt310.2.2.2.2.2.2.2.2.2.1))) else (laws_FnExactTakeClosed.j0 k a1 a2 t300 bt310.2.2.2.2.2.2.2.2.2.2 true l0_0 a0_1 a0_2 a0_3 t288 t291 t292 t293 t294 t295 t296 t297 t298 t299 bt303.1 bt303.2.1 bt303.2.2.1 bt303.2.2.2 bt310.1 bt310.2.1 bt310.2.2.1 bt310.2.2.2.1 bt310.2.2.2.2.1 bt310.2.2.2.2.2.1 bt310.2.2.2.2.2.2.1 bt310.2.2.2.2.2.2.2.1 bt310.2.2.2.2.2.2.2.2.1 bt310.2.2.2.2.2.2.2.2.2.1))))) = some r := H
  have A10 := Aside0.mk A100
  clear A100
  replace H := Option.bind_eq_some_iff.mp H
  obtain ⟨⟨t303, t306, t307, t308⟩, A110, H⟩ := H
  replace H : ((impl_TakeClosed.f k t303 t306 t307 t308 a1 a2).bind fun bt310 => ((laws_eqShard.f k bt310.1 bt310.2.1 bt310.2.2.1 bt310.2.2.2.1 t288 t291 t292 t293).bind fun t325 => (if t325 = true then ((laws_eqAgg.f bt310.2.2.2.2.1 bt310.2.2.2.2.2.1 bt310.2.2.2.2.2.2.1 bt310.2.2.2.2.2.2.2.1 bt310.2.2.2.2.2.2.2.2.1 bt310.2.2.2.2.2.2.2.2.2.1 t294 t295 t296 t297 t298 t299).bind fun t326 => (if t326 = true then (laws_FnExactTakeClosed.j0 k a1 a2 t300 bt310.2.2.2.2.2.2.2.2.2.2 (bt310.2.2.2.2.2.2.2.2.2.2 != t300) l0_0 a0_1 a0_2 a0_3 t288 t291 t292 t293 t294 t295 t296 t297 t298 t299 t303 t306 t307 t308 bt310.1 bt310.2.1 bt310.2.2.1 bt310.2.2.2.1 bt310.2.2.2.2.1 bt310.2.2.2.2.2.1 bt310.2.2.2.2.2.2.1 bt310.2.2.2.2.2.2.2.1 bt310.2.2.2.2.2.2.2.2.1 bt310.2.2.2.2.2.2.2.2.2.1) else (laws_FnExactTakeClosed.j0 k a1 a2 t300 bt310.2.2.2.2.2.2.2.2.2.2 true l0_0 a0_1 a0_2 a0_3 t288 t291 t292 t293 t294 t295 t296 t297 t298 t299 t303 t306 t307 t308 bt310.1 bt310.2.1 bt310.2.2.1 bt310.2.2.2.1 bt310.2.2.2.2.1 bt310.2.2.2.2.2.1 bt310.2.2.2.2.2.2.1 bt310.2.2.2.2.2.2.2.1 bt310.2.2.2.2.2.2.2.2.1 bt310.2.2.2.2.2.2.2.2.2.1))) else (laws_FnExactTakeClosed.j0 k a1 a2 t300 bt310.2.2.2.2.2.2.2.2.2.2 true l0_0 a0_1 a0_2 a0_3 t288 t291 t292 t293 t294 t295 t296 t297 t298 t299 t303 t306 t307 t308 bt310.1 bt310.2.1 bt310.2.2.1 bt310.2.2.2.1 bt310.2.2.2.2.1 bt310.2.2.2.2.2.1 bt310.2.2.2.2.2.2.1 bt310.2.2.2.2.2.2.2.1 bt310.2.2.2.2.2.2.2.2.1 bt310.2.2.2.2.2.2.2.2.2.1)))) = some r := H
  have A11 := Aside0.mk A110
  clear A110
  replace H := Option.bind_eq_some_iff.mp H
  obtain ⟨⟨t310, t313, t314, t315, t316, t317, t318, t319, t320, t321, t322⟩, A120, H⟩ := H
  replace H : ((laws_eqShard.f k t310 t313 t314 t315 t288 t291 t292 t293).bind fun t325 => (if t325 = true then ((laws_eqAgg.f t316 t317 t318 t319 t320 t321 t294 t295 t296 t297 t298 t299).bind fun t326 => (if t326 = true then (laws_FnExactTakeClosed.j0 k a1 a2 t300 t322 (t322 != t300) l0_0 a0_1 a0_2 a0_3 t288 t291 t292 t293 t294 t295 t296 t297 t298 t299 t303 t306 t307 t308 t310 t313 t314 t315 t316 t317 t318 t319 t320 t321) else (laws_FnExactTakeClosed.j0 k a1 a2 t300 t322 true l0_0 a0_1 a0_2 a0_3 t288 t291 t292 t293 t294 t295 t296 t297 t298 t299 t303 t306 t307 t308 t310 t313 t314 t315 t316 t317 t318 t319 t320 t321))) else (laws_FnExactTakeClosed.j0 k a1 a2 t300 t322 true l0_0 a0_1 a0_2 a0_3 t288 t291 t292 t293 t294 t295 t296 t297 t298 t299 t303 t306 t307 t308 t310 t313 t314 t315 t316 t317 t318 t319 t320 t321))) = some r := H
  have A12 := Aside0.mk A120
  clear A120
  have HC13 := Aside0.mk H
  clear H
  go_enter Try.func9, Try.ntmps9
  go_upto_region 8 with (first | ((with_reducible refine gate_dst (N := 3) rfl ?_); refine box_event ?hg (N := 3) ?hd (cs := #[.slice A0_0 l0_0.length c0_0, .int .i64 a0_1, .int .i64 a0_2, .int .i64 a0_3]) (t := 38) ?hr ?_; (case hd => rfl); (case hg => rfl); (case hr => first | (go_simp; done) | (go_simp; rfl)); intro gb280 hg w14 hbox hb; have n0_ := am_ (below_step (ue_ HB.out) hb); have n1_ := am_ (hbox); have n2_ := am_ ((by rw [hg]; exact (below_size (ue_ HB.out)) : w.heap.size ≤ gb280)); have n3_ := am_ ((by rw [hg]; exact (below_size (ue_ HB.out)) : w.heap.size ≤ gb280)); clear HB; have HB := n0_; have BK280 := n1_; have GW280 := n2_; have GE280 := n3_; clear n0_ n1_ n2_ n3_; clear hb hbox hg; obtain ⟨hcz15_0, hcz15_1, hcz15_2, hcz15_3⟩ := cb4_ BK280.out; obtain ⟨hfz15_0, hfz15_1, hfz15_2⟩ := bf3_ BK280.out; have hfz15_3 := blk_frozen BK280.out 3) | ((with_reducible refine gate_callee (f := 24) rfl ?_); refine goesL_ (some 23) rfl rfl Try.func24 (by kernel_rfl) rfl #[.agg #[.slice A0_0 l0_0.length c0_0, .int .i64 a0_1, .int .i64 a0_2, .int .i64 a0_3], .int .i64 1048576] rfl ul_ ?_; (with_reducible refine (laws_szShard.calls _ _ l0_0 a0_1 a0_2 a0_3 1048576 t281 _ ?side1 ?side2 A4.out).mono ?_); (case side1 => repeat (first | exact (Kd.C_below HR0_0.out HB.out) | (with_reducible refine Kd.C_alloc ?_ _) | (with_reducible refine Kd.C_drewN ?_ _) | (with_reducible refine Kd.C_drew ?_))); (case side2 => exact HC0_0.out); rintro e w16 ⟨rfl, hb⟩; refine ⟨_, rfl, ?_⟩; have n0_ := am_ (bb_ BK280.out hb); have n1_ := am_ (below_step (ue_ HB.out) hb); clear BK280 HB; have BK280 := n0_; have HB := n1_; clear n0_ n1_; (try clear hb); (try clear hb2); (try clear hk); (try clear hi); obtain ⟨hcz17_0, hcz17_1, hcz17_2, hcz17_3⟩ := cb4_ BK280.out; obtain ⟨hfz17_0, hfz17_1, hfz17_2⟩ := bf3_ BK280.out; have hfz17_3 := blk_frozen BK280.out 3) | ((with_reducible refine gate_callee (f := 26) rfl ?_); refine goesL_ (some 28) rfl rfl Try.func26 (by kernel_rfl) rfl #[.agg #[.slice A0_0 l0_0.length c0_0, .int .i64 a0_1, .int .i64 a0_2, .int .i64 a0_3]] rfl ul_ ?_; (with_reducible refine (laws_toShard.calls k _ _ l0_0 a0_1 a0_2 a0_3 t282 t285 t286 t287 _ ?side1 ?side2 A9.out).mono ?_); (case side1 => repeat (first | exact (Kd.C_below HR0_0.out HB.out) | (with_reducible refine Kd.C_alloc ?_ _) | (with_reducible refine Kd.C_drewN ?_ _) | (with_reducible refine Kd.C_drew ?_))); (case side2 => exact HC0_0.out); rintro e w18 ⟨v283, rfl, ho0, hb⟩; refine ⟨_, rfl, ?_⟩; have n0_ := am_ (Kd.R_lower ho0 (below_size (ue_ HB.out))); have n1_ := am_ (bb_ BK280.out hb); have n2_ := am_ (below_step (ue_ HB.out) hb); clear BK280 HB; have HO284 := n0_; have BK280 := n1_; have HB := n2_; clear n0_ n1_ n2_; (try clear hb); (try clear hb2); (try clear hk); (try clear hi); (try clear ho0); obtain ⟨Ao19, co19, eo19⟩ := Kd.R_slice HO284.out; subst eo19) | ((with_reducible refine gate_callee (f := 57) rfl ?_); refine goesL_ (some 31) rfl rfl Try.func57 (by kernel_rfl) rfl #[.agg #[.slice Ao19 t282.length co19, .int .i64 t285, .int .i64 t286, .int .i64 t287], .int .i64 a1, .bool a2] rfl ul_ ?_; (with_reducible refine (spec_TakeClosed.calls k _ _ t282 t285 t286 t287 a1 a2 t288 t291 t292 t293 t294 t295 t296 t297 t298 t299 t300 _ ?side1 ?side2 A10.out).mono ?_); (case side1 => repeat (first | exact (Kd.R_reads' HO284.out).2.2 | (with_reducible refine Kd.C_alloc ?_ _) | (with_reducible refine Kd.C_drewN ?_ _) | (with_reducible refine Kd.C_drew ?_))); (case side2 => exact (Kd.R_reads' HO284.out).2.1); rintro e w20 ⟨v289, rfl, ho0, hb⟩; refine ⟨_, rfl, ?_⟩; have n0_ := am_ (Kd.R_elder' (ur_ HO284.out) (Kd.Q_base ho0) hb); have n1_ := am_ (Kd.Q_lower (Kd.Q_new' ho0 (Kd.R_lt (ur_ HO284.out))) (below_size (ue_ HB.out))); have n2_ := am_ (bb_ BK280.out hb); have n3_ := am_ (below_step (ue_ HB.out) hb); clear HO284 BK280 HB; have HO284 := n0_; have HO290 := n1_; have BK280 := n2_; have HB := n3_; clear n0_ n1_ n2_ n3_; (try clear hb); (try clear hb2); (try clear hk); (try clear hi); (try clear ho0)) | ((with_reducible refine gate_dst (N := 8) rfl ?_); refine box_event ?hg (N := 8) ?hd (cs := #[.slice none 0 0, .int .i64 0, .int .i64 0, .int .i64 0]) (t := 42) ?hr ?_; (case hd => rfl); (case hg => rfl); (case hr => first | (go_simp; done) | (go_simp; rfl)); intro gb301 hg w21 hbox hb; have n0_ := am_ (Kd.R_below (ur_ HO284.out) hb); have n1_ := am_ (Kd.Q_below (by (with_reducible repeat (first | apply Kd.Q_alloc | apply Kd.Q_drewN | apply Kd.Q_drew)); exact HO290.out) hb); have n2_ := am_ (bb_ BK280.out hb); have n3_ := am_ (below_step (ue_ HB.out) hb); have n4_ := am_ (hbox); have n5_ := am_ ((by rw [hg]; exact (below_size (ue_ HB.out)) : w.heap.size ≤ gb301)); have n6_ := am_ ((by rw [hg]; exact (below_size (ue_ HB.out)) : w.heap.size ≤ gb301)); have n7_ := am_ ((by rw [hg]; exact Nat.ne_of_lt (bl_ BK280.out) : gb280 ≠ gb301)); have n8_ := am_ ((by rw [hg]; exact Nat.ne_of_gt (bl_ BK280.out) : gb301 ≠ gb280)); clear HO284 HO290 BK280 HB; have HO284 := n0_; have HO290 := n1_; have BK280 := n2_; have HB := n3_; have BK301 := n4_; have GW301 := n5_; have GE301 := n6_; have NB280_301 := n7_; have NB301_280 := n8_; clear n0_ n1_ n2_ n3_ n4_ n5_ n6_ n7_ n8_; clear hb hbox hg) | ((with_reducible refine gate_dst (N := 9) rfl ?_); refine box_event ?hg (N := 9) ?hd (cs := #[.int .i64 0, .int .i64 0, .int .i64 0, .int .i64 0, .int .i64 0, .int .i64 0]) (t := 80) ?hr ?_; (case hd => rfl); (case hg => rfl); (case hr => first | (go_simp; done) | (go_simp; rfl)); intro gb302 hg w22 hbox hb; have n0_ := am_ (Kd.R_below (Kd.R_elderB (ur_ HO284.out) gb302 (Nat.le_of_eq hg.symm)) hb); have n1_ := am_ (Kd.Q_below (Kd.Q_elderB (by (with_reducible repeat (first | apply Kd.Q_alloc | apply Kd.Q_drewN | apply Kd.Q_drew)); exact HO290.out) gb302 (Nat.le_of_eq hg.symm)) hb); have n2_ := am_ (bb_ BK280.out hb); have n3_ := am_ (bb_ BK301.out hb); have n4_ := am_ (below_step (ue_ HB.out) hb); have n5_ := am_ (hbox); have n6_ := am_ ((by rw [hg]; exact (below_size (ue_ HB.out)) : w.heap.size ≤ gb302)); have n7_ := am_ ((by rw [hg]; exact (below_size (ue_ HB.out)) : w.heap.size ≤ gb302)); have n8_ := am_ ((by rw [hg]; exact Nat.ne_of_lt (bl_ BK280.out) : gb280 ≠ gb302)); have n9_ := am_ ((by rw [hg]; exact Nat.ne_of_gt (bl_ BK280.out) : gb302 ≠ gb280)); have n10_ := am_ ((by rw [hg]; exact Nat.ne_of_lt (bl_ BK301.out) : gb301 ≠ gb302)); have n11_ := am_ ((by rw [hg]; exact Nat.ne_of_gt (bl_ BK301.out) : gb302 ≠ gb301)); clear HO284 HO290 BK280 BK301 HB; have HO284 := n0_; have HO290 := n1_; have BK280 := n2_; have BK301 := n3_; have HB := n4_; have BK302 := n5_; have GW302 := n6_; have GE302 := n7_; have NB280_302 := n8_; have NB302_280 := n9_; have NB301_302 := n10_; have NB302_301 := n11_; clear n0_ n1_ n2_ n3_ n4_ n5_ n6_ n7_ n8_ n9_ n10_ n11_; clear hb hbox hg; obtain ⟨Ao23, co23, eo23, _⟩ := Kd.Q_slice HO290.out; subst eo23; have hnb24 := NB301_280.out; have hnc24 := NB280_301.out; have hnb25 := NB301_302.out; have hnc25 := NB302_301.out; obtain ⟨hcz26_0, hcz26_1, hcz26_2, hcz26_3⟩ := cb4_ BK301.out; obtain ⟨hfz26_0, hfz26_1, hfz26_2⟩ := bf3_ BK301.out; have hfz26_3 := blk_frozen BK301.out 3) | ((with_reducible refine gate_store (t := 42) (p := 8) rfl ?_); refine store_event (t := 42) (p := 8) (v := ?vo_w27) (w1 := ((((w22.setCell ⟨gb301, 0, none⟩ (.slice Ao23 t288.length co23)).setCell ⟨gb301, 1, none⟩ (.int .i64 t291)).setCell ⟨gb301, 2, none⟩ (.int .i64 t292)).setCell ⟨gb301, 3, none⟩ (.int .i64 t293))) ?hg ?ho ?hn ?hr ?_; (case ho => rfl); (case hg => rfl); (case hn => rfl); (case hr => first | (go_simp; done) | (go_simp; rfl)); intro w27 hw; have n0_ : Aside0 (Kd.R k80 80 w27 w.heap.size (fun k_ => some k_ ≠ (.slice Ao23 t288.length co23 : Value).ownBlock ∧ k_ ≠ gb302) (.slice Ao19 t282.length co19) t282) := ⟨(by rw [hw]; exact (by (with_reducible repeat (first | apply Kd.R_alloc | apply Kd.R_drewN | apply Kd.R_drew)); exact Kd.R_mono (Kd.R_far (p := ⟨gb301, 3, none⟩) (Kd.R_far (p := ⟨gb301, 2, none⟩) (Kd.R_far (p := ⟨gb301, 1, none⟩) (Kd.R_far (p := ⟨gb301, 0, none⟩) (Kd.R_types HO284.out BK301.out (by decide)) (fun _ hk => by first | exact hk.2 | grind) (.slice Ao23 t288.length co23)) (fun _ hk => by first | exact hk.2 | grind) (.int .i64 t291)) (fun _ hk => by first | exact hk.2 | grind) (.int .i64 t292)) (fun _ hk => by first | exact hk.2 | grind) (.int .i64 t293)) (fun _ hk => by first | exact ⟨hk.1.1.2, hk.1.2⟩ | grind)))⟩; have n1_ : Aside0 (Kd.Q k80 80 w27 w.heap.size (fun k_ => some k_ ≠ (.slice Ao19 t282.length co19 : Value).ownBlock ∧ k_ ≠ gb302) (.slice Ao23 t288.length co23) t288) := ⟨(by rw [hw]; exact (by (with_reducible repeat (first | apply Kd.Q_alloc | apply Kd.Q_drewN | apply Kd.Q_drew)); exact Kd.Q_mono (Kd.Q_far (p := ⟨gb301, 3, none⟩) (Kd.Q_far (p := ⟨gb301, 2, none⟩) (Kd.Q_far (p := ⟨gb301, 1, none⟩) (Kd.Q_far (p := ⟨gb301, 0, none⟩) (Kd.Q_types HO290.out BK301.out (by decide)) (fun _ hk => by first | exact hk.2 | grind) (.slice Ao23 t288.length co23)) (fun _ hk => by first | exact hk.2 | grind) (.int .i64 t291)) (fun _ hk => by first | exact hk.2 | grind) (.int .i64 t292)) (fun _ hk => by first | exact hk.2 | grind) (.int .i64 t293)) (fun _ hk => by first | exact ⟨hk.1.1.2, hk.1.2⟩ | grind)))⟩; have n2_ : Aside0 (w27.heap[gb280]? = some (.cells #[.slice A0_0 l0_0.length c0_0, .int .i64 a0_1, .int .i64 a0_2, .int .i64 a0_3] 38 (0, 0))) := ⟨(by rw [hw]; exact (uf_ BK280.out))⟩; have n3_ : Aside0 (w27.heap[gb301]? = some (.cells #[.slice Ao23 t288.length co23, .int .i64 t291, .int .i64 t292, .int .i64 t293] 42 (0, 0))) := ⟨(by rw [hw]; exact (by (with_reducible repeat first|apply bn_|apply bd_|apply ba_); refine blk_put (cs := #[.slice Ao23 t288.length co23, .int .i64 t291, .int .i64 t292, .int .i64 0]) ?_ 3 _ rfl; refine blk_put (cs := #[.slice Ao23 t288.length co23, .int .i64 t291, .int .i64 0, .int .i64 0]) ?_ 2 _ rfl; refine blk_put (cs := #[.slice Ao23 t288.length co23, .int .i64 0, .int .i64 0, .int .i64 0]) ?_ 1 _ rfl; refine blk_put (cs := #[.slice none 0 0, .int .i64 0, .int .i64 0, .int .i64 0]) ?_ 0 _ rfl; (with_reducible repeat first|apply bn_|apply bd_|apply ba_); exact BK301.out))⟩; have n4_ : Aside0 (w27.heap[gb302]? = some (.cells #[.int .i64 0, .int .i64 0, .int .i64 0, .int .i64 0, .int .i64 0, .int .i64 0] 80 (0, 0))) := ⟨(by rw [hw]; exact (uf_ BK302.out))⟩; have n5_ : Aside0 (Below w.heap.size w w27) := ⟨(by rw [hw]; exact (ue_ HB.out))⟩; clear hw HO284 HO290 BK280 BK301 BK302 HB; have HO284 := n0_; have HO290 := n1_; have BK280 := n2_; have BK301 := n3_; have BK302 := n4_; have HB := n5_; clear n0_ n1_ n2_ n3_ n4_ n5_; have hnb28 := NB302_280.out; have hnc28 := NB280_302.out; obtain ⟨hcz29_0, hcz29_1, hcz29_2, hcz29_3, hcz29_4, hcz29_5⟩ := cb6_ BK302.out; obtain ⟨hfz29_0, hfz29_1, hfz29_2, hfz29_3, hfz29_4⟩ := bf5_ BK302.out; have hfz29_5 := blk_frozen BK302.out 5) | ((with_reducible refine gate_store (t := 80) (p := 9) rfl ?_); refine store_event (t := 80) (p := 9) (v := ?vo_w30) (w1 := ((((((w27.setCell ⟨gb302, 0, none⟩ (.int .i64 t294)).setCell ⟨gb302, 1, none⟩ (.int .i64 t295)).setCell ⟨gb302, 2, none⟩ (.int .i64 t296)).setCell ⟨gb302, 3, none⟩ (.int .i64 t297)).setCell ⟨gb302, 4, none⟩ (.int .i64 t298)).setCell ⟨gb302, 5, none⟩ (.int .i64 t299))) ?hg ?ho ?hn ?hr ?_; (case ho => rfl); (case hg => rfl); (case hn => rfl); (case hr => first | (go_simp; done) | (go_simp; rfl)); intro w30 hw; have n0_ : Aside0 (Kd.R k80 80 w30 w.heap.size (fun k_ => some k_ ≠ (.slice Ao23 t288.length co23 : Value).ownBlock ∧ k_ ≠ gb302) (.slice Ao19 t282.length co19) t282) := ⟨(by rw [hw]; exact (by (with_reducible repeat (first | apply Kd.R_alloc | apply Kd.R_drewN | apply Kd.R_drew)); exact Kd.R_mono (Kd.R_far (p := ⟨gb302, 5, none⟩) (Kd.R_far (p := ⟨gb302, 4, none⟩) (Kd.R_far (p := ⟨gb302, 3, none⟩) (Kd.R_far (p := ⟨gb302, 2, none⟩) (Kd.R_far (p := ⟨gb302, 1, none⟩) (Kd.R_far (p := ⟨gb302, 0, none⟩) (Kd.R_mono HO284.out (fun k_ hk => (⟨hk, (by first | exact hk.2 | grind)⟩ : _ ∧ k_ ≠ gb302))) (fun _ hk => by first | exact hk.2 | grind) (.int .i64 t294)) (fun _ hk => by first | exact hk.2 | grind) (.int .i64 t295)) (fun _ hk => by first | exact hk.2 | grind) (.int .i64 t296)) (fun _ hk => by first | exact hk.2 | grind) (.int .i64 t297)) (fun _ hk => by first | exact hk.2 | grind) (.int .i64 t298)) (fun _ hk => by first | exact hk.2 | grind) (.int .i64 t299)) (fun _ hk => by first | exact ⟨hk.1.1, hk.1.2⟩ | grind)))⟩; have n1_ : Aside0 (Kd.Q k80 80 w30 w.heap.size (fun k_ => some k_ ≠ (.slice Ao19 t282.length co19 : Value).ownBlock ∧ k_ ≠ gb302) (.slice Ao23 t288.length co23) t288) := ⟨(by rw [hw]; exact (by (with_reducible repeat (first | apply Kd.Q_alloc | apply Kd.Q_drewN | apply Kd.Q_drew)); exact Kd.Q_mono (Kd.Q_far (p := ⟨gb302, 5, none⟩) (Kd.Q_far (p := ⟨gb302, 4, none⟩) (Kd.Q_far (p := ⟨gb302, 3, none⟩) (Kd.Q_far (p := ⟨gb302, 2, none⟩) (Kd.Q_far (p := ⟨gb302, 1, none⟩) (Kd.Q_far (p := ⟨gb302, 0, none⟩) (Kd.Q_mono HO290.out (fun k_ hk => (⟨hk, (by first | exact hk.2 | grind)⟩ : _ ∧ k_ ≠ gb302))) (fun _ hk => by first | exact hk.2 | grind) (.int .i64 t294)) (fun _ hk => by first | exact hk.2 | grind) (.int .i64 t295)) (fun _ hk => by first | exact hk.2 | grind) (.int .i64 t296)) (fun _ hk => by first | exact hk.2 | grind) (.int .i64 t297)) (fun _ hk => by first | exact hk.2 | grind) (.int .i64 t298)) (fun _ hk => by first | exact hk.2 | grind) (.int .i64 t299)) (fun _ hk => by first | exact ⟨hk.1.1, hk.1.2⟩ | grind)))⟩; have n2_ : Aside0 (w30.heap[gb280]? = some (.cells #[.slice A0_0 l0_0.length c0_0, .int .i64 a0_1, .int .i64 a0_2, .int .i64 a0_3] 38 (0, 0))) := ⟨(by rw [hw]; exact (uf_ BK280.out))⟩; have n3_ : Aside0 (w30.heap[gb301]? = some (.cells #[.slice Ao23 t288.length co23, .int .i64 t291, .int .i64 t292, .int .i64 t293] 42 (0, 0))) := ⟨(by rw [hw]; exact (uf_ BK301.out))⟩; have n4_ : Aside0 (w30.heap[gb302]? = some (.cells #[.int .i64 t294, .int .i64 t295, .int .i64 t296, .int .i64 t297, .int .i64 t298, .int .i64 t299] 80 (0, 0))) := ⟨(by rw [hw]; exact (by (with_reducible repeat first|apply bn_|apply bd_|apply ba_); refine blk_put (cs := #[.int .i64 t294, .int .i64 t295, .int .i64 t296, .int .i64 t297, .int .i64 t298, .int .i64 0]) ?_ 5 _ rfl; refine blk_put (cs := #[.int .i64 t294, .int .i64 t295, .int .i64 t296, .int .i64 t297, .int .i64 0, .int .i64 0]) ?_ 4 _ rfl; refine blk_put (cs := #[.int .i64 t294, .int .i64 t295, .int .i64 t296, .int .i64 0, .int .i64 0, .int .i64 0]) ?_ 3 _ rfl; refine blk_put (cs := #[.int .i64 t294, .int .i64 t295, .int .i64 0, .int .i64 0, .int .i64 0, .int .i64 0]) ?_ 2 _ rfl; refine blk_put (cs := #[.int .i64 t294, .int .i64 0, .int .i64 0, .int .i64 0, .int .i64 0, .int .i64 0]) ?_ 1 _ rfl; refine blk_put (cs := #[.int .i64 0, .int .i64 0, .int .i64 0, .int .i64 0, .int .i64 0, .int .i64 0]) ?_ 0 _ rfl; (with_reducible repeat first|apply bn_|apply bd_|apply ba_); exact BK302.out))⟩; have n5_ : Aside0 (Below w.heap.size w w30) := ⟨(by rw [hw]; exact (ue_ HB.out))⟩; clear hw HO284 HO290 BK280 BK301 BK302 HB; have HO284 := n0_; have HO290 := n1_; have BK280 := n2_; have BK301 := n3_; have BK302 := n4_; have HB := n5_; clear n0_ n1_ n2_ n3_ n4_ n5_; obtain ⟨hcz31_0, hcz31_1, hcz31_2, hcz31_3⟩ := cb4_ BK280.out; obtain ⟨hfz31_0, hfz31_1, hfz31_2⟩ := bf3_ BK280.out; have hfz31_3 := blk_frozen BK280.out 3) | ((with_reducible refine gate_callee (f := 26) rfl ?_); refine goesL_ (some 36) rfl rfl Try.func26 (by kernel_rfl) rfl #[.agg #[.slice A0_0 l0_0.length c0_0, .int .i64 a0_1, .int .i64 a0_2, .int .i64 a0_3]] rfl ul_ ?_; (with_reducible refine (laws_toShard.calls k _ _ l0_0 a0_1 a0_2 a0_3 t303 t306 t307 t308 _ ?side1 ?side2 A11.out).mono ?_); (case side1 => repeat (first | exact (Kd.C_below HR0_0.out HB.out) | (with_reducible refine Kd.C_alloc ?_ _) | (with_reducible refine Kd.C_drewN ?_ _) | (with_reducible refine Kd.C_drew ?_))); (case side2 => exact HC0_0.out); rintro e w32 ⟨v304, rfl, ho0, hb⟩; refine ⟨_, rfl, ?_⟩; have n0_ := am_ (Kd.R_elder' (ur_ HO284.out) (Kd.R_base ho0) hb); have n1_ := am_ (Kd.Q_elder' (by (with_reducible repeat (first | apply Kd.Q_alloc | apply Kd.Q_drewN | apply Kd.Q_drew)); exact HO290.out) (Kd.R_base ho0) hb); have n2_ := am_ (Kd.R_lower (Kd.R_newB (Kd.R_new' (Kd.R_new' ho0 (Kd.R_lt (ur_ HO284.out))) (Kd.Q_lt (by (with_reducible repeat (first | apply Kd.Q_alloc | apply Kd.Q_drewN | apply Kd.Q_drew)); exact HO290.out))) (g := gb302) (o := .cells #[.int .i64 t294, .int .i64 t295, .int .i64 t296, .int .i64 t297, .int .i64 t298, .int .i64 t299] 80 (0, 0)) (ub_ BK302.out)) (below_size (ue_ HB.out))); have n3_ := am_ (bb_ BK280.out hb); have n4_ := am_ (bb_ BK301.out hb); have n5_ := am_ (bb_ BK302.out hb); have n6_ := am_ (below_step (ue_ HB.out) hb); clear HO284 HO290 BK280 BK301 BK302 HB; have HO284 := n0_; have HO290 := n1_; have HO305 := n2_; have BK280 := n3_; have BK301 := n4_; have BK302 := n5_; have HB := n6_; clear n0_ n1_ n2_ n3_ n4_ n5_ n6_; (try clear hb); (try clear hb2); (try clear hk); (try clear hi); (try clear ho0)) | ((with_reducible refine gate_dst (N := 11) rfl ?_); refine box_event ?hg (N := 11) ?hd (cs := #[.slice none 0 0, .int .i64 0, .int .i64 0, .int .i64 0]) (t := 42) ?hr ?_; (case hd => rfl); (case hg => rfl); (case hr => first | (go_simp; done) | (go_simp; rfl)); intro gb309 hg w33 hbox hb; have n0_ := am_ (Kd.R_below (ur_ HO284.out) hb); have n1_ := am_ (Kd.Q_below (by (with_reducible repeat (first | apply Kd.Q_alloc | apply Kd.Q_drewN | apply Kd.Q_drew)); exact HO290.out) hb); have n2_ := am_ (Kd.R_below (ur_ HO305.out) hb); have n3_ := am_ (bb_ BK280.out hb); have n4_ := am_ (bb_ BK301.out hb); have n5_ := am_ (bb_ BK302.out hb); have n6_ := am_ (below_step (ue_ HB.out) hb); have n7_ := am_ (hbox); have n8_ := am_ ((by rw [hg]; exact (below_size (ue_ HB.out)) : w.heap.size ≤ gb309)); have n9_ := am_ ((by rw [hg]; exact (below_size (ue_ HB.out)) : w.heap.size ≤ gb309)); have n10_ := am_ ((by rw [hg]; exact Nat.ne_of_lt (bl_ BK280.out) : gb280 ≠ gb309)); have n11_ := am_ ((by rw [hg]; exact Nat.ne_of_gt (bl_ BK280.out) : gb309 ≠ gb280)); have n12_ := am_ ((by rw [hg]; exact Nat.ne_of_lt (bl_ BK301.out) : gb301 ≠ gb309)); have n13_ := am_ ((by rw [hg]; exact Nat.ne_of_gt (bl_ BK301.out) : gb309 ≠ gb301)); have n14_ := am_ ((by rw [hg]; exact Nat.ne_of_lt (bl_ BK302.out) : gb302 ≠ gb309)); have n15_ := am_ ((by rw [hg]; exact Nat.ne_of_gt (bl_ BK302.out) : gb309 ≠ gb302)); clear HO284 HO290 HO305 BK280 BK301 BK302 HB; have HO284 := n0_; have HO290 := n1_; have HO305 := n2_; have BK280 := n3_; have BK301 := n4_; have BK302 := n5_; have HB := n6_; have BK309 := n7_; have GW309 := n8_; have GE309 := n9_; have NB280_309 := n10_; have NB309_280 := n11_; have NB301_309 := n12_; have NB309_301 := n13_; have NB302_309 := n14_; have NB309_302 := n15_; clear n0_ n1_ n2_ n3_ n4_ n5_ n6_ n7_ n8_ n9_ n10_ n11_ n12_ n13_ n14_ n15_; clear hb hbox hg; obtain ⟨Ao34, co34, eo34⟩ := Kd.R_slice HO305.out; subst eo34; have hnb35 := NB309_280.out; have hnc35 := NB280_309.out; have hnb36 := NB309_301.out; have hnc36 := NB301_309.out; have hnb37 := NB309_302.out; have hnc37 := NB302_309.out; obtain ⟨hcz38_0, hcz38_1, hcz38_2, hcz38_3⟩ := cb4_ BK309.out; obtain ⟨hfz38_0, hfz38_1, hfz38_2⟩ := bf3_ BK309.out; have hfz38_3 := blk_frozen BK309.out 3) | ((with_reducible refine gate_store (t := 42) (p := 11) rfl ?_); refine store_event (t := 42) (p := 11) (v := ?vo_w39) (w1 := ((((w33.setCell ⟨gb309, 0, none⟩ (.slice Ao34 t303.length co34)).setCell ⟨gb309, 1, none⟩ (.int .i64 t306)).setCell ⟨gb309, 2, none⟩ (.int .i64 t307)).setCell ⟨gb309, 3, none⟩ (.int .i64 t308))) ?hg ?ho ?hn ?hr ?_; (case ho => rfl); (case hg => rfl); (case hn => rfl); (case hr => first | (go_simp; done) | (go_simp; rfl)); intro w39 hw; have n0_ : Aside0 (Kd.R k80 80 w39 w.heap.size (fun k_ => some k_ ≠ (.slice Ao23 t288.length co23 : Value).ownBlock ∧ some k_ ≠ (.slice Ao34 t303.length co34 : Value).ownBlock ∧ k_ ≠ gb302) (.slice Ao19 t282.length co19) t282) := ⟨(by rw [hw]; exact (by (with_reducible repeat (first | apply Kd.R_alloc | apply Kd.R_drewN | apply Kd.R_drew)); exact Kd.R_mono (Kd.R_far (p := ⟨gb309, 3, none⟩) (Kd.R_far (p := ⟨gb309, 2, none⟩) (Kd.R_far (p := ⟨gb309, 1, none⟩) (Kd.R_far (p := ⟨gb309, 0, none⟩) (Kd.R_types HO284.out BK309.out (by decide)) (fun _ hk => by first | exact hk.2 | grind) (.slice Ao34 t303.length co34)) (fun _ hk => by first | exact hk.2 | grind) (.int .i64 t306)) (fun _ hk => by first | exact hk.2 | grind) (.int .i64 t307)) (fun _ hk => by first | exact hk.2 | grind) (.int .i64 t308)) (fun _ hk => by first | exact ⟨hk.1.1.1, ⟨hk.1.2, hk.1.1.2⟩⟩ | grind)))⟩; have n1_ : Aside0 (Kd.Q k80 80 w39 w.heap.size (fun k_ => some k_ ≠ (.slice Ao19 t282.length co19 : Value).ownBlock ∧ some k_ ≠ (.slice Ao34 t303.length co34 : Value).ownBlock ∧ k_ ≠ gb302) (.slice Ao23 t288.length co23) t288) := ⟨(by rw [hw]; exact (by (with_reducible repeat (first | apply Kd.Q_alloc | apply Kd.Q_drewN | apply Kd.Q_drew)); exact Kd.Q_mono (Kd.Q_far (p := ⟨gb309, 3, none⟩) (Kd.Q_far (p := ⟨gb309, 2, none⟩) (Kd.Q_far (p := ⟨gb309, 1, none⟩) (Kd.Q_far (p := ⟨gb309, 0, none⟩) (Kd.Q_types HO290.out BK309.out (by decide)) (fun _ hk => by first | exact hk.2 | grind) (.slice Ao34 t303.length co34)) (fun _ hk => by first | exact hk.2 | grind) (.int .i64 t306)) (fun _ hk => by first | exact hk.2 | grind) (.int .i64 t307)) (fun _ hk => by first | exact hk.2 | grind) (.int .i64 t308)) (fun _ hk => by first | exact ⟨hk.1.1.1, ⟨hk.1.2, hk.1.1.2⟩⟩ | grind)))⟩; have n2_ : Aside0 (Kd.R k80 80 w39 w.heap.size (fun k_ => some k_ ≠ (.slice Ao19 t282.length co19 : Value).ownBlock ∧ some k_ ≠ (.slice Ao23 t288.length co23 : Value).ownBlock ∧ k_ ≠ gb302) (.slice Ao34 t303.length co34) t303) := ⟨(by rw [hw]; exact (by (with_reducible repeat (first | apply Kd.R_alloc | apply Kd.R_drewN | apply Kd.R_drew)); exact Kd.R_mono (Kd.R_far (p := ⟨gb309, 3, none⟩) (Kd.R_far (p := ⟨gb309, 2, none⟩) (Kd.R_far (p := ⟨gb309, 1, none⟩) (Kd.R_far (p := ⟨gb309, 0, none⟩) (Kd.R_types HO305.out BK309.out (by decide)) (fun _ hk => by first | exact hk.2 | grind) (.slice Ao34 t303.length co34)) (fun _ hk => by first | exact hk.2 | grind) (.int .i64 t306)) (fun _ hk => by first | exact hk.2 | grind) (.int .i64 t307)) (fun _ hk => by first | exact hk.2 | grind) (.int .i64 t308)) (fun _ hk => by first | exact ⟨hk.1.1.1.2, ⟨hk.1.1.2, hk.1.2⟩⟩ | grind)))⟩; have n3_ : Aside0 (w39.heap[gb280]? = some (.cells #[.slice A0_0 l0_0.length c0_0, .int .i64 a0_1, .int .i64 a0_2, .int .i64 a0_3] 38 (0, 0))) := ⟨(by rw [hw]; exact (uf_ BK280.out))⟩; have n4_ : Aside0 (w39.heap[gb301]? = some (.cells #[.slice Ao23 t288.length co23, .int .i64 t291, .int .i64 t292, .int .i64 t293] 42 (0, 0))) := ⟨(by rw [hw]; exact (uf_ BK301.out))⟩; have n5_ : Aside0 (w39.heap[gb302]? = some (.cells #[.int .i64 t294, .int .i64 t295, .int .i64 t296, .int .i64 t297, .int .i64 t298, .int .i64 t299] 80 (0, 0))) := ⟨(by rw [hw]; exact (uf_ BK302.out))⟩; have n6_ : Aside0 (w39.heap[gb309]? = some (.cells #[.slice Ao34 t303.length co34, .int .i64 t306, .int .i64 t307, .int .i64 t308] 42 (0, 0))) := ⟨(by rw [hw]; exact (by (with_reducible repeat first|apply bn_|apply bd_|apply ba_); refine blk_put (cs := #[.slice Ao34 t303.length co34, .int .i64 t306, .int .i64 t307, .int .i64 0]) ?_ 3 _ rfl; refine blk_put (cs := #[.slice Ao34 t303.length co34, .int .i64 t306, .int .i64 0, .int .i64 0]) ?_ 2 _ rfl; refine blk_put (cs := #[.slice Ao34 t303.length co34, .int .i64 0, .int .i64 0, .int .i64 0]) ?_ 1 _ rfl; refine blk_put (cs := #[.slice none 0 0, .int .i64 0, .int .i64 0, .int .i64 0]) ?_ 0 _ rfl; (with_reducible repeat first|apply bn_|apply bd_|apply ba_); exact BK309.out))⟩; have n7_ : Aside0 (Below w.heap.size w w39) := ⟨(by rw [hw]; exact (ue_ HB.out))⟩; clear hw HO284 HO290 HO305 BK280 BK301 BK302 BK309 HB; have HO284 := n0_; have HO290 := n1_; have HO305 := n2_; have BK280 := n3_; have BK301 := n4_; have BK302 := n5_; have BK309 := n6_; have HB := n7_; clear n0_ n1_ n2_ n3_ n4_ n5_ n6_ n7_; obtain ⟨hcz40_0, hcz40_1, hcz40_2, hcz40_3⟩ := cb4_ BK309.out; obtain ⟨hfz40_0, hfz40_1, hfz40_2⟩ := bf3_ BK309.out; have hfz40_3 := blk_frozen BK309.out 3) | ((with_reducible refine gate_callee (f := 58) rfl ?_); refine goesL_ (some 41) rfl rfl Try.func58 (by kernel_rfl) rfl #[.agg #[.slice Ao34 t303.length co34, .int .i64 t306, .int .i64 t307, .int .i64 t308], .int .i64 a1, .bool a2] rfl ul_ ?_; (with_reducible refine (impl_TakeClosed.calls k _ _ t303 t306 t307 t308 a1 a2 t310 t313 t314 t315 t316 t317 t318 t319 t320 t321 t322 _ ?side1 ?side2 A12.out).mono ?_); (case side1 => repeat (first | exact (Kd.R_reads' HO305.out).2.2 | (with_reducible refine Kd.C_alloc ?_ _) | (with_reducible refine Kd.C_drewN ?_ _) | (with_reducible refine Kd.C_drew ?_))); (case side2 => exact (Kd.R_reads' HO305.out).2.1); rintro e w41 ⟨v311, rfl, ho0, hb⟩; refine ⟨_, rfl, ?_⟩; have n0_ := am_ (Kd.R_elder' (ur_ HO284.out) (Kd.R_base ho0) hb); have n1_ := am_ (Kd.Q_elder' (by (with_reducible repeat (first | apply Kd.Q_alloc | apply Kd.Q_drewN | apply Kd.Q_drew)); exact HO290.out) (Kd.R_base ho0) hb); have n2_ := am_ (Kd.R_elder' (ur_ HO305.out) (Kd.R_base ho0) hb); have n3_ := am_ (Kd.R_lower (Kd.R_newB (Kd.R_new' (Kd.R_new' (Kd.R_new' ho0 (Kd.R_lt (ur_ HO284.out))) (Kd.Q_lt (by (with_reducible repeat (first | apply Kd.Q_alloc | apply Kd.Q_drewN | apply Kd.Q_drew)); exact HO290.out))) (Kd.R_lt (ur_ HO305.out))) (g := gb302) (o := .cells #[.int .i64 t294, .int .i64 t295, .int .i64 t296, .int .i64 t297, .int .i64 t298, .int .i64 t299] 80 (0, 0)) (ub_ BK302.out)) (below_size (ue_ HB.out))); have n4_ := am_ (bb_ BK280.out hb); have n5_ := am_ (bb_ BK301.out hb); have n6_ := am_ (bb_ BK302.out hb); have n7_ := am_ (bb_ BK309.out hb); have n8_ := am_ (below_step (ue_ HB.out) hb); clear HO284 HO290 HO305 BK280 BK301 BK302 BK309 HB; have HO284 := n0_; have HO290 := n1_; have HO305 := n2_; have HO312 := n3_; have BK280 := n4_; have BK301 := n5_; have BK302 := n6_; have BK309 := n7_; have HB := n8_; clear n0_ n1_ n2_ n3_ n4_ n5_ n6_ n7_ n8_; (try clear hb); (try clear hb2); (try clear hk); (try clear hi); (try clear ho0)) | ((with_reducible refine gate_dst (N := 12) rfl ?_); refine box_event ?hg (N := 12) ?hd (cs := #[.slice none 0 0, .int .i64 0, .int .i64 0, .int .i64 0]) (t := 42) ?hr ?_; (case hd => rfl); (case hg => rfl); (case hr => first | (go_simp; done) | (go_simp; rfl)); intro gb323 hg w42 hbox hb; have n0_ := am_ (Kd.R_below (ur_ HO284.out) hb); have n1_ := am_ (Kd.Q_below (by (with_reducible repeat (first | apply Kd.Q_alloc | apply Kd.Q_drewN | apply Kd.Q_drew)); exact HO290.out) hb); have n2_ := am_ (Kd.R_below (ur_ HO305.out) hb); have n3_ := am_ (Kd.R_below (ur_ HO312.out) hb); have n4_ := am_ (bb_ BK280.out hb); have n5_ := am_ (bb_ BK301.out hb); have n6_ := am_ (bb_ BK302.out hb); have n7_ := am_ (bb_ BK309.out hb); have n8_ := am_ (below_step (ue_ HB.out) hb); have n9_ := am_ (hbox); have n10_ := am_ ((by rw [hg]; exact (below_size (ue_ HB.out)) : w.heap.size ≤ gb323)); have n11_ := am_ ((by rw [hg]; exact (below_size (ue_ HB.out)) : w.heap.size ≤ gb323)); have n12_ := am_ ((by rw [hg]; exact Nat.ne_of_lt (bl_ BK280.out) : gb280 ≠ gb323)); have n13_ := am_ ((by rw [hg]; exact Nat.ne_of_gt (bl_ BK280.out) : gb323 ≠ gb280)); have n14_ := am_ ((by rw [hg]; exact Nat.ne_of_lt (bl_ BK301.out) : gb301 ≠ gb323)); have n15_ := am_ ((by rw [hg]; exact Nat.ne_of_gt (bl_ BK301.out) : gb323 ≠ gb301)); have n16_ := am_ ((by rw [hg]; exact Nat.ne_of_lt (bl_ BK302.out) : gb302 ≠ gb323)); have n17_ := am_ ((by rw [hg]; exact Nat.ne_of_gt (bl_ BK302.out) : gb323 ≠ gb302)); have n18_ := am_ ((by rw [hg]; exact Nat.ne_of_lt (bl_ BK309.out) : gb309 ≠ gb323)); have n19_ := am_ ((by rw [hg]; exact Nat.ne_of_gt (bl_ BK309.out) : gb323 ≠ gb309)); clear HO284 HO290 HO305 HO312 BK280 BK301 BK302 BK309 HB; have HO284 := n0_; have HO290 := n1_; have HO305 := n2_; have HO312 := n3_; have BK280 := n4_; have BK301 := n5_; have BK302 := n6_; have BK309 := n7_; have HB := n8_; have BK323 := n9_; have GW323 := n10_; have GE323 := n11_; have NB280_323 := n12_; have NB323_280 := n13_; have NB301_323 := n14_; have NB323_301 := n15_; have NB302_323 := n16_; have NB323_302 := n17_; have NB309_323 := n18_; have NB323_309 := n19_; clear n0_ n1_ n2_ n3_ n4_ n5_ n6_ n7_ n8_ n9_ n10_ n11_ n12_ n13_ n14_ n15_ n16_ n17_ n18_ n19_; clear hb hbox hg) | ((with_reducible refine gate_dst (N := 13) rfl ?_); refine box_event ?hg (N := 13) ?hd (cs := #[.int .i64 0, .int .i64 0, .int .i64 0, .int .i64 0, .int .i64 0, .int .i64 0]) (t := 80) ?hr ?_; (case hd => rfl); (case hg => rfl); (case hr => first | (go_simp; done) | (go_simp; rfl)); intro gb324 hg w43 hbox hb; have n0_ := am_ (Kd.R_below (Kd.R_elderB (ur_ HO284.out) gb324 (Nat.le_of_eq hg.symm)) hb); have n1_ := am_ (Kd.Q_below (Kd.Q_elderB (by (with_reducible repeat (first | apply Kd.Q_alloc | apply Kd.Q_drewN | apply Kd.Q_drew)); exact HO290.out) gb324 (Nat.le_of_eq hg.symm)) hb); have n2_ := am_ (Kd.R_below (Kd.R_elderB (ur_ HO305.out) gb324 (Nat.le_of_eq hg.symm)) hb); have n3_ := am_ (Kd.R_below (Kd.R_elderB (ur_ HO312.out) gb324 (Nat.le_of_eq hg.symm)) hb); have n4_ := am_ (bb_ BK280.out hb); have n5_ := am_ (bb_ BK301.out hb); have n6_ := am_ (bb_ BK302.out hb); have n7_ := am_ (bb_ BK309.out hb); have n8_ := am_ (bb_ BK323.out hb); have n9_ := am_ (below_step (ue_ HB.out) hb); have n10_ := am_ (hbox); have n11_ := am_ ((by rw [hg]; exact (below_size (ue_ HB.out)) : w.heap.size ≤ gb324)); have n12_ := am_ ((by rw [hg]; exact (below_size (ue_ HB.out)) : w.heap.size ≤ gb324)); have n13_ := am_ ((by rw [hg]; exact Nat.ne_of_lt (bl_ BK280.out) : gb280 ≠ gb324)); have n14_ := am_ ((by rw [hg]; exact Nat.ne_of_gt (bl_ BK280.out) : gb324 ≠ gb280)); have n15_ := am_ ((by rw [hg]; exact Nat.ne_of_lt (bl_ BK301.out) : gb301 ≠ gb324)); have n16_ := am_ ((by rw [hg]; exact Nat.ne_of_gt (bl_ BK301.out) : gb324 ≠ gb301)); have n17_ := am_ ((by rw [hg]; exact Nat.ne_of_lt (bl_ BK302.out) : gb302 ≠ gb324)); have n18_ := am_ ((by rw [hg]; exact Nat.ne_of_gt (bl_ BK302.out) : gb324 ≠ gb302)); have n19_ := am_ ((by rw [hg]; exact Nat.ne_of_lt (bl_ BK309.out) : gb309 ≠ gb324)); have n20_ := am_ ((by rw [hg]; exact Nat.ne_of_gt (bl_ BK309.out) : gb324 ≠ gb309)); have n21_ := am_ ((by rw [hg]; exact Nat.ne_of_lt (bl_ BK323.out) : gb323 ≠ gb324)); have n22_ := am_ ((by rw [hg]; exact Nat.ne_of_gt (bl_ BK323.out) : gb324 ≠ gb323)); clear HO284 HO290 HO305 HO312 BK280 BK301 BK302 BK309 BK323 HB; have HO284 := n0_; have HO290 := n1_; have HO305 := n2_; have HO312 := n3_; have BK280 := n4_; have BK301 := n5_; have BK302 := n6_; have BK309 := n7_; have BK323 := n8_; have HB := n9_; have BK324 := n10_; have GW324 := n11_; have GE324 := n12_; have NB280_324 := n13_; have NB324_280 := n14_; have NB301_324 := n15_; have NB324_301 := n16_; have NB302_324 := n17_; have NB324_302 := n18_; have NB309_324 := n19_; have NB324_309 := n20_; have NB323_324 := n21_; have NB324_323 := n22_; clear n0_ n1_ n2_ n3_ n4_ n5_ n6_ n7_ n8_ n9_ n10_ n11_ n12_ n13_ n14_ n15_ n16_ n17_ n18_ n19_ n20_ n21_ n22_; clear hb hbox hg; obtain ⟨Ao44, co44, eo44⟩ := Kd.R_slice HO312.out; subst eo44; have hnb45 := NB323_280.out; have hnc45 := NB280_323.out; have hnb46 := NB323_301.out; have hnc46 := NB301_323.out; have hnb47 := NB323_302.out; have hnc47 := NB302_323.out; have hnb48 := NB323_309.out; have hnc48 := NB309_323.out; have hnb49 := NB323_324.out; have hnc49 := NB324_323.out; obtain ⟨hcz50_0, hcz50_1, hcz50_2, hcz50_3⟩ := cb4_ BK323.out; obtain ⟨hfz50_0, hfz50_1, hfz50_2⟩ := bf3_ BK323.out; have hfz50_3 := blk_frozen BK323.out 3) | ((with_reducible refine gate_store (t := 42) (p := 12) rfl ?_); refine store_event (t := 42) (p := 12) (v := ?vo_w51) (w1 := ((((w43.setCell ⟨gb323, 0, none⟩ (.slice Ao44 t310.length co44)).setCell ⟨gb323, 1, none⟩ (.int .i64 t313)).setCell ⟨gb323, 2, none⟩ (.int .i64 t314)).setCell ⟨gb323, 3, none⟩ (.int .i64 t315))) ?hg ?ho ?hn ?hr ?_; (case ho => rfl); (case hg => rfl); (case hn => rfl); (case hr => first | (go_simp; done) | (go_simp; rfl)); intro w51 hw; have n0_ : Aside0 (Kd.R k80 80 w51 w.heap.size (fun k_ => some k_ ≠ (.slice Ao23 t288.length co23 : Value).ownBlock ∧ some k_ ≠ (.slice Ao34 t303.length co34 : Value).ownBlock ∧ some k_ ≠ (.slice Ao44 t310.length co44 : Value).ownBlock ∧ k_ ≠ gb302 ∧ k_ ≠ gb324) (.slice Ao19 t282.length co19) t282) := ⟨(by rw [hw]; exact (by (with_reducible repeat (first | apply Kd.R_alloc | apply Kd.R_drewN | apply Kd.R_drew)); exact Kd.R_mono (Kd.R_far (p := ⟨gb323, 3, none⟩) (Kd.R_far (p := ⟨gb323, 2, none⟩) (Kd.R_far (p := ⟨gb323, 1, none⟩) (Kd.R_far (p := ⟨gb323, 0, none⟩) (Kd.R_types HO284.out BK323.out (by decide)) (fun _ hk => by first | exact hk.2 | grind) (.slice Ao44 t310.length co44)) (fun _ hk => by first | exact hk.2 | grind) (.int .i64 t313)) (fun _ hk => by first | exact hk.2 | grind) (.int .i64 t314)) (fun _ hk => by first | exact hk.2 | grind) (.int .i64 t315)) (fun _ hk => by first | exact ⟨hk.1.1.1.1, ⟨hk.1.1.1.2.1, ⟨hk.1.1.2, ⟨hk.1.1.1.2.2, hk.1.2⟩⟩⟩⟩ | grind)))⟩; have n1_ : Aside0 (Kd.Q k80 80 w51 w.heap.size (fun k_ => some k_ ≠ (.slice Ao19 t282.length co19 : Value).ownBlock ∧ some k_ ≠ (.slice Ao34 t303.length co34 : Value).ownBlock ∧ some k_ ≠ (.slice Ao44 t310.length co44 : Value).ownBlock ∧ k_ ≠ gb302 ∧ k_ ≠ gb324) (.slice Ao23 t288.length co23) t288) := ⟨(by rw [hw]; exact (by (with_reducible repeat (first | apply Kd.Q_alloc | apply Kd.Q_drewN | apply Kd.Q_drew)); exact Kd.Q_mono (Kd.Q_far (p := ⟨gb323, 3, none⟩) (Kd.Q_far (p := ⟨gb323, 2, none⟩) (Kd.Q_far (p := ⟨gb323, 1, none⟩) (Kd.Q_far (p := ⟨gb323, 0, none⟩) (Kd.Q_types HO290.out BK323.out (by decide)) (fun _ hk => by first | exact hk.2 | grind) (.slice Ao44 t310.length co44)) (fun _ hk => by first | exact hk.2 | grind) (.int .i64 t313)) (fun _ hk => by first | exact hk.2 | grind) (.int .i64 t314)) (fun _ hk => by first | exact hk.2 | grind) (.int .i64 t315)) (fun _ hk => by first | exact ⟨hk.1.1.1.1, ⟨hk.1.1.1.2.1, ⟨hk.1.1.2, ⟨hk.1.1.1.2.2, hk.1.2⟩⟩⟩⟩ | grind)))⟩; have n2_ : Aside0 (Kd.R k80 80 w51 w.heap.size (fun k_ => some k_ ≠ (.slice Ao19 t282.length co19 : Value).ownBlock ∧ some k_ ≠ (.slice Ao23 t288.length co23 : Value).ownBlock ∧ some k_ ≠ (.slice Ao44 t310.length co44 : Value).ownBlock ∧ k_ ≠ gb302 ∧ k_ ≠ gb324) (.slice Ao34 t303.length co34) t303) := ⟨(by rw [hw]; exact (by (with_reducible repeat (first | apply Kd.R_alloc | apply Kd.R_drewN | apply Kd.R_drew)); exact Kd.R_mono (Kd.R_far (p := ⟨gb323, 3, none⟩) (Kd.R_far (p := ⟨gb323, 2, none⟩) (Kd.R_far (p := ⟨gb323, 1, none⟩) (Kd.R_far (p := ⟨gb323, 0, none⟩) (Kd.R_types HO305.out BK323.out (by decide)) (fun _ hk => by first | exact hk.2 | grind) (.slice Ao44 t310.length co44)) (fun _ hk => by first | exact hk.2 | grind) (.int .i64 t313)) (fun _ hk => by first | exact hk.2 | grind) (.int .i64 t314)) (fun _ hk => by first | exact hk.2 | grind) (.int .i64 t315)) (fun _ hk => by first | exact ⟨hk.1.1.1.1, ⟨hk.1.1.1.2.1, ⟨hk.1.1.2, ⟨hk.1.1.1.2.2, hk.1.2⟩⟩⟩⟩ | grind)))⟩; have n3_ : Aside0 (Kd.R k80 80 w51 w.heap.size (fun k_ => some k_ ≠ (.slice Ao19 t282.length co19 : Value).ownBlock ∧ some k_ ≠ (.slice Ao23 t288.length co23 : Value).ownBlock ∧ some k_ ≠ (.slice Ao34 t303.length co34 : Value).ownBlock ∧ k_ ≠ gb302 ∧ k_ ≠ gb324) (.slice Ao44 t310.length co44) t310) := ⟨(by rw [hw]; exact (by (with_reducible repeat (first | apply Kd.R_alloc | apply Kd.R_drewN | apply Kd.R_drew)); exact Kd.R_mono (Kd.R_far (p := ⟨gb323, 3, none⟩) (Kd.R_far (p := ⟨gb323, 2, none⟩) (Kd.R_far (p := ⟨gb323, 1, none⟩) (Kd.R_far (p := ⟨gb323, 0, none⟩) (Kd.R_types HO312.out BK323.out (by decide)) (fun _ hk => by first | exact hk.2 | grind) (.slice Ao44 t310.length co44)) (fun _ hk => by first | exact hk.2 | grind) (.int .i64 t313)) (fun _ hk => by first | exact hk.2 | grind) (.int .i64 t314)) (fun _ hk => by first | exact hk.2 | grind) (.int .i64 t315)) (fun _ hk => by first | exact ⟨hk.1.1.1.1.1.2, ⟨hk.1.1.1.1.2, ⟨hk.1.1.1.2, ⟨hk.1.1.2, hk.1.2⟩⟩⟩⟩ | grind)))⟩; have n4_ : Aside0 (w51.heap[gb280]? = some (.cells #[.slice A0_0 l0_0.length c0_0, .int .i64 a0_1, .int .i64 a0_2, .int .i64 a0_3] 38 (0, 0))) := ⟨(by rw [hw]; exact (uf_ BK280.out))⟩; have n5_ : Aside0 (w51.heap[gb301]? = some (.cells #[.slice Ao23 t288.length co23, .int .i64 t291, .int .i64 t292, .int .i64 t293] 42 (0, 0))) := ⟨(by rw [hw]; exact (uf_ BK301.out))⟩; have n6_ : Aside0 (w51.heap[gb302]? = some (.cells #[.int .i64 t294, .int .i64 t295, .int .i64 t296, .int .i64 t297, .int .i64 t298, .int .i64 t299] 80 (0, 0))) := ⟨(by rw [hw]; exact (uf_ BK302.out))⟩; have n7_ : Aside0 (w51.heap[gb309]? = some (.cells #[.slice Ao34 t303.length co34, .int .i64 t306, .int .i64 t307, .int .i64 t308] 42 (0, 0))) := ⟨(by rw [hw]; exact (uf_ BK309.out))⟩; have n8_ : Aside0 (w51.heap[gb323]? = some (.cells #[.slice Ao44 t310.length co44, .int .i64 t313, .int .i64 t314, .int .i64 t315] 42 (0, 0))) := ⟨(by rw [hw]; exact (by (with_reducible repeat first|apply bn_|apply bd_|apply ba_); refine blk_put (cs := #[.slice Ao44 t310.length co44, .int .i64 t313, .int .i64 t314, .int .i64 0]) ?_ 3 _ rfl; refine blk_put (cs := #[.slice Ao44 t310.length co44, .int .i64 t313, .int .i64 0, .int .i64 0]) ?_ 2 _ rfl; refine blk_put (cs := #[.slice Ao44 t310.length co44, .int .i64 0, .int .i64 0, .int .i64 0]) ?_ 1 _ rfl; refine blk_put (cs := #[.slice none 0 0, .int .i64 0, .int .i64 0, .int .i64 0]) ?_ 0 _ rfl; (with_reducible repeat first|apply bn_|apply bd_|apply ba_); exact BK323.out))⟩; have n9_ : Aside0 (w51.heap[gb324]? = some (.cells #[.int .i64 0, .int .i64 0, .int .i64 0, .int .i64 0, .int .i64 0, .int .i64 0] 80 (0, 0))) := ⟨(by rw [hw]; exact (uf_ BK324.out))⟩; have n10_ : Aside0 (Below w.heap.size w w51) := ⟨(by rw [hw]; exact (ue_ HB.out))⟩; clear hw HO284 HO290 HO305 HO312 BK280 BK301 BK302 BK309 BK323 BK324 HB; have HO284 := n0_; have HO290 := n1_; have HO305 := n2_; have HO312 := n3_; have BK280 := n4_; have BK301 := n5_; have BK302 := n6_; have BK309 := n7_; have BK323 := n8_; have BK324 := n9_; have HB := n10_; clear n0_ n1_ n2_ n3_ n4_ n5_ n6_ n7_ n8_ n9_ n10_; have hnb52 := NB324_280.out; have hnc52 := NB280_324.out; have hnb53 := NB324_301.out; have hnc53 := NB301_324.out; have hnb54 := NB324_302.out; have hnc54 := NB302_324.out; have hnb55 := NB324_309.out; have hnc55 := NB309_324.out; obtain ⟨hcz56_0, hcz56_1, hcz56_2, hcz56_3, hcz56_4, hcz56_5⟩ := cb6_ BK324.out; obtain ⟨hfz56_0, hfz56_1, hfz56_2, hfz56_3, hfz56_4⟩ := bf5_ BK324.out; have hfz56_5 := blk_frozen BK324.out 5) | ((with_reducible refine gate_store (t := 80) (p := 13) rfl ?_); refine store_event (t := 80) (p := 13) (v := ?vo_w57) (w1 := ((((((w51.setCell ⟨gb324, 0, none⟩ (.int .i64 t316)).setCell ⟨gb324, 1, none⟩ (.int .i64 t317)).setCell ⟨gb324, 2, none⟩ (.int .i64 t318)).setCell ⟨gb324, 3, none⟩ (.int .i64 t319)).setCell ⟨gb324, 4, none⟩ (.int .i64 t320)).setCell ⟨gb324, 5, none⟩ (.int .i64 t321))) ?hg ?ho ?hn ?hr ?_; (case ho => rfl); (case hg => rfl); (case hn => rfl); (case hr => first | (go_simp; done) | (go_simp; rfl)); intro w57 hw; have n0_ : Aside0 (Kd.R k80 80 w57 w.heap.size (fun k_ => some k_ ≠ (.slice Ao23 t288.length co23 : Value).ownBlock ∧ some k_ ≠ (.slice Ao34 t303.length co34 : Value).ownBlock ∧ some k_ ≠ (.slice Ao44 t310.length co44 : Value).ownBlock ∧ k_ ≠ gb302 ∧ k_ ≠ gb324) (.slice Ao19 t282.length co19) t282) := ⟨(by rw [hw]; exact (by (with_reducible repeat (first | apply Kd.R_alloc | apply Kd.R_drewN | apply Kd.R_drew)); exact Kd.R_mono (Kd.R_far (p := ⟨gb324, 5, none⟩) (Kd.R_far (p := ⟨gb324, 4, none⟩) (Kd.R_far (p := ⟨gb324, 3, none⟩) (Kd.R_far (p := ⟨gb324, 2, none⟩) (Kd.R_far (p := ⟨gb324, 1, none⟩) (Kd.R_far (p := ⟨gb324, 0, none⟩) (Kd.R_mono HO284.out (fun k_ hk => (⟨hk, (by first | exact hk.2.2.2.2 | grind)⟩ : _ ∧ k_ ≠ gb324))) (fun _ hk => by first | exact hk.2 | grind) (.int .i64 t316)) (fun _ hk => by first | exact hk.2 | grind) (.int .i64 t317)) (fun _ hk => by first | exact hk.2 | grind) (.int .i64 t318)) (fun _ hk => by first | exact hk.2 | grind) (.int .i64 t319)) (fun _ hk => by first | exact hk.2 | grind) (.int .i64 t320)) (fun _ hk => by first | exact hk.2 | grind) (.int .i64 t321)) (fun _ hk => by first | exact ⟨hk.1.1, ⟨hk.1.2.1, ⟨hk.1.2.2.1, ⟨hk.1.2.2.2.1, hk.1.2.2.2.2⟩⟩⟩⟩ | grind)))⟩; have n1_ : Aside0 (Kd.Q k80 80 w57 w.heap.size (fun k_ => some k_ ≠ (.slice Ao19 t282.length co19 : Value).ownBlock ∧ some k_ ≠ (.slice Ao34 t303.length co34 : Value).ownBlock ∧ some k_ ≠ (.slice Ao44 t310.length co44 : Value).ownBlock ∧ k_ ≠ gb302 ∧ k_ ≠ gb324) (.slice Ao23 t288.length co23) t288) := ⟨(by rw [hw]; exact (by (with_reducible repeat (first | apply Kd.Q_alloc | apply Kd.Q_drewN | apply Kd.Q_drew)); exact Kd.Q_mono (Kd.Q_far (p := ⟨gb324, 5, none⟩) (Kd.Q_far (p := ⟨gb324, 4, none⟩) (Kd.Q_far (p := ⟨gb324, 3, none⟩) (Kd.Q_far (p := ⟨gb324, 2, none⟩) (Kd.Q_far (p := ⟨gb324, 1, none⟩) (Kd.Q_far (p := ⟨gb324, 0, none⟩) (Kd.Q_mono HO290.out (fun k_ hk => (⟨hk, (by first | exact hk.2.2.2.2 | grind)⟩ : _ ∧ k_ ≠ gb324))) (fun _ hk => by first | exact hk.2 | grind) (.int .i64 t316)) (fun _ hk => by first | exact hk.2 | grind) (.int .i64 t317)) (fun _ hk => by first | exact hk.2 | grind) (.int .i64 t318)) (fun _ hk => by first | exact hk.2 | grind) (.int .i64 t319)) (fun _ hk => by first | exact hk.2 | grind) (.int .i64 t320)) (fun _ hk => by first | exact hk.2 | grind) (.int .i64 t321)) (fun _ hk => by first | exact ⟨hk.1.1, ⟨hk.1.2.1, ⟨hk.1.2.2.1, ⟨hk.1.2.2.2.1, hk.1.2.2.2.2⟩⟩⟩⟩ | grind)))⟩; have n2_ : Aside0 (Kd.R k80 80 w57 w.heap.size (fun k_ => some k_ ≠ (.slice Ao19 t282.length co19 : Value).ownBlock ∧ some k_ ≠ (.slice Ao23 t288.length co23 : Value).ownBlock ∧ some k_ ≠ (.slice Ao44 t310.length co44 : Value).ownBlock ∧ k_ ≠ gb302 ∧ k_ ≠ gb324) (.slice Ao34 t303.length co34) t303) := ⟨(by rw [hw]; exact (by (with_reducible repeat (first | apply Kd.R_alloc | apply Kd.R_drewN | apply Kd.R_drew)); exact Kd.R_mono (Kd.R_far (p := ⟨gb324, 5, none⟩) (Kd.R_far (p := ⟨gb324, 4, none⟩) (Kd.R_far (p := ⟨gb324, 3, none⟩) (Kd.R_far (p := ⟨gb324, 2, none⟩) (Kd.R_far (p := ⟨gb324, 1, none⟩) (Kd.R_far (p := ⟨gb324, 0, none⟩) (Kd.R_mono HO305.out (fun k_ hk => (⟨hk, (by first | exact hk.2.2.2.2 | grind)⟩ : _ ∧ k_ ≠ gb324))) (fun _ hk => by first | exact hk.2 | grind) (.int .i64 t316)) (fun _ hk => by first | exact hk.2 | grind) (.int .i64 t317)) (fun _ hk => by first | exact hk.2 | grind) (.int .i64 t318)) (fun _ hk => by first | exact hk.2 | grind) (.int .i64 t319)) (fun _ hk => by first | exact hk.2 | grind) (.int .i64 t320)) (fun _ hk => by first | exact hk.2 | grind) (.int .i64 t321)) (fun _ hk => by first | exact ⟨hk.1.1, ⟨hk.1.2.1, ⟨hk.1.2.2.1, ⟨hk.1.2.2.2.1, hk.1.2.2.2.2⟩⟩⟩⟩ | grind)))⟩; have n3_ : Aside0 (Kd.R k80 80 w57 w.heap.size (fun k_ => some k_ ≠ (.slice Ao19 t282.length co19 : Value).ownBlock ∧ some k_ ≠ (.slice Ao23 t288.length co23 : Value).ownBlock ∧ some k_ ≠ (.slice Ao34 t303.length co34 : Value).ownBlock ∧ k_ ≠ gb302 ∧ k_ ≠ gb324) (.slice Ao44 t310.length co44) t310) := ⟨(by rw [hw]; exact (by (with_reducible repeat (first | apply Kd.R_alloc | apply Kd.R_drewN | apply Kd.R_drew)); exact Kd.R_mono (Kd.R_far (p := ⟨gb324, 5, none⟩) (Kd.R_far (p := ⟨gb324, 4, none⟩) (Kd.R_far (p := ⟨gb324, 3, none⟩) (Kd.R_far (p := ⟨gb324, 2, none⟩) (Kd.R_far (p := ⟨gb324, 1, none⟩) (Kd.R_far (p := ⟨gb324, 0, none⟩) (Kd.R_mono HO312.out (fun k_ hk => (⟨hk, (by first | exact hk.2.2.2.2 | grind)⟩ : _ ∧ k_ ≠ gb324))) (fun _ hk => by first | exact hk.2 | grind) (.int .i64 t316)) (fun _ hk => by first | exact hk.2 | grind) (.int .i64 t317)) (fun _ hk => by first | exact hk.2 | grind) (.int .i64 t318)) (fun _ hk => by first | exact hk.2 | grind) (.int .i64 t319)) (fun _ hk => by first | exact hk.2 | grind) (.int .i64 t320)) (fun _ hk => by first | exact hk.2 | grind) (.int .i64 t321)) (fun _ hk => by first | exact ⟨hk.1.1, ⟨hk.1.2.1, ⟨hk.1.2.2.1, ⟨hk.1.2.2.2.1, hk.1.2.2.2.2⟩⟩⟩⟩ | grind)))⟩; have n4_ : Aside0 (w57.heap[gb280]? = some (.cells #[.slice A0_0 l0_0.length c0_0, .int .i64 a0_1, .int .i64 a0_2, .int .i64 a0_3] 38 (0, 0))) := ⟨(by rw [hw]; exact (uf_ BK280.out))⟩; have n5_ : Aside0 (w57.heap[gb301]? = some (.cells #[.slice Ao23 t288.length co23, .int .i64 t291, .int .i64 t292, .int .i64 t293] 42 (0, 0))) := ⟨(by rw [hw]; exact (uf_ BK301.out))⟩; have n6_ : Aside0 (w57.heap[gb302]? = some (.cells #[.int .i64 t294, .int .i64 t295, .int .i64 t296, .int .i64 t297, .int .i64 t298, .int .i64 t299] 80 (0, 0))) := ⟨(by rw [hw]; exact (uf_ BK302.out))⟩; have n7_ : Aside0 (w57.heap[gb309]? = some (.cells #[.slice Ao34 t303.length co34, .int .i64 t306, .int .i64 t307, .int .i64 t308] 42 (0, 0))) := ⟨(by rw [hw]; exact (uf_ BK309.out))⟩; have n8_ : Aside0 (w57.heap[gb323]? = some (.cells #[.slice Ao44 t310.length co44, .int .i64 t313, .int .i64 t314, .int .i64 t315] 42 (0, 0))) := ⟨(by rw [hw]; exact (uf_ BK323.out))⟩; have n9_ : Aside0 (w57.heap[gb324]? = some (.cells #[.int .i64 t316, .int .i64 t317, .int .i64 t318, .int .i64 t319, .int .i64 t320, .int .i64 t321] 80 (0, 0))) := ⟨(by rw [hw]; exact (by (with_reducible repeat first|apply bn_|apply bd_|apply ba_); refine blk_put (cs := #[.int .i64 t316, .int .i64 t317, .int .i64 t318, .int .i64 t319, .int .i64 t320, .int .i64 0]) ?_ 5 _ rfl; refine blk_put (cs := #[.int .i64 t316, .int .i64 t317, .int .i64 t318, .int .i64 t319, .int .i64 0, .int .i64 0]) ?_ 4 _ rfl; refine blk_put (cs := #[.int .i64 t316, .int .i64 t317, .int .i64 t318, .int .i64 0, .int .i64 0, .int .i64 0]) ?_ 3 _ rfl; refine blk_put (cs := #[.int .i64 t316, .int .i64 t317, .int .i64 0, .int .i64 0, .int .i64 0, .int .i64 0]) ?_ 2 _ rfl; refine blk_put (cs := #[.int .i64 t316, .int .i64 0, .int .i64 0, .int .i64 0, .int .i64 0, .int .i64 0]) ?_ 1 _ rfl; refine blk_put (cs := #[.int .i64 0, .int .i64 0, .int .i64 0, .int .i64 0, .int .i64 0, .int .i64 0]) ?_ 0 _ rfl; (with_reducible repeat first|apply bn_|apply bd_|apply ba_); exact BK324.out))⟩; have n10_ : Aside0 (Below w.heap.size w w57) := ⟨(by rw [hw]; exact (ue_ HB.out))⟩; clear hw HO284 HO290 HO305 HO312 BK280 BK301 BK302 BK309 BK323 BK324 HB; have HO284 := n0_; have HO290 := n1_; have HO305 := n2_; have HO312 := n3_; have BK280 := n4_; have BK301 := n5_; have BK302 := n6_; have BK309 := n7_; have BK323 := n8_; have BK324 := n9_; have HB := n10_; clear n0_ n1_ n2_ n3_ n4_ n5_ n6_ n7_ n8_ n9_ n10_))
  (try simp only [Act.put, List.setIfInBounds_toArray, List.set_cons_zero, List.set_cons_succ])
  go_cut [59] (fun v59 wc => ∃ (kq : Nat) (x59_12 : Bool), v59 = .bool x59_12 ∧ Aside0 (laws_FnExactTakeClosed.j0 kq a1 a2 t300 t322 x59_12 l0_0 a0_1 a0_2 a0_3 t288 t291 t292 t293 t294 t295 t296 t297 t298 t299 t303 t306 t307 t308 t310 t313 t314 t315 t316 t317 t318 t319 t320 t321 = some r) ∧ Aside0 (kq ≤ k) ∧ Aside0 (Kd.Q k80 80 wc w.heap.size (fun k_ => some k_ ≠ ((.slice Ao34 t303.length co34) : Value).ownBlock ∧ some k_ ≠ ((.slice Ao44 t310.length co44) : Value).ownBlock ∧ k_ ≠ gb302 ∧ k_ ≠ gb324) (.slice Ao23 t288.length co23) t288) ∧ Aside0 (Kd.R k80 80 wc w.heap.size (fun k_ => some k_ ≠ ((.slice Ao23 t288.length co23) : Value).ownBlock ∧ some k_ ≠ ((.slice Ao44 t310.length co44) : Value).ownBlock ∧ k_ ≠ gb302 ∧ k_ ≠ gb324) (.slice Ao34 t303.length co34) t303) ∧ Aside0 (Kd.R k80 80 wc w.heap.size (fun k_ => some k_ ≠ ((.slice Ao23 t288.length co23) : Value).ownBlock ∧ some k_ ≠ ((.slice Ao34 t303.length co34) : Value).ownBlock ∧ k_ ≠ gb302 ∧ k_ ≠ gb324) (.slice Ao44 t310.length co44) t310) ∧ Aside0 (wc.heap[gb280]? = some (.cells #[(.slice A0_0 l0_0.length c0_0), .int .i64 a0_1, .int .i64 a0_2, .int .i64 a0_3] 38 (0, 0))) ∧ Aside0 (wc.heap[gb301]? = some (.cells #[(.slice Ao23 t288.length co23), .int .i64 t291, .int .i64 t292, .int .i64 t293] 42 (0, 0))) ∧ Aside0 (wc.heap[gb302]? = some (.cells #[.int .i64 t294, .int .i64 t295, .int .i64 t296, .int .i64 t297, .int .i64 t298, .int .i64 t299] 80 (0, 0))) ∧ Aside0 (wc.heap[gb309]? = some (.cells #[(.slice Ao34 t303.length co34), .int .i64 t306, .int .i64 t307, .int .i64 t308] 42 (0, 0))) ∧ Aside0 (wc.heap[gb323]? = some (.cells #[(.slice Ao44 t310.length co44), .int .i64 t313, .int .i64 t314, .int .i64 t315] 42 (0, 0))) ∧ Aside0 (wc.heap[gb324]? = some (.cells #[.int .i64 t316, .int .i64 t317, .int .i64 t318, .int .i64 t319, .int .i64 t320, .int .i64 t321] 80 (0, 0))) ∧ Aside0 (Below w.heap.size w wc))
  case first =>
   have H := HC13.out
   clear HC13
   replace H := Option.bind_eq_some_iff.mp H
   obtain ⟨t325, A580, H⟩ := H
   replace H : (if t325 = true then ((laws_eqAgg.f t316 t317 t318 t319 t320 t321 t294 t295 t296 t297 t298 t299).bind fun t326 => (if t326 = true then (laws_FnExactTakeClosed.j0 k a1 a2 t300 t322 (t322 != t300) l0_0 a0_1 a0_2 a0_3 t288 t291 t292 t293 t294 t295 t296 t297 t298 t299 t303 t306 t307 t308 t310 t313 t314 t315 t316 t317 t318 t319 t320 t321) else (laws_FnExactTakeClosed.j0 k a1 a2 t300 t322 true l0_0 a0_1 a0_2 a0_3 t288 t291 t292 t293 t294 t295 t296 t297 t298 t299 t303 t306 t307 t308 t310 t313 t314 t315 t316 t317 t318 t319 t320 t321))) else (laws_FnExactTakeClosed.j0 k a1 a2 t300 t322 true l0_0 a0_1 a0_2 a0_3 t288 t291 t292 t293 t294 t295 t296 t297 t298 t299 t303 t306 t307 t308 t310 t313 t314 t315 t316 t317 t318 t319 t320 t321)) = some r := H
   have A58 := Aside0.mk A580
   clear A580
   by_cases c59 : t325 = true
   ·
    subst c59
    have H1 : ((laws_eqAgg.f t316 t317 t318 t319 t320 t321 t294 t295 t296 t297 t298 t299).bind fun t326 => (if t326 = true then (laws_FnExactTakeClosed.j0 k a1 a2 t300 t322 (t322 != t300) l0_0 a0_1 a0_2 a0_3 t288 t291 t292 t293 t294 t295 t296 t297 t298 t299 t303 t306 t307 t308 t310 t313 t314 t315 t316 t317 t318 t319 t320 t321) else (laws_FnExactTakeClosed.j0 k a1 a2 t300 t322 true l0_0 a0_1 a0_2 a0_3 t288 t291 t292 t293 t294 t295 t296 t297 t298 t299 t303 t306 t307 t308 t310 t313 t314 t315 t316 t317 t318 t319 t320 t321))) = some r := by rw [if_pos rfl] at H; exact H
    clear H
    have H := H1
    clear H1
    replace H := Option.bind_eq_some_iff.mp H
    obtain ⟨t326, A600, H⟩ := H
    replace H : (if t326 = true then (laws_FnExactTakeClosed.j0 k a1 a2 t300 t322 (t322 != t300) l0_0 a0_1 a0_2 a0_3 t288 t291 t292 t293 t294 t295 t296 t297 t298 t299 t303 t306 t307 t308 t310 t313 t314 t315 t316 t317 t318 t319 t320 t321) else (laws_FnExactTakeClosed.j0 k a1 a2 t300 t322 true l0_0 a0_1 a0_2 a0_3 t288 t291 t292 t293 t294 t295 t296 t297 t298 t299 t303 t306 t307 t308 t310 t313 t314 t315 t316 t317 t318 t319 t320 t321)) = some r := H
    have A60 := Aside0.mk A600
    clear A600
    by_cases c61 : t326 = true
    ·
     subst c61
     have H1 : (laws_FnExactTakeClosed.j0 k a1 a2 t300 t322 (t322 != t300) l0_0 a0_1 a0_2 a0_3 t288 t291 t292 t293 t294 t295 t296 t297 t298 t299 t303 t306 t307 t308 t310 t313 t314 t315 t316 t317 t318 t319 t320 t321) = some r := by rw [if_pos rfl] at H; exact H
     clear H
     have H := H1
     clear H1
     have H' := Aside0.mk H
     clear H
     have hnb62 := NB323_280.out
     have hnc62 := NB280_323.out
     have hnb63 := NB323_301.out
     have hnc63 := NB301_323.out
     have hnb64 := NB323_302.out
     have hnc64 := NB302_323.out
     have hnb65 := NB323_309.out
     have hnc65 := NB309_323.out
     have hnb66 := NB323_324.out
     have hnc66 := NB324_323.out
     have hcz67_0 := cb_ BK323.out 0 rfl
     have hcz67_1 := cb_ BK323.out 1 rfl
     have hcz67_2 := cb_ BK323.out 2 rfl
     have hcz67_3 := cb_ BK323.out 3 rfl
     have hfz67_0 := blk_frozen BK323.out 0
     have hfz67_1 := blk_frozen BK323.out 1
     have hfz67_2 := blk_frozen BK323.out 2
     have hfz67_3 := blk_frozen BK323.out 3
     have hnb68 := NB301_280.out
     have hnc68 := NB280_301.out
     have hnb69 := NB301_302.out
     have hnc69 := NB302_301.out
     have hnb70 := NB301_309.out
     have hnc70 := NB309_301.out
     have hnb71 := NB301_324.out
     have hnc71 := NB324_301.out
     have hcz72_0 := cb_ BK301.out 0 rfl
     have hcz72_1 := cb_ BK301.out 1 rfl
     have hcz72_2 := cb_ BK301.out 2 rfl
     have hcz72_3 := cb_ BK301.out 3 rfl
     have hfz72_0 := blk_frozen BK301.out 0
     have hfz72_1 := blk_frozen BK301.out 1
     have hfz72_2 := blk_frozen BK301.out 2
     have hfz72_3 := blk_frozen BK301.out 3
     go_wp2_with (first | ((with_reducible refine gate_callee (f := 28) rfl ?_); refine goesL_ (some 47) rfl rfl Try.func28 (by kernel_rfl) rfl #[.agg #[.slice Ao44 t310.length co44, .int .i64 t313, .int .i64 t314, .int .i64 t315], .agg #[.slice Ao23 t288.length co23, .int .i64 t291, .int .i64 t292, .int .i64 t293]] rfl ul_ ?_; (with_reducible refine (laws_eqShard.calls k _ _ t310 t313 t314 t315 _ _ t288 t291 t292 t293 true _ ?side1 ?side2 ?side3 ?side4 A58.out).mono ?_); (case side1 => repeat (first | exact (Kd.R_reads' HO312.out).2.2 | (with_reducible refine Kd.C_alloc ?_ _) | (with_reducible refine Kd.C_drewN ?_ _) | (with_reducible refine Kd.C_drew ?_))); (case side2 => exact (Kd.R_reads' HO312.out).2.1); (case side3 => repeat (first | exact (Kd.Q_reads' HO290.out).2.2 | (with_reducible refine Kd.C_alloc ?_ _) | (with_reducible refine Kd.C_drewN ?_ _) | (with_reducible refine Kd.C_drew ?_))); (case side4 => exact (Kd.Q_reads' HO290.out).2.1); rintro e w73 ⟨rfl, hb⟩; refine ⟨_, rfl, ?_⟩; have n0_ := am_ (Kd.R_below (ur_ HO284.out) hb); have n1_ := am_ (Kd.Q_below (by (with_reducible repeat (first | apply Kd.Q_alloc | apply Kd.Q_drewN | apply Kd.Q_drew)); exact HO290.out) hb); have n2_ := am_ (Kd.R_below (ur_ HO305.out) hb); have n3_ := am_ (Kd.R_below (ur_ HO312.out) hb); have n4_ := am_ (bb_ BK280.out hb); have n5_ := am_ (bb_ BK301.out hb); have n6_ := am_ (bb_ BK302.out hb); have n7_ := am_ (bb_ BK309.out hb); have n8_ := am_ (bb_ BK323.out hb); have n9_ := am_ (bb_ BK324.out hb); have n10_ := am_ (below_step (ue_ HB.out) hb); clear HO284 HO290 HO305 HO312 BK280 BK301 BK302 BK309 BK323 BK324 HB; have HO284 := n0_; have HO290 := n1_; have HO305 := n2_; have HO312 := n3_; have BK280 := n4_; have BK301 := n5_; have BK302 := n6_; have BK309 := n7_; have BK323 := n8_; have BK324 := n9_; have HB := n10_; clear n0_ n1_ n2_ n3_ n4_ n5_ n6_ n7_ n8_ n9_ n10_; (try clear hb); (try clear hb2); (try clear hk); (try clear hi); have hnb74 := NB324_280.out; have hnc74 := NB280_324.out; have hnb75 := NB324_302.out; have hnc75 := NB302_324.out; have hnb76 := NB324_309.out; have hnc76 := NB309_324.out; obtain ⟨hcz77_0, hcz77_1, hcz77_2, hcz77_3, hcz77_4, hcz77_5⟩ := cb6_ BK324.out; obtain ⟨hfz77_0, hfz77_1, hfz77_2, hfz77_3, hfz77_4, hfz77_5⟩ := bf6_ BK324.out; have hnb78 := NB302_280.out; have hnc78 := NB280_302.out; have hnb79 := NB302_309.out; have hnc79 := NB309_302.out; obtain ⟨hcz80_0, hcz80_1, hcz80_2, hcz80_3, hcz80_4, hcz80_5⟩ := cb6_ BK302.out; obtain ⟨hfz80_0, hfz80_1, hfz80_2, hfz80_3, hfz80_4⟩ := bf5_ BK302.out; have hfz80_5 := blk_frozen BK302.out 5) | (go_at_call 59; (with_reducible refine (laws_eqAgg.calls t316 t317 t318 t319 t320 t321 t294 t295 t296 t297 t298 t299 true _ A60.out).mono ?_); rintro e w81 ⟨rfl, hb⟩; have n0_ := am_ (Kd.R_below (ur_ HO284.out) hb); have n1_ := am_ (Kd.Q_below (by (with_reducible repeat (first | apply Kd.Q_alloc | apply Kd.Q_drewN | apply Kd.Q_drew)); exact HO290.out) hb); have n2_ := am_ (Kd.R_below (ur_ HO305.out) hb); have n3_ := am_ (Kd.R_below (ur_ HO312.out) hb); have n4_ := am_ (bb_ BK280.out hb); have n5_ := am_ (bb_ BK301.out hb); have n6_ := am_ (bb_ BK302.out hb); have n7_ := am_ (bb_ BK309.out hb); have n8_ := am_ (bb_ BK323.out hb); have n9_ := am_ (bb_ BK324.out hb); have n10_ := am_ (below_step (ue_ HB.out) hb); clear HO284 HO290 HO305 HO312 BK280 BK301 BK302 BK309 BK323 BK324 HB; have HO284 := n0_; have HO290 := n1_; have HO305 := n2_; have HO312 := n3_; have BK280 := n4_; have BK301 := n5_; have BK302 := n6_; have BK309 := n7_; have BK323 := n8_; have BK324 := n9_; have HB := n10_; clear n0_ n1_ n2_ n3_ n4_ n5_ n6_ n7_ n8_ n9_ n10_; (try clear hb); (try clear hb2); (try clear hk); (try clear hi)))
     go_meet
     case rel => exact ⟨_, ((t322 != t300)), (by first | rfl | (simp; done) | (simp [*]; done)), H', ⟨by first | omega | exact Nat.le_refl _⟩, ⟨by (with_reducible repeat (first | apply Kd.Q_alloc | apply Kd.Q_drewN | apply Kd.Q_drew)); exact Kd.Q_mono HO290.out (fun _ hk => by first | exact ⟨hk.2.1, ⟨hk.2.2.1, ⟨hk.2.2.2.1, hk.2.2.2.2⟩⟩⟩ | grind)⟩, ⟨by (with_reducible repeat (first | apply Kd.R_alloc | apply Kd.R_drewN | apply Kd.R_drew)); exact Kd.R_mono HO305.out (fun _ hk => by first | exact ⟨hk.2.1, ⟨hk.2.2.1, ⟨hk.2.2.2.1, hk.2.2.2.2⟩⟩⟩ | grind)⟩, ⟨by (with_reducible repeat (first | apply Kd.R_alloc | apply Kd.R_drewN | apply Kd.R_drew)); exact Kd.R_mono HO312.out (fun _ hk => by first | exact ⟨hk.2.1, ⟨hk.2.2.1, ⟨hk.2.2.2.1, hk.2.2.2.2⟩⟩⟩ | grind)⟩, ⟨by (with_reducible repeat first|apply bn_|apply bd_|apply ba_); exact BK280.out⟩, ⟨by (with_reducible repeat first|apply bn_|apply bd_|apply ba_); exact BK301.out⟩, ⟨by (with_reducible repeat first|apply bn_|apply bd_|apply ba_); exact BK302.out⟩, ⟨by (with_reducible repeat first|apply bn_|apply bd_|apply ba_); exact BK309.out⟩, ⟨by (with_reducible repeat first|apply bn_|apply bd_|apply ba_); exact BK323.out⟩, ⟨by (with_reducible repeat first|apply bn_|apply bd_|apply ba_); exact BK324.out⟩, ⟨ue_ HB.out⟩⟩
    ·
     replace c61 := Bool.eq_false_iff.mpr c61
     subst c61
     have H1 : (laws_FnExactTakeClosed.j0 k a1 a2 t300 t322 true l0_0 a0_1 a0_2 a0_3 t288 t291 t292 t293 t294 t295 t296 t297 t298 t299 t303 t306 t307 t308 t310 t313 t314 t315 t316 t317 t318 t319 t320 t321) = some r := by rw [if_neg (show ¬ (false = true) by decide)] at H; exact H
     clear H
     have H := H1
     clear H1
     have H' := Aside0.mk H
     clear H
     have hnb82 := NB323_280.out
     have hnc82 := NB280_323.out
     have hnb83 := NB323_301.out
     have hnc83 := NB301_323.out
     have hnb84 := NB323_302.out
     have hnc84 := NB302_323.out
     have hnb85 := NB323_309.out
     have hnc85 := NB309_323.out
     have hnb86 := NB323_324.out
     have hnc86 := NB324_323.out
     have hcz87_0 := cb_ BK323.out 0 rfl
     have hcz87_1 := cb_ BK323.out 1 rfl
     have hcz87_2 := cb_ BK323.out 2 rfl
     have hcz87_3 := cb_ BK323.out 3 rfl
     have hfz87_0 := blk_frozen BK323.out 0
     have hfz87_1 := blk_frozen BK323.out 1
     have hfz87_2 := blk_frozen BK323.out 2
     have hfz87_3 := blk_frozen BK323.out 3
     have hnb88 := NB301_280.out
     have hnc88 := NB280_301.out
     have hnb89 := NB301_302.out
     have hnc89 := NB302_301.out
     have hnb90 := NB301_309.out
     have hnc90 := NB309_301.out
     have hnb91 := NB301_324.out
     have hnc91 := NB324_301.out
     have hcz92_0 := cb_ BK301.out 0 rfl
     have hcz92_1 := cb_ BK301.out 1 rfl
     have hcz92_2 := cb_ BK301.out 2 rfl
     have hcz92_3 := cb_ BK301.out 3 rfl
     have hfz92_0 := blk_frozen BK301.out 0
     have hfz92_1 := blk_frozen BK301.out 1
     have hfz92_2 := blk_frozen BK301.out 2
     have hfz92_3 := blk_frozen BK301.out 3
     go_wp2_with (first | ((with_reducible refine gate_callee (f := 28) rfl ?_); refine goesL_ (some 47) rfl rfl Try.func28 (by kernel_rfl) rfl #[.agg #[.slice Ao44 t310.length co44, .int .i64 t313, .int .i64 t314, .int .i64 t315], .agg #[.slice Ao23 t288.length co23, .int .i64 t291, .int .i64 t292, .int .i64 t293]] rfl ul_ ?_; (with_reducible refine (laws_eqShard.calls k _ _ t310 t313 t314 t315 _ _ t288 t291 t292 t293 true _ ?side1 ?side2 ?side3 ?side4 A58.out).mono ?_); (case side1 => repeat (first | exact (Kd.R_reads' HO312.out).2.2 | (with_reducible refine Kd.C_alloc ?_ _) | (with_reducible refine Kd.C_drewN ?_ _) | (with_reducible refine Kd.C_drew ?_))); (case side2 => exact (Kd.R_reads' HO312.out).2.1); (case side3 => repeat (first | exact (Kd.Q_reads' HO290.out).2.2 | (with_reducible refine Kd.C_alloc ?_ _) | (with_reducible refine Kd.C_drewN ?_ _) | (with_reducible refine Kd.C_drew ?_))); (case side4 => exact (Kd.Q_reads' HO290.out).2.1); rintro e w93 ⟨rfl, hb⟩; refine ⟨_, rfl, ?_⟩; have n0_ := am_ (Kd.R_below (ur_ HO284.out) hb); have n1_ := am_ (Kd.Q_below (by (with_reducible repeat (first | apply Kd.Q_alloc | apply Kd.Q_drewN | apply Kd.Q_drew)); exact HO290.out) hb); have n2_ := am_ (Kd.R_below (ur_ HO305.out) hb); have n3_ := am_ (Kd.R_below (ur_ HO312.out) hb); have n4_ := am_ (bb_ BK280.out hb); have n5_ := am_ (bb_ BK301.out hb); have n6_ := am_ (bb_ BK302.out hb); have n7_ := am_ (bb_ BK309.out hb); have n8_ := am_ (bb_ BK323.out hb); have n9_ := am_ (bb_ BK324.out hb); have n10_ := am_ (below_step (ue_ HB.out) hb); clear HO284 HO290 HO305 HO312 BK280 BK301 BK302 BK309 BK323 BK324 HB; have HO284 := n0_; have HO290 := n1_; have HO305 := n2_; have HO312 := n3_; have BK280 := n4_; have BK301 := n5_; have BK302 := n6_; have BK309 := n7_; have BK323 := n8_; have BK324 := n9_; have HB := n10_; clear n0_ n1_ n2_ n3_ n4_ n5_ n6_ n7_ n8_ n9_ n10_; (try clear hb); (try clear hb2); (try clear hk); (try clear hi); have hnb94 := NB324_280.out; have hnc94 := NB280_324.out; have hnb95 := NB324_302.out; have hnc95 := NB302_324.out; have hnb96 := NB324_309.out; have hnc96 := NB309_324.out; obtain ⟨hcz97_0, hcz97_1, hcz97_2, hcz97_3, hcz97_4, hcz97_5⟩ := cb6_ BK324.out; obtain ⟨hfz97_0, hfz97_1, hfz97_2, hfz97_3, hfz97_4, hfz97_5⟩ := bf6_ BK324.out; have hnb98 := NB302_280.out; have hnc98 := NB280_302.out; have hnb99 := NB302_309.out; have hnc99 := NB309_302.out; obtain ⟨hcz100_0, hcz100_1, hcz100_2, hcz100_3, hcz100_4, hcz100_5⟩ := cb6_ BK302.out; obtain ⟨hfz100_0, hfz100_1, hfz100_2, hfz100_3, hfz100_4⟩ := bf5_ BK302.out; have hfz100_5 := blk_frozen BK302.out 5) | (go_at_call 59; (with_reducible refine (laws_eqAgg.calls t316 t317 t318 t319 t320 t321 t294 t295 t296 t297 t298 t299 false _ A60.out).mono ?_); rintro e w101 ⟨rfl, hb⟩; have n0_ := am_ (Kd.R_below (ur_ HO284.out) hb); have n1_ := am_ (Kd.Q_below (by (with_reducible repeat (first | apply Kd.Q_alloc | apply Kd.Q_drewN | apply Kd.Q_drew)); exact HO290.out) hb); have n2_ := am_ (Kd.R_below (ur_ HO305.out) hb); have n3_ := am_ (Kd.R_below (ur_ HO312.out) hb); have n4_ := am_ (bb_ BK280.out hb); have n5_ := am_ (bb_ BK301.out hb); have n6_ := am_ (bb_ BK302.out hb); have n7_ := am_ (bb_ BK309.out hb); have n8_ := am_ (bb_ BK323.out hb); have n9_ := am_ (bb_ BK324.out hb); have n10_ := am_ (below_step (ue_ HB.out) hb); clear HO284 HO290 HO305 HO312 BK280 BK301 BK302 BK309 BK323 BK324 HB; have HO284 := n0_; have HO290 := n1_; have HO305 := n2_; have HO312 := n3_; have BK280 := n4_; have BK301 := n5_; have BK302 := n6_; have BK309 := n7_; have BK323 := n8_; have BK324 := n9_; have HB := n10_; clear n0_ n1_ n2_ n3_ n4_ n5_ n6_ n7_ n8_ n9_ n10_; (try clear hb); (try clear hb2); (try clear hk); (try clear hi)))
     go_meet
     case rel => exact ⟨_, (true), (by first | rfl | (simp; done) | (simp [*]; done)), H', ⟨by first | omega | exact Nat.le_refl _⟩, ⟨by (with_reducible repeat (first | apply Kd.Q_alloc | apply Kd.Q_drewN | apply Kd.Q_drew)); exact Kd.Q_mono HO290.out (fun _ hk => by first | exact ⟨hk.2.1, ⟨hk.2.2.1, ⟨hk.2.2.2.1, hk.2.2.2.2⟩⟩⟩ | grind)⟩, ⟨by (with_reducible repeat (first | apply Kd.R_alloc | apply Kd.R_drewN | apply Kd.R_drew)); exact Kd.R_mono HO305.out (fun _ hk => by first | exact ⟨hk.2.1, ⟨hk.2.2.1, ⟨hk.2.2.2.1, hk.2.2.2.2⟩⟩⟩ | grind)⟩, ⟨by (with_reducible repeat (first | apply Kd.R_alloc | apply Kd.R_drewN | apply Kd.R_drew)); exact Kd.R_mono HO312.out (fun _ hk => by first | exact ⟨hk.2.1, ⟨hk.2.2.1, ⟨hk.2.2.2.1, hk.2.2.2.2⟩⟩⟩ | grind)⟩, ⟨by (with_reducible repeat first|apply bn_|apply bd_|apply ba_); exact BK280.out⟩, ⟨by (with_reducible repeat first|apply bn_|apply bd_|apply ba_); exact BK301.out⟩, ⟨by (with_reducible repeat first|apply bn_|apply bd_|apply ba_); exact BK302.out⟩, ⟨by (with_reducible repeat first|apply bn_|apply bd_|apply ba_); exact BK309.out⟩, ⟨by (with_reducible repeat first|apply bn_|apply bd_|apply ba_); exact BK323.out⟩, ⟨by (with_reducible repeat first|apply bn_|apply bd_|apply ba_); exact BK324.out⟩, ⟨ue_ HB.out⟩⟩
   ·
    replace c59 := Bool.eq_false_iff.mpr c59
    subst c59
    have H1 : (laws_FnExactTakeClosed.j0 k a1 a2 t300 t322 true l0_0 a0_1 a0_2 a0_3 t288 t291 t292 t293 t294 t295 t296 t297 t298 t299 t303 t306 t307 t308 t310 t313 t314 t315 t316 t317 t318 t319 t320 t321) = some r := by rw [if_neg (show ¬ (false = true) by decide)] at H; exact H
    clear H
    have H := H1
    clear H1
    have H' := Aside0.mk H
    clear H
    have hnb102 := NB323_280.out
    have hnc102 := NB280_323.out
    have hnb103 := NB323_301.out
    have hnc103 := NB301_323.out
    have hnb104 := NB323_302.out
    have hnc104 := NB302_323.out
    have hnb105 := NB323_309.out
    have hnc105 := NB309_323.out
    have hnb106 := NB323_324.out
    have hnc106 := NB324_323.out
    have hcz107_0 := cb_ BK323.out 0 rfl
    have hcz107_1 := cb_ BK323.out 1 rfl
    have hcz107_2 := cb_ BK323.out 2 rfl
    have hcz107_3 := cb_ BK323.out 3 rfl
    have hfz107_0 := blk_frozen BK323.out 0
    have hfz107_1 := blk_frozen BK323.out 1
    have hfz107_2 := blk_frozen BK323.out 2
    have hfz107_3 := blk_frozen BK323.out 3
    have hnb108 := NB301_280.out
    have hnc108 := NB280_301.out
    have hnb109 := NB301_302.out
    have hnc109 := NB302_301.out
    have hnb110 := NB301_309.out
    have hnc110 := NB309_301.out
    have hnb111 := NB301_324.out
    have hnc111 := NB324_301.out
    have hcz112_0 := cb_ BK301.out 0 rfl
    have hcz112_1 := cb_ BK301.out 1 rfl
    have hcz112_2 := cb_ BK301.out 2 rfl
    have hcz112_3 := cb_ BK301.out 3 rfl
    have hfz112_0 := blk_frozen BK301.out 0
    have hfz112_1 := blk_frozen BK301.out 1
    have hfz112_2 := blk_frozen BK301.out 2
    have hfz112_3 := blk_frozen BK301.out 3
    go_wp2_with (first | ((with_reducible refine gate_callee (f := 28) rfl ?_); refine goesL_ (some 47) rfl rfl Try.func28 (by kernel_rfl) rfl #[.agg #[.slice Ao44 t310.length co44, .int .i64 t313, .int .i64 t314, .int .i64 t315], .agg #[.slice Ao23 t288.length co23, .int .i64 t291, .int .i64 t292, .int .i64 t293]] rfl ul_ ?_; (with_reducible refine (laws_eqShard.calls k _ _ t310 t313 t314 t315 _ _ t288 t291 t292 t293 false _ ?side1 ?side2 ?side3 ?side4 A58.out).mono ?_); (case side1 => repeat (first | exact (Kd.R_reads' HO312.out).2.2 | (with_reducible refine Kd.C_alloc ?_ _) | (with_reducible refine Kd.C_drewN ?_ _) | (with_reducible refine Kd.C_drew ?_))); (case side2 => exact (Kd.R_reads' HO312.out).2.1); (case side3 => repeat (first | exact (Kd.Q_reads' HO290.out).2.2 | (with_reducible refine Kd.C_alloc ?_ _) | (with_reducible refine Kd.C_drewN ?_ _) | (with_reducible refine Kd.C_drew ?_))); (case side4 => exact (Kd.Q_reads' HO290.out).2.1); rintro e w113 ⟨rfl, hb⟩; refine ⟨_, rfl, ?_⟩; have n0_ := am_ (Kd.R_below (ur_ HO284.out) hb); have n1_ := am_ (Kd.Q_below (by (with_reducible repeat (first | apply Kd.Q_alloc | apply Kd.Q_drewN | apply Kd.Q_drew)); exact HO290.out) hb); have n2_ := am_ (Kd.R_below (ur_ HO305.out) hb); have n3_ := am_ (Kd.R_below (ur_ HO312.out) hb); have n4_ := am_ (bb_ BK280.out hb); have n5_ := am_ (bb_ BK301.out hb); have n6_ := am_ (bb_ BK302.out hb); have n7_ := am_ (bb_ BK309.out hb); have n8_ := am_ (bb_ BK323.out hb); have n9_ := am_ (bb_ BK324.out hb); have n10_ := am_ (below_step (ue_ HB.out) hb); clear HO284 HO290 HO305 HO312 BK280 BK301 BK302 BK309 BK323 BK324 HB; have HO284 := n0_; have HO290 := n1_; have HO305 := n2_; have HO312 := n3_; have BK280 := n4_; have BK301 := n5_; have BK302 := n6_; have BK309 := n7_; have BK323 := n8_; have BK324 := n9_; have HB := n10_; clear n0_ n1_ n2_ n3_ n4_ n5_ n6_ n7_ n8_ n9_ n10_; (try clear hb); (try clear hb2); (try clear hk); (try clear hi)))
    go_meet
    case rel => exact ⟨_, (true), (by first | rfl | (simp; done) | (simp [*]; done)), H', ⟨by first | omega | exact Nat.le_refl _⟩, ⟨by (with_reducible repeat (first | apply Kd.Q_alloc | apply Kd.Q_drewN | apply Kd.Q_drew)); exact Kd.Q_mono HO290.out (fun _ hk => by first | exact ⟨hk.2.1, ⟨hk.2.2.1, ⟨hk.2.2.2.1, hk.2.2.2.2⟩⟩⟩ | grind)⟩, ⟨by (with_reducible repeat (first | apply Kd.R_alloc | apply Kd.R_drewN | apply Kd.R_drew)); exact Kd.R_mono HO305.out (fun _ hk => by first | exact ⟨hk.2.1, ⟨hk.2.2.1, ⟨hk.2.2.2.1, hk.2.2.2.2⟩⟩⟩ | grind)⟩, ⟨by (with_reducible repeat (first | apply Kd.R_alloc | apply Kd.R_drewN | apply Kd.R_drew)); exact Kd.R_mono HO312.out (fun _ hk => by first | exact ⟨hk.2.1, ⟨hk.2.2.1, ⟨hk.2.2.2.1, hk.2.2.2.2⟩⟩⟩ | grind)⟩, ⟨by (with_reducible repeat first|apply bn_|apply bd_|apply ba_); exact BK280.out⟩, ⟨by (with_reducible repeat first|apply bn_|apply bd_|apply ba_); exact BK301.out⟩, ⟨by (with_reducible repeat first|apply bn_|apply bd_|apply ba_); exact BK302.out⟩, ⟨by (with_reducible repeat first|apply bn_|apply bd_|apply ba_); exact BK309.out⟩, ⟨by (with_reducible repeat first|apply bn_|apply bd_|apply ba_); exact BK323.out⟩, ⟨by (with_reducible repeat first|apply bn_|apply bd_|apply ba_); exact BK324.out⟩, ⟨ue_ HB.out⟩⟩
  case rest =>
   clear HC13
   try clear c1
   try clear c2
   try clear p2
   try clear c3
   try clear c4
   try clear c5
   try clear c5b0
   try clear c6
   try clear c7
   try clear c8
   try clear c9
   try clear c10
   try clear c11
   try clear c24
   try clear c25
   try clear c26
   try clear c28
   try clear c35
   try clear c36
   try clear c37
   try clear c45
   try clear c46
   try clear c47
   try clear c48
   try clear c49
   try clear c52
   try clear c53
   try clear c54
   try clear c55
   try clear c57
   try clear c58
   try clear c59
   try clear c61
   try clear c62
   try clear c63
   try clear c64
   try clear c65
   try clear c66
   try clear c68
   try clear c69
   try clear c70
   try clear c71
   try clear c74
   try clear c75
   try clear c76
   try clear c78
   try clear c79
   try clear c82
   try clear c83
   try clear c84
   try clear c85
   try clear c86
   try clear c88
   try clear c89
   try clear c90
   try clear c91
   try clear c94
   try clear c95
   try clear c96
   try clear c98
   try clear c99
   try clear c102
   try clear c103
   try clear c104
   try clear c105
   try clear c106
   try clear c108
   try clear c109
   try clear c110
   try clear c111
   try clear hcz100_0
   try clear hcz100_1
   try clear hcz100_2
   try clear hcz100_3
   try clear hcz100_4
   try clear hcz100_5
   try clear hcz107_0
   try clear hcz107_1
   try clear hcz107_2
   try clear hcz107_3
   try clear hcz112_0
   try clear hcz112_1
   try clear hcz112_2
   try clear hcz112_3
   try clear hcz15_0
   try clear hcz15_1
   try clear hcz15_2
   try clear hcz15_3
   try clear hcz17_0
   try clear hcz17_1
   try clear hcz17_2
   try clear hcz17_3
   try clear hcz26_0
   try clear hcz26_1
   try clear hcz26_2
   try clear hcz26_3
   try clear hcz29_0
   try clear hcz29_1
   try clear hcz29_2
   try clear hcz29_3
   try clear hcz29_4
   try clear hcz29_5
   try clear hcz31_0
   try clear hcz31_1
   try clear hcz31_2
   try clear hcz31_3
   try clear hcz38_0
   try clear hcz38_1
   try clear hcz38_2
   try clear hcz38_3
   try clear hcz40_0
   try clear hcz40_1
   try clear hcz40_2
   try clear hcz40_3
   try clear hcz50_0
   try clear hcz50_1
   try clear hcz50_2
   try clear hcz50_3
   try clear hcz56_0
   try clear hcz56_1
   try clear hcz56_2
   try clear hcz56_3
   try clear hcz56_4
   try clear hcz56_5
   try clear hcz67_0
   try clear hcz67_1
   try clear hcz67_2
   try clear hcz67_3
   try clear hcz72_0
   try clear hcz72_1
   try clear hcz72_2
   try clear hcz72_3
   try clear hcz77_0
   try clear hcz77_1
   try clear hcz77_2
   try clear hcz77_3
   try clear hcz77_4
   try clear hcz77_5
   try clear hcz7_0
   try clear hcz7_1
   try clear hcz7_2
   try clear hcz7_3
   try clear hcz80_0
   try clear hcz80_1
   try clear hcz80_2
   try clear hcz80_3
   try clear hcz80_4
   try clear hcz80_5
   try clear hcz87_0
   try clear hcz87_1
   try clear hcz87_2
   try clear hcz87_3
   try clear hcz92_0
   try clear hcz92_1
   try clear hcz92_2
   try clear hcz92_3
   try clear hcz97_0
   try clear hcz97_1
   try clear hcz97_2
   try clear hcz97_3
   try clear hcz97_4
   try clear hcz97_5
   try clear hfz100_0
   try clear hfz100_1
   try clear hfz100_2
   try clear hfz100_3
   try clear hfz100_4
   try clear hfz100_5
   try clear hfz107_0
   try clear hfz107_1
   try clear hfz107_2
   try clear hfz107_3
   try clear hfz112_0
   try clear hfz112_1
   try clear hfz112_2
   try clear hfz112_3
   try clear hfz15_0
   try clear hfz15_1
   try clear hfz15_2
   try clear hfz15_3
   try clear hfz17_0
   try clear hfz17_1
   try clear hfz17_2
   try clear hfz17_3
   try clear hfz26_0
   try clear hfz26_1
   try clear hfz26_2
   try clear hfz26_3
   try clear hfz29_0
   try clear hfz29_1
   try clear hfz29_2
   try clear hfz29_3
   try clear hfz29_4
   try clear hfz29_5
   try clear hfz31_0
   try clear hfz31_1
   try clear hfz31_2
   try clear hfz31_3
   try clear hfz38_0
   try clear hfz38_1
   try clear hfz38_2
   try clear hfz38_3
   try clear hfz40_0
   try clear hfz40_1
   try clear hfz40_2
   try clear hfz40_3
   try clear hfz50_0
   try clear hfz50_1
   try clear hfz50_2
   try clear hfz50_3
   try clear hfz56_0
   try clear hfz56_1
   try clear hfz56_2
   try clear hfz56_3
   try clear hfz56_4
   try clear hfz56_5
   try clear hfz67_0
   try clear hfz67_1
   try clear hfz67_2
   try clear hfz67_3
   try clear hfz72_0
   try clear hfz72_1
   try clear hfz72_2
   try clear hfz72_3
   try clear hfz77_0
   try clear hfz77_1
   try clear hfz77_2
   try clear hfz77_3
   try clear hfz77_4
   try clear hfz77_5
   try clear hfz7_0
   try clear hfz7_1
   try clear hfz7_2
   try clear hfz7_3
   try clear hfz80_0
   try clear hfz80_1
   try clear hfz80_2
   try clear hfz80_3
   try clear hfz80_4
   try clear hfz80_5
   try clear hfz87_0
   try clear hfz87_1
   try clear hfz87_2
   try clear hfz87_3
   try clear hfz92_0
   try clear hfz92_1
   try clear hfz92_2
   try clear hfz92_3
   try clear hfz97_0
   try clear hfz97_1
   try clear hfz97_2
   try clear hfz97_3
   try clear hfz97_4
   try clear hfz97_5
   obtain ⟨kq, x59_12, rfl, HA, HJ12, HO_302000, HO_310000, HO_324000, BK280, BK301, BK302, BK309, BK323, BK324, HB⟩ := hcut
   cases kq with
   | zero => exact absurd HA.out (by simp [laws_FnExactTakeClosed.j0])
   | succ kj12 =>
    have H := HA.out
    clear HA
    simp only [laws_FnExactTakeClosed.j0] at H
    by_cases c114 : x59_12 = true
    ·
     subst c114
     have H1 : (some false) = some r := by rw [if_pos rfl] at H; exact H
     clear H
     have H := H1
     clear H1
     exact absurd ((Option.some.inj H).trans hT.out) (by decide)
    ·
     replace c114 := Bool.eq_false_iff.mpr c114
     subst c114
     have H1 : ((laws_toShard.f kj12 l0_0 a0_1 a0_2 a0_3).bind fun bt327 => ((laws_eqShard.f kj12 t303 t306 t307 t308 bt327.1 bt327.2.1 bt327.2.2.1 bt327.2.2.2).bind fun t333 => (if t333 = true then ((laws_markShard.f kj12 t303 t306 t307 t308 1).bind fun bt334 => (if bt334.1 < 0 then (laws_FnExactTakeClosed.j1 kj12 a1 a2 t300 true l0_0 a0_1 a0_2 a0_3 t288 t291 t292 t293 t294 t295 t296 t297 t298 t299 t310 t313 t314 t315) else ((laws_eqShard.f kj12 t310 t313 t314 t315 t288 t291 t292 t293).bind fun t336 => (if t336 = true then ((laws_eqAgg.f t316 t317 t318 t319 t320 t321 t294 t295 t296 t297 t298 t299).bind fun t337 => (if t337 = true then (laws_FnExactTakeClosed.j1 kj12 a1 a2 t300 (t322 != t300) l0_0 a0_1 a0_2 a0_3 t288 t291 t292 t293 t294 t295 t296 t297 t298 t299 t310 t313 t314 t315) else (laws_FnExactTakeClosed.j1 kj12 a1 a2 t300 true l0_0 a0_1 a0_2 a0_3 t288 t291 t292 t293 t294 t295 t296 t297 t298 t299 t310 t313 t314 t315))) else (laws_FnExactTakeClosed.j1 kj12 a1 a2 t300 true l0_0 a0_1 a0_2 a0_3 t288 t291 t292 t293 t294 t295 t296 t297 t298 t299 t310 t313 t314 t315))))) else (some false)))) = some r := by rw [if_neg (show ¬ (false = true) by decide)] at H; exact H
     clear H
     have H := H1
     clear H1
     replace H := Option.bind_eq_some_iff.mp H
     obtain ⟨⟨t327, t330, t331, t332⟩, A1150, H⟩ := H
     replace H : ((laws_eqShard.f kj12 t303 t306 t307 t308 t327 t330 t331 t332).bind fun t333 => (if t333 = true then ((laws_markShard.f kj12 t303 t306 t307 t308 1).bind fun bt334 => (if bt334.1 < 0 then (laws_FnExactTakeClosed.j1 kj12 a1 a2 t300 true l0_0 a0_1 a0_2 a0_3 t288 t291 t292 t293 t294 t295 t296 t297 t298 t299 t310 t313 t314 t315) else ((laws_eqShard.f kj12 t310 t313 t314 t315 t288 t291 t292 t293).bind fun t336 => (if t336 = true then ((laws_eqAgg.f t316 t317 t318 t319 t320 t321 t294 t295 t296 t297 t298 t299).bind fun t337 => (if t337 = true then (laws_FnExactTakeClosed.j1 kj12 a1 a2 t300 (t322 != t300) l0_0 a0_1 a0_2 a0_3 t288 t291 t292 t293 t294 t295 t296 t297 t298 t299 t310 t313 t314 t315) else (laws_FnExactTakeClosed.j1 kj12 a1 a2 t300 true l0_0 a0_1 a0_2 a0_3 t288 t291 t292 t293 t294 t295 t296 t297 t298 t299 t310 t313 t314 t315))) else (laws_FnExactTakeClosed.j1 kj12 a1 a2 t300 true l0_0 a0_1 a0_2 a0_3 t288 t291 t292 t293 t294 t295 t296 t297 t298 t299 t310 t313 t314 t315))))) else (some false))) = some r := H
     have A115 := Aside0.mk A1150
     clear A1150
     replace H := Option.bind_eq_some_iff.mp H
     obtain ⟨t333, A1160, H⟩ := H
     replace H : (if t333 = true then ((laws_markShard.f kj12 t303 t306 t307 t308 1).bind fun bt334 => (if bt334.1 < 0 then (laws_FnExactTakeClosed.j1 kj12 a1 a2 t300 true l0_0 a0_1 a0_2 a0_3 t288 t291 t292 t293 t294 t295 t296 t297 t298 t299 t310 t313 t314 t315) else ((laws_eqShard.f kj12 t310 t313 t314 t315 t288 t291 t292 t293).bind fun t336 => (if t336 = true then ((laws_eqAgg.f t316 t317 t318 t319 t320 t321 t294 t295 t296 t297 t298 t299).bind fun t337 => (if t337 = true then (laws_FnExactTakeClosed.j1 kj12 a1 a2 t300 (t322 != t300) l0_0 a0_1 a0_2 a0_3 t288 t291 t292 t293 t294 t295 t296 t297 t298 t299 t310 t313 t314 t315) else (laws_FnExactTakeClosed.j1 kj12 a1 a2 t300 true l0_0 a0_1 a0_2 a0_3 t288 t291 t292 t293 t294 t295 t296 t297 t298 t299 t310 t313 t314 t315))) else (laws_FnExactTakeClosed.j1 kj12 a1 a2 t300 true l0_0 a0_1 a0_2 a0_3 t288 t291 t292 t293 t294 t295 t296 t297 t298 t299 t310 t313 t314 t315))))) else (some false)) = some r := H
     have A116 := Aside0.mk A1160
     clear A1160
     by_cases c117 : t333 = true
     ·
      subst c117
      have H1 : ((laws_markShard.f kj12 t303 t306 t307 t308 1).bind fun bt334 => (if bt334.1 < 0 then (laws_FnExactTakeClosed.j1 kj12 a1 a2 t300 true l0_0 a0_1 a0_2 a0_3 t288 t291 t292 t293 t294 t295 t296 t297 t298 t299 t310 t313 t314 t315) else ((laws_eqShard.f kj12 t310 t313 t314 t315 t288 t291 t292 t293).bind fun t336 => (if t336 = true then ((laws_eqAgg.f t316 t317 t318 t319 t320 t321 t294 t295 t296 t297 t298 t299).bind fun t337 => (if t337 = true then (laws_FnExactTakeClosed.j1 kj12 a1 a2 t300 (t322 != t300) l0_0 a0_1 a0_2 a0_3 t288 t291 t292 t293 t294 t295 t296 t297 t298 t299 t310 t313 t314 t315) else (laws_FnExactTakeClosed.j1 kj12 a1 a2 t300 true l0_0 a0_1 a0_2 a0_3 t288 t291 t292 t293 t294 t295 t296 t297 t298 t299 t310 t313 t314 t315))) else (laws_FnExactTakeClosed.j1 kj12 a1 a2 t300 true l0_0 a0_1 a0_2 a0_3 t288 t291 t292 t293 t294 t295 t296 t297 t298 t299 t310 t313 t314 t315))))) = some r := by rw [if_pos rfl] at H; exact H
      clear H
      have H := H1
      clear H1
      replace H := Option.bind_eq_some_iff.mp H
      obtain ⟨⟨t334, t335⟩, A1180, H⟩ := H
      replace H : (if t334 < 0 then (laws_FnExactTakeClosed.j1 kj12 a1 a2 t300 true l0_0 a0_1 a0_2 a0_3 t288 t291 t292 t293 t294 t295 t296 t297 t298 t299 t310 t313 t314 t315) else ((laws_eqShard.f kj12 t310 t313 t314 t315 t288 t291 t292 t293).bind fun t336 => (if t336 = true then ((laws_eqAgg.f t316 t317 t318 t319 t320 t321 t294 t295 t296 t297 t298 t299).bind fun t337 => (if t337 = true then (laws_FnExactTakeClosed.j1 kj12 a1 a2 t300 (t322 != t300) l0_0 a0_1 a0_2 a0_3 t288 t291 t292 t293 t294 t295 t296 t297 t298 t299 t310 t313 t314 t315) else (laws_FnExactTakeClosed.j1 kj12 a1 a2 t300 true l0_0 a0_1 a0_2 a0_3 t288 t291 t292 t293 t294 t295 t296 t297 t298 t299 t310 t313 t314 t315))) else (laws_FnExactTakeClosed.j1 kj12 a1 a2 t300 true l0_0 a0_1 a0_2 a0_3 t288 t291 t292 t293 t294 t295 t296 t297 t298 t299 t310 t313 t314 t315)))) = some r := H
      have A118 := Aside0.mk A1180
      clear A1180
      have HC119 := Aside0.mk H
      clear H
      try go_wp2
      have n0_ := am_ (Kd.Q_drew HO_302000.out)
      have n1_ := am_ (Kd.R_drew HO_310000.out)
      have n2_ := am_ (Kd.R_drew HO_324000.out)
      have n3_ := am_ (blk_drew BK280.out)
      have n4_ := am_ (blk_drew BK301.out)
      have n5_ := am_ (blk_drew BK302.out)
      have n6_ := am_ (blk_drew BK309.out)
      have n7_ := am_ (blk_drew BK323.out)
      have n8_ := am_ (blk_drew BK324.out)
      have n9_ := am_ (below_drew1 HB.out)
      clear HO_302000
      clear HO_310000
      clear HO_324000
      clear BK280
      clear BK301
      clear BK302
      clear BK309
      clear BK323
      clear BK324
      clear HB
      have HO_302000 := n0_
      have HO_310000 := n1_
      have HO_324000 := n2_
      have BK280 := n3_
      have BK301 := n4_
      have BK302 := n5_
      have BK309 := n6_
      have BK323 := n7_
      have BK324 := n8_
      have HB := n9_
      clear n0_ n1_ n2_ n3_ n4_ n5_ n6_ n7_ n8_ n9_
      refine start_ (n := 5) (S := fun w' => w'.cell? ⟨gb309, 0, none⟩ = some (.slice Ao34 t303.length co34) ∧ w'.cell? ⟨gb309, 1, none⟩ = some (.int .i64 t306) ∧ w'.cell? ⟨gb309, 2, none⟩ = some (.int .i64 t307) ∧ w'.cell? ⟨gb309, 3, none⟩ = some (.int .i64 t308) ∧ w'.cell? ⟨gb280, 0, none⟩ = some (.slice A0_0 l0_0.length c0_0) ∧ w'.cell? ⟨gb280, 1, none⟩ = some (.int .i64 a0_1) ∧ w'.cell? ⟨gb280, 2, none⟩ = some (.int .i64 a0_2) ∧ w'.cell? ⟨gb280, 3, none⟩ = some (.int .i64 a0_3)) (ds := []) #[false, false, false, false, false] (by kernel_rfl) rfl rfl ⟨(blk_cell BK309.out 0).trans rfl, (blk_cell BK309.out 1).trans rfl, (blk_cell BK309.out 2).trans rfl, (blk_cell BK309.out 3).trans rfl, (blk_cell BK280.out 0).trans rfl, (blk_cell BK280.out 1).trans rfl, (blk_cell BK280.out 2).trans rfl, (blk_cell BK280.out 3).trans rfl⟩ (fun hHeld => ?_)
      generalize wc.drew = w120 at HO_302000 HO_310000 HO_324000 BK280 BK301 BK302 BK309 BK323 BK324 HB hHeld ⊢
      refine take_ (i := 0) (N := some 60) (v := ?_) (a' := ?_) #[true, false, false, false, false] rfl rfl (by kernel_rfl) (fun _ _ _ h => h) (Or.inl ⟨by rfl, ?_⟩) hHeld ?_ ?_
      rotate_left
      ·
       rintro w' ⟨s0, s1, s2, s3, s4, s5, s6, s7⟩
       go_simp
       with_reducible rfl
      rotate_left
      ·
       simp only [Act.put, List.setIfInBounds_toArray, List.set_cons_zero, List.set_cons_succ, i64_w, i32_w]
       rfl
      refine take_ (i := 1) (N := some 61) (v := ?_) (a' := ?_) #[true, true, false, false, false] rfl rfl (by kernel_rfl) (fun _ _ _ h => h) (Or.inl ⟨by rfl, ?_⟩) hHeld ?_ ?_
      rotate_left
      ·
       rintro w' ⟨s0, s1, s2, s3, s4, s5, s6, s7⟩
       go_simp
       with_reducible rfl
      rotate_left
      ·
       simp only [Act.put, List.setIfInBounds_toArray, List.set_cons_zero, List.set_cons_succ, i64_w, i32_w]
       rfl
      refine one_ (i := 2) (N := some 62) #[true, true, true, false, false] rfl rfl (by kernel_rfl) (by decide) (fun K hK => ?_)
      refine goes_ Try.func26 (by kernel_rfl) rfl #[.agg #[.slice A0_0 l0_0.length c0_0, .int .i64 a0_1, .int .i64 a0_2, .int .i64 a0_3]] (by rfl) rfl rfl ul_ ?_
      with_reducible refine (laws_toShard.calls kj12 _ _ l0_0 a0_1 a0_2 a0_3 t327 t330 t331 t332 _ ?side1 ?side2 A115.out).mono ?_
      (case side1 => repeat (first | exact (Kd.C_below HR0_0.out HB.out) | (with_reducible refine Kd.C_alloc ?_ _) | (with_reducible refine Kd.C_drewN ?_ _) | (with_reducible refine Kd.C_drew ?_)))
      (case side2 => exact HC0_0.out)
      rintro e w121 ⟨v328, rfl, ho0, hb⟩
      refine ⟨_, rfl, ?_⟩
      have n0_ := am_ (Kd.Q_elder' (by (with_reducible repeat (first | apply Kd.Q_alloc | apply Kd.Q_drewN | apply Kd.Q_drew)); exact HO_302000.out) (Kd.R_base ho0) hb)
      have n1_ := am_ (Kd.R_elder' (ur_ HO_310000.out) (Kd.R_base ho0) hb)
      have n2_ := am_ (Kd.R_elder' (ur_ HO_324000.out) (Kd.R_base ho0) hb)
      have n3_ := am_ (Kd.R_lower (Kd.R_newB (Kd.R_newB (Kd.R_new' (Kd.R_new' (Kd.R_new' ho0 (Kd.Q_lt (by (with_reducible repeat (first | apply Kd.Q_alloc | apply Kd.Q_drewN | apply Kd.Q_drew)); exact HO_302000.out))) (Kd.R_lt (ur_ HO_310000.out))) (Kd.R_lt (ur_ HO_324000.out))) (g := gb302) (o := .cells #[.int .i64 t294, .int .i64 t295, .int .i64 t296, .int .i64 t297, .int .i64 t298, .int .i64 t299] 80 (0, 0)) (ub_ BK302.out)) (g := gb324) (o := .cells #[.int .i64 t316, .int .i64 t317, .int .i64 t318, .int .i64 t319, .int .i64 t320, .int .i64 t321] 80 (0, 0)) (ub_ BK324.out)) (below_size (ue_ HB.out)))
      have n4_ := am_ (bb_ BK280.out hb)
      have n5_ := am_ (bb_ BK301.out hb)
      have n6_ := am_ (bb_ BK302.out hb)
      have n7_ := am_ (bb_ BK309.out hb)
      have n8_ := am_ (bb_ BK323.out hb)
      have n9_ := am_ (bb_ BK324.out hb)
      have n10_ := am_ (below_step (ue_ HB.out) hb)
      clear HO_302000
      clear HO_310000
      clear HO_324000
      clear BK280
      clear BK301
      clear BK302
      clear BK309
      clear BK323
      clear BK324
      clear HB
      have HO_302000 := n0_
      have HO_310000 := n1_
      have HO_324000 := n2_
      have HO329 := n3_
      have BK280 := n4_
      have BK301 := n5_
      have BK302 := n6_
      have BK309 := n7_
      have BK323 := n8_
      have BK324 := n9_
      have HB := n10_
      clear n0_ n1_ n2_ n3_ n4_ n5_ n6_ n7_ n8_ n9_ n10_
      (try clear hb)
      (try clear hb2)
      (try clear hk)
      (try clear hi)
      (try clear ho0)
      obtain ⟨Ao122, co122, eo122⟩ := Kd.R_slice HO329.out
      (first | subst eo122 | (injection eo122 with f1_ f2_ f3_; have f4_ := f1_.symm; have f5_ := f3_.symm; clear f1_ f2_ f3_; subst f4_; subst f5_))
      refine hK.out _ _ ⟨(blk_cell BK309.out 0).trans rfl, (blk_cell BK309.out 1).trans rfl, (blk_cell BK309.out 2).trans rfl, (blk_cell BK309.out 3).trans rfl, (blk_cell BK280.out 0).trans rfl, (blk_cell BK280.out 1).trans rfl, (blk_cell BK280.out 2).trans rfl, (blk_cell BK280.out 3).trans rfl⟩ (fun hHeld => ?_)
      clear hK K
      refine norm_ (a' := ?_) ?_ ?_
      rotate_left
      ·
       show Act.put _ (some 62) _ = _
       simp only [Act.put, List.setIfInBounds_toArray, List.set_cons_zero, List.set_cons_succ, i64_w, i32_w]
       rfl
      refine one_ (i := 3) (N := some 63) #[true, true, true, true, false] rfl rfl (by kernel_rfl) (by decide) (fun K hK => ?_)
      refine goes_ Try.func28 (by kernel_rfl) rfl #[.agg #[.slice Ao34 t303.length co34, .int .i64 t306, .int .i64 t307, .int .i64 t308], .agg #[.slice Ao122 t327.length co122, .int .i64 t330, .int .i64 t331, .int .i64 t332]] (by rfl) rfl rfl ul_ ?_
      with_reducible refine (laws_eqShard.calls kj12 _ _ t303 t306 t307 t308 _ _ t327 t330 t331 t332 true _ ?side1 ?side2 ?side3 ?side4 A116.out).mono ?_
      (case side1 => repeat (first | exact (Kd.R_reads' HO_310000.out).2.2 | (with_reducible refine Kd.C_alloc ?_ _) | (with_reducible refine Kd.C_drewN ?_ _) | (with_reducible refine Kd.C_drew ?_)))
      (case side2 => exact (Kd.R_reads' HO_310000.out).2.1)
      (case side3 => repeat (first | exact (Kd.R_reads' HO329.out).2.2 | (with_reducible refine Kd.C_alloc ?_ _) | (with_reducible refine Kd.C_drewN ?_ _) | (with_reducible refine Kd.C_drew ?_)))
      (case side4 => exact (Kd.R_reads' HO329.out).2.1)
      rintro e w123 ⟨rfl, hb⟩
      refine ⟨_, rfl, ?_⟩
      have n0_ := am_ (Kd.Q_below (by (with_reducible repeat (first | apply Kd.Q_alloc | apply Kd.Q_drewN | apply Kd.Q_drew)); exact HO_302000.out) hb)
      have n1_ := am_ (Kd.R_below (ur_ HO_310000.out) hb)
      have n2_ := am_ (Kd.R_below (ur_ HO_324000.out) hb)
      have n3_ := am_ (Kd.R_below (ur_ HO329.out) hb)
      have n4_ := am_ (bb_ BK280.out hb)
      have n5_ := am_ (bb_ BK301.out hb)
      have n6_ := am_ (bb_ BK302.out hb)
      have n7_ := am_ (bb_ BK309.out hb)
      have n8_ := am_ (bb_ BK323.out hb)
      have n9_ := am_ (bb_ BK324.out hb)
      have n10_ := am_ (below_step (ue_ HB.out) hb)
      clear HO_302000
      clear HO_310000
      clear HO_324000
      clear HO329
      clear BK280
      clear BK301
      clear BK302
      clear BK309
      clear BK323
      clear BK324
      clear HB
      have HO_302000 := n0_
      have HO_310000 := n1_
      have HO_324000 := n2_
      have HO329 := n3_
      have BK280 := n4_
      have BK301 := n5_
      have BK302 := n6_
      have BK309 := n7_
      have BK323 := n8_
      have BK324 := n9_
      have HB := n10_
      clear n0_ n1_ n2_ n3_ n4_ n5_ n6_ n7_ n8_ n9_ n10_
      (try clear hb)
      (try clear hb2)
      (try clear hk)
      (try clear hi)
      refine hK.out _ _ ⟨(blk_cell BK309.out 0).trans rfl, (blk_cell BK309.out 1).trans rfl, (blk_cell BK309.out 2).trans rfl, (blk_cell BK309.out 3).trans rfl, (blk_cell BK280.out 0).trans rfl, (blk_cell BK280.out 1).trans rfl, (blk_cell BK280.out 2).trans rfl, (blk_cell BK280.out 3).trans rfl⟩ (fun hHeld => ?_)
      clear hK K
      refine norm_ (a' := ?_) ?_ ?_
      rotate_left
      ·
       show Act.put _ (some 63) _ = _
       simp only [Act.put, List.setIfInBounds_toArray, List.set_cons_zero, List.set_cons_succ, i64_w, i32_w]
       rfl
      refine pure_ (i := 4) (N := some 64) (v := ?_) (a' := ?_) #[true, true, true, true, true] rfl rfl (by kernel_rfl) (fun _ _ _ h => h) (Or.inl ⟨by rfl, ?_⟩) ?_ ?_
      rotate_left
      ·
       intro w'
       go_simp
       with_reducible rfl
      rotate_left
      ·
       simp only [Act.put, List.setIfInBounds_toArray, List.set_cons_zero, List.set_cons_succ, i64_w, i32_w]
       rfl
      refine done_ (by kernel_rfl) ?_
      have hnb124 := NB309_280.out
      have hnc124 := NB280_309.out
      have hnb125 := NB309_301.out
      have hnc125 := NB301_309.out
      have hnb126 := NB309_302.out
      have hnc126 := NB302_309.out
      have hnb127 := NB309_323.out
      have hnc127 := NB323_309.out
      have hnb128 := NB309_324.out
      have hnc128 := NB324_309.out
      have hcz129_0 := cb_ BK309.out 0 rfl
      have hcz129_1 := cb_ BK309.out 1 rfl
      have hcz129_2 := cb_ BK309.out 2 rfl
      have hcz129_3 := cb_ BK309.out 3 rfl
      have hfz129_0 := blk_frozen BK309.out 0
      have hfz129_1 := blk_frozen BK309.out 1
      have hfz129_2 := blk_frozen BK309.out 2
      have hfz129_3 := blk_frozen BK309.out 3
      go_upto_region 14 with (first | ((with_reducible refine gate_callee (f := 29) rfl ?_); refine goesL_ (some 67) rfl rfl Try.func29 (by kernel_rfl) rfl #[.agg #[.slice Ao34 t303.length co34, .int .i64 t306, .int .i64 t307, .int .i64 t308], .int .i64 1] rfl ul_ ?_; (with_reducible refine (laws_markShard.calls kj12 (fun k_ => some k_ = (.slice Ao34 t303.length co34 : Value).ownBlock) (.slice Ao34 t303.length co34) t303 t306 t307 t308 1 t334 t335 w _ ?side1 ?side2 A118.out).mono ?_); (case side1 => repeat (first | (with_reducible first | exact HB.out | apply below_alloc | apply pw_below_drewN | apply below_drew1 | refine below_set ?_ GE280.out | refine below_set ?_ GE301.out | refine below_set ?_ GE302.out | refine below_set ?_ GE309.out | refine below_set ?_ GE323.out | refine below_set ?_ GE324.out) | exact HB.out)); (case side2 => exact Kd.R_tight rfl HO_310000.out); rintro e w130 ⟨rfl, hy0, hb, hkp⟩; refine ⟨_, rfl, ?_⟩; have n0_ := am_ (Kd.Q_mono (ok' := fun k_ => some k_ ≠ (.slice Ao34 t303.length co34 : Value).ownBlock ∧ some k_ ≠ (.slice Ao44 t310.length co44 : Value).ownBlock ∧ some k_ ≠ (.slice Ao122 t327.length co122 : Value).ownBlock ∧ k_ ≠ gb302 ∧ k_ ≠ gb324) (Kd.Q_keptB (HO_302000.out) hkp (fun k_ hk_ hs_ => by first | exact (hk_.1.1) hs_ | grind)) (fun k_ hk_ => by first | exact ⟨hk_.1.1.1, hk_.1.1.2.1, hk_.1.2, hk_.1.1.2.2.1, hk_.1.1.2.2.2⟩ | grind)); have n1_ := am_ (Kd.R_reok rfl hy0 (fun k_ e_ => HO_310000.out.1 k_ e_)); have n2_ := am_ (Kd.R_mono (ok' := fun k_ => some k_ ≠ (.slice Ao23 t288.length co23 : Value).ownBlock ∧ some k_ ≠ (.slice Ao34 t303.length co34 : Value).ownBlock ∧ some k_ ≠ (.slice Ao122 t327.length co122 : Value).ownBlock ∧ k_ ≠ gb302 ∧ k_ ≠ gb324) (Kd.R_keptB (HO_324000.out) hkp (fun k_ hk_ hs_ => by first | exact (hk_.1.2.1) hs_ | grind)) (fun k_ hk_ => by first | exact ⟨hk_.1.1.1, hk_.1.1.2.1, hk_.1.2, hk_.1.1.2.2.1, hk_.1.1.2.2.2⟩ | grind)); have n3_ := am_ (blk_kept (g := gb280) (o := .cells #[.slice A0_0 l0_0.length c0_0, .int .i64 a0_1, .int .i64 a0_2, .int .i64 a0_3] 38 (0, 0)) (ub_ BK280.out) hkp (fun hs_ => (fun e_ => (Kd.R_ne HO_310000.out BK280.out (by decide)) e_) hs_)); have n4_ := am_ (blk_kept (g := gb301) (o := .cells #[.slice Ao23 t288.length co23, .int .i64 t291, .int .i64 t292, .int .i64 t293] 42 (0, 0)) (ub_ BK301.out) hkp (fun hs_ => (fun e_ => (Kd.R_ne HO_310000.out BK301.out (by decide)) e_) hs_)); have n5_ := am_ (blk_kept (g := gb302) (o := .cells #[.int .i64 t294, .int .i64 t295, .int .i64 t296, .int .i64 t297, .int .i64 t298, .int .i64 t299] 80 (0, 0)) (ub_ BK302.out) hkp (fun hs_ => (fun e_ => (Kd.R_away HO_310000.out (fun _ hk => by first | exact hk.1.2.2.1 | grind)) e_) hs_)); have n6_ := am_ (blk_kept (g := gb309) (o := .cells #[.slice Ao34 t303.length co34, .int .i64 t306, .int .i64 t307, .int .i64 t308] 42 (0, 0)) (ub_ BK309.out) hkp (fun hs_ => (fun e_ => (Kd.R_ne HO_310000.out BK309.out (by decide)) e_) hs_)); have n7_ := am_ (blk_kept (g := gb323) (o := .cells #[.slice Ao44 t310.length co44, .int .i64 t313, .int .i64 t314, .int .i64 t315] 42 (0, 0)) (ub_ BK323.out) hkp (fun hs_ => (fun e_ => (Kd.R_ne HO_310000.out BK323.out (by decide)) e_) hs_)); have n8_ := am_ (blk_kept (g := gb324) (o := .cells #[.int .i64 t316, .int .i64 t317, .int .i64 t318, .int .i64 t319, .int .i64 t320, .int .i64 t321] 80 (0, 0)) (ub_ BK324.out) hkp (fun hs_ => (fun e_ => (Kd.R_away HO_310000.out (fun _ hk => by first | exact hk.1.2.2.2 | grind)) e_) hs_)); have n9_ := am_ (Kd.R_mono (ok' := fun k_ => some k_ ≠ (.slice Ao23 t288.length co23 : Value).ownBlock ∧ some k_ ≠ (.slice Ao34 t303.length co34 : Value).ownBlock ∧ some k_ ≠ (.slice Ao44 t310.length co44 : Value).ownBlock ∧ k_ ≠ gb302 ∧ k_ ≠ gb324) (Kd.R_keptB (HO329.out) hkp (fun k_ hk_ hs_ => by first | exact (hk_.1.1.1.2) hs_ | grind)) (fun k_ hk_ => by first | exact ⟨hk_.1.1.1.1.1.2, hk_.1.1.1.1.2, hk_.1.1.1.2, hk_.1.1.2, hk_.1.2⟩ | grind)); have n10_ := am_ (hb); clear HO_302000 HO_310000 HO_324000 BK280 BK301 BK302 BK309 BK323 BK324 HO329 HB; have HO_302000 := n0_; have HO_310000 := n1_; have HO_324000 := n2_; have BK280 := n3_; have BK301 := n4_; have BK302 := n5_; have BK309 := n6_; have BK323 := n7_; have BK324 := n8_; have HO329 := n9_; have HB := n10_; clear n0_ n1_ n2_ n3_ n4_ n5_ n6_ n7_ n8_ n9_ n10_; (try clear hb); (try clear hkp); (try clear hy0)))
      (try simp only [Act.put, List.setIfInBounds_toArray, List.set_cons_zero, List.set_cons_succ])
      go_cut [86] (fun v86 wc => ∃ (kq : Nat) (x86_118 : Bool), v86 = .bool x86_118 ∧ Aside0 (laws_FnExactTakeClosed.j1 kq a1 a2 t300 x86_118 l0_0 a0_1 a0_2 a0_3 t288 t291 t292 t293 t294 t295 t296 t297 t298 t299 t310 t313 t314 t315 = some r) ∧ Aside0 (kq ≤ kj12) ∧ Aside0 (Kd.Q k80 80 wc w.heap.size (fun k_ => some k_ ≠ ((.slice Ao34 t303.length co34) : Value).ownBlock ∧ some k_ ≠ ((.slice Ao44 t310.length co44) : Value).ownBlock ∧ k_ ≠ gb302 ∧ k_ ≠ gb324) (.slice Ao23 t288.length co23) t288) ∧ Aside0 (Kd.R k80 80 wc w.heap.size (fun k_ => some k_ ≠ ((.slice Ao23 t288.length co23) : Value).ownBlock ∧ some k_ ≠ ((.slice Ao44 t310.length co44) : Value).ownBlock ∧ k_ ≠ gb302 ∧ k_ ≠ gb324) (.slice Ao34 t303.length co34) t335) ∧ Aside0 (Kd.R k80 80 wc w.heap.size (fun k_ => some k_ ≠ ((.slice Ao23 t288.length co23) : Value).ownBlock ∧ some k_ ≠ ((.slice Ao34 t303.length co34) : Value).ownBlock ∧ k_ ≠ gb302 ∧ k_ ≠ gb324) (.slice Ao44 t310.length co44) t310) ∧ Aside0 (wc.heap[gb280]? = some (.cells #[(.slice A0_0 l0_0.length c0_0), .int .i64 a0_1, .int .i64 a0_2, .int .i64 a0_3] 38 (0, 0))) ∧ Aside0 (wc.heap[gb301]? = some (.cells #[(.slice Ao23 t288.length co23), .int .i64 t291, .int .i64 t292, .int .i64 t293] 42 (0, 0))) ∧ Aside0 (wc.heap[gb302]? = some (.cells #[.int .i64 t294, .int .i64 t295, .int .i64 t296, .int .i64 t297, .int .i64 t298, .int .i64 t299] 80 (0, 0))) ∧ Aside0 (wc.heap[gb309]? = some (.cells #[(.slice Ao34 t303.length co34), .int .i64 t306, .int .i64 t307, .int .i64 t308] 42 (0, 0))) ∧ Aside0 (wc.heap[gb323]? = some (.cells #[(.slice Ao44 t310.length co44), .int .i64 t313, .int .i64 t314, .int .i64 t315] 42 (0, 0))) ∧ Aside0 (wc.heap[gb324]? = some (.cells #[.int .i64 t316, .int .i64 t317, .int .i64 t318, .int .i64 t319, .int .i64 t320, .int .i64 t321] 80 (0, 0))) ∧ Aside0 (Below w.heap.size w wc))
      case first =>
       have H := HC119.out
       clear HC119
       by_cases c131 : t334 < 0
       ·
        rw [if_pos c131] at H
        have c131b0 : decide (t334 < 0) = true := decide_eq_true c131
        clear c131
        (first | rw [c131b0] | (simp only [i64_w, i32_w]; rw [c131b0]) | skip)
        have H' := Aside0.mk H
        clear H
        go_wp2
        go_meet
        case rel => exact ⟨_, (true), (by first | rfl | (simp; done) | (simp [*]; done)), H', ⟨by have := HJ12.out; first | omega | exact Nat.le_refl _⟩, ⟨by (with_reducible repeat (first | apply Kd.Q_alloc | apply Kd.Q_drewN | apply Kd.Q_drew)); exact Kd.Q_mono HO_302000.out (fun _ hk => by first | exact ⟨hk.1, ⟨hk.2.1, ⟨hk.2.2.2.1, hk.2.2.2.2⟩⟩⟩ | grind)⟩, ⟨by (with_reducible repeat (first | apply Kd.R_alloc | apply Kd.R_drewN | apply Kd.R_drew)); exact Kd.R_mono HO_310000.out (fun _ hk => by first | exact ⟨hk.1.1, ⟨hk.1.2.1, ⟨hk.1.2.2.1, hk.1.2.2.2⟩⟩⟩ | grind)⟩, ⟨by (with_reducible repeat (first | apply Kd.R_alloc | apply Kd.R_drewN | apply Kd.R_drew)); exact Kd.R_mono HO_324000.out (fun _ hk => by first | exact ⟨hk.1, ⟨hk.2.1, ⟨hk.2.2.2.1, hk.2.2.2.2⟩⟩⟩ | grind)⟩, ⟨by (with_reducible repeat first|apply bn_|apply bd_|apply ba_); exact BK280.out⟩, ⟨by (with_reducible repeat first|apply bn_|apply bd_|apply ba_); exact BK301.out⟩, ⟨by (with_reducible repeat first|apply bn_|apply bd_|apply ba_); exact BK302.out⟩, ⟨by (with_reducible repeat first|apply bn_|apply bd_|apply ba_); exact BK309.out⟩, ⟨by (with_reducible repeat first|apply bn_|apply bd_|apply ba_); exact BK323.out⟩, ⟨by (with_reducible repeat first|apply bn_|apply bd_|apply ba_); exact BK324.out⟩, ⟨ue_ HB.out⟩⟩
       ·
        rw [if_neg c131] at H
        have c131b0 : decide (t334 < 0) = false := decide_eq_false c131
        clear c131
        (first | rw [c131b0] | (simp only [i64_w, i32_w]; rw [c131b0]) | skip)
        replace H := Option.bind_eq_some_iff.mp H
        obtain ⟨t336, A1320, H⟩ := H
        replace H : (if t336 = true then ((laws_eqAgg.f t316 t317 t318 t319 t320 t321 t294 t295 t296 t297 t298 t299).bind fun t337 => (if t337 = true then (laws_FnExactTakeClosed.j1 kj12 a1 a2 t300 (t322 != t300) l0_0 a0_1 a0_2 a0_3 t288 t291 t292 t293 t294 t295 t296 t297 t298 t299 t310 t313 t314 t315) else (laws_FnExactTakeClosed.j1 kj12 a1 a2 t300 true l0_0 a0_1 a0_2 a0_3 t288 t291 t292 t293 t294 t295 t296 t297 t298 t299 t310 t313 t314 t315))) else (laws_FnExactTakeClosed.j1 kj12 a1 a2 t300 true l0_0 a0_1 a0_2 a0_3 t288 t291 t292 t293 t294 t295 t296 t297 t298 t299 t310 t313 t314 t315)) = some r := H
        have A132 := Aside0.mk A1320
        clear A1320
        by_cases c133 : t336 = true
        ·
         subst c133
         have H1 : ((laws_eqAgg.f t316 t317 t318 t319 t320 t321 t294 t295 t296 t297 t298 t299).bind fun t337 => (if t337 = true then (laws_FnExactTakeClosed.j1 kj12 a1 a2 t300 (t322 != t300) l0_0 a0_1 a0_2 a0_3 t288 t291 t292 t293 t294 t295 t296 t297 t298 t299 t310 t313 t314 t315) else (laws_FnExactTakeClosed.j1 kj12 a1 a2 t300 true l0_0 a0_1 a0_2 a0_3 t288 t291 t292 t293 t294 t295 t296 t297 t298 t299 t310 t313 t314 t315))) = some r := by rw [if_pos rfl] at H; exact H
         clear H
         have H := H1
         clear H1
         replace H := Option.bind_eq_some_iff.mp H
         obtain ⟨t337, A1340, H⟩ := H
         replace H : (if t337 = true then (laws_FnExactTakeClosed.j1 kj12 a1 a2 t300 (t322 != t300) l0_0 a0_1 a0_2 a0_3 t288 t291 t292 t293 t294 t295 t296 t297 t298 t299 t310 t313 t314 t315) else (laws_FnExactTakeClosed.j1 kj12 a1 a2 t300 true l0_0 a0_1 a0_2 a0_3 t288 t291 t292 t293 t294 t295 t296 t297 t298 t299 t310 t313 t314 t315)) = some r := H
         have A134 := Aside0.mk A1340
         clear A1340
         by_cases c135 : t337 = true
         ·
          subst c135
          have H1 : (laws_FnExactTakeClosed.j1 kj12 a1 a2 t300 (t322 != t300) l0_0 a0_1 a0_2 a0_3 t288 t291 t292 t293 t294 t295 t296 t297 t298 t299 t310 t313 t314 t315) = some r := by rw [if_pos rfl] at H; exact H
          clear H
          have H := H1
          clear H1
          have H' := Aside0.mk H
          clear H
          have hnb136 := NB323_280.out
          have hnc136 := NB280_323.out
          have hnb137 := NB323_301.out
          have hnc137 := NB301_323.out
          have hnb138 := NB323_302.out
          have hnc138 := NB302_323.out
          have hnb139 := NB323_309.out
          have hnc139 := NB309_323.out
          have hnb140 := NB323_324.out
          have hnc140 := NB324_323.out
          have hcz141_0 := cb_ BK323.out 0 rfl
          have hcz141_1 := cb_ BK323.out 1 rfl
          have hcz141_2 := cb_ BK323.out 2 rfl
          have hcz141_3 := cb_ BK323.out 3 rfl
          have hfz141_0 := blk_frozen BK323.out 0
          have hfz141_1 := blk_frozen BK323.out 1
          have hfz141_2 := blk_frozen BK323.out 2
          have hfz141_3 := blk_frozen BK323.out 3
          have hnb142 := NB301_280.out
          have hnc142 := NB280_301.out
          have hnb143 := NB301_302.out
          have hnc143 := NB302_301.out
          have hnb144 := NB301_309.out
          have hnc144 := NB309_301.out
          have hnb145 := NB301_324.out
          have hnc145 := NB324_301.out
          have hcz146_0 := cb_ BK301.out 0 rfl
          have hcz146_1 := cb_ BK301.out 1 rfl
          have hcz146_2 := cb_ BK301.out 2 rfl
          have hcz146_3 := cb_ BK301.out 3 rfl
          have hfz146_0 := blk_frozen BK301.out 0
          have hfz146_1 := blk_frozen BK301.out 1
          have hfz146_2 := blk_frozen BK301.out 2
          have hfz146_3 := blk_frozen BK301.out 3
          go_wp2_with (first | (go_at_call 28; (with_reducible refine (laws_eqShard.calls kj12 _ _ t310 t313 t314 t315 _ _ t288 t291 t292 t293 true _ ?side1 ?side2 ?side3 ?side4 A132.out).mono ?_); (case side1 => repeat (first | exact (Kd.R_reads' HO_324000.out).2.2 | (with_reducible refine Kd.C_alloc ?_ _) | (with_reducible refine Kd.C_drewN ?_ _) | (with_reducible refine Kd.C_drew ?_))); (case side2 => exact (Kd.R_reads' HO_324000.out).2.1); (case side3 => repeat (first | exact (Kd.Q_reads' HO_302000.out).2.2 | (with_reducible refine Kd.C_alloc ?_ _) | (with_reducible refine Kd.C_drewN ?_ _) | (with_reducible refine Kd.C_drew ?_))); (case side4 => exact (Kd.Q_reads' HO_302000.out).2.1); rintro e w147 ⟨rfl, hb⟩; have n0_ := am_ (Kd.Q_below (by (with_reducible repeat (first | apply Kd.Q_alloc | apply Kd.Q_drewN | apply Kd.Q_drew)); exact HO_302000.out) hb); have n1_ := am_ (Kd.R_below (ur_ HO_310000.out) hb); have n2_ := am_ (Kd.R_below (ur_ HO_324000.out) hb); have n3_ := am_ (Kd.R_below (ur_ HO329.out) hb); have n4_ := am_ (bb_ BK280.out hb); have n5_ := am_ (bb_ BK301.out hb); have n6_ := am_ (bb_ BK302.out hb); have n7_ := am_ (bb_ BK309.out hb); have n8_ := am_ (bb_ BK323.out hb); have n9_ := am_ (bb_ BK324.out hb); have n10_ := am_ (below_step (ue_ HB.out) hb); clear HO_302000 HO_310000 HO_324000 HO329 BK280 BK301 BK302 BK309 BK323 BK324 HB; have HO_302000 := n0_; have HO_310000 := n1_; have HO_324000 := n2_; have HO329 := n3_; have BK280 := n4_; have BK301 := n5_; have BK302 := n6_; have BK309 := n7_; have BK323 := n8_; have BK324 := n9_; have HB := n10_; clear n0_ n1_ n2_ n3_ n4_ n5_ n6_ n7_ n8_ n9_ n10_; (try clear hb); (try clear hb2); (try clear hk); (try clear hi); have hnb148 := NB324_280.out; have hnc148 := NB280_324.out; have hnb149 := NB324_302.out; have hnc149 := NB302_324.out; have hnb150 := NB324_309.out; have hnc150 := NB309_324.out; obtain ⟨hcz151_0, hcz151_1, hcz151_2, hcz151_3, hcz151_4, hcz151_5⟩ := cb6_ BK324.out; obtain ⟨hfz151_0, hfz151_1, hfz151_2, hfz151_3, hfz151_4, hfz151_5⟩ := bf6_ BK324.out; have hnb152 := NB302_280.out; have hnc152 := NB280_302.out; have hnb153 := NB302_309.out; have hnc153 := NB309_302.out; obtain ⟨hcz154_0, hcz154_1, hcz154_2, hcz154_3, hcz154_4, hcz154_5⟩ := cb6_ BK302.out; obtain ⟨hfz154_0, hfz154_1, hfz154_2, hfz154_3, hfz154_4⟩ := bf5_ BK302.out; have hfz154_5 := blk_frozen BK302.out 5) | (go_at_call 59; (with_reducible refine (laws_eqAgg.calls t316 t317 t318 t319 t320 t321 t294 t295 t296 t297 t298 t299 true _ A134.out).mono ?_); rintro e w155 ⟨rfl, hb⟩; have n0_ := am_ (Kd.Q_below (by (with_reducible repeat (first | apply Kd.Q_alloc | apply Kd.Q_drewN | apply Kd.Q_drew)); exact HO_302000.out) hb); have n1_ := am_ (Kd.R_below (ur_ HO_310000.out) hb); have n2_ := am_ (Kd.R_below (ur_ HO_324000.out) hb); have n3_ := am_ (Kd.R_below (ur_ HO329.out) hb); have n4_ := am_ (bb_ BK280.out hb); have n5_ := am_ (bb_ BK301.out hb); have n6_ := am_ (bb_ BK302.out hb); have n7_ := am_ (bb_ BK309.out hb); have n8_ := am_ (bb_ BK323.out hb); have n9_ := am_ (bb_ BK324.out hb); have n10_ := am_ (below_step (ue_ HB.out) hb); clear HO_302000 HO_310000 HO_324000 HO329 BK280 BK301 BK302 BK309 BK323 BK324 HB; have HO_302000 := n0_; have HO_310000 := n1_; have HO_324000 := n2_; have HO329 := n3_; have BK280 := n4_; have BK301 := n5_; have BK302 := n6_; have BK309 := n7_; have BK323 := n8_; have BK324 := n9_; have HB := n10_; clear n0_ n1_ n2_ n3_ n4_ n5_ n6_ n7_ n8_ n9_ n10_; (try clear hb); (try clear hb2); (try clear hk); (try clear hi)))
          go_meet
          case rel => exact ⟨_, ((t322 != t300)), (by first | rfl | (simp; done) | (simp [*]; done)), H', ⟨by have := HJ12.out; first | omega | exact Nat.le_refl _⟩, ⟨by (with_reducible repeat (first | apply Kd.Q_alloc | apply Kd.Q_drewN | apply Kd.Q_drew)); exact Kd.Q_mono HO_302000.out (fun _ hk => by first | exact ⟨hk.1, ⟨hk.2.1, ⟨hk.2.2.2.1, hk.2.2.2.2⟩⟩⟩ | grind)⟩, ⟨by (with_reducible repeat (first | apply Kd.R_alloc | apply Kd.R_drewN | apply Kd.R_drew)); exact Kd.R_mono HO_310000.out (fun _ hk => by first | exact ⟨hk.1.1, ⟨hk.1.2.1, ⟨hk.1.2.2.1, hk.1.2.2.2⟩⟩⟩ | grind)⟩, ⟨by (with_reducible repeat (first | apply Kd.R_alloc | apply Kd.R_drewN | apply Kd.R_drew)); exact Kd.R_mono HO_324000.out (fun _ hk => by first | exact ⟨hk.1, ⟨hk.2.1, ⟨hk.2.2.2.1, hk.2.2.2.2⟩⟩⟩ | grind)⟩, ⟨by (with_reducible repeat first|apply bn_|apply bd_|apply ba_); exact BK280.out⟩, ⟨by (with_reducible repeat first|apply bn_|apply bd_|apply ba_); exact BK301.out⟩, ⟨by (with_reducible repeat first|apply bn_|apply bd_|apply ba_); exact BK302.out⟩, ⟨by (with_reducible repeat first|apply bn_|apply bd_|apply ba_); exact BK309.out⟩, ⟨by (with_reducible repeat first|apply bn_|apply bd_|apply ba_); exact BK323.out⟩, ⟨by (with_reducible repeat first|apply bn_|apply bd_|apply ba_); exact BK324.out⟩, ⟨ue_ HB.out⟩⟩
         ·
          replace c135 := Bool.eq_false_iff.mpr c135
          subst c135
          have H1 : (laws_FnExactTakeClosed.j1 kj12 a1 a2 t300 true l0_0 a0_1 a0_2 a0_3 t288 t291 t292 t293 t294 t295 t296 t297 t298 t299 t310 t313 t314 t315) = some r := by rw [if_neg (show ¬ (false = true) by decide)] at H; exact H
          clear H
          have H := H1
          clear H1
          have H' := Aside0.mk H
          clear H
          have hnb156 := NB323_280.out
          have hnc156 := NB280_323.out
          have hnb157 := NB323_301.out
          have hnc157 := NB301_323.out
          have hnb158 := NB323_302.out
          have hnc158 := NB302_323.out
          have hnb159 := NB323_309.out
          have hnc159 := NB309_323.out
          have hnb160 := NB323_324.out
          have hnc160 := NB324_323.out
          have hcz161_0 := cb_ BK323.out 0 rfl
          have hcz161_1 := cb_ BK323.out 1 rfl
          have hcz161_2 := cb_ BK323.out 2 rfl
          have hcz161_3 := cb_ BK323.out 3 rfl
          have hfz161_0 := blk_frozen BK323.out 0
          have hfz161_1 := blk_frozen BK323.out 1
          have hfz161_2 := blk_frozen BK323.out 2
          have hfz161_3 := blk_frozen BK323.out 3
          have hnb162 := NB301_280.out
          have hnc162 := NB280_301.out
          have hnb163 := NB301_302.out
          have hnc163 := NB302_301.out
          have hnb164 := NB301_309.out
          have hnc164 := NB309_301.out
          have hnb165 := NB301_324.out
          have hnc165 := NB324_301.out
          have hcz166_0 := cb_ BK301.out 0 rfl
          have hcz166_1 := cb_ BK301.out 1 rfl
          have hcz166_2 := cb_ BK301.out 2 rfl
          have hcz166_3 := cb_ BK301.out 3 rfl
          have hfz166_0 := blk_frozen BK301.out 0
          have hfz166_1 := blk_frozen BK301.out 1
          have hfz166_2 := blk_frozen BK301.out 2
          have hfz166_3 := blk_frozen BK301.out 3
          go_wp2_with (first | (go_at_call 28; (with_reducible refine (laws_eqShard.calls kj12 _ _ t310 t313 t314 t315 _ _ t288 t291 t292 t293 true _ ?side1 ?side2 ?side3 ?side4 A132.out).mono ?_); (case side1 => repeat (first | exact (Kd.R_reads' HO_324000.out).2.2 | (with_reducible refine Kd.C_alloc ?_ _) | (with_reducible refine Kd.C_drewN ?_ _) | (with_reducible refine Kd.C_drew ?_))); (case side2 => exact (Kd.R_reads' HO_324000.out).2.1); (case side3 => repeat (first | exact (Kd.Q_reads' HO_302000.out).2.2 | (with_reducible refine Kd.C_alloc ?_ _) | (with_reducible refine Kd.C_drewN ?_ _) | (with_reducible refine Kd.C_drew ?_))); (case side4 => exact (Kd.Q_reads' HO_302000.out).2.1); rintro e w167 ⟨rfl, hb⟩; have n0_ := am_ (Kd.Q_below (by (with_reducible repeat (first | apply Kd.Q_alloc | apply Kd.Q_drewN | apply Kd.Q_drew)); exact HO_302000.out) hb); have n1_ := am_ (Kd.R_below (ur_ HO_310000.out) hb); have n2_ := am_ (Kd.R_below (ur_ HO_324000.out) hb); have n3_ := am_ (Kd.R_below (ur_ HO329.out) hb); have n4_ := am_ (bb_ BK280.out hb); have n5_ := am_ (bb_ BK301.out hb); have n6_ := am_ (bb_ BK302.out hb); have n7_ := am_ (bb_ BK309.out hb); have n8_ := am_ (bb_ BK323.out hb); have n9_ := am_ (bb_ BK324.out hb); have n10_ := am_ (below_step (ue_ HB.out) hb); clear HO_302000 HO_310000 HO_324000 HO329 BK280 BK301 BK302 BK309 BK323 BK324 HB; have HO_302000 := n0_; have HO_310000 := n1_; have HO_324000 := n2_; have HO329 := n3_; have BK280 := n4_; have BK301 := n5_; have BK302 := n6_; have BK309 := n7_; have BK323 := n8_; have BK324 := n9_; have HB := n10_; clear n0_ n1_ n2_ n3_ n4_ n5_ n6_ n7_ n8_ n9_ n10_; (try clear hb); (try clear hb2); (try clear hk); (try clear hi); have hnb168 := NB324_280.out; have hnc168 := NB280_324.out; have hnb169 := NB324_302.out; have hnc169 := NB302_324.out; have hnb170 := NB324_309.out; have hnc170 := NB309_324.out; obtain ⟨hcz171_0, hcz171_1, hcz171_2, hcz171_3, hcz171_4, hcz171_5⟩ := cb6_ BK324.out; obtain ⟨hfz171_0, hfz171_1, hfz171_2, hfz171_3, hfz171_4, hfz171_5⟩ := bf6_ BK324.out; have hnb172 := NB302_280.out; have hnc172 := NB280_302.out; have hnb173 := NB302_309.out; have hnc173 := NB309_302.out; obtain ⟨hcz174_0, hcz174_1, hcz174_2, hcz174_3, hcz174_4, hcz174_5⟩ := cb6_ BK302.out; obtain ⟨hfz174_0, hfz174_1, hfz174_2, hfz174_3, hfz174_4⟩ := bf5_ BK302.out; have hfz174_5 := blk_frozen BK302.out 5) | (go_at_call 59; (with_reducible refine (laws_eqAgg.calls t316 t317 t318 t319 t320 t321 t294 t295 t296 t297 t298 t299 false _ A134.out).mono ?_); rintro e w175 ⟨rfl, hb⟩; have n0_ := am_ (Kd.Q_below (by (with_reducible repeat (first | apply Kd.Q_alloc | apply Kd.Q_drewN | apply Kd.Q_drew)); exact HO_302000.out) hb); have n1_ := am_ (Kd.R_below (ur_ HO_310000.out) hb); have n2_ := am_ (Kd.R_below (ur_ HO_324000.out) hb); have n3_ := am_ (Kd.R_below (ur_ HO329.out) hb); have n4_ := am_ (bb_ BK280.out hb); have n5_ := am_ (bb_ BK301.out hb); have n6_ := am_ (bb_ BK302.out hb); have n7_ := am_ (bb_ BK309.out hb); have n8_ := am_ (bb_ BK323.out hb); have n9_ := am_ (bb_ BK324.out hb); have n10_ := am_ (below_step (ue_ HB.out) hb); clear HO_302000 HO_310000 HO_324000 HO329 BK280 BK301 BK302 BK309 BK323 BK324 HB; have HO_302000 := n0_; have HO_310000 := n1_; have HO_324000 := n2_; have HO329 := n3_; have BK280 := n4_; have BK301 := n5_; have BK302 := n6_; have BK309 := n7_; have BK323 := n8_; have BK324 := n9_; have HB := n10_; clear n0_ n1_ n2_ n3_ n4_ n5_ n6_ n7_ n8_ n9_ n10_; (try clear hb); (try clear hb2); (try clear hk); (try clear hi)))
          go_meet
          case rel => exact ⟨_, (true), (by first | rfl | (simp; done) | (simp [*]; done)), H', ⟨by have := HJ12.out; first | omega | exact Nat.le_refl _⟩, ⟨by (with_reducible repeat (first | apply Kd.Q_alloc | apply Kd.Q_drewN | apply Kd.Q_drew)); exact Kd.Q_mono HO_302000.out (fun _ hk => by first | exact ⟨hk.1, ⟨hk.2.1, ⟨hk.2.2.2.1, hk.2.2.2.2⟩⟩⟩ | grind)⟩, ⟨by (with_reducible repeat (first | apply Kd.R_alloc | apply Kd.R_drewN | apply Kd.R_drew)); exact Kd.R_mono HO_310000.out (fun _ hk => by first | exact ⟨hk.1.1, ⟨hk.1.2.1, ⟨hk.1.2.2.1, hk.1.2.2.2⟩⟩⟩ | grind)⟩, ⟨by (with_reducible repeat (first | apply Kd.R_alloc | apply Kd.R_drewN | apply Kd.R_drew)); exact Kd.R_mono HO_324000.out (fun _ hk => by first | exact ⟨hk.1, ⟨hk.2.1, ⟨hk.2.2.2.1, hk.2.2.2.2⟩⟩⟩ | grind)⟩, ⟨by (with_reducible repeat first|apply bn_|apply bd_|apply ba_); exact BK280.out⟩, ⟨by (with_reducible repeat first|apply bn_|apply bd_|apply ba_); exact BK301.out⟩, ⟨by (with_reducible repeat first|apply bn_|apply bd_|apply ba_); exact BK302.out⟩, ⟨by (with_reducible repeat first|apply bn_|apply bd_|apply ba_); exact BK309.out⟩, ⟨by (with_reducible repeat first|apply bn_|apply bd_|apply ba_); exact BK323.out⟩, ⟨by (with_reducible repeat first|apply bn_|apply bd_|apply ba_); exact BK324.out⟩, ⟨ue_ HB.out⟩⟩
        ·
         replace c133 := Bool.eq_false_iff.mpr c133
         subst c133
         have H1 : (laws_FnExactTakeClosed.j1 kj12 a1 a2 t300 true l0_0 a0_1 a0_2 a0_3 t288 t291 t292 t293 t294 t295 t296 t297 t298 t299 t310 t313 t314 t315) = some r := by rw [if_neg (show ¬ (false = true) by decide)] at H; exact H
         clear H
         have H := H1
         clear H1
         have H' := Aside0.mk H
         clear H
         have hnb176 := NB323_280.out
         have hnc176 := NB280_323.out
         have hnb177 := NB323_301.out
         have hnc177 := NB301_323.out
         have hnb178 := NB323_302.out
         have hnc178 := NB302_323.out
         have hnb179 := NB323_309.out
         have hnc179 := NB309_323.out
         have hnb180 := NB323_324.out
         have hnc180 := NB324_323.out
         have hcz181_0 := cb_ BK323.out 0 rfl
         have hcz181_1 := cb_ BK323.out 1 rfl
         have hcz181_2 := cb_ BK323.out 2 rfl
         have hcz181_3 := cb_ BK323.out 3 rfl
         have hfz181_0 := blk_frozen BK323.out 0
         have hfz181_1 := blk_frozen BK323.out 1
         have hfz181_2 := blk_frozen BK323.out 2
         have hfz181_3 := blk_frozen BK323.out 3
         have hnb182 := NB301_280.out
         have hnc182 := NB280_301.out
         have hnb183 := NB301_302.out
         have hnc183 := NB302_301.out
         have hnb184 := NB301_309.out
         have hnc184 := NB309_301.out
         have hnb185 := NB301_324.out
         have hnc185 := NB324_301.out
         have hcz186_0 := cb_ BK301.out 0 rfl
         have hcz186_1 := cb_ BK301.out 1 rfl
         have hcz186_2 := cb_ BK301.out 2 rfl
         have hcz186_3 := cb_ BK301.out 3 rfl
         have hfz186_0 := blk_frozen BK301.out 0
         have hfz186_1 := blk_frozen BK301.out 1
         have hfz186_2 := blk_frozen BK301.out 2
         have hfz186_3 := blk_frozen BK301.out 3
         go_wp2_with (first | (go_at_call 28; (with_reducible refine (laws_eqShard.calls kj12 _ _ t310 t313 t314 t315 _ _ t288 t291 t292 t293 false _ ?side1 ?side2 ?side3 ?side4 A132.out).mono ?_); (case side1 => repeat (first | exact (Kd.R_reads' HO_324000.out).2.2 | (with_reducible refine Kd.C_alloc ?_ _) | (with_reducible refine Kd.C_drewN ?_ _) | (with_reducible refine Kd.C_drew ?_))); (case side2 => exact (Kd.R_reads' HO_324000.out).2.1); (case side3 => repeat (first | exact (Kd.Q_reads' HO_302000.out).2.2 | (with_reducible refine Kd.C_alloc ?_ _) | (with_reducible refine Kd.C_drewN ?_ _) | (with_reducible refine Kd.C_drew ?_))); (case side4 => exact (Kd.Q_reads' HO_302000.out).2.1); rintro e w187 ⟨rfl, hb⟩; have n0_ := am_ (Kd.Q_below (by (with_reducible repeat (first | apply Kd.Q_alloc | apply Kd.Q_drewN | apply Kd.Q_drew)); exact HO_302000.out) hb); have n1_ := am_ (Kd.R_below (ur_ HO_310000.out) hb); have n2_ := am_ (Kd.R_below (ur_ HO_324000.out) hb); have n3_ := am_ (Kd.R_below (ur_ HO329.out) hb); have n4_ := am_ (bb_ BK280.out hb); have n5_ := am_ (bb_ BK301.out hb); have n6_ := am_ (bb_ BK302.out hb); have n7_ := am_ (bb_ BK309.out hb); have n8_ := am_ (bb_ BK323.out hb); have n9_ := am_ (bb_ BK324.out hb); have n10_ := am_ (below_step (ue_ HB.out) hb); clear HO_302000 HO_310000 HO_324000 HO329 BK280 BK301 BK302 BK309 BK323 BK324 HB; have HO_302000 := n0_; have HO_310000 := n1_; have HO_324000 := n2_; have HO329 := n3_; have BK280 := n4_; have BK301 := n5_; have BK302 := n6_; have BK309 := n7_; have BK323 := n8_; have BK324 := n9_; have HB := n10_; clear n0_ n1_ n2_ n3_ n4_ n5_ n6_ n7_ n8_ n9_ n10_; (try clear hb); (try clear hb2); (try clear hk); (try clear hi)))
         go_meet
         case rel => exact ⟨_, (true), (by first | rfl | (simp; done) | (simp [*]; done)), H', ⟨by have := HJ12.out; first | omega | exact Nat.le_refl _⟩, ⟨by (with_reducible repeat (first | apply Kd.Q_alloc | apply Kd.Q_drewN | apply Kd.Q_drew)); exact Kd.Q_mono HO_302000.out (fun _ hk => by first | exact ⟨hk.1, ⟨hk.2.1, ⟨hk.2.2.2.1, hk.2.2.2.2⟩⟩⟩ | grind)⟩, ⟨by (with_reducible repeat (first | apply Kd.R_alloc | apply Kd.R_drewN | apply Kd.R_drew)); exact Kd.R_mono HO_310000.out (fun _ hk => by first | exact ⟨hk.1.1, ⟨hk.1.2.1, ⟨hk.1.2.2.1, hk.1.2.2.2⟩⟩⟩ | grind)⟩, ⟨by (with_reducible repeat (first | apply Kd.R_alloc | apply Kd.R_drewN | apply Kd.R_drew)); exact Kd.R_mono HO_324000.out (fun _ hk => by first | exact ⟨hk.1, ⟨hk.2.1, ⟨hk.2.2.2.1, hk.2.2.2.2⟩⟩⟩ | grind)⟩, ⟨by (with_reducible repeat first|apply bn_|apply bd_|apply ba_); exact BK280.out⟩, ⟨by (with_reducible repeat first|apply bn_|apply bd_|apply ba_); exact BK301.out⟩, ⟨by (with_reducible repeat first|apply bn_|apply bd_|apply ba_); exact BK302.out⟩, ⟨by (with_reducible repeat first|apply bn_|apply bd_|apply ba_); exact BK309.out⟩, ⟨by (with_reducible repeat first|apply bn_|apply bd_|apply ba_); exact BK323.out⟩, ⟨by (with_reducible repeat first|apply bn_|apply bd_|apply ba_); exact BK324.out⟩, ⟨ue_ HB.out⟩⟩
      case rest =>
       clear HC119
       try clear c1
       try clear c2
       try clear p2
       try clear c9
       try clear c10
       try clear c11
       try clear c12
       try clear c13
       try clear c14
       try clear c15
       try clear c16
       try clear c17
       try clear c18
       try clear c26
       try clear c28
       try clear c29
       try clear c91
       try clear c94
       try clear c95
       try clear c96
       try clear c98
       try clear c99
       try clear c102
       try clear c103
       try clear c104
       try clear c105
       try clear c106
       try clear c108
       try clear c109
       try clear c110
       try clear c111
       try clear c114
       try clear c117
       try clear c124
       try clear c125
       try clear c126
       try clear c127
       try clear c128
       try clear c131
       try clear c131b0
       try clear c133
       try clear c135
       try clear c136
       try clear c137
       try clear c138
       try clear c139
       try clear c140
       try clear c142
       try clear c143
       try clear c144
       try clear c145
       try clear c148
       try clear c149
       try clear c150
       try clear c152
       try clear c153
       try clear c156
       try clear c157
       try clear c158
       try clear c159
       try clear c160
       try clear c162
       try clear c163
       try clear c164
       try clear c165
       try clear c168
       try clear c169
       try clear c170
       try clear c172
       try clear c173
       try clear c176
       try clear c177
       try clear c178
       try clear c179
       try clear c180
       try clear c182
       try clear c183
       try clear c184
       try clear c185
       try clear hcz100_0
       try clear hcz100_1
       try clear hcz100_2
       try clear hcz100_3
       try clear hcz100_4
       try clear hcz100_5
       try clear hcz107_0
       try clear hcz107_1
       try clear hcz107_2
       try clear hcz107_3
       try clear hcz112_0
       try clear hcz112_1
       try clear hcz112_2
       try clear hcz112_3
       try clear hcz129_0
       try clear hcz129_1
       try clear hcz129_2
       try clear hcz129_3
       try clear hcz141_0
       try clear hcz141_1
       try clear hcz141_2
       try clear hcz141_3
       try clear hcz146_0
       try clear hcz146_1
       try clear hcz146_2
       try clear hcz146_3
       try clear hcz151_0
       try clear hcz151_1
       try clear hcz151_2
       try clear hcz151_3
       try clear hcz151_4
       try clear hcz151_5
       try clear hcz154_0
       try clear hcz154_1
       try clear hcz154_2
       try clear hcz154_3
       try clear hcz154_4
       try clear hcz154_5
       try clear hcz15_0
       try clear hcz15_1
       try clear hcz15_2
       try clear hcz15_3
       try clear hcz161_0
       try clear hcz161_1
       try clear hcz161_2
       try clear hcz161_3
       try clear hcz166_0
       try clear hcz166_1
       try clear hcz166_2
       try clear hcz166_3
       try clear hcz171_0
       try clear hcz171_1
       try clear hcz171_2
       try clear hcz171_3
       try clear hcz171_4
       try clear hcz171_5
       try clear hcz174_0
       try clear hcz174_1
       try clear hcz174_2
       try clear hcz174_3
       try clear hcz174_4
       try clear hcz174_5
       try clear hcz17_0
       try clear hcz17_1
       try clear hcz17_2
       try clear hcz17_3
       try clear hcz181_0
       try clear hcz181_1
       try clear hcz181_2
       try clear hcz181_3
       try clear hcz186_0
       try clear hcz186_1
       try clear hcz186_2
       try clear hcz186_3
       try clear hcz26_0
       try clear hcz26_1
       try clear hcz26_2
       try clear hcz26_3
       try clear hcz29_0
       try clear hcz29_1
       try clear hcz29_2
       try clear hcz29_3
       try clear hcz29_4
       try clear hcz29_5
       try clear hcz31_0
       try clear hcz31_1
       try clear hcz31_2
       try clear hcz31_3
       try clear hcz38_0
       try clear hcz38_1
       try clear hcz38_2
       try clear hcz38_3
       try clear hcz40_0
       try clear hcz40_1
       try clear hcz40_2
       try clear hcz40_3
       try clear hcz50_0
       try clear hcz50_1
       try clear hcz50_2
       try clear hcz50_3
       try clear hcz56_0
       try clear hcz56_1
       try clear hcz56_2
       try clear hcz56_3
       try clear hcz56_4
       try clear hcz56_5
       try clear hcz67_0
       try clear hcz67_1
       try clear hcz67_2
       try clear hcz67_3
       try clear hcz72_0
       try clear hcz72_1
       try clear hcz72_2
       try clear hcz72_3
       try clear hcz77_0
       try clear hcz77_1
       try clear hcz77_2
       try clear hcz77_3
       try clear hcz77_4
       try clear hcz77_5
       try clear hcz7_0
       try clear hcz7_1
       try clear hcz7_2
       try clear hcz7_3
       try clear hcz80_0
       try clear hcz80_1
       try clear hcz80_2
       try clear hcz80_3
       try clear hcz80_4
       try clear hcz80_5
       try clear hcz87_0
       try clear hcz87_1
       try clear hcz87_2
       try clear hcz87_3
       try clear hcz92_0
       try clear hcz92_1
       try clear hcz92_2
       try clear hcz92_3
       try clear hcz97_0
       try clear hcz97_1
       try clear hcz97_2
       try clear hcz97_3
       try clear hcz97_4
       try clear hcz97_5
       try clear hfz100_0
       try clear hfz100_1
       try clear hfz100_2
       try clear hfz100_3
       try clear hfz100_4
       try clear hfz100_5
       try clear hfz107_0
       try clear hfz107_1
       try clear hfz107_2
       try clear hfz107_3
       try clear hfz112_0
       try clear hfz112_1
       try clear hfz112_2
       try clear hfz112_3
       try clear hfz129_0
       try clear hfz129_1
       try clear hfz129_2
       try clear hfz129_3
       try clear hfz141_0
       try clear hfz141_1
       try clear hfz141_2
       try clear hfz141_3
       try clear hfz146_0
       try clear hfz146_1
       try clear hfz146_2
       try clear hfz146_3
       try clear hfz151_0
       try clear hfz151_1
       try clear hfz151_2
       try clear hfz151_3
       try clear hfz151_4
       try clear hfz151_5
       try clear hfz154_0
       try clear hfz154_1
       try clear hfz154_2
       try clear hfz154_3
       try clear hfz154_4
       try clear hfz154_5
       try clear hfz15_0
       try clear hfz15_1
       try clear hfz15_2
       try clear hfz15_3
       try clear hfz161_0
       try clear hfz161_1
       try clear hfz161_2
       try clear hfz161_3
       try clear hfz166_0
       try clear hfz166_1
       try clear hfz166_2
       try clear hfz166_3
       try clear hfz171_0
       try clear hfz171_1
       try clear hfz171_2
       try clear hfz171_3
       try clear hfz171_4
       try clear hfz171_5
       try clear hfz174_0
       try clear hfz174_1
       try clear hfz174_2
       try clear hfz174_3
       try clear hfz174_4
       try clear hfz174_5
       try clear hfz17_0
       try clear hfz17_1
       try clear hfz17_2
       try clear hfz17_3
       try clear hfz181_0
       try clear hfz181_1
       try clear hfz181_2
       try clear hfz181_3
       try clear hfz186_0
       try clear hfz186_1
       try clear hfz186_2
       try clear hfz186_3
       try clear hfz26_0
       try clear hfz26_1
       try clear hfz26_2
       try clear hfz26_3
       try clear hfz29_0
       try clear hfz29_1
       try clear hfz29_2
       try clear hfz29_3
       try clear hfz29_4
       try clear hfz29_5
       try clear hfz31_0
       try clear hfz31_1
       try clear hfz31_2
       try clear hfz31_3
       try clear hfz38_0
       try clear hfz38_1
       try clear hfz38_2
       try clear hfz38_3
       try clear hfz40_0
       try clear hfz40_1
       try clear hfz40_2
       try clear hfz40_3
       try clear hfz50_0
       try clear hfz50_1
       try clear hfz50_2
       try clear hfz50_3
       try clear hfz56_0
       try clear hfz56_1
       try clear hfz56_2
       try clear hfz56_3
       try clear hfz56_4
       try clear hfz56_5
       try clear hfz67_0
       try clear hfz67_1
       try clear hfz67_2
       try clear hfz67_3
       try clear hfz72_0
       try clear hfz72_1
       try clear hfz72_2
       try clear hfz72_3
       try clear hfz77_0
       try clear hfz77_1
       try clear hfz77_2
       try clear hfz77_3
       try clear hfz77_4
       try clear hfz77_5
       try clear hfz7_0
       try clear hfz7_1
       try clear hfz7_2
       try clear hfz7_3
       try clear hfz80_0
       try clear hfz80_1
       try clear hfz80_2
       try clear hfz80_3
       try clear hfz80_4
       try clear hfz80_5
       try clear hfz87_0
       try clear hfz87_1
       try clear hfz87_2
       try clear hfz87_3
       try clear hfz92_0
       try clear hfz92_1
       try clear hfz92_2
       try clear hfz92_3
       try clear hfz97_0
       try clear hfz97_1
       try clear hfz97_2
       try clear hfz97_3
       try clear hfz97_4
       try clear hfz97_5
       obtain ⟨kq, x86_118, rfl, HA, HJ118, HO_302000, HO_310000, HO_324000, BK280, BK301, BK302, BK309, BK323, BK324, HB⟩ := hcut
       have hl310000_118 := (Kd.R_reads' HO_310000.out).1
       rw [hl310000_118] at HO_310000
       (try simp only [hl310000_118])
       (try simp only [hl310000_118] at BK280)
       (try simp only [hl310000_118] at BK301)
       (try simp only [hl310000_118] at BK302)
       (try simp only [hl310000_118] at BK309)
       (try simp only [hl310000_118] at BK323)
       (try simp only [hl310000_118] at BK324)
       (try simp only [hl310000_118] at HO_302000)
       (try simp only [hl310000_118] at HO_324000)
       cases kq with
       | zero => exact absurd HA.out (by simp [laws_FnExactTakeClosed.j1])
       | succ kj118 =>
        have H := HA.out
        clear HA
        simp only [laws_FnExactTakeClosed.j1] at H
        by_cases c188 : x86_118 = true
        ·
         subst c188
         have H1 : (some false) = some r := by rw [if_pos rfl] at H; exact H
         clear H
         have H := H1
         clear H1
         exact absurd ((Option.some.inj H).trans hT.out) (by decide)
        ·
         replace c188 := Bool.eq_false_iff.mpr c188
         subst c188
         have H1 : ((laws_markShard.f kj118 t310 t313 t314 t315 1).bind fun bt338 => ((laws_heldShard.f kj118 bt338.2 t313 t314 t315 1).bind fun t340 => (if t340 < 0 then (some false) else (if t340 = bt338.1 then ((laws_toShard.f kj118 l0_0 a0_1 a0_2 a0_3).bind fun bt341 => ((impl_TakeClosed.f kj118 bt341.1 bt341.2.1 bt341.2.2.1 bt341.2.2.2 a1 a2).bind fun bt347 => ((laws_eqShard.f kj118 bt347.1 bt347.2.1 bt347.2.2.1 bt347.2.2.2.1 t288 t291 t292 t293).bind fun t362 => (if t362 = true then ((laws_eqAgg.f bt347.2.2.2.2.1 bt347.2.2.2.2.2.1 bt347.2.2.2.2.2.2.1 bt347.2.2.2.2.2.2.2.1 bt347.2.2.2.2.2.2.2.2.1 bt347.2.2.2.2.2.2.2.2.2.1 t294 t295 t296 t297 t298 t299).bind fun t363 => (if t363 = true then (laws_FnExactTakeClosed.j2 kj118 bt338.1 (bt347.2.2.2.2.2.2.2.2.2.2 != t300) bt338.2 t313 t314 t315) else (laws_FnExactTakeClosed.j2 kj118 bt338.1 true bt338.2 t313 t314 t315))) else (laws_FnExactTakeClosed.j2 kj118 bt338.1 true bt338.2 t313 t314 t315))))) else (some false))))) = some r := by rw [if_neg (show ¬ (false = true) by decide)] at H; exact H
         clear H
         have H := H1
         clear H1
         replace H := Option.bind_eq_some_iff.mp H
         obtain ⟨⟨t338, t339⟩, A1890, H⟩ := H
         replace H : ((laws_heldShard.f kj118 t339 t313 t314 t315 1).bind fun t340 => (if t340 < 0 then (some false) else (if t340 = t338 then ((laws_toShard.f kj118 l0_0 a0_1 a0_2 a0_3).bind fun bt341 => ((impl_TakeClosed.f kj118 bt341.1 bt341.2.1 bt341.2.2.1 bt341.2.2.2 a1 a2).bind fun bt347 => ((laws_eqShard.f kj118 bt347.1 bt347.2.1 bt347.2.2.1 bt347.2.2.2.1 t288 t291 t292 t293).bind fun t362 => (if t362 = true then ((laws_eqAgg.f bt347.2.2.2.2.1 bt347.2.2.2.2.2.1 bt347.2.2.2.2.2.2.1 bt347.2.2.2.2.2.2.2.1 bt347.2.2.2.2.2.2.2.2.1 bt347.2.2.2.2.2.2.2.2.2.1 t294 t295 t296 t297 t298 t299).bind fun t363 => (if t363 = true then (laws_FnExactTakeClosed.j2 kj118 t338 (bt347.2.2.2.2.2.2.2.2.2.2 != t300) t339 t313 t314 t315) else (laws_FnExactTakeClosed.j2 kj118 t338 true t339 t313 t314 t315))) else (laws_FnExactTakeClosed.j2 kj118 t338 true t339 t313 t314 t315))))) else (some false)))) = some r := H
         have A189 := Aside0.mk A1890
         clear A1890
         replace H := Option.bind_eq_some_iff.mp H
         obtain ⟨t340, A1900, H⟩ := H
         replace H : (if t340 < 0 then (some false) else (if t340 = t338 then ((laws_toShard.f kj118 l0_0 a0_1 a0_2 a0_3).bind fun bt341 => ((impl_TakeClosed.f kj118 bt341.1 bt341.2.1 bt341.2.2.1 bt341.2.2.2 a1 a2).bind fun bt347 => ((laws_eqShard.f kj118 bt347.1 bt347.2.1 bt347.2.2.1 bt347.2.2.2.1 t288 t291 t292 t293).bind fun t362 => (if t362 = true then ((laws_eqAgg.f bt347.2.2.2.2.1 bt347.2.2.2.2.2.1 bt347.2.2.2.2.2.2.1 bt347.2.2.2.2.2.2.2.1 bt347.2.2.2.2.2.2.2.2.1 bt347.2.2.2.2.2.2.2.2.2.1 t294 t295 t296 t297 t298 t299).bind fun t363 => (if t363 = true then (laws_FnExactTakeClosed.j2 kj118 t338 (bt347.2.2.2.2.2.2.2.2.2.2 != t300) t339 t313 t314 t315) else (laws_FnExactTakeClosed.j2 kj118 t338 true t339 t313 t314 t315))) else (laws_FnExactTakeClosed.j2 kj118 t338 true t339 t313 t314 t315))))) else (some false))) = some r := H
         have A190 := Aside0.mk A1900
         clear A1900
         by_cases c191 : t340 < 0
         ·
          rw [if_pos c191] at H
          have c191b0 : decide (t340 < 0) = true := decide_eq_true c191
          clear c191
          exact absurd ((Option.some.inj H).trans hT.out) (by decide)
         ·
          rw [if_neg c191] at H
          have c191b0 : decide (t340 < 0) = false := decide_eq_false c191
          clear c191
          by_cases c192 : t340 = t338
          ·
           rw [if_pos c192] at H
           have c192b0 : (t340 == t338) = true := beq_iff_eq.mpr c192
           have c192b1 : (t340 != t338) = false := bne_eq_false_iff_eq.mpr c192
           clear c192
           replace H := Option.bind_eq_some_iff.mp H
           obtain ⟨⟨t341, t344, t345, t346⟩, A1930, H⟩ := H
           replace H : ((impl_TakeClosed.f kj118 t341 t344 t345 t346 a1 a2).bind fun bt347 => ((laws_eqShard.f kj118 bt347.1 bt347.2.1 bt347.2.2.1 bt347.2.2.2.1 t288 t291 t292 t293).bind fun t362 => (if t362 = true then ((laws_eqAgg.f bt347.2.2.2.2.1 bt347.2.2.2.2.2.1 bt347.2.2.2.2.2.2.1 bt347.2.2.2.2.2.2.2.1 bt347.2.2.2.2.2.2.2.2.1 bt347.2.2.2.2.2.2.2.2.2.1 t294 t295 t296 t297 t298 t299).bind fun t363 => (if t363 = true then (laws_FnExactTakeClosed.j2 kj118 t338 (bt347.2.2.2.2.2.2.2.2.2.2 != t300) t339 t313 t314 t315) else (laws_FnExactTakeClosed.j2 kj118 t338 true t339 t313 t314 t315))) else (laws_FnExactTakeClosed.j2 kj118 t338 true t339 t313 t314 t315)))) = some r := H
           have A193 := Aside0.mk A1930
           clear A1930
           replace H := Option.bind_eq_some_iff.mp H
           obtain ⟨⟨t347, t350, t351, t352, t353, t354, t355, t356, t357, t358, t359⟩, A1940, H⟩ := H
           replace H : ((laws_eqShard.f kj118 t347 t350 t351 t352 t288 t291 t292 t293).bind fun t362 => (if t362 = true then ((laws_eqAgg.f t353 t354 t355 t356 t357 t358 t294 t295 t296 t297 t298 t299).bind fun t363 => (if t363 = true then (laws_FnExactTakeClosed.j2 kj118 t338 (t359 != t300) t339 t313 t314 t315) else (laws_FnExactTakeClosed.j2 kj118 t338 true t339 t313 t314 t315))) else (laws_FnExactTakeClosed.j2 kj118 t338 true t339 t313 t314 t315))) = some r := H
           have A194 := Aside0.mk A1940
           clear A1940
           have HC195 := Aside0.mk H
           clear H
           have hnb196 := NB323_280.out
           have hnc196 := NB280_323.out
           have hnb197 := NB323_301.out
           have hnc197 := NB301_323.out
           have hnb198 := NB323_302.out
           have hnc198 := NB302_323.out
           have hnb199 := NB323_309.out
           have hnc199 := NB309_323.out
           have hnb200 := NB323_324.out
           have hnc200 := NB324_323.out
           have hcz201_0 := cb_ BK323.out 0 rfl
           have hcz201_1 := cb_ BK323.out 1 rfl
           have hcz201_2 := cb_ BK323.out 2 rfl
           have hcz201_3 := cb_ BK323.out 3 rfl
           have hfz201_0 := blk_frozen BK323.out 0
           have hfz201_1 := blk_frozen BK323.out 1
           have hfz201_2 := blk_frozen BK323.out 2
           have hfz201_3 := blk_frozen BK323.out 3
           go_upto_region 25 with (first | ((with_reducible refine gate_callee (f := 29) rfl ?_); refine goesL_ (some 89) rfl rfl Try.func29 (by kernel_rfl) rfl #[.agg #[.slice Ao44 t310.length co44, .int .i64 t313, .int .i64 t314, .int .i64 t315], .int .i64 1] rfl ul_ ?_; (with_reducible refine (laws_markShard.calls kj118 (fun k_ => some k_ = (.slice Ao44 t310.length co44 : Value).ownBlock) (.slice Ao44 t310.length co44) t310 t313 t314 t315 1 t338 t339 w _ ?side1 ?side2 A189.out).mono ?_); (case side1 => repeat (first | (with_reducible first | exact HB.out | apply below_alloc | apply pw_below_drewN | apply below_drew1 | refine below_set ?_ GE280.out | refine below_set ?_ GE301.out | refine below_set ?_ GE302.out | refine below_set ?_ GE309.out | refine below_set ?_ GE323.out | refine below_set ?_ GE324.out) | exact HB.out)); (case side2 => exact Kd.R_tight rfl HO_324000.out); rintro e w202 ⟨rfl, hy0, hb, hkp⟩; refine ⟨_, rfl, ?_⟩; have n0_ := am_ (Kd.Q_mono (ok' := fun k_ => some k_ ≠ (.slice Ao34 t335.length co34 : Value).ownBlock ∧ some k_ ≠ (.slice Ao44 t310.length co44 : Value).ownBlock ∧ k_ ≠ gb302 ∧ k_ ≠ gb324) (Kd.Q_keptB (HO_302000.out) hkp (fun k_ hk_ hs_ => by first | exact (hk_.2.1) hs_ | grind)) (fun k_ hk_ => by first | exact ⟨hk_.1.1, hk_.1.2.1, hk_.1.2.2.1, hk_.1.2.2.2⟩ | grind)); have n1_ := am_ (Kd.R_mono (ok' := fun k_ => some k_ ≠ (.slice Ao23 t288.length co23 : Value).ownBlock ∧ some k_ ≠ (.slice Ao44 t310.length co44 : Value).ownBlock ∧ k_ ≠ gb302 ∧ k_ ≠ gb324) (Kd.R_keptB (HO_310000.out) hkp (fun k_ hk_ hs_ => by first | exact (hk_.2.1) hs_ | grind)) (fun k_ hk_ => by first | exact ⟨hk_.1.1, hk_.1.2.1, hk_.1.2.2.1, hk_.1.2.2.2⟩ | grind)); have n2_ := am_ (Kd.R_reok rfl hy0 (fun k_ e_ => HO_324000.out.1 k_ e_)); have n3_ := am_ (blk_kept (g := gb280) (o := .cells #[.slice A0_0 l0_0.length c0_0, .int .i64 a0_1, .int .i64 a0_2, .int .i64 a0_3] 38 (0, 0)) (ub_ BK280.out) hkp (fun hs_ => (fun e_ => (Kd.R_ne HO_324000.out BK280.out (by decide)) e_) hs_)); have n4_ := am_ (blk_kept (g := gb301) (o := .cells #[.slice Ao23 t288.length co23, .int .i64 t291, .int .i64 t292, .int .i64 t293] 42 (0, 0)) (ub_ BK301.out) hkp (fun hs_ => (fun e_ => (Kd.R_ne HO_324000.out BK301.out (by decide)) e_) hs_)); have n5_ := am_ (blk_kept (g := gb302) (o := .cells #[.int .i64 t294, .int .i64 t295, .int .i64 t296, .int .i64 t297, .int .i64 t298, .int .i64 t299] 80 (0, 0)) (ub_ BK302.out) hkp (fun hs_ => (fun e_ => (Kd.R_away HO_324000.out (fun _ hk => by first | exact hk.2.2.1 | grind)) e_) hs_)); have n6_ := am_ (blk_kept (g := gb309) (o := .cells #[.slice Ao34 t335.length co34, .int .i64 t306, .int .i64 t307, .int .i64 t308] 42 (0, 0)) (ub_ BK309.out) hkp (fun hs_ => (fun e_ => (Kd.R_ne HO_324000.out BK309.out (by decide)) e_) hs_)); have n7_ := am_ (blk_kept (g := gb323) (o := .cells #[.slice Ao44 t310.length co44, .int .i64 t313, .int .i64 t314, .int .i64 t315] 42 (0, 0)) (ub_ BK323.out) hkp (fun hs_ => (fun e_ => (Kd.R_ne HO_324000.out BK323.out (by decide)) e_) hs_)); have n8_ := am_ (blk_kept (g := gb324) (o := .cells #[.int .i64 t316, .int .i64 t317, .int .i64 t318, .int .i64 t319, .int .i64 t320, .int .i64 t321] 80 (0, 0)) (ub_ BK324.out) hkp (fun hs_ => (fun e_ => (Kd.R_away HO_324000.out (fun _ hk => by first | exact hk.2.2.2 | grind)) e_) hs_)); have n9_ := am_ (hb); clear HO_302000 HO_310000 HO_324000 BK280 BK301 BK302 BK309 BK323 BK324 HB; have HO_302000 := n0_; have HO_310000 := n1_; have HO_324000 := n2_; have BK280 := n3_; have BK301 := n4_; have BK302 := n5_; have BK309 := n6_; have BK323 := n7_; have BK324 := n8_; have HB := n9_; clear n0_ n1_ n2_ n3_ n4_ n5_ n6_ n7_ n8_ n9_; (try clear hb); (try clear hkp); (try clear hy0); obtain ⟨hcz203_0, hcz203_1, hcz203_2, hcz203_3⟩ := cb4_ BK323.out; obtain ⟨hfz203_0, hfz203_1, hfz203_2⟩ := bf3_ BK323.out; have hfz203_3 := blk_frozen BK323.out 3) | ((with_reducible refine gate_callee (f := 30) rfl ?_); refine goesL_ (some 92) rfl rfl Try.func30 (by kernel_rfl) rfl #[.agg #[.slice Ao44 t339.length co44, .int .i64 t313, .int .i64 t314, .int .i64 t315], .int .i64 1] rfl (by (try simp only [List.map_toArray, List.map_cons, List.map_nil]); first | done | (rw [show t339.length = t310.length from (Kd.R_reads' HO_324000.out).1.symm] <;> rfl) | rfl | (simp only [List.length_drop, List.length_take]; rfl)) ?_; (with_reducible refine (laws_heldShard.calls kj118 _ _ t339 t313 t314 t315 1 t340 _ ?side1 ?side2 A190.out).mono ?_); (case side1 => repeat (first | exact (Kd.R_reads' HO_324000.out).2.2 | (with_reducible refine Kd.C_alloc ?_ _) | (with_reducible refine Kd.C_drewN ?_ _) | (with_reducible refine Kd.C_drew ?_))); (case side2 => rw [show t339.length = t310.length from (Kd.R_reads' HO_324000.out).1.symm]; exact (Kd.R_reads' HO_324000.out).2.1); rintro e w204 ⟨rfl, hb⟩; refine ⟨_, rfl, ?_⟩; have n0_ := am_ (Kd.Q_below (by (with_reducible repeat (first | apply Kd.Q_alloc | apply Kd.Q_drewN | apply Kd.Q_drew)); exact HO_302000.out) hb); have n1_ := am_ (Kd.R_below (ur_ HO_310000.out) hb); have n2_ := am_ (Kd.R_below (ur_ HO_324000.out) hb); have n3_ := am_ (bb_ BK280.out hb); have n4_ := am_ (bb_ BK301.out hb); have n5_ := am_ (bb_ BK302.out hb); have n6_ := am_ (bb_ BK309.out hb); have n7_ := am_ (bb_ BK323.out hb); have n8_ := am_ (bb_ BK324.out hb); have n9_ := am_ (below_step (ue_ HB.out) hb); clear HO_302000 HO_310000 HO_324000 BK280 BK301 BK302 BK309 BK323 BK324 HB; have HO_302000 := n0_; have HO_310000 := n1_; have HO_324000 := n2_; have BK280 := n3_; have BK301 := n4_; have BK302 := n5_; have BK309 := n6_; have BK323 := n7_; have BK324 := n8_; have HB := n9_; clear n0_ n1_ n2_ n3_ n4_ n5_ n6_ n7_ n8_ n9_; (try clear hb); (try clear hb2); (try clear hk); (try clear hi); have hnb205 := NB280_301.out; have hnc205 := NB301_280.out; have hnb206 := NB280_302.out; have hnc206 := NB302_280.out; have hnb207 := NB280_309.out; have hnc207 := NB309_280.out; have hnb208 := NB280_324.out; have hnc208 := NB324_280.out; obtain ⟨hcz209_0, hcz209_1, hcz209_2, hcz209_3⟩ := cb4_ BK280.out; obtain ⟨hfz209_0, hfz209_1, hfz209_2⟩ := bf3_ BK280.out; have hfz209_3 := blk_frozen BK280.out 3) | ((with_reducible refine gate_callee (f := 26) rfl ?_); refine goesL_ (some 100) rfl rfl Try.func26 (by kernel_rfl) rfl #[.agg #[.slice A0_0 l0_0.length c0_0, .int .i64 a0_1, .int .i64 a0_2, .int .i64 a0_3]] rfl ul_ ?_; (with_reducible refine (laws_toShard.calls kj118 _ _ l0_0 a0_1 a0_2 a0_3 t341 t344 t345 t346 _ ?side1 ?side2 A193.out).mono ?_); (case side1 => repeat (first | exact (Kd.C_below HR0_0.out HB.out) | (with_reducible refine Kd.C_alloc ?_ _) | (with_reducible refine Kd.C_drewN ?_ _) | (with_reducible refine Kd.C_drew ?_))); (case side2 => exact HC0_0.out); rintro e w210 ⟨v342, rfl, ho0, hb⟩; refine ⟨_, rfl, ?_⟩; have n0_ := am_ (Kd.Q_elder' (by (with_reducible repeat (first | apply Kd.Q_alloc | apply Kd.Q_drewN | apply Kd.Q_drew)); exact HO_302000.out) (Kd.R_base ho0) hb); have n1_ := am_ (Kd.R_elder' (ur_ HO_310000.out) (Kd.R_base ho0) hb); have n2_ := am_ (Kd.R_elder' (ur_ HO_324000.out) (Kd.R_base ho0) hb); have n3_ := am_ (Kd.R_lower (Kd.R_newB (Kd.R_newB (Kd.R_new' (Kd.R_new' (Kd.R_new' ho0 (Kd.Q_lt (by (with_reducible repeat (first | apply Kd.Q_alloc | apply Kd.Q_drewN | apply Kd.Q_drew)); exact HO_302000.out))) (Kd.R_lt (ur_ HO_310000.out))) (Kd.R_lt (ur_ HO_324000.out))) (g := gb302) (o := .cells #[.int .i64 t294, .int .i64 t295, .int .i64 t296, .int .i64 t297, .int .i64 t298, .int .i64 t299] 80 (0, 0)) (ub_ BK302.out)) (g := gb324) (o := .cells #[.int .i64 t316, .int .i64 t317, .int .i64 t318, .int .i64 t319, .int .i64 t320, .int .i64 t321] 80 (0, 0)) (ub_ BK324.out)) (below_size (ue_ HB.out))); have n4_ := am_ (bb_ BK280.out hb); have n5_ := am_ (bb_ BK301.out hb); have n6_ := am_ (bb_ BK302.out hb); have n7_ := am_ (bb_ BK309.out hb); have n8_ := am_ (bb_ BK323.out hb); have n9_ := am_ (bb_ BK324.out hb); have n10_ := am_ (below_step (ue_ HB.out) hb); clear HO_302000 HO_310000 HO_324000 BK280 BK301 BK302 BK309 BK323 BK324 HB; have HO_302000 := n0_; have HO_310000 := n1_; have HO_324000 := n2_; have HO343 := n3_; have BK280 := n4_; have BK301 := n5_; have BK302 := n6_; have BK309 := n7_; have BK323 := n8_; have BK324 := n9_; have HB := n10_; clear n0_ n1_ n2_ n3_ n4_ n5_ n6_ n7_ n8_ n9_ n10_; (try clear hb); (try clear hb2); (try clear hk); (try clear hi); (try clear ho0); obtain ⟨Ao211, co211, eo211⟩ := Kd.R_slice HO343.out; subst eo211) | ((with_reducible refine gate_callee (f := 58) rfl ?_); refine goesL_ (some 103) rfl rfl Try.func58 (by kernel_rfl) rfl #[.agg #[.slice Ao211 t341.length co211, .int .i64 t344, .int .i64 t345, .int .i64 t346], .int .i64 a1, .bool a2] rfl ul_ ?_; (with_reducible refine (impl_TakeClosed.calls kj118 _ _ t341 t344 t345 t346 a1 a2 t347 t350 t351 t352 t353 t354 t355 t356 t357 t358 t359 _ ?side1 ?side2 A194.out).mono ?_); (case side1 => repeat (first | exact (Kd.R_reads' HO343.out).2.2 | (with_reducible refine Kd.C_alloc ?_ _) | (with_reducible refine Kd.C_drewN ?_ _) | (with_reducible refine Kd.C_drew ?_))); (case side2 => exact (Kd.R_reads' HO343.out).2.1); rintro e w212 ⟨v348, rfl, ho0, hb⟩; refine ⟨_, rfl, ?_⟩; have n0_ := am_ (Kd.Q_elder' (by (with_reducible repeat (first | apply Kd.Q_alloc | apply Kd.Q_drewN | apply Kd.Q_drew)); exact HO_302000.out) (Kd.R_base ho0) hb); have n1_ := am_ (Kd.R_elder' (ur_ HO_310000.out) (Kd.R_base ho0) hb); have n2_ := am_ (Kd.R_elder' (ur_ HO_324000.out) (Kd.R_base ho0) hb); have n3_ := am_ (Kd.R_elder' (ur_ HO343.out) (Kd.R_base ho0) hb); have n4_ := am_ (Kd.R_lower (Kd.R_newB (Kd.R_newB (Kd.R_new' (Kd.R_new' (Kd.R_new' (Kd.R_new' ho0 (Kd.Q_lt (by (with_reducible repeat (first | apply Kd.Q_alloc | apply Kd.Q_drewN | apply Kd.Q_drew)); exact HO_302000.out))) (Kd.R_lt (ur_ HO_310000.out))) (Kd.R_lt (ur_ HO_324000.out))) (Kd.R_lt (ur_ HO343.out))) (g := gb302) (o := .cells #[.int .i64 t294, .int .i64 t295, .int .i64 t296, .int .i64 t297, .int .i64 t298, .int .i64 t299] 80 (0, 0)) (ub_ BK302.out)) (g := gb324) (o := .cells #[.int .i64 t316, .int .i64 t317, .int .i64 t318, .int .i64 t319, .int .i64 t320, .int .i64 t321] 80 (0, 0)) (ub_ BK324.out)) (below_size (ue_ HB.out))); have n5_ := am_ (bb_ BK280.out hb); have n6_ := am_ (bb_ BK301.out hb); have n7_ := am_ (bb_ BK302.out hb); have n8_ := am_ (bb_ BK309.out hb); have n9_ := am_ (bb_ BK323.out hb); have n10_ := am_ (bb_ BK324.out hb); have n11_ := am_ (below_step (ue_ HB.out) hb); clear HO_302000 HO_310000 HO_324000 HO343 BK280 BK301 BK302 BK309 BK323 BK324 HB; have HO_302000 := n0_; have HO_310000 := n1_; have HO_324000 := n2_; have HO343 := n3_; have HO349 := n4_; have BK280 := n5_; have BK301 := n6_; have BK302 := n7_; have BK309 := n8_; have BK323 := n9_; have BK324 := n10_; have HB := n11_; clear n0_ n1_ n2_ n3_ n4_ n5_ n6_ n7_ n8_ n9_ n10_ n11_; (try clear hb); (try clear hb2); (try clear hk); (try clear hi); (try clear ho0)) | ((with_reducible refine gate_dst (N := 18) rfl ?_); refine box_event ?hg (N := 18) ?hd (cs := #[.slice none 0 0, .int .i64 0, .int .i64 0, .int .i64 0]) (t := 42) ?hr ?_; (case hd => rfl); (case hg => rfl); (case hr => first | (go_simp; done) | (go_simp; rfl)); intro gb360 hg w213 hbox hb; have n0_ := am_ (Kd.Q_below (by (with_reducible repeat (first | apply Kd.Q_alloc | apply Kd.Q_drewN | apply Kd.Q_drew)); exact HO_302000.out) hb); have n1_ := am_ (Kd.R_below (ur_ HO_310000.out) hb); have n2_ := am_ (Kd.R_below (ur_ HO_324000.out) hb); have n3_ := am_ (Kd.R_below (ur_ HO343.out) hb); have n4_ := am_ (Kd.R_below (ur_ HO349.out) hb); have n5_ := am_ (bb_ BK280.out hb); have n6_ := am_ (bb_ BK301.out hb); have n7_ := am_ (bb_ BK302.out hb); have n8_ := am_ (bb_ BK309.out hb); have n9_ := am_ (bb_ BK323.out hb); have n10_ := am_ (bb_ BK324.out hb); have n11_ := am_ (below_step (ue_ HB.out) hb); have n12_ := am_ (hbox); have n13_ := am_ ((by rw [hg]; exact (below_size (ue_ HB.out)) : w.heap.size ≤ gb360)); have n14_ := am_ ((by rw [hg]; exact (below_size (ue_ HB.out)) : w.heap.size ≤ gb360)); have n15_ := am_ ((by rw [hg]; exact Nat.ne_of_lt (bl_ BK280.out) : gb280 ≠ gb360)); have n16_ := am_ ((by rw [hg]; exact Nat.ne_of_gt (bl_ BK280.out) : gb360 ≠ gb280)); have n17_ := am_ ((by rw [hg]; exact Nat.ne_of_lt (bl_ BK301.out) : gb301 ≠ gb360)); have n18_ := am_ ((by rw [hg]; exact Nat.ne_of_gt (bl_ BK301.out) : gb360 ≠ gb301)); have n19_ := am_ ((by rw [hg]; exact Nat.ne_of_lt (bl_ BK302.out) : gb302 ≠ gb360)); have n20_ := am_ ((by rw [hg]; exact Nat.ne_of_gt (bl_ BK302.out) : gb360 ≠ gb302)); have n21_ := am_ ((by rw [hg]; exact Nat.ne_of_lt (bl_ BK309.out) : gb309 ≠ gb360)); have n22_ := am_ ((by rw [hg]; exact Nat.ne_of_gt (bl_ BK309.out) : gb360 ≠ gb309)); have n23_ := am_ ((by rw [hg]; exact Nat.ne_of_lt (bl_ BK323.out) : gb323 ≠ gb360)); have n24_ := am_ ((by rw [hg]; exact Nat.ne_of_gt (bl_ BK323.out) : gb360 ≠ gb323)); have n25_ := am_ ((by rw [hg]; exact Nat.ne_of_lt (bl_ BK324.out) : gb324 ≠ gb360)); have n26_ := am_ ((by rw [hg]; exact Nat.ne_of_gt (bl_ BK324.out) : gb360 ≠ gb324)); clear HO_302000 HO_310000 HO_324000 HO343 HO349 BK280 BK301 BK302 BK309 BK323 BK324 HB; have HO_302000 := n0_; have HO_310000 := n1_; have HO_324000 := n2_; have HO343 := n3_; have HO349 := n4_; have BK280 := n5_; have BK301 := n6_; have BK302 := n7_; have BK309 := n8_; have BK323 := n9_; have BK324 := n10_; have HB := n11_; have BK360 := n12_; have GW360 := n13_; have GE360 := n14_; have NB280_360 := n15_; have NB360_280 := n16_; have NB301_360 := n17_; have NB360_301 := n18_; have NB302_360 := n19_; have NB360_302 := n20_; have NB309_360 := n21_; have NB360_309 := n22_; have NB323_360 := n23_; have NB360_323 := n24_; have NB324_360 := n25_; have NB360_324 := n26_; clear n0_ n1_ n2_ n3_ n4_ n5_ n6_ n7_ n8_ n9_ n10_ n11_ n12_ n13_ n14_ n15_ n16_ n17_ n18_ n19_ n20_ n21_ n22_ n23_ n24_ n25_ n26_; clear hb hbox hg) | ((with_reducible refine gate_dst (N := 19) rfl ?_); refine box_event ?hg (N := 19) ?hd (cs := #[.int .i64 0, .int .i64 0, .int .i64 0, .int .i64 0, .int .i64 0, .int .i64 0]) (t := 80) ?hr ?_; (case hd => rfl); (case hg => rfl); (case hr => first | (go_simp; done) | (go_simp; rfl)); intro gb361 hg w214 hbox hb; have n0_ := am_ (Kd.Q_below (Kd.Q_elderB (by (with_reducible repeat (first | apply Kd.Q_alloc | apply Kd.Q_drewN | apply Kd.Q_drew)); exact HO_302000.out) gb361 (Nat.le_of_eq hg.symm)) hb); have n1_ := am_ (Kd.R_below (Kd.R_elderB (ur_ HO_310000.out) gb361 (Nat.le_of_eq hg.symm)) hb); have n2_ := am_ (Kd.R_below (Kd.R_elderB (ur_ HO_324000.out) gb361 (Nat.le_of_eq hg.symm)) hb); have n3_ := am_ (Kd.R_below (Kd.R_elderB (ur_ HO343.out) gb361 (Nat.le_of_eq hg.symm)) hb); have n4_ := am_ (Kd.R_below (Kd.R_elderB (ur_ HO349.out) gb361 (Nat.le_of_eq hg.symm)) hb); have n5_ := am_ (bb_ BK280.out hb); have n6_ := am_ (bb_ BK301.out hb); have n7_ := am_ (bb_ BK302.out hb); have n8_ := am_ (bb_ BK309.out hb); have n9_ := am_ (bb_ BK323.out hb); have n10_ := am_ (bb_ BK324.out hb); have n11_ := am_ (bb_ BK360.out hb); have n12_ := am_ (below_step (ue_ HB.out) hb); have n13_ := am_ (hbox); have n14_ := am_ ((by rw [hg]; exact (below_size (ue_ HB.out)) : w.heap.size ≤ gb361)); have n15_ := am_ ((by rw [hg]; exact (below_size (ue_ HB.out)) : w.heap.size ≤ gb361)); have n16_ := am_ ((by rw [hg]; exact Nat.ne_of_lt (bl_ BK280.out) : gb280 ≠ gb361)); have n17_ := am_ ((by rw [hg]; exact Nat.ne_of_gt (bl_ BK280.out) : gb361 ≠ gb280)); have n18_ := am_ ((by rw [hg]; exact Nat.ne_of_lt (bl_ BK301.out) : gb301 ≠ gb361)); have n19_ := am_ ((by rw [hg]; exact Nat.ne_of_gt (bl_ BK301.out) : gb361 ≠ gb301)); have n20_ := am_ ((by rw [hg]; exact Nat.ne_of_lt (bl_ BK302.out) : gb302 ≠ gb361)); have n21_ := am_ ((by rw [hg]; exact Nat.ne_of_gt (bl_ BK302.out) : gb361 ≠ gb302)); have n22_ := am_ ((by rw [hg]; exact Nat.ne_of_lt (bl_ BK309.out) : gb309 ≠ gb361)); have n23_ := am_ ((by rw [hg]; exact Nat.ne_of_gt (bl_ BK309.out) : gb361 ≠ gb309)); have n24_ := am_ ((by rw [hg]; exact Nat.ne_of_lt (bl_ BK323.out) : gb323 ≠ gb361)); have n25_ := am_ ((by rw [hg]; exact Nat.ne_of_gt (bl_ BK323.out) : gb361 ≠ gb323)); have n26_ := am_ ((by rw [hg]; exact Nat.ne_of_lt (bl_ BK324.out) : gb324 ≠ gb361)); have n27_ := am_ ((by rw [hg]; exact Nat.ne_of_gt (bl_ BK324.out) : gb361 ≠ gb324)); have n28_ := am_ ((by rw [hg]; exact Nat.ne_of_lt (bl_ BK360.out) : gb360 ≠ gb361)); have n29_ := am_ ((by rw [hg]; exact Nat.ne_of_gt (bl_ BK360.out) : gb361 ≠ gb360)); clear HO_302000 HO_310000 HO_324000 HO343 HO349 BK280 BK301 BK302 BK309 BK323 BK324 BK360 HB; have HO_302000 := n0_; have HO_310000 := n1_; have HO_324000 := n2_; have HO343 := n3_; have HO349 := n4_; have BK280 := n5_; have BK301 := n6_; have BK302 := n7_; have BK309 := n8_; have BK323 := n9_; have BK324 := n10_; have BK360 := n11_; have HB := n12_; have BK361 := n13_; have GW361 := n14_; have GE361 := n15_; have NB280_361 := n16_; have NB361_280 := n17_; have NB301_361 := n18_; have NB361_301 := n19_; have NB302_361 := n20_; have NB361_302 := n21_; have NB309_361 := n22_; have NB361_309 := n23_; have NB323_361 := n24_; have NB361_323 := n25_; have NB324_361 := n26_; have NB361_324 := n27_; have NB360_361 := n28_; have NB361_360 := n29_; clear n0_ n1_ n2_ n3_ n4_ n5_ n6_ n7_ n8_ n9_ n10_ n11_ n12_ n13_ n14_ n15_ n16_ n17_ n18_ n19_ n20_ n21_ n22_ n23_ n24_ n25_ n26_ n27_ n28_ n29_; clear hb hbox hg; obtain ⟨Ao215, co215, eo215⟩ := Kd.R_slice HO349.out; subst eo215; have hnb216 := NB360_280.out; have hnc216 := NB280_360.out; have hnb217 := NB360_301.out; have hnc217 := NB301_360.out; have hnb218 := NB360_302.out; have hnc218 := NB302_360.out; have hnb219 := NB360_309.out; have hnc219 := NB309_360.out; have hnb220 := NB360_323.out; have hnc220 := NB323_360.out; have hnb221 := NB360_324.out; have hnc221 := NB324_360.out; have hnb222 := NB360_361.out; have hnc222 := NB361_360.out; obtain ⟨hcz223_0, hcz223_1, hcz223_2, hcz223_3⟩ := cb4_ BK360.out; obtain ⟨hfz223_0, hfz223_1, hfz223_2⟩ := bf3_ BK360.out; have hfz223_3 := blk_frozen BK360.out 3) | ((with_reducible refine gate_store (t := 42) (p := 18) rfl ?_); refine store_event (t := 42) (p := 18) (v := ?vo_w224) (w1 := ((((w214.setCell ⟨gb360, 0, none⟩ (.slice Ao215 t347.length co215)).setCell ⟨gb360, 1, none⟩ (.int .i64 t350)).setCell ⟨gb360, 2, none⟩ (.int .i64 t351)).setCell ⟨gb360, 3, none⟩ (.int .i64 t352))) ?hg ?ho ?hn ?hr ?_; (case ho => rfl); (case hg => rfl); (case hn => rfl); (case hr => first | (go_simp; done) | (go_simp; rfl)); intro w224 hw; have n0_ : Aside0 (Kd.Q k80 80 w224 w.heap.size (fun k_ => some k_ ≠ (.slice Ao34 t335.length co34 : Value).ownBlock ∧ some k_ ≠ (.slice Ao44 t310.length co44 : Value).ownBlock ∧ some k_ ≠ (.slice Ao211 t341.length co211 : Value).ownBlock ∧ some k_ ≠ (.slice Ao215 t347.length co215 : Value).ownBlock ∧ k_ ≠ gb302 ∧ k_ ≠ gb324 ∧ k_ ≠ gb361) (.slice Ao23 t288.length co23) t288) := ⟨(by rw [hw]; exact (by (with_reducible repeat (first | apply Kd.Q_alloc | apply Kd.Q_drewN | apply Kd.Q_drew)); exact Kd.Q_mono (Kd.Q_far (p := ⟨gb360, 3, none⟩) (Kd.Q_far (p := ⟨gb360, 2, none⟩) (Kd.Q_far (p := ⟨gb360, 1, none⟩) (Kd.Q_far (p := ⟨gb360, 0, none⟩) (Kd.Q_types HO_302000.out BK360.out (by decide)) (fun _ hk => by first | exact hk.2 | grind) (.slice Ao215 t347.length co215)) (fun _ hk => by first | exact hk.2 | grind) (.int .i64 t350)) (fun _ hk => by first | exact hk.2 | grind) (.int .i64 t351)) (fun _ hk => by first | exact hk.2 | grind) (.int .i64 t352)) (fun _ hk => by first | exact ⟨hk.1.1.1.1.1, ⟨hk.1.1.1.1.2.1, ⟨hk.1.1.1.2, ⟨hk.1.1.2, ⟨hk.1.1.1.1.2.2.1, ⟨hk.1.1.1.1.2.2.2, hk.1.2⟩⟩⟩⟩⟩⟩ | grind)))⟩; have n1_ : Aside0 (Kd.R k80 80 w224 w.heap.size (fun k_ => some k_ ≠ (.slice Ao23 t288.length co23 : Value).ownBlock ∧ some k_ ≠ (.slice Ao44 t310.length co44 : Value).ownBlock ∧ some k_ ≠ (.slice Ao211 t341.length co211 : Value).ownBlock ∧ some k_ ≠ (.slice Ao215 t347.length co215 : Value).ownBlock ∧ k_ ≠ gb302 ∧ k_ ≠ gb324 ∧ k_ ≠ gb361) (.slice Ao34 t335.length co34) t335) := ⟨(by rw [hw]; exact (by (with_reducible repeat (first | apply Kd.R_alloc | apply Kd.R_drewN | apply Kd.R_drew)); exact Kd.R_mono (Kd.R_far (p := ⟨gb360, 3, none⟩) (Kd.R_far (p := ⟨gb360, 2, none⟩) (Kd.R_far (p := ⟨gb360, 1, none⟩) (Kd.R_far (p := ⟨gb360, 0, none⟩) (Kd.R_types HO_310000.out BK360.out (by decide)) (fun _ hk => by first | exact hk.2 | grind) (.slice Ao215 t347.length co215)) (fun _ hk => by first | exact hk.2 | grind) (.int .i64 t350)) (fun _ hk => by first | exact hk.2 | grind) (.int .i64 t351)) (fun _ hk => by first | exact hk.2 | grind) (.int .i64 t352)) (fun _ hk => by first | exact ⟨hk.1.1.1.1.1, ⟨hk.1.1.1.1.2.1, ⟨hk.1.1.1.2, ⟨hk.1.1.2, ⟨hk.1.1.1.1.2.2.1, ⟨hk.1.1.1.1.2.2.2, hk.1.2⟩⟩⟩⟩⟩⟩ | grind)))⟩; have n2_ : Aside0 (Kd.R k80 80 w224 w.heap.size (fun k_ => some k_ ≠ (.slice Ao23 t288.length co23 : Value).ownBlock ∧ some k_ ≠ (.slice Ao34 t335.length co34 : Value).ownBlock ∧ some k_ ≠ (.slice Ao211 t341.length co211 : Value).ownBlock ∧ some k_ ≠ (.slice Ao215 t347.length co215 : Value).ownBlock ∧ k_ ≠ gb302 ∧ k_ ≠ gb324 ∧ k_ ≠ gb361) (.slice Ao44 t310.length co44) t339) := ⟨(by rw [hw]; exact (by (with_reducible repeat (first | apply Kd.R_alloc | apply Kd.R_drewN | apply Kd.R_drew)); exact Kd.R_mono (Kd.R_far (p := ⟨gb360, 3, none⟩) (Kd.R_far (p := ⟨gb360, 2, none⟩) (Kd.R_far (p := ⟨gb360, 1, none⟩) (Kd.R_far (p := ⟨gb360, 0, none⟩) (Kd.R_types HO_324000.out BK360.out (by decide)) (fun _ hk => by first | exact hk.2 | grind) (.slice Ao215 t347.length co215)) (fun _ hk => by first | exact hk.2 | grind) (.int .i64 t350)) (fun _ hk => by first | exact hk.2 | grind) (.int .i64 t351)) (fun _ hk => by first | exact hk.2 | grind) (.int .i64 t352)) (fun _ hk => by first | exact ⟨hk.1.1.1.1.1, ⟨hk.1.1.1.1.2.1, ⟨hk.1.1.1.2, ⟨hk.1.1.2, ⟨hk.1.1.1.1.2.2.1, ⟨hk.1.1.1.1.2.2.2, hk.1.2⟩⟩⟩⟩⟩⟩ | grind)))⟩; have n3_ : Aside0 (Kd.R k80 80 w224 w.heap.size (fun k_ => some k_ ≠ (.slice Ao23 t288.length co23 : Value).ownBlock ∧ some k_ ≠ (.slice Ao34 t335.length co34 : Value).ownBlock ∧ some k_ ≠ (.slice Ao44 t310.length co44 : Value).ownBlock ∧ some k_ ≠ (.slice Ao215 t347.length co215 : Value).ownBlock ∧ k_ ≠ gb302 ∧ k_ ≠ gb324 ∧ k_ ≠ gb361) (.slice Ao211 t341.length co211) t341) := ⟨(by rw [hw]; exact (by (with_reducible repeat (first | apply Kd.R_alloc | apply Kd.R_drewN | apply Kd.R_drew)); exact Kd.R_mono (Kd.R_far (p := ⟨gb360, 3, none⟩) (Kd.R_far (p := ⟨gb360, 2, none⟩) (Kd.R_far (p := ⟨gb360, 1, none⟩) (Kd.R_far (p := ⟨gb360, 0, none⟩) (Kd.R_types HO343.out BK360.out (by decide)) (fun _ hk => by first | exact hk.2 | grind) (.slice Ao215 t347.length co215)) (fun _ hk => by first | exact hk.2 | grind) (.int .i64 t350)) (fun _ hk => by first | exact hk.2 | grind) (.int .i64 t351)) (fun _ hk => by first | exact hk.2 | grind) (.int .i64 t352)) (fun _ hk => by first | exact ⟨hk.1.1.1.1.1.1.1.2, ⟨hk.1.1.1.1.1.1.2, ⟨hk.1.1.1.1.1.2, ⟨hk.1.1.2, ⟨hk.1.1.1.1.2, ⟨hk.1.1.1.2, hk.1.2⟩⟩⟩⟩⟩⟩ | grind)))⟩; have n4_ : Aside0 (Kd.R k80 80 w224 w.heap.size (fun k_ => some k_ ≠ (.slice Ao23 t288.length co23 : Value).ownBlock ∧ some k_ ≠ (.slice Ao34 t335.length co34 : Value).ownBlock ∧ some k_ ≠ (.slice Ao44 t310.length co44 : Value).ownBlock ∧ some k_ ≠ (.slice Ao211 t341.length co211 : Value).ownBlock ∧ k_ ≠ gb302 ∧ k_ ≠ gb324 ∧ k_ ≠ gb361) (.slice Ao215 t347.length co215) t347) := ⟨(by rw [hw]; exact (by (with_reducible repeat (first | apply Kd.R_alloc | apply Kd.R_drewN | apply Kd.R_drew)); exact Kd.R_mono (Kd.R_far (p := ⟨gb360, 3, none⟩) (Kd.R_far (p := ⟨gb360, 2, none⟩) (Kd.R_far (p := ⟨gb360, 1, none⟩) (Kd.R_far (p := ⟨gb360, 0, none⟩) (Kd.R_types HO349.out BK360.out (by decide)) (fun _ hk => by first | exact hk.2 | grind) (.slice Ao215 t347.length co215)) (fun _ hk => by first | exact hk.2 | grind) (.int .i64 t350)) (fun _ hk => by first | exact hk.2 | grind) (.int .i64 t351)) (fun _ hk => by first | exact hk.2 | grind) (.int .i64 t352)) (fun _ hk => by first | exact ⟨hk.1.1.1.1.1.1.1.2, ⟨hk.1.1.1.1.1.1.2, ⟨hk.1.1.1.1.1.2, ⟨hk.1.1.1.1.2, ⟨hk.1.1.1.2, ⟨hk.1.1.2, hk.1.2⟩⟩⟩⟩⟩⟩ | grind)))⟩; have n5_ : Aside0 (w224.heap[gb280]? = some (.cells #[.slice A0_0 l0_0.length c0_0, .int .i64 a0_1, .int .i64 a0_2, .int .i64 a0_3] 38 (0, 0))) := ⟨(by rw [hw]; exact (uf_ BK280.out))⟩; have n6_ : Aside0 (w224.heap[gb301]? = some (.cells #[.slice Ao23 t288.length co23, .int .i64 t291, .int .i64 t292, .int .i64 t293] 42 (0, 0))) := ⟨(by rw [hw]; exact (uf_ BK301.out))⟩; have n7_ : Aside0 (w224.heap[gb302]? = some (.cells #[.int .i64 t294, .int .i64 t295, .int .i64 t296, .int .i64 t297, .int .i64 t298, .int .i64 t299] 80 (0, 0))) := ⟨(by rw [hw]; exact (uf_ BK302.out))⟩; have n8_ : Aside0 (w224.heap[gb309]? = some (.cells #[.slice Ao34 t335.length co34, .int .i64 t306, .int .i64 t307, .int .i64 t308] 42 (0, 0))) := ⟨(by rw [hw]; exact (uf_ BK309.out))⟩; have n9_ : Aside0 (w224.heap[gb323]? = some (.cells #[.slice Ao44 t310.length co44, .int .i64 t313, .int .i64 t314, .int .i64 t315] 42 (0, 0))) := ⟨(by rw [hw]; exact (uf_ BK323.out))⟩; have n10_ : Aside0 (w224.heap[gb324]? = some (.cells #[.int .i64 t316, .int .i64 t317, .int .i64 t318, .int .i64 t319, .int .i64 t320, .int .i64 t321] 80 (0, 0))) := ⟨(by rw [hw]; exact (uf_ BK324.out))⟩; have n11_ : Aside0 (w224.heap[gb360]? = some (.cells #[.slice Ao215 t347.length co215, .int .i64 t350, .int .i64 t351, .int .i64 t352] 42 (0, 0))) := ⟨(by rw [hw]; exact (by (with_reducible repeat first|apply bn_|apply bd_|apply ba_); refine blk_put (cs := #[.slice Ao215 t347.length co215, .int .i64 t350, .int .i64 t351, .int .i64 0]) ?_ 3 _ rfl; refine blk_put (cs := #[.slice Ao215 t347.length co215, .int .i64 t350, .int .i64 0, .int .i64 0]) ?_ 2 _ rfl; refine blk_put (cs := #[.slice Ao215 t347.length co215, .int .i64 0, .int .i64 0, .int .i64 0]) ?_ 1 _ rfl; refine blk_put (cs := #[.slice none 0 0, .int .i64 0, .int .i64 0, .int .i64 0]) ?_ 0 _ rfl; (with_reducible repeat first|apply bn_|apply bd_|apply ba_); exact BK360.out))⟩; have n12_ : Aside0 (w224.heap[gb361]? = some (.cells #[.int .i64 0, .int .i64 0, .int .i64 0, .int .i64 0, .int .i64 0, .int .i64 0] 80 (0, 0))) := ⟨(by rw [hw]; exact (uf_ BK361.out))⟩; have n13_ : Aside0 (Below w.heap.size w w224) := ⟨(by rw [hw]; exact (ue_ HB.out))⟩; clear hw HO_302000 HO_310000 HO_324000 HO343 HO349 BK280 BK301 BK302 BK309 BK323 BK324 BK360 BK361 HB; have HO_302000 := n0_; have HO_310000 := n1_; have HO_324000 := n2_; have HO343 := n3_; have HO349 := n4_; have BK280 := n5_; have BK301 := n6_; have BK302 := n7_; have BK309 := n8_; have BK323 := n9_; have BK324 := n10_; have BK360 := n11_; have BK361 := n12_; have HB := n13_; clear n0_ n1_ n2_ n3_ n4_ n5_ n6_ n7_ n8_ n9_ n10_ n11_ n12_ n13_; have hnb225 := NB361_280.out; have hnc225 := NB280_361.out; have hnb226 := NB361_301.out; have hnc226 := NB301_361.out; have hnb227 := NB361_302.out; have hnc227 := NB302_361.out; have hnb228 := NB361_309.out; have hnc228 := NB309_361.out; have hnb229 := NB361_323.out; have hnc229 := NB323_361.out; have hnb230 := NB361_324.out; have hnc230 := NB324_361.out; obtain ⟨hcz231_0, hcz231_1, hcz231_2, hcz231_3, hcz231_4, hcz231_5⟩ := cb6_ BK361.out; obtain ⟨hfz231_0, hfz231_1, hfz231_2, hfz231_3, hfz231_4⟩ := bf5_ BK361.out; have hfz231_5 := blk_frozen BK361.out 5) | ((with_reducible refine gate_store (t := 80) (p := 19) rfl ?_); refine store_event (t := 80) (p := 19) (v := ?vo_w232) (w1 := ((((((w224.setCell ⟨gb361, 0, none⟩ (.int .i64 t353)).setCell ⟨gb361, 1, none⟩ (.int .i64 t354)).setCell ⟨gb361, 2, none⟩ (.int .i64 t355)).setCell ⟨gb361, 3, none⟩ (.int .i64 t356)).setCell ⟨gb361, 4, none⟩ (.int .i64 t357)).setCell ⟨gb361, 5, none⟩ (.int .i64 t358))) ?hg ?ho ?hn ?hr ?_; (case ho => rfl); (case hg => rfl); (case hn => rfl); (case hr => first | (go_simp; done) | (go_simp; rfl)); intro w232 hw; have n0_ : Aside0 (Kd.Q k80 80 w232 w.heap.size (fun k_ => some k_ ≠ (.slice Ao34 t335.length co34 : Value).ownBlock ∧ some k_ ≠ (.slice Ao44 t310.length co44 : Value).ownBlock ∧ some k_ ≠ (.slice Ao211 t341.length co211 : Value).ownBlock ∧ some k_ ≠ (.slice Ao215 t347.length co215 : Value).ownBlock ∧ k_ ≠ gb302 ∧ k_ ≠ gb324 ∧ k_ ≠ gb361) (.slice Ao23 t288.length co23) t288) := ⟨(by rw [hw]; exact (by (with_reducible repeat (first | apply Kd.Q_alloc | apply Kd.Q_drewN | apply Kd.Q_drew)); exact Kd.Q_mono (Kd.Q_far (p := ⟨gb361, 5, none⟩) (Kd.Q_far (p := ⟨gb361, 4, none⟩) (Kd.Q_far (p := ⟨gb361, 3, none⟩) (Kd.Q_far (p := ⟨gb361, 2, none⟩) (Kd.Q_far (p := ⟨gb361, 1, none⟩) (Kd.Q_far (p := ⟨gb361, 0, none⟩) (Kd.Q_mono HO_302000.out (fun k_ hk => (⟨hk, (by first | exact hk.2.2.2.2.2.2 | grind)⟩ : _ ∧ k_ ≠ gb361))) (fun _ hk => by first | exact hk.2 | grind) (.int .i64 t353)) (fun _ hk => by first | exact hk.2 | grind) (.int .i64 t354)) (fun _ hk => by first | exact hk.2 | grind) (.int .i64 t355)) (fun _ hk => by first | exact hk.2 | grind) (.int .i64 t356)) (fun _ hk => by first | exact hk.2 | grind) (.int .i64 t357)) (fun _ hk => by first | exact hk.2 | grind) (.int .i64 t358)) (fun _ hk => by first | exact ⟨hk.1.1, ⟨hk.1.2.1, ⟨hk.1.2.2.1, ⟨hk.1.2.2.2.1, ⟨hk.1.2.2.2.2.1, ⟨hk.1.2.2.2.2.2.1, hk.1.2.2.2.2.2.2⟩⟩⟩⟩⟩⟩ | grind)))⟩; have n1_ : Aside0 (Kd.R k80 80 w232 w.heap.size (fun k_ => some k_ ≠ (.slice Ao23 t288.length co23 : Value).ownBlock ∧ some k_ ≠ (.slice Ao44 t310.length co44 : Value).ownBlock ∧ some k_ ≠ (.slice Ao211 t341.length co211 : Value).ownBlock ∧ some k_ ≠ (.slice Ao215 t347.length co215 : Value).ownBlock ∧ k_ ≠ gb302 ∧ k_ ≠ gb324 ∧ k_ ≠ gb361) (.slice Ao34 t335.length co34) t335) := ⟨(by rw [hw]; exact (by (with_reducible repeat (first | apply Kd.R_alloc | apply Kd.R_drewN | apply Kd.R_drew)); exact Kd.R_mono (Kd.R_far (p := ⟨gb361, 5, none⟩) (Kd.R_far (p := ⟨gb361, 4, none⟩) (Kd.R_far (p := ⟨gb361, 3, none⟩) (Kd.R_far (p := ⟨gb361, 2, none⟩) (Kd.R_far (p := ⟨gb361, 1, none⟩) (Kd.R_far (p := ⟨gb361, 0, none⟩) (Kd.R_mono HO_310000.out (fun k_ hk => (⟨hk, (by first | exact hk.2.2.2.2.2.2 | grind)⟩ : _ ∧ k_ ≠ gb361))) (fun _ hk => by first | exact hk.2 | grind) (.int .i64 t353)) (fun _ hk => by first | exact hk.2 | grind) (.int .i64 t354)) (fun _ hk => by first | exact hk.2 | grind) (.int .i64 t355)) (fun _ hk => by first | exact hk.2 | grind) (.int .i64 t356)) (fun _ hk => by first | exact hk.2 | grind) (.int .i64 t357)) (fun _ hk => by first | exact hk.2 | grind) (.int .i64 t358)) (fun _ hk => by first | exact ⟨hk.1.1, ⟨hk.1.2.1, ⟨hk.1.2.2.1, ⟨hk.1.2.2.2.1, ⟨hk.1.2.2.2.2.1, ⟨hk.1.2.2.2.2.2.1, hk.1.2.2.2.2.2.2⟩⟩⟩⟩⟩⟩ | grind)))⟩; have n2_ : Aside0 (Kd.R k80 80 w232 w.heap.size (fun k_ => some k_ ≠ (.slice Ao23 t288.length co23 : Value).ownBlock ∧ some k_ ≠ (.slice Ao34 t335.length co34 : Value).ownBlock ∧ some k_ ≠ (.slice Ao211 t341.length co211 : Value).ownBlock ∧ some k_ ≠ (.slice Ao215 t347.length co215 : Value).ownBlock ∧ k_ ≠ gb302 ∧ k_ ≠ gb324 ∧ k_ ≠ gb361) (.slice Ao44 t310.length co44) t339) := ⟨(by rw [hw]; exact (by (with_reducible repeat (first | apply Kd.R_alloc | apply Kd.R_drewN | apply Kd.R_drew)); exact Kd.R_mono (Kd.R_far (p := ⟨gb361, 5, none⟩) (Kd.R_far (p := ⟨gb361, 4, none⟩) (Kd.R_far (p := ⟨gb361, 3, none⟩) (Kd.R_far (p := ⟨gb361, 2, none⟩) (Kd.R_far (p := ⟨gb361, 1, none⟩) (Kd.R_far (p := ⟨gb361, 0, none⟩) (Kd.R_mono HO_324000.out (fun k_ hk => (⟨hk, (by first | exact hk.2.2.2.2.2.2 | grind)⟩ : _ ∧ k_ ≠ gb361))) (fun _ hk => by first | exact hk.2 | grind) (.int .i64 t353)) (fun _ hk => by first | exact hk.2 | grind) (.int .i64 t354)) (fun _ hk => by first | exact hk.2 | grind) (.int .i64 t355)) (fun _ hk => by first | exact hk.2 | grind) (.int .i64 t356)) (fun _ hk => by first | exact hk.2 | grind) (.int .i64 t357)) (fun _ hk => by first | exact hk.2 | grind) (.int .i64 t358)) (fun _ hk => by first | exact ⟨hk.1.1, ⟨hk.1.2.1, ⟨hk.1.2.2.1, ⟨hk.1.2.2.2.1, ⟨hk.1.2.2.2.2.1, ⟨hk.1.2.2.2.2.2.1, hk.1.2.2.2.2.2.2⟩⟩⟩⟩⟩⟩ | grind)))⟩; have n3_ : Aside0 (Kd.R k80 80 w232 w.heap.size (fun k_ => some k_ ≠ (.slice Ao23 t288.length co23 : Value).ownBlock ∧ some k_ ≠ (.slice Ao34 t335.length co34 : Value).ownBlock ∧ some k_ ≠ (.slice Ao44 t310.length co44 : Value).ownBlock ∧ some k_ ≠ (.slice Ao215 t347.length co215 : Value).ownBlock ∧ k_ ≠ gb302 ∧ k_ ≠ gb324 ∧ k_ ≠ gb361) (.slice Ao211 t341.length co211) t341) := ⟨(by rw [hw]; exact (by (with_reducible repeat (first | apply Kd.R_alloc | apply Kd.R_drewN | apply Kd.R_drew)); exact Kd.R_mono (Kd.R_far (p := ⟨gb361, 5, none⟩) (Kd.R_far (p := ⟨gb361, 4, none⟩) (Kd.R_far (p := ⟨gb361, 3, none⟩) (Kd.R_far (p := ⟨gb361, 2, none⟩) (Kd.R_far (p := ⟨gb361, 1, none⟩) (Kd.R_far (p := ⟨gb361, 0, none⟩) (Kd.R_mono HO343.out (fun k_ hk => (⟨hk, (by first | exact hk.2.2.2.2.2.2 | grind)⟩ : _ ∧ k_ ≠ gb361))) (fun _ hk => by first | exact hk.2 | grind) (.int .i64 t353)) (fun _ hk => by first | exact hk.2 | grind) (.int .i64 t354)) (fun _ hk => by first | exact hk.2 | grind) (.int .i64 t355)) (fun _ hk => by first | exact hk.2 | grind) (.int .i64 t356)) (fun _ hk => by first | exact hk.2 | grind) (.int .i64 t357)) (fun _ hk => by first | exact hk.2 | grind) (.int .i64 t358)) (fun _ hk => by first | exact ⟨hk.1.1, ⟨hk.1.2.1, ⟨hk.1.2.2.1, ⟨hk.1.2.2.2.1, ⟨hk.1.2.2.2.2.1, ⟨hk.1.2.2.2.2.2.1, hk.1.2.2.2.2.2.2⟩⟩⟩⟩⟩⟩ | grind)))⟩; have n4_ : Aside0 (Kd.R k80 80 w232 w.heap.size (fun k_ => some k_ ≠ (.slice Ao23 t288.length co23 : Value).ownBlock ∧ some k_ ≠ (.slice Ao34 t335.length co34 : Value).ownBlock ∧ some k_ ≠ (.slice Ao44 t310.length co44 : Value).ownBlock ∧ some k_ ≠ (.slice Ao211 t341.length co211 : Value).ownBlock ∧ k_ ≠ gb302 ∧ k_ ≠ gb324 ∧ k_ ≠ gb361) (.slice Ao215 t347.length co215) t347) := ⟨(by rw [hw]; exact (by (with_reducible repeat (first | apply Kd.R_alloc | apply Kd.R_drewN | apply Kd.R_drew)); exact Kd.R_mono (Kd.R_far (p := ⟨gb361, 5, none⟩) (Kd.R_far (p := ⟨gb361, 4, none⟩) (Kd.R_far (p := ⟨gb361, 3, none⟩) (Kd.R_far (p := ⟨gb361, 2, none⟩) (Kd.R_far (p := ⟨gb361, 1, none⟩) (Kd.R_far (p := ⟨gb361, 0, none⟩) (Kd.R_mono HO349.out (fun k_ hk => (⟨hk, (by first | exact hk.2.2.2.2.2.2 | grind)⟩ : _ ∧ k_ ≠ gb361))) (fun _ hk => by first | exact hk.2 | grind) (.int .i64 t353)) (fun _ hk => by first | exact hk.2 | grind) (.int .i64 t354)) (fun _ hk => by first | exact hk.2 | grind) (.int .i64 t355)) (fun _ hk => by first | exact hk.2 | grind) (.int .i64 t356)) (fun _ hk => by first | exact hk.2 | grind) (.int .i64 t357)) (fun _ hk => by first | exact hk.2 | grind) (.int .i64 t358)) (fun _ hk => by first | exact ⟨hk.1.1, ⟨hk.1.2.1, ⟨hk.1.2.2.1, ⟨hk.1.2.2.2.1, ⟨hk.1.2.2.2.2.1, ⟨hk.1.2.2.2.2.2.1, hk.1.2.2.2.2.2.2⟩⟩⟩⟩⟩⟩ | grind)))⟩; have n5_ : Aside0 (w232.heap[gb280]? = some (.cells #[.slice A0_0 l0_0.length c0_0, .int .i64 a0_1, .int .i64 a0_2, .int .i64 a0_3] 38 (0, 0))) := ⟨(by rw [hw]; exact (uf_ BK280.out))⟩; have n6_ : Aside0 (w232.heap[gb301]? = some (.cells #[.slice Ao23 t288.length co23, .int .i64 t291, .int .i64 t292, .int .i64 t293] 42 (0, 0))) := ⟨(by rw [hw]; exact (uf_ BK301.out))⟩; have n7_ : Aside0 (w232.heap[gb302]? = some (.cells #[.int .i64 t294, .int .i64 t295, .int .i64 t296, .int .i64 t297, .int .i64 t298, .int .i64 t299] 80 (0, 0))) := ⟨(by rw [hw]; exact (uf_ BK302.out))⟩; have n8_ : Aside0 (w232.heap[gb309]? = some (.cells #[.slice Ao34 t335.length co34, .int .i64 t306, .int .i64 t307, .int .i64 t308] 42 (0, 0))) := ⟨(by rw [hw]; exact (uf_ BK309.out))⟩; have n9_ : Aside0 (w232.heap[gb323]? = some (.cells #[.slice Ao44 t310.length co44, .int .i64 t313, .int .i64 t314, .int .i64 t315] 42 (0, 0))) := ⟨(by rw [hw]; exact (uf_ BK323.out))⟩; have n10_ : Aside0 (w232.heap[gb324]? = some (.cells #[.int .i64 t316, .int .i64 t317, .int .i64 t318, .int .i64 t319, .int .i64 t320, .int .i64 t321] 80 (0, 0))) := ⟨(by rw [hw]; exact (uf_ BK324.out))⟩; have n11_ : Aside0 (w232.heap[gb360]? = some (.cells #[.slice Ao215 t347.length co215, .int .i64 t350, .int .i64 t351, .int .i64 t352] 42 (0, 0))) := ⟨(by rw [hw]; exact (uf_ BK360.out))⟩; have n12_ : Aside0 (w232.heap[gb361]? = some (.cells #[.int .i64 t353, .int .i64 t354, .int .i64 t355, .int .i64 t356, .int .i64 t357, .int .i64 t358] 80 (0, 0))) := ⟨(by rw [hw]; exact (by (with_reducible repeat first|apply bn_|apply bd_|apply ba_); refine blk_put (cs := #[.int .i64 t353, .int .i64 t354, .int .i64 t355, .int .i64 t356, .int .i64 t357, .int .i64 0]) ?_ 5 _ rfl; refine blk_put (cs := #[.int .i64 t353, .int .i64 t354, .int .i64 t355, .int .i64 t356, .int .i64 0, .int .i64 0]) ?_ 4 _ rfl; refine blk_put (cs := #[.int .i64 t353, .int .i64 t354, .int .i64 t355, .int .i64 0, .int .i64 0, .int .i64 0]) ?_ 3 _ rfl; refine blk_put (cs := #[.int .i64 t353, .int .i64 t354, .int .i64 0, .int .i64 0, .int .i64 0, .int .i64 0]) ?_ 2 _ rfl; refine blk_put (cs := #[.int .i64 t353, .int .i64 0, .int .i64 0, .int .i64 0, .int .i64 0, .int .i64 0]) ?_ 1 _ rfl; refine blk_put (cs := #[.int .i64 0, .int .i64 0, .int .i64 0, .int .i64 0, .int .i64 0, .int .i64 0]) ?_ 0 _ rfl; (with_reducible repeat first|apply bn_|apply bd_|apply ba_); exact BK361.out))⟩; have n13_ : Aside0 (Below w.heap.size w w232) := ⟨(by rw [hw]; exact (ue_ HB.out))⟩; clear hw HO_302000 HO_310000 HO_324000 HO343 HO349 BK280 BK301 BK302 BK309 BK323 BK324 BK360 BK361 HB; have HO_302000 := n0_; have HO_310000 := n1_; have HO_324000 := n2_; have HO343 := n3_; have HO349 := n4_; have BK280 := n5_; have BK301 := n6_; have BK302 := n7_; have BK309 := n8_; have BK323 := n9_; have BK324 := n10_; have BK360 := n11_; have BK361 := n12_; have HB := n13_; clear n0_ n1_ n2_ n3_ n4_ n5_ n6_ n7_ n8_ n9_ n10_ n11_ n12_ n13_))
           (try simp only [Act.put, List.setIfInBounds_toArray, List.set_cons_zero, List.set_cons_succ])
           go_cut [121] (fun v121 wc => ∃ (kq : Nat) (x121_194 : Bool), v121 = .bool x121_194 ∧ Aside0 (laws_FnExactTakeClosed.j2 kq t338 x121_194 t339 t313 t314 t315 = some r) ∧ Aside0 (kq ≤ kj118) ∧ Aside0 (Kd.Q k80 80 wc w.heap.size (fun k_ => some k_ ≠ ((.slice Ao34 t335.length co34) : Value).ownBlock ∧ some k_ ≠ ((.slice Ao44 t310.length co44) : Value).ownBlock ∧ some k_ ≠ ((.slice Ao215 t347.length co215) : Value).ownBlock ∧ k_ ≠ gb302 ∧ k_ ≠ gb324 ∧ k_ ≠ gb361) (.slice Ao23 t288.length co23) t288) ∧ Aside0 (Kd.R k80 80 wc w.heap.size (fun k_ => some k_ ≠ ((.slice Ao23 t288.length co23) : Value).ownBlock ∧ some k_ ≠ ((.slice Ao44 t310.length co44) : Value).ownBlock ∧ some k_ ≠ ((.slice Ao215 t347.length co215) : Value).ownBlock ∧ k_ ≠ gb302 ∧ k_ ≠ gb324 ∧ k_ ≠ gb361) (.slice Ao34 t335.length co34) t335) ∧ Aside0 (Kd.R k80 80 wc w.heap.size (fun k_ => some k_ ≠ ((.slice Ao23 t288.length co23) : Value).ownBlock ∧ some k_ ≠ ((.slice Ao34 t335.length co34) : Value).ownBlock ∧ some k_ ≠ ((.slice Ao215 t347.length co215) : Value).ownBlock ∧ k_ ≠ gb302 ∧ k_ ≠ gb324 ∧ k_ ≠ gb361) (.slice Ao44 t310.length co44) t339) ∧ Aside0 (Kd.R k80 80 wc w.heap.size (fun k_ => some k_ ≠ ((.slice Ao23 t288.length co23) : Value).ownBlock ∧ some k_ ≠ ((.slice Ao34 t335.length co34) : Value).ownBlock ∧ some k_ ≠ ((.slice Ao44 t310.length co44) : Value).ownBlock ∧ k_ ≠ gb302 ∧ k_ ≠ gb324 ∧ k_ ≠ gb361) (.slice Ao215 t347.length co215) t347) ∧ Aside0 (wc.heap[gb280]? = some (.cells #[(.slice A0_0 l0_0.length c0_0), .int .i64 a0_1, .int .i64 a0_2, .int .i64 a0_3] 38 (0, 0))) ∧ Aside0 (wc.heap[gb301]? = some (.cells #[(.slice Ao23 t288.length co23), .int .i64 t291, .int .i64 t292, .int .i64 t293] 42 (0, 0))) ∧ Aside0 (wc.heap[gb302]? = some (.cells #[.int .i64 t294, .int .i64 t295, .int .i64 t296, .int .i64 t297, .int .i64 t298, .int .i64 t299] 80 (0, 0))) ∧ Aside0 (wc.heap[gb309]? = some (.cells #[(.slice Ao34 t335.length co34), .int .i64 t306, .int .i64 t307, .int .i64 t308] 42 (0, 0))) ∧ Aside0 (wc.heap[gb323]? = some (.cells #[(.slice Ao44 t310.length co44), .int .i64 t313, .int .i64 t314, .int .i64 t315] 42 (0, 0))) ∧ Aside0 (wc.heap[gb324]? = some (.cells #[.int .i64 t316, .int .i64 t317, .int .i64 t318, .int .i64 t319, .int .i64 t320, .int .i64 t321] 80 (0, 0))) ∧ Aside0 (wc.heap[gb360]? = some (.cells #[(.slice Ao215 t347.length co215), .int .i64 t350, .int .i64 t351, .int .i64 t352] 42 (0, 0))) ∧ Aside0 (wc.heap[gb361]? = some (.cells #[.int .i64 t353, .int .i64 t354, .int .i64 t355, .int .i64 t356, .int .i64 t357, .int .i64 t358] 80 (0, 0))) ∧ Aside0 (Below w.heap.size w wc))
           case first =>
            have H := HC195.out
            clear HC195
            replace H := Option.bind_eq_some_iff.mp H
            obtain ⟨t362, A2330, H⟩ := H
            replace H : (if t362 = true then ((laws_eqAgg.f t353 t354 t355 t356 t357 t358 t294 t295 t296 t297 t298 t299).bind fun t363 => (if t363 = true then (laws_FnExactTakeClosed.j2 kj118 t338 (t359 != t300) t339 t313 t314 t315) else (laws_FnExactTakeClosed.j2 kj118 t338 true t339 t313 t314 t315))) else (laws_FnExactTakeClosed.j2 kj118 t338 true t339 t313 t314 t315)) = some r := H
            have A233 := Aside0.mk A2330
            clear A2330
            by_cases c234 : t362 = true
            ·
             subst c234
             have H1 : ((laws_eqAgg.f t353 t354 t355 t356 t357 t358 t294 t295 t296 t297 t298 t299).bind fun t363 => (if t363 = true then (laws_FnExactTakeClosed.j2 kj118 t338 (t359 != t300) t339 t313 t314 t315) else (laws_FnExactTakeClosed.j2 kj118 t338 true t339 t313 t314 t315))) = some r := by rw [if_pos rfl] at H; exact H
             clear H
             have H := H1
             clear H1
             replace H := Option.bind_eq_some_iff.mp H
             obtain ⟨t363, A2350, H⟩ := H
             replace H : (if t363 = true then (laws_FnExactTakeClosed.j2 kj118 t338 (t359 != t300) t339 t313 t314 t315) else (laws_FnExactTakeClosed.j2 kj118 t338 true t339 t313 t314 t315)) = some r := H
             have A235 := Aside0.mk A2350
             clear A2350
             by_cases c236 : t363 = true
             ·
              subst c236
              have H1 : (laws_FnExactTakeClosed.j2 kj118 t338 (t359 != t300) t339 t313 t314 t315) = some r := by rw [if_pos rfl] at H; exact H
              clear H
              have H := H1
              clear H1
              have H' := Aside0.mk H
              clear H
              have hnb237 := NB360_280.out
              have hnc237 := NB280_360.out
              have hnb238 := NB360_301.out
              have hnc238 := NB301_360.out
              have hnb239 := NB360_302.out
              have hnc239 := NB302_360.out
              have hnb240 := NB360_309.out
              have hnc240 := NB309_360.out
              have hnb241 := NB360_323.out
              have hnc241 := NB323_360.out
              have hnb242 := NB360_324.out
              have hnc242 := NB324_360.out
              have hnb243 := NB360_361.out
              have hnc243 := NB361_360.out
              have hcz244_0 := cb_ BK360.out 0 rfl
              have hcz244_1 := cb_ BK360.out 1 rfl
              have hcz244_2 := cb_ BK360.out 2 rfl
              have hcz244_3 := cb_ BK360.out 3 rfl
              have hfz244_0 := blk_frozen BK360.out 0
              have hfz244_1 := blk_frozen BK360.out 1
              have hfz244_2 := blk_frozen BK360.out 2
              have hfz244_3 := blk_frozen BK360.out 3
              have hnb245 := NB301_280.out
              have hnc245 := NB280_301.out
              have hnb246 := NB301_302.out
              have hnc246 := NB302_301.out
              have hnb247 := NB301_309.out
              have hnc247 := NB309_301.out
              have hnb248 := NB301_323.out
              have hnc248 := NB323_301.out
              have hnb249 := NB301_324.out
              have hnc249 := NB324_301.out
              have hnb250 := NB301_361.out
              have hnc250 := NB361_301.out
              have hcz251_0 := cb_ BK301.out 0 rfl
              have hcz251_1 := cb_ BK301.out 1 rfl
              have hcz251_2 := cb_ BK301.out 2 rfl
              have hcz251_3 := cb_ BK301.out 3 rfl
              have hfz251_0 := blk_frozen BK301.out 0
              have hfz251_1 := blk_frozen BK301.out 1
              have hfz251_2 := blk_frozen BK301.out 2
              have hfz251_3 := blk_frozen BK301.out 3
              go_wp2_with (first | ((with_reducible refine gate_callee (f := 28) rfl ?_); refine goesL_ (some 109) rfl rfl Try.func28 (by kernel_rfl) rfl #[.agg #[.slice Ao215 t347.length co215, .int .i64 t350, .int .i64 t351, .int .i64 t352], .agg #[.slice Ao23 t288.length co23, .int .i64 t291, .int .i64 t292, .int .i64 t293]] rfl ul_ ?_; (with_reducible refine (laws_eqShard.calls kj118 _ _ t347 t350 t351 t352 _ _ t288 t291 t292 t293 true _ ?side1 ?side2 ?side3 ?side4 A233.out).mono ?_); (case side1 => repeat (first | exact (Kd.R_reads' HO349.out).2.2 | (with_reducible refine Kd.C_alloc ?_ _) | (with_reducible refine Kd.C_drewN ?_ _) | (with_reducible refine Kd.C_drew ?_))); (case side2 => exact (Kd.R_reads' HO349.out).2.1); (case side3 => repeat (first | exact (Kd.Q_reads' HO_302000.out).2.2 | (with_reducible refine Kd.C_alloc ?_ _) | (with_reducible refine Kd.C_drewN ?_ _) | (with_reducible refine Kd.C_drew ?_))); (case side4 => exact (Kd.Q_reads' HO_302000.out).2.1); rintro e w252 ⟨rfl, hb⟩; refine ⟨_, rfl, ?_⟩; have n0_ := am_ (Kd.Q_below (by (with_reducible repeat (first | apply Kd.Q_alloc | apply Kd.Q_drewN | apply Kd.Q_drew)); exact HO_302000.out) hb); have n1_ := am_ (Kd.R_below (ur_ HO_310000.out) hb); have n2_ := am_ (Kd.R_below (ur_ HO_324000.out) hb); have n3_ := am_ (Kd.R_below (ur_ HO343.out) hb); have n4_ := am_ (Kd.R_below (ur_ HO349.out) hb); have n5_ := am_ (bb_ BK280.out hb); have n6_ := am_ (bb_ BK301.out hb); have n7_ := am_ (bb_ BK302.out hb); have n8_ := am_ (bb_ BK309.out hb); have n9_ := am_ (bb_ BK323.out hb); have n10_ := am_ (bb_ BK324.out hb); have n11_ := am_ (bb_ BK360.out hb); have n12_ := am_ (bb_ BK361.out hb); have n13_ := am_ (below_step (ue_ HB.out) hb); clear HO_302000 HO_310000 HO_324000 HO343 HO349 BK280 BK301 BK302 BK309 BK323 BK324 BK360 BK361 HB; have HO_302000 := n0_; have HO_310000 := n1_; have HO_324000 := n2_; have HO343 := n3_; have HO349 := n4_; have BK280 := n5_; have BK301 := n6_; have BK302 := n7_; have BK309 := n8_; have BK323 := n9_; have BK324 := n10_; have BK360 := n11_; have BK361 := n12_; have HB := n13_; clear n0_ n1_ n2_ n3_ n4_ n5_ n6_ n7_ n8_ n9_ n10_ n11_ n12_ n13_; (try clear hb); (try clear hb2); (try clear hk); (try clear hi); have hnb253 := NB361_280.out; have hnc253 := NB280_361.out; have hnb254 := NB361_302.out; have hnc254 := NB302_361.out; have hnb255 := NB361_309.out; have hnc255 := NB309_361.out; have hnb256 := NB361_323.out; have hnc256 := NB323_361.out; have hnb257 := NB361_324.out; have hnc257 := NB324_361.out; obtain ⟨hcz258_0, hcz258_1, hcz258_2, hcz258_3, hcz258_4, hcz258_5⟩ := cb6_ BK361.out; obtain ⟨hfz258_0, hfz258_1, hfz258_2, hfz258_3, hfz258_4, hfz258_5⟩ := bf6_ BK361.out; have hnb259 := NB302_280.out; have hnc259 := NB280_302.out; have hnb260 := NB302_309.out; have hnc260 := NB309_302.out; have hnb261 := NB302_323.out; have hnc261 := NB323_302.out; have hnb262 := NB302_324.out; have hnc262 := NB324_302.out; obtain ⟨hcz263_0, hcz263_1, hcz263_2, hcz263_3, hcz263_4, hcz263_5⟩ := cb6_ BK302.out; obtain ⟨hfz263_0, hfz263_1, hfz263_2, hfz263_3, hfz263_4⟩ := bf5_ BK302.out; have hfz263_5 := blk_frozen BK302.out 5) | (go_at_call 59; (with_reducible refine (laws_eqAgg.calls t353 t354 t355 t356 t357 t358 t294 t295 t296 t297 t298 t299 true _ A235.out).mono ?_); rintro e w264 ⟨rfl, hb⟩; have n0_ := am_ (Kd.Q_below (by (with_reducible repeat (first | apply Kd.Q_alloc | apply Kd.Q_drewN | apply Kd.Q_drew)); exact HO_302000.out) hb); have n1_ := am_ (Kd.R_below (ur_ HO_310000.out) hb); have n2_ := am_ (Kd.R_below (ur_ HO_324000.out) hb); have n3_ := am_ (Kd.R_below (ur_ HO343.out) hb); have n4_ := am_ (Kd.R_below (ur_ HO349.out) hb); have n5_ := am_ (bb_ BK280.out hb); have n6_ := am_ (bb_ BK301.out hb); have n7_ := am_ (bb_ BK302.out hb); have n8_ := am_ (bb_ BK309.out hb); have n9_ := am_ (bb_ BK323.out hb); have n10_ := am_ (bb_ BK324.out hb); have n11_ := am_ (bb_ BK360.out hb); have n12_ := am_ (bb_ BK361.out hb); have n13_ := am_ (below_step (ue_ HB.out) hb); clear HO_302000 HO_310000 HO_324000 HO343 HO349 BK280 BK301 BK302 BK309 BK323 BK324 BK360 BK361 HB; have HO_302000 := n0_; have HO_310000 := n1_; have HO_324000 := n2_; have HO343 := n3_; have HO349 := n4_; have BK280 := n5_; have BK301 := n6_; have BK302 := n7_; have BK309 := n8_; have BK323 := n9_; have BK324 := n10_; have BK360 := n11_; have BK361 := n12_; have HB := n13_; clear n0_ n1_ n2_ n3_ n4_ n5_ n6_ n7_ n8_ n9_ n10_ n11_ n12_ n13_; (try clear hb); (try clear hb2); (try clear hk); (try clear hi)))
              go_meet
              case rel => exact ⟨_, ((t359 != t300)), (by first | rfl | (simp; done) | (simp [*]; done)), H', ⟨by have := HJ12.out; have := HJ118.out; first | omega | exact Nat.le_refl _⟩, ⟨by (try simp only [hl310000_118]); (with_reducible repeat (first | apply Kd.Q_alloc | apply Kd.Q_drewN | apply Kd.Q_drew)); exact Kd.Q_mono HO_302000.out (fun _ hk => by first | exact ⟨hk.1, ⟨hk.2.1, ⟨hk.2.2.2.1, ⟨hk.2.2.2.2.1, ⟨hk.2.2.2.2.2.1, hk.2.2.2.2.2.2⟩⟩⟩⟩⟩ | grind)⟩, ⟨by (try simp only [hl310000_118]); (with_reducible repeat (first | apply Kd.R_alloc | apply Kd.R_drewN | apply Kd.R_drew)); exact Kd.R_mono HO_310000.out (fun _ hk => by first | exact ⟨hk.1, ⟨hk.2.1, ⟨hk.2.2.2.1, ⟨hk.2.2.2.2.1, ⟨hk.2.2.2.2.2.1, hk.2.2.2.2.2.2⟩⟩⟩⟩⟩ | grind)⟩, ⟨by (try simp only [hl310000_118]); (with_reducible repeat (first | apply Kd.R_alloc | apply Kd.R_drewN | apply Kd.R_drew)); exact Kd.R_mono HO_324000.out (fun _ hk => by first | exact ⟨hk.1, ⟨hk.2.1, ⟨hk.2.2.2.1, ⟨hk.2.2.2.2.1, ⟨hk.2.2.2.2.2.1, hk.2.2.2.2.2.2⟩⟩⟩⟩⟩ | grind)⟩, ⟨by (try simp only [hl310000_118]); (with_reducible repeat (first | apply Kd.R_alloc | apply Kd.R_drewN | apply Kd.R_drew)); exact Kd.R_mono HO349.out (fun _ hk => by first | exact ⟨hk.1, ⟨hk.2.1, ⟨hk.2.2.1, ⟨hk.2.2.2.2.1, ⟨hk.2.2.2.2.2.1, hk.2.2.2.2.2.2⟩⟩⟩⟩⟩ | grind)⟩, ⟨by (try simp only [hl310000_118]); (with_reducible repeat first|apply bn_|apply bd_|apply ba_); exact BK280.out⟩, ⟨by (try simp only [hl310000_118]); (with_reducible repeat first|apply bn_|apply bd_|apply ba_); exact BK301.out⟩, ⟨by (try simp only [hl310000_118]); (with_reducible repeat first|apply bn_|apply bd_|apply ba_); exact BK302.out⟩, ⟨by (try simp only [hl310000_118]); (with_reducible repeat first|apply bn_|apply bd_|apply ba_); exact BK309.out⟩, ⟨by (try simp only [hl310000_118]); (with_reducible repeat first|apply bn_|apply bd_|apply ba_); exact BK323.out⟩, ⟨by (try simp only [hl310000_118]); (with_reducible repeat first|apply bn_|apply bd_|apply ba_); exact BK324.out⟩, ⟨by (try simp only [hl310000_118]); (with_reducible repeat first|apply bn_|apply bd_|apply ba_); exact BK360.out⟩, ⟨by (try simp only [hl310000_118]); (with_reducible repeat first|apply bn_|apply bd_|apply ba_); exact BK361.out⟩, ⟨ue_ HB.out⟩⟩
             ·
              replace c236 := Bool.eq_false_iff.mpr c236
              subst c236
              have H1 : (laws_FnExactTakeClosed.j2 kj118 t338 true t339 t313 t314 t315) = some r := by rw [if_neg (show ¬ (false = true) by decide)] at H; exact H
              clear H
              have H := H1
              clear H1
              have H' := Aside0.mk H
              clear H
              have hnb265 := NB360_280.out
              have hnc265 := NB280_360.out
              have hnb266 := NB360_301.out
              have hnc266 := NB301_360.out
              have hnb267 := NB360_302.out
              have hnc267 := NB302_360.out
              have hnb268 := NB360_309.out
              have hnc268 := NB309_360.out
              have hnb269 := NB360_323.out
              have hnc269 := NB323_360.out
              have hnb270 := NB360_324.out
              have hnc270 := NB324_360.out
              have hnb271 := NB360_361.out
              have hnc271 := NB361_360.out
              have hcz272_0 := cb_ BK360.out 0 rfl
              have hcz272_1 := cb_ BK360.out 1 rfl
              have hcz272_2 := cb_ BK360.out 2 rfl
              have hcz272_3 := cb_ BK360.out 3 rfl
              have hfz272_0 := blk_frozen BK360.out 0
              have hfz272_1 := blk_frozen BK360.out 1
              have hfz272_2 := blk_frozen BK360.out 2
              have hfz272_3 := blk_frozen BK360.out 3
              have hnb273 := NB301_280.out
              have hnc273 := NB280_301.out
              have hnb274 := NB301_302.out
              have hnc274 := NB302_301.out
              have hnb275 := NB301_309.out
              have hnc275 := NB309_301.out
              have hnb276 := NB301_323.out
              have hnc276 := NB323_301.out
              have hnb277 := NB301_324.out
              have hnc277 := NB324_301.out
              have hnb278 := NB301_361.out
              have hnc278 := NB361_301.out
              have hcz279_0 := cb_ BK301.out 0 rfl
              have hcz279_1 := cb_ BK301.out 1 rfl
              have hcz279_2 := cb_ BK301.out 2 rfl
              have hcz279_3 := cb_ BK301.out 3 rfl
              have hfz279_0 := blk_frozen BK301.out 0
              have hfz279_1 := blk_frozen BK301.out 1
              have hfz279_2 := blk_frozen BK301.out 2
              have hfz279_3 := blk_frozen BK301.out 3
              go_wp2_with (first | ((with_reducible refine gate_callee (f := 28) rfl ?_); refine goesL_ (some 109) rfl rfl Try.func28 (by kernel_rfl) rfl #[.agg #[.slice Ao215 t347.length co215, .int .i64 t350, .int .i64 t351, .int .i64 t352], .agg #[.slice Ao23 t288.length co23, .int .i64 t291, .int .i64 t292, .int .i64 t293]] rfl ul_ ?_; (with_reducible refine (laws_eqShard.calls kj118 _ _ t347 t350 t351 t352 _ _ t288 t291 t292 t293 true _ ?side1 ?side2 ?side3 ?side4 A233.out).mono ?_); (case side1 => repeat (first | exact (Kd.R_reads' HO349.out).2.2 | (with_reducible refine Kd.C_alloc ?_ _) | (with_reducible refine Kd.C_drewN ?_ _) | (with_reducible refine Kd.C_drew ?_))); (case side2 => exact (Kd.R_reads' HO349.out).2.1); (case side3 => repeat (first | exact (Kd.Q_reads' HO_302000.out).2.2 | (with_reducible refine Kd.C_alloc ?_ _) | (with_reducible refine Kd.C_drewN ?_ _) | (with_reducible refine Kd.C_drew ?_))); (case side4 => exact (Kd.Q_reads' HO_302000.out).2.1); rintro e w280 ⟨rfl, hb⟩; refine ⟨_, rfl, ?_⟩; have n0_ := am_ (Kd.Q_below (by (with_reducible repeat (first | apply Kd.Q_alloc | apply Kd.Q_drewN | apply Kd.Q_drew)); exact HO_302000.out) hb); have n1_ := am_ (Kd.R_below (ur_ HO_310000.out) hb); have n2_ := am_ (Kd.R_below (ur_ HO_324000.out) hb); have n3_ := am_ (Kd.R_below (ur_ HO343.out) hb); have n4_ := am_ (Kd.R_below (ur_ HO349.out) hb); have n5_ := am_ (bb_ BK280.out hb); have n6_ := am_ (bb_ BK301.out hb); have n7_ := am_ (bb_ BK302.out hb); have n8_ := am_ (bb_ BK309.out hb); have n9_ := am_ (bb_ BK323.out hb); have n10_ := am_ (bb_ BK324.out hb); have n11_ := am_ (bb_ BK360.out hb); have n12_ := am_ (bb_ BK361.out hb); have n13_ := am_ (below_step (ue_ HB.out) hb); clear HO_302000 HO_310000 HO_324000 HO343 HO349 BK280 BK301 BK302 BK309 BK323 BK324 BK360 BK361 HB; have HO_302000 := n0_; have HO_310000 := n1_; have HO_324000 := n2_; have HO343 := n3_; have HO349 := n4_; have BK280 := n5_; have BK301 := n6_; have BK302 := n7_; have BK309 := n8_; have BK323 := n9_; have BK324 := n10_; have BK360 := n11_; have BK361 := n12_; have HB := n13_; clear n0_ n1_ n2_ n3_ n4_ n5_ n6_ n7_ n8_ n9_ n10_ n11_ n12_ n13_; (try clear hb); (try clear hb2); (try clear hk); (try clear hi); have hnb281 := NB361_280.out; have hnc281 := NB280_361.out; have hnb282 := NB361_302.out; have hnc282 := NB302_361.out; have hnb283 := NB361_309.out; have hnc283 := NB309_361.out; have hnb284 := NB361_323.out; have hnc284 := NB323_361.out; have hnb285 := NB361_324.out; have hnc285 := NB324_361.out; obtain ⟨hcz286_0, hcz286_1, hcz286_2, hcz286_3, hcz286_4, hcz286_5⟩ := cb6_ BK361.out; obtain ⟨hfz286_0, hfz286_1, hfz286_2, hfz286_3, hfz286_4, hfz286_5⟩ := bf6_ BK361.out; have hnb287 := NB302_280.out; have hnc287 := NB280_302.out; have hnb288 := NB302_309.out; have hnc288 := NB309_302.out; have hnb289 := NB302_323.out; have hnc289 := NB323_302.out; have hnb290 := NB302_324.out; have hnc290 := NB324_302.out; obtain ⟨hcz291_0, hcz291_1, hcz291_2, hcz291_3, hcz291_4, hcz291_5⟩ := cb6_ BK302.out; obtain ⟨hfz291_0, hfz291_1, hfz291_2, hfz291_3, hfz291_4⟩ := bf5_ BK302.out; have hfz291_5 := blk_frozen BK302.out 5) | (go_at_call 59; (with_reducible refine (laws_eqAgg.calls t353 t354 t355 t356 t357 t358 t294 t295 t296 t297 t298 t299 false _ A235.out).mono ?_); rintro e w292 ⟨rfl, hb⟩; have n0_ := am_ (Kd.Q_below (by (with_reducible repeat (first | apply Kd.Q_alloc | apply Kd.Q_drewN | apply Kd.Q_drew)); exact HO_302000.out) hb); have n1_ := am_ (Kd.R_below (ur_ HO_310000.out) hb); have n2_ := am_ (Kd.R_below (ur_ HO_324000.out) hb); have n3_ := am_ (Kd.R_below (ur_ HO343.out) hb); have n4_ := am_ (Kd.R_below (ur_ HO349.out) hb); have n5_ := am_ (bb_ BK280.out hb); have n6_ := am_ (bb_ BK301.out hb); have n7_ := am_ (bb_ BK302.out hb); have n8_ := am_ (bb_ BK309.out hb); have n9_ := am_ (bb_ BK323.out hb); have n10_ := am_ (bb_ BK324.out hb); have n11_ := am_ (bb_ BK360.out hb); have n12_ := am_ (bb_ BK361.out hb); have n13_ := am_ (below_step (ue_ HB.out) hb); clear HO_302000 HO_310000 HO_324000 HO343 HO349 BK280 BK301 BK302 BK309 BK323 BK324 BK360 BK361 HB; have HO_302000 := n0_; have HO_310000 := n1_; have HO_324000 := n2_; have HO343 := n3_; have HO349 := n4_; have BK280 := n5_; have BK301 := n6_; have BK302 := n7_; have BK309 := n8_; have BK323 := n9_; have BK324 := n10_; have BK360 := n11_; have BK361 := n12_; have HB := n13_; clear n0_ n1_ n2_ n3_ n4_ n5_ n6_ n7_ n8_ n9_ n10_ n11_ n12_ n13_; (try clear hb); (try clear hb2); (try clear hk); (try clear hi)))
              go_meet
              case rel => exact ⟨_, (true), (by first | rfl | (simp; done) | (simp [*]; done)), H', ⟨by have := HJ12.out; have := HJ118.out; first | omega | exact Nat.le_refl _⟩, ⟨by (try simp only [hl310000_118]); (with_reducible repeat (first | apply Kd.Q_alloc | apply Kd.Q_drewN | apply Kd.Q_drew)); exact Kd.Q_mono HO_302000.out (fun _ hk => by first | exact ⟨hk.1, ⟨hk.2.1, ⟨hk.2.2.2.1, ⟨hk.2.2.2.2.1, ⟨hk.2.2.2.2.2.1, hk.2.2.2.2.2.2⟩⟩⟩⟩⟩ | grind)⟩, ⟨by (try simp only [hl310000_118]); (with_reducible repeat (first | apply Kd.R_alloc | apply Kd.R_drewN | apply Kd.R_drew)); exact Kd.R_mono HO_310000.out (fun _ hk => by first | exact ⟨hk.1, ⟨hk.2.1, ⟨hk.2.2.2.1, ⟨hk.2.2.2.2.1, ⟨hk.2.2.2.2.2.1, hk.2.2.2.2.2.2⟩⟩⟩⟩⟩ | grind)⟩, ⟨by (try simp only [hl310000_118]); (with_reducible repeat (first | apply Kd.R_alloc | apply Kd.R_drewN | apply Kd.R_drew)); exact Kd.R_mono HO_324000.out (fun _ hk => by first | exact ⟨hk.1, ⟨hk.2.1, ⟨hk.2.2.2.1, ⟨hk.2.2.2.2.1, ⟨hk.2.2.2.2.2.1, hk.2.2.2.2.2.2⟩⟩⟩⟩⟩ | grind)⟩, ⟨by (try simp only [hl310000_118]); (with_reducible repeat (first | apply Kd.R_alloc | apply Kd.R_drewN | apply Kd.R_drew)); exact Kd.R_mono HO349.out (fun _ hk => by first | exact ⟨hk.1, ⟨hk.2.1, ⟨hk.2.2.1, ⟨hk.2.2.2.2.1, ⟨hk.2.2.2.2.2.1, hk.2.2.2.2.2.2⟩⟩⟩⟩⟩ | grind)⟩, ⟨by (try simp only [hl310000_118]); (with_reducible repeat first|apply bn_|apply bd_|apply ba_); exact BK280.out⟩, ⟨by (try simp only [hl310000_118]); (with_reducible repeat first|apply bn_|apply bd_|apply ba_); exact BK301.out⟩, ⟨by (try simp only [hl310000_118]); (with_reducible repeat first|apply bn_|apply bd_|apply ba_); exact BK302.out⟩, ⟨by (try simp only [hl310000_118]); (with_reducible repeat first|apply bn_|apply bd_|apply ba_); exact BK309.out⟩, ⟨by (try simp only [hl310000_118]); (with_reducible repeat first|apply bn_|apply bd_|apply ba_); exact BK323.out⟩, ⟨by (try simp only [hl310000_118]); (with_reducible repeat first|apply bn_|apply bd_|apply ba_); exact BK324.out⟩, ⟨by (try simp only [hl310000_118]); (with_reducible repeat first|apply bn_|apply bd_|apply ba_); exact BK360.out⟩, ⟨by (try simp only [hl310000_118]); (with_reducible repeat first|apply bn_|apply bd_|apply ba_); exact BK361.out⟩, ⟨ue_ HB.out⟩⟩
            ·
             replace c234 := Bool.eq_false_iff.mpr c234
             subst c234
             have H1 : (laws_FnExactTakeClosed.j2 kj118 t338 true t339 t313 t314 t315) = some r := by rw [if_neg (show ¬ (false = true) by decide)] at H; exact H
             clear H
             have H := H1
             clear H1
             have H' := Aside0.mk H
             clear H
             have hnb293 := NB360_280.out
             have hnc293 := NB280_360.out
             have hnb294 := NB360_301.out
             have hnc294 := NB301_360.out
             have hnb295 := NB360_302.out
             have hnc295 := NB302_360.out
             have hnb296 := NB360_309.out
             have hnc296 := NB309_360.out
             have hnb297 := NB360_323.out
             have hnc297 := NB323_360.out
             have hnb298 := NB360_324.out
             have hnc298 := NB324_360.out
             have hnb299 := NB360_361.out
             have hnc299 := NB361_360.out
             have hcz300_0 := cb_ BK360.out 0 rfl
             have hcz300_1 := cb_ BK360.out 1 rfl
             have hcz300_2 := cb_ BK360.out 2 rfl
             have hcz300_3 := cb_ BK360.out 3 rfl
             have hfz300_0 := blk_frozen BK360.out 0
             have hfz300_1 := blk_frozen BK360.out 1
             have hfz300_2 := blk_frozen BK360.out 2
             have hfz300_3 := blk_frozen BK360.out 3
             have hnb301 := NB301_280.out
             have hnc301 := NB280_301.out
             have hnb302 := NB301_302.out
             have hnc302 := NB302_301.out
             have hnb303 := NB301_309.out
             have hnc303 := NB309_301.out
             have hnb304 := NB301_323.out
             have hnc304 := NB323_301.out
             have hnb305 := NB301_324.out
             have hnc305 := NB324_301.out
             have hnb306 := NB301_361.out
             have hnc306 := NB361_301.out
             have hcz307_0 := cb_ BK301.out 0 rfl
             have hcz307_1 := cb_ BK301.out 1 rfl
             have hcz307_2 := cb_ BK301.out 2 rfl
             have hcz307_3 := cb_ BK301.out 3 rfl
             have hfz307_0 := blk_frozen BK301.out 0
             have hfz307_1 := blk_frozen BK301.out 1
             have hfz307_2 := blk_frozen BK301.out 2
             have hfz307_3 := blk_frozen BK301.out 3
             go_wp2_with (first | ((with_reducible refine gate_callee (f := 28) rfl ?_); refine goesL_ (some 109) rfl rfl Try.func28 (by kernel_rfl) rfl #[.agg #[.slice Ao215 t347.length co215, .int .i64 t350, .int .i64 t351, .int .i64 t352], .agg #[.slice Ao23 t288.length co23, .int .i64 t291, .int .i64 t292, .int .i64 t293]] rfl ul_ ?_; (with_reducible refine (laws_eqShard.calls kj118 _ _ t347 t350 t351 t352 _ _ t288 t291 t292 t293 false _ ?side1 ?side2 ?side3 ?side4 A233.out).mono ?_); (case side1 => repeat (first | exact (Kd.R_reads' HO349.out).2.2 | (with_reducible refine Kd.C_alloc ?_ _) | (with_reducible refine Kd.C_drewN ?_ _) | (with_reducible refine Kd.C_drew ?_))); (case side2 => exact (Kd.R_reads' HO349.out).2.1); (case side3 => repeat (first | exact (Kd.Q_reads' HO_302000.out).2.2 | (with_reducible refine Kd.C_alloc ?_ _) | (with_reducible refine Kd.C_drewN ?_ _) | (with_reducible refine Kd.C_drew ?_))); (case side4 => exact (Kd.Q_reads' HO_302000.out).2.1); rintro e w308 ⟨rfl, hb⟩; refine ⟨_, rfl, ?_⟩; have n0_ := am_ (Kd.Q_below (by (with_reducible repeat (first | apply Kd.Q_alloc | apply Kd.Q_drewN | apply Kd.Q_drew)); exact HO_302000.out) hb); have n1_ := am_ (Kd.R_below (ur_ HO_310000.out) hb); have n2_ := am_ (Kd.R_below (ur_ HO_324000.out) hb); have n3_ := am_ (Kd.R_below (ur_ HO343.out) hb); have n4_ := am_ (Kd.R_below (ur_ HO349.out) hb); have n5_ := am_ (bb_ BK280.out hb); have n6_ := am_ (bb_ BK301.out hb); have n7_ := am_ (bb_ BK302.out hb); have n8_ := am_ (bb_ BK309.out hb); have n9_ := am_ (bb_ BK323.out hb); have n10_ := am_ (bb_ BK324.out hb); have n11_ := am_ (bb_ BK360.out hb); have n12_ := am_ (bb_ BK361.out hb); have n13_ := am_ (below_step (ue_ HB.out) hb); clear HO_302000 HO_310000 HO_324000 HO343 HO349 BK280 BK301 BK302 BK309 BK323 BK324 BK360 BK361 HB; have HO_302000 := n0_; have HO_310000 := n1_; have HO_324000 := n2_; have HO343 := n3_; have HO349 := n4_; have BK280 := n5_; have BK301 := n6_; have BK302 := n7_; have BK309 := n8_; have BK323 := n9_; have BK324 := n10_; have BK360 := n11_; have BK361 := n12_; have HB := n13_; clear n0_ n1_ n2_ n3_ n4_ n5_ n6_ n7_ n8_ n9_ n10_ n11_ n12_ n13_; (try clear hb); (try clear hb2); (try clear hk); (try clear hi)))
             go_meet
             case rel => exact ⟨_, (true), (by first | rfl | (simp; done) | (simp [*]; done)), H', ⟨by have := HJ12.out; have := HJ118.out; first | omega | exact Nat.le_refl _⟩, ⟨by (try simp only [hl310000_118]); (with_reducible repeat (first | apply Kd.Q_alloc | apply Kd.Q_drewN | apply Kd.Q_drew)); exact Kd.Q_mono HO_302000.out (fun _ hk => by first | exact ⟨hk.1, ⟨hk.2.1, ⟨hk.2.2.2.1, ⟨hk.2.2.2.2.1, ⟨hk.2.2.2.2.2.1, hk.2.2.2.2.2.2⟩⟩⟩⟩⟩ | grind)⟩, ⟨by (try simp only [hl310000_118]); (with_reducible repeat (first | apply Kd.R_alloc | apply Kd.R_drewN | apply Kd.R_drew)); exact Kd.R_mono HO_310000.out (fun _ hk => by first | exact ⟨hk.1, ⟨hk.2.1, ⟨hk.2.2.2.1, ⟨hk.2.2.2.2.1, ⟨hk.2.2.2.2.2.1, hk.2.2.2.2.2.2⟩⟩⟩⟩⟩ | grind)⟩, ⟨by (try simp only [hl310000_118]); (with_reducible repeat (first | apply Kd.R_alloc | apply Kd.R_drewN | apply Kd.R_drew)); exact Kd.R_mono HO_324000.out (fun _ hk => by first | exact ⟨hk.1, ⟨hk.2.1, ⟨hk.2.2.2.1, ⟨hk.2.2.2.2.1, ⟨hk.2.2.2.2.2.1, hk.2.2.2.2.2.2⟩⟩⟩⟩⟩ | grind)⟩, ⟨by (try simp only [hl310000_118]); (with_reducible repeat (first | apply Kd.R_alloc | apply Kd.R_drewN | apply Kd.R_drew)); exact Kd.R_mono HO349.out (fun _ hk => by first | exact ⟨hk.1, ⟨hk.2.1, ⟨hk.2.2.1, ⟨hk.2.2.2.2.1, ⟨hk.2.2.2.2.2.1, hk.2.2.2.2.2.2⟩⟩⟩⟩⟩ | grind)⟩, ⟨by (try simp only [hl310000_118]); (with_reducible repeat first|apply bn_|apply bd_|apply ba_); exact BK280.out⟩, ⟨by (try simp only [hl310000_118]); (with_reducible repeat first|apply bn_|apply bd_|apply ba_); exact BK301.out⟩, ⟨by (try simp only [hl310000_118]); (with_reducible repeat first|apply bn_|apply bd_|apply ba_); exact BK302.out⟩, ⟨by (try simp only [hl310000_118]); (with_reducible repeat first|apply bn_|apply bd_|apply ba_); exact BK309.out⟩, ⟨by (try simp only [hl310000_118]); (with_reducible repeat first|apply bn_|apply bd_|apply ba_); exact BK323.out⟩, ⟨by (try simp only [hl310000_118]); (with_reducible repeat first|apply bn_|apply bd_|apply ba_); exact BK324.out⟩, ⟨by (try simp only [hl310000_118]); (with_reducible repeat first|apply bn_|apply bd_|apply ba_); exact BK360.out⟩, ⟨by (try simp only [hl310000_118]); (with_reducible repeat first|apply bn_|apply bd_|apply ba_); exact BK361.out⟩, ⟨ue_ HB.out⟩⟩
           case rest =>
            clear HC195
            try clear c1
            try clear c2
            try clear p2
            try clear c3
            try clear c5
            try clear c12
            try clear c13
            try clear c14
            try clear c15
            try clear c16
            try clear c17
            try clear c18
            try clear c19
            try clear c20
            try clear c21
            try clear c22
            try clear c23
            try clear c24
            try clear c25
            try clear c26
            try clear c27
            try clear c28
            try clear c29
            try clear c30
            try clear c58
            try clear c125
            try clear c126
            try clear c127
            try clear c128
            try clear c131
            try clear c131b0
            try clear c133
            try clear c135
            try clear c136
            try clear c137
            try clear c138
            try clear c139
            try clear c140
            try clear c142
            try clear c143
            try clear c144
            try clear c145
            try clear c148
            try clear c149
            try clear c150
            try clear c152
            try clear c153
            try clear c156
            try clear c157
            try clear c158
            try clear c159
            try clear c160
            try clear c162
            try clear c163
            try clear c164
            try clear c165
            try clear c168
            try clear c169
            try clear c170
            try clear c172
            try clear c173
            try clear c176
            try clear c177
            try clear c178
            try clear c179
            try clear c180
            try clear c182
            try clear c183
            try clear c184
            try clear c185
            try clear c188
            try clear c191
            try clear c191b0
            try clear c192
            try clear c192b0
            try clear c192b1
            try clear c196
            try clear c197
            try clear c198
            try clear c199
            try clear c200
            try clear c205
            try clear c206
            try clear c207
            try clear c208
            try clear c216
            try clear c217
            try clear c218
            try clear c219
            try clear c220
            try clear c221
            try clear c222
            try clear c225
            try clear c226
            try clear c227
            try clear c228
            try clear c229
            try clear c230
            try clear c234
            try clear c236
            try clear c237
            try clear c238
            try clear c239
            try clear c240
            try clear c241
            try clear c242
            try clear c243
            try clear c245
            try clear c246
            try clear c247
            try clear c248
            try clear c249
            try clear c250
            try clear c253
            try clear c254
            try clear c255
            try clear c256
            try clear c257
            try clear c259
            try clear c260
            try clear c261
            try clear c262
            try clear c265
            try clear c266
            try clear c267
            try clear c268
            try clear c269
            try clear c270
            try clear c271
            try clear c273
            try clear c274
            try clear c275
            try clear c276
            try clear c277
            try clear c278
            try clear c281
            try clear c282
            try clear c283
            try clear c284
            try clear c285
            try clear c287
            try clear c288
            try clear c289
            try clear c290
            try clear c293
            try clear c294
            try clear c295
            try clear c296
            try clear c297
            try clear c298
            try clear c299
            try clear c301
            try clear c302
            try clear c303
            try clear c304
            try clear c305
            try clear c306
            try clear hcz100_0
            try clear hcz100_1
            try clear hcz100_2
            try clear hcz100_3
            try clear hcz100_4
            try clear hcz100_5
            try clear hcz107_0
            try clear hcz107_1
            try clear hcz107_2
            try clear hcz107_3
            try clear hcz112_0
            try clear hcz112_1
            try clear hcz112_2
            try clear hcz112_3
            try clear hcz129_0
            try clear hcz129_1
            try clear hcz129_2
            try clear hcz129_3
            try clear hcz141_0
            try clear hcz141_1
            try clear hcz141_2
            try clear hcz141_3
            try clear hcz146_0
            try clear hcz146_1
            try clear hcz146_2
            try clear hcz146_3
            try clear hcz151_0
            try clear hcz151_1
            try clear hcz151_2
            try clear hcz151_3
            try clear hcz151_4
            try clear hcz151_5
            try clear hcz154_0
            try clear hcz154_1
            try clear hcz154_2
            try clear hcz154_3
            try clear hcz154_4
            try clear hcz154_5
            try clear hcz15_0
            try clear hcz15_1
            try clear hcz15_2
            try clear hcz15_3
            try clear hcz161_0
            try clear hcz161_1
            try clear hcz161_2
            try clear hcz161_3
            try clear hcz166_0
            try clear hcz166_1
            try clear hcz166_2
            try clear hcz166_3
            try clear hcz171_0
            try clear hcz171_1
            try clear hcz171_2
            try clear hcz171_3
            try clear hcz171_4
            try clear hcz171_5
            try clear hcz174_0
            try clear hcz174_1
            try clear hcz174_2
            try clear hcz174_3
            try clear hcz174_4
            try clear hcz174_5
            try clear hcz17_0
            try clear hcz17_1
            try clear hcz17_2
            try clear hcz17_3
            try clear hcz181_0
            try clear hcz181_1
            try clear hcz181_2
            try clear hcz181_3
            try clear hcz186_0
            try clear hcz186_1
            try clear hcz186_2
            try clear hcz186_3
            try clear hcz201_0
            try clear hcz201_1
            try clear hcz201_2
            try clear hcz201_3
            try clear hcz203_0
            try clear hcz203_1
            try clear hcz203_2
            try clear hcz203_3
            try clear hcz209_0
            try clear hcz209_1
            try clear hcz209_2
            try clear hcz209_3
            try clear hcz223_0
            try clear hcz223_1
            try clear hcz223_2
            try clear hcz223_3
            try clear hcz231_0
            try clear hcz231_1
            try clear hcz231_2
            try clear hcz231_3
            try clear hcz231_4
            try clear hcz231_5
            try clear hcz244_0
            try clear hcz244_1
            try clear hcz244_2
            try clear hcz244_3
            try clear hcz251_0
            try clear hcz251_1
            try clear hcz251_2
            try clear hcz251_3
            try clear hcz258_0
            try clear hcz258_1
            try clear hcz258_2
            try clear hcz258_3
            try clear hcz258_4
            try clear hcz258_5
            try clear hcz263_0
            try clear hcz263_1
            try clear hcz263_2
            try clear hcz263_3
            try clear hcz263_4
            try clear hcz263_5
            try clear hcz26_0
            try clear hcz26_1
            try clear hcz26_2
            try clear hcz26_3
            try clear hcz272_0
            try clear hcz272_1
            try clear hcz272_2
            try clear hcz272_3
            try clear hcz279_0
            try clear hcz279_1
            try clear hcz279_2
            try clear hcz279_3
            try clear hcz286_0
            try clear hcz286_1
            try clear hcz286_2
            try clear hcz286_3
            try clear hcz286_4
            try clear hcz286_5
            try clear hcz291_0
            try clear hcz291_1
            try clear hcz291_2
            try clear hcz291_3
            try clear hcz291_4
            try clear hcz291_5
            try clear hcz29_0
            try clear hcz29_1
            try clear hcz29_2
            try clear hcz29_3
            try clear hcz29_4
            try clear hcz29_5
            try clear hcz300_0
            try clear hcz300_1
            try clear hcz300_2
            try clear hcz300_3
            try clear hcz307_0
            try clear hcz307_1
            try clear hcz307_2
            try clear hcz307_3
            try clear hcz31_0
            try clear hcz31_1
            try clear hcz31_2
            try clear hcz31_3
            try clear hcz38_0
            try clear hcz38_1
            try clear hcz38_2
            try clear hcz38_3
            try clear hcz40_0
            try clear hcz40_1
            try clear hcz40_2
            try clear hcz40_3
            try clear hcz50_0
            try clear hcz50_1
            try clear hcz50_2
            try clear hcz50_3
            try clear hcz56_0
            try clear hcz56_1
            try clear hcz56_2
            try clear hcz56_3
            try clear hcz56_4
            try clear hcz56_5
            try clear hcz67_0
            try clear hcz67_1
            try clear hcz67_2
            try clear hcz67_3
            try clear hcz72_0
            try clear hcz72_1
            try clear hcz72_2
            try clear hcz72_3
            try clear hcz77_0
            try clear hcz77_1
            try clear hcz77_2
            try clear hcz77_3
            try clear hcz77_4
            try clear hcz77_5
            try clear hcz7_0
            try clear hcz7_1
            try clear hcz7_2
            try clear hcz7_3
            try clear hcz80_0
            try clear hcz80_1
            try clear hcz80_2
            try clear hcz80_3
            try clear hcz80_4
            try clear hcz80_5
            try clear hcz87_0
            try clear hcz87_1
            try clear hcz87_2
            try clear hcz87_3
            try clear hcz92_0
            try clear hcz92_1
            try clear hcz92_2
            try clear hcz92_3
            try clear hcz97_0
            try clear hcz97_1
            try clear hcz97_2
            try clear hcz97_3
            try clear hcz97_4
            try clear hcz97_5
            try clear hfz100_0
            try clear hfz100_1
            try clear hfz100_2
            try clear hfz100_3
            try clear hfz100_4
            try clear hfz100_5
            try clear hfz107_0
            try clear hfz107_1
            try clear hfz107_2
            try clear hfz107_3
            try clear hfz112_0
            try clear hfz112_1
            try clear hfz112_2
            try clear hfz112_3
            try clear hfz129_0
            try clear hfz129_1
            try clear hfz129_2
            try clear hfz129_3
            try clear hfz141_0
            try clear hfz141_1
            try clear hfz141_2
            try clear hfz141_3
            try clear hfz146_0
            try clear hfz146_1
            try clear hfz146_2
            try clear hfz146_3
            try clear hfz151_0
            try clear hfz151_1
            try clear hfz151_2
            try clear hfz151_3
            try clear hfz151_4
            try clear hfz151_5
            try clear hfz154_0
            try clear hfz154_1
            try clear hfz154_2
            try clear hfz154_3
            try clear hfz154_4
            try clear hfz154_5
            try clear hfz15_0
            try clear hfz15_1
            try clear hfz15_2
            try clear hfz15_3
            try clear hfz161_0
            try clear hfz161_1
            try clear hfz161_2
            try clear hfz161_3
            try clear hfz166_0
            try clear hfz166_1
            try clear hfz166_2
            try clear hfz166_3
            try clear hfz171_0
            try clear hfz171_1
            try clear hfz171_2
            try clear hfz171_3
            try clear hfz171_4
            try clear hfz171_5
            try clear hfz174_0
            try clear hfz174_1
            try clear hfz174_2
            try clear hfz174_3
            try clear hfz174_4
            try clear hfz174_5
            try clear hfz17_0
            try clear hfz17_1
            try clear hfz17_2
            try clear hfz17_3
            try clear hfz181_0
            try clear hfz181_1
            try clear hfz181_2
            try clear hfz181_3
            try clear hfz186_0
            try clear hfz186_1
            try clear hfz186_2
            try clear hfz186_3
            try clear hfz201_0
            try clear hfz201_1
            try clear hfz201_2
            try clear hfz201_3
            try clear hfz203_0
            try clear hfz203_1
            try clear hfz203_2
            try clear hfz203_3
            try clear hfz209_0
            try clear hfz209_1
            try clear hfz209_2
            try clear hfz209_3
            try clear hfz223_0
            try clear hfz223_1
            try clear hfz223_2
            try clear hfz223_3
            try clear hfz231_0
            try clear hfz231_1
            try clear hfz231_2
            try clear hfz231_3
            try clear hfz231_4
            try clear hfz231_5
            try clear hfz244_0
            try clear hfz244_1
            try clear hfz244_2
            try clear hfz244_3
            try clear hfz251_0
            try clear hfz251_1
            try clear hfz251_2
            try clear hfz251_3
            try clear hfz258_0
            try clear hfz258_1
            try clear hfz258_2
            try clear hfz258_3
            try clear hfz258_4
            try clear hfz258_5
            try clear hfz263_0
            try clear hfz263_1
            try clear hfz263_2
            try clear hfz263_3
            try clear hfz263_4
            try clear hfz263_5
            try clear hfz26_0
            try clear hfz26_1
            try clear hfz26_2
            try clear hfz26_3
            try clear hfz272_0
            try clear hfz272_1
            try clear hfz272_2
            try clear hfz272_3
            try clear hfz279_0
            try clear hfz279_1
            try clear hfz279_2
            try clear hfz279_3
            try clear hfz286_0
            try clear hfz286_1
            try clear hfz286_2
            try clear hfz286_3
            try clear hfz286_4
            try clear hfz286_5
            try clear hfz291_0
            try clear hfz291_1
            try clear hfz291_2
            try clear hfz291_3
            try clear hfz291_4
            try clear hfz291_5
            try clear hfz29_0
            try clear hfz29_1
            try clear hfz29_2
            try clear hfz29_3
            try clear hfz29_4
            try clear hfz29_5
            try clear hfz300_0
            try clear hfz300_1
            try clear hfz300_2
            try clear hfz300_3
            try clear hfz307_0
            try clear hfz307_1
            try clear hfz307_2
            try clear hfz307_3
            try clear hfz31_0
            try clear hfz31_1
            try clear hfz31_2
            try clear hfz31_3
            try clear hfz38_0
            try clear hfz38_1
            try clear hfz38_2
            try clear hfz38_3
            try clear hfz40_0
            try clear hfz40_1
            try clear hfz40_2
            try clear hfz40_3
            try clear hfz50_0
            try clear hfz50_1
            try clear hfz50_2
            try clear hfz50_3
            try clear hfz56_0
            try clear hfz56_1
            try clear hfz56_2
            try clear hfz56_3
            try clear hfz56_4
            try clear hfz56_5
            try clear hfz67_0
            try clear hfz67_1
            try clear hfz67_2
            try clear hfz67_3
            try clear hfz72_0
            try clear hfz72_1
            try clear hfz72_2
            try clear hfz72_3
            try clear hfz77_0
            try clear hfz77_1
            try clear hfz77_2
            try clear hfz77_3
            try clear hfz77_4
            try clear hfz77_5
            try clear hfz7_0
            try clear hfz7_1
            try clear hfz7_2
            try clear hfz7_3
            try clear hfz80_0
            try clear hfz80_1
            try clear hfz80_2
            try clear hfz80_3
            try clear hfz80_4
            try clear hfz80_5
            try clear hfz87_0
            try clear hfz87_1
            try clear hfz87_2
            try clear hfz87_3
            try clear hfz92_0
            try clear hfz92_1
            try clear hfz92_2
            try clear hfz92_3
            try clear hfz97_0
            try clear hfz97_1
            try clear hfz97_2
            try clear hfz97_3
            try clear hfz97_4
            try clear hfz97_5
            obtain ⟨kq, x121_194, rfl, HA, HJ194, HO_302000, HO_310000, HO_324000, HO_361000, BK280, BK301, BK302, BK309, BK323, BK324, BK360, BK361, HB⟩ := hcut
            have hl324000_194 := (Kd.R_reads' HO_324000.out).1
            rw [hl324000_194] at HO_324000
            (try simp only [hl324000_194])
            (try simp only [hl324000_194] at BK280)
            (try simp only [hl324000_194] at BK301)
            (try simp only [hl324000_194] at BK302)
            (try simp only [hl324000_194] at BK309)
            (try simp only [hl324000_194] at BK323)
            (try simp only [hl324000_194] at BK324)
            (try simp only [hl324000_194] at BK360)
            (try simp only [hl324000_194] at BK361)
            (try simp only [hl324000_194] at HO_302000)
            (try simp only [hl324000_194] at HO_310000)
            (try simp only [hl324000_194] at HO_361000)
            cases kq with
            | zero => exact absurd HA.out (by simp [laws_FnExactTakeClosed.j2])
            | succ kj194 =>
             have H := HA.out
             clear HA
             simp only [laws_FnExactTakeClosed.j2] at H
             by_cases c309 : x121_194 = true
             ·
              subst c309
              have H1 : (some false) = some r := by rw [if_pos rfl] at H; exact H
              clear H
              have H := H1
              clear H1
              exact absurd ((Option.some.inj H).trans hT.out) (by decide)
             ·
              replace c309 := Bool.eq_false_iff.mpr c309
              subst c309
              have H1 : ((laws_heldShard.f kj194 t339 t313 t314 t315 1).bind fun t364 => (if t364 < 0 then (some false) else (if t364 = t338 then (some true) else (some false)))) = some r := by rw [if_neg (show ¬ (false = true) by decide)] at H; exact H
              clear H
              have H := H1
              clear H1
              replace H := Option.bind_eq_some_iff.mp H
              obtain ⟨t364, A3100, H⟩ := H
              replace H : (if t364 < 0 then (some false) else (if t364 = t338 then (some true) else (some false))) = some r := H
              have A310 := Aside0.mk A3100
              clear A3100
              by_cases c311 : t364 < 0
              ·
               rw [if_pos c311] at H
               have c311b0 : decide (t364 < 0) = true := decide_eq_true c311
               clear c311
               exact absurd ((Option.some.inj H).trans hT.out) (by decide)
              ·
               rw [if_neg c311] at H
               have c311b0 : decide (t364 < 0) = false := decide_eq_false c311
               clear c311
               by_cases c312 : t364 = t338
               ·
                rw [if_pos c312] at H
                have c312b0 : (t364 == t338) = true := beq_iff_eq.mpr c312
                have c312b1 : (t364 != t338) = false := bne_eq_false_iff_eq.mpr c312
                clear c312
                obtain rfl := Option.some.inj H
                have hnb313 := NB323_280.out
                have hnc313 := NB280_323.out
                have hnb314 := NB323_301.out
                have hnc314 := NB301_323.out
                have hnb315 := NB323_302.out
                have hnc315 := NB302_323.out
                have hnb316 := NB323_309.out
                have hnc316 := NB309_323.out
                have hnb317 := NB323_324.out
                have hnc317 := NB324_323.out
                have hnb318 := NB323_360.out
                have hnc318 := NB360_323.out
                have hnb319 := NB323_361.out
                have hnc319 := NB361_323.out
                have hcz320_0 := cb_ BK323.out 0 rfl
                have hcz320_1 := cb_ BK323.out 1 rfl
                have hcz320_2 := cb_ BK323.out 2 rfl
                have hcz320_3 := cb_ BK323.out 3 rfl
                have hfz320_0 := blk_frozen BK323.out 0
                have hfz320_1 := blk_frozen BK323.out 1
                have hfz320_2 := blk_frozen BK323.out 2
                have hfz320_3 := blk_frozen BK323.out 3
                go_wp2_with (first | ((with_reducible refine gate_callee (f := 30) rfl ?_); refine goesL_ (some 124) rfl rfl Try.func30 (by kernel_rfl) rfl #[.agg #[.slice Ao44 t339.length co44, .int .i64 t313, .int .i64 t314, .int .i64 t315], .int .i64 1] rfl ul_ ?_; (with_reducible refine (laws_heldShard.calls kj194 _ _ t339 t313 t314 t315 1 t364 _ ?side1 ?side2 A310.out).mono ?_); (case side1 => repeat (first | exact (Kd.R_reads' HO_324000.out).2.2 | (with_reducible refine Kd.C_alloc ?_ _) | (with_reducible refine Kd.C_drewN ?_ _) | (with_reducible refine Kd.C_drew ?_))); (case side2 => exact (Kd.R_reads' HO_324000.out).2.1); rintro e w321 ⟨rfl, hb⟩; refine ⟨_, rfl, ?_⟩; have n0_ := am_ (Kd.Q_below (by (with_reducible repeat (first | apply Kd.Q_alloc | apply Kd.Q_drewN | apply Kd.Q_drew)); exact HO_302000.out) hb); have n1_ := am_ (Kd.R_below (ur_ HO_310000.out) hb); have n2_ := am_ (Kd.R_below (ur_ HO_324000.out) hb); have n3_ := am_ (Kd.R_below (ur_ HO_361000.out) hb); have n4_ := am_ (bb_ BK280.out hb); have n5_ := am_ (bb_ BK301.out hb); have n6_ := am_ (bb_ BK302.out hb); have n7_ := am_ (bb_ BK309.out hb); have n8_ := am_ (bb_ BK323.out hb); have n9_ := am_ (bb_ BK324.out hb); have n10_ := am_ (bb_ BK360.out hb); have n11_ := am_ (bb_ BK361.out hb); have n12_ := am_ (below_step (ue_ HB.out) hb); clear HO_302000 HO_310000 HO_324000 HO_361000 BK280 BK301 BK302 BK309 BK323 BK324 BK360 BK361 HB; have HO_302000 := n0_; have HO_310000 := n1_; have HO_324000 := n2_; have HO_361000 := n3_; have BK280 := n4_; have BK301 := n5_; have BK302 := n6_; have BK309 := n7_; have BK323 := n8_; have BK324 := n9_; have BK360 := n10_; have BK361 := n11_; have HB := n12_; clear n0_ n1_ n2_ n3_ n4_ n5_ n6_ n7_ n8_ n9_ n10_ n11_ n12_; (try clear hb); (try clear hb2); (try clear hk); (try clear hi)))
                go_ret
                exact ⟨ew_, ue_ HB.out⟩
               ·
                rw [if_neg c312] at H
                have c312b0 : (t364 == t338) = false := beq_eq_false_iff_ne.mpr c312
                have c312b1 : (t364 != t338) = true := bne_iff_ne.mpr c312
                exact absurd ((Option.some.inj H).trans hT.out) (by decide)
          ·
           rw [if_neg c192] at H
           have c192b0 : (t340 == t338) = false := beq_eq_false_iff_ne.mpr c192
           have c192b1 : (t340 != t338) = true := bne_iff_ne.mpr c192
           exact absurd ((Option.some.inj H).trans hT.out) (by decide)
     ·
      replace c117 := Bool.eq_false_iff.mpr c117
      subst c117
      have H1 : (some false) = some r := by rw [if_neg (show ¬ (false = true) by decide)] at H; exact H
      clear H
      have H := H1
      clear H1
      exact absurd ((Option.some.inj H).trans hT.out) (by decide)

end Go.Proofs.Ytcflalomjehiiaa.QFnExactTakeClosed
