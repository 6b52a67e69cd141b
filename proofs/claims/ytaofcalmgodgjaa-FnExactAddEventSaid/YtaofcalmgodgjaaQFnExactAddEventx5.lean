/- The machine side of a law: Lean functions with the Go functions' answers and the walks that show it. No condition. -/
import Derived.Test.YtaofcalmgodgjaaQFnExactAddEventx0
import Derived.Test.YtaofcalmgodgjaaQFnExactAddEventx2
import Derived.Test.YtaofcalmgodgjaaQFnExactAddEventx3
import Derived.Test.YtaofcalmgodgjaaQFnExactAddEventx4
namespace Go.Proofs.Ytaofcalmgodgjaa.QFnExactAddEvent
open Go.RowKit Go.Proofs.YtaofcalmgodgjaaW.PrintWords Go.Proofs.YtaofcalmgodgjaaW.PrintLast Go.Proofs.YtaofcalmgodgjaaW.PrintMore
attribute [local go_sem] max2_int min2_int max_two min_two max_three min_three max_four min_four   -- for this text's walks alone
set_option linter.unusedVariables false
set_option linter.unusedSimpArgs false

/-! ### spec_AddEvent: function 6 -/
mutual
def spec_AddEvent.j0 : Nat → Int → Int → Bool → List (S62) → Int → Int → Int → Int → Int → Int → Int → List (S62) → Int → Int → Int → Option ((List (S62)) × Int × Int × Int × Int)
 | 0, _, _, _, _, _, _, _, _, _, _, _, _, _, _, _ => none
 | k + 1, x1, x2, x40, x146000, x146001, x146002, x146003, x147000, x147001, x147002, x147003, x155000, x155001, x155002, x155003 => if x40 = true then (some (x155000, x155001, x155002, x155003, 3)) else ((spec_WindowOf.f x147002 x1).bind fun t159 => ((spec_WindowEnd.f t159 x1).bind fun t161 => (if t161 ≤ x146001 then ((spec_l05Cap.f (wrap64 (x146002 + 1))).bind fun t162 => (some (x155000, x155001, t162, x155003, 1))) else (spec_AddEvent.l0 k x2 0 x146000 x146001 x146002 x146003 x155000 x155001 x155002 x155003 t159 x147001 1 x147003 x147003 x147003))))
def spec_AddEvent.l0 : Nat → Int → Int → List (S62) → Int → Int → Int → List (S62) → Int → Int → Int → Int → Int → Int → Int → Int → Int → Option ((List (S62)) × Int × Int × Int × Int)
 | 0, _, _, _, _, _, _, _, _, _, _, _, _, _, _, _, _ => none
 | k + 1, x2, x12, x146000, x146001, x146002, x146003, x155000, x155001, x155002, x155003, x161000, x161001, x161002, x161003, x161004, x161005 => if x12 < (x146000.length : Int) then (if 0 ≤ x12 then (if ((rd_T62 x146000 x12).f0) = x161000 then (if ((rd_T62 x146000 x12).f1) = x161001 then ((spec_l05Sum.f ((rd_T62 x146000 x12).f0) ((rd_T62 x146000 x12).f1) ((rd_T62 x146000 x12).f2) ((rd_T62 x146000 x12).f3) ((rd_T62 x146000 x12).f4) ((rd_T62 x146000 x12).f5) x161000 x161001 x161002 x161003 x161004 x161005).bind fun bt166 => (if x12 < (x155000.length : Int) then (some ((x155000.set (x12 : Int).toNat (⟨bt166.1, bt166.2.1, bt166.2.2.1, bt166.2.2.2.1, bt166.2.2.2.2.1, bt166.2.2.2.2.2⟩ : S62)), x155001, x155002, x155003, 0)) else (none))) else (spec_AddEvent.l0 k x2 (wrap64 (x12 + 1)) x146000 x146001 x146002 x146003 x155000 x155001 x155002 x155003 x161000 x161001 x161002 x161003 x161004 x161005)) else (spec_AddEvent.l0 k x2 (wrap64 (x12 + 1)) x146000 x146001 x146002 x146003 x155000 x155001 x155002 x155003 x161000 x161001 x161002 x161003 x161004 x161005)) else (none)) else (if (x146000.length : Int) ≥ x2 then ((spec_l05Cap.f (wrap64 (x146003 + 1))).bind fun t173 => (some (x155000, x155001, x155002, t173, 2))) else (spec_AddEvent.l1 k (([] : List (S62))) false 0 x146000 x146001 x146002 x146003 x155000 x155001 x155002 x155003 x161000 x161001 x161002 x161003 x161004 x161005))
def spec_AddEvent.l1 : Nat → List (S62) → Bool → Int → List (S62) → Int → Int → Int → List (S62) → Int → Int → Int → Int → Int → Int → Int → Int → Int → Option ((List (S62)) × Int × Int × Int × Int)
 | 0, _, _, _, _, _, _, _, _, _, _, _, _, _, _, _, _, _ => none
 | k + 1, x13, x14, x15, x146000, x146001, x146002, x146003, x155000, x155001, x155002, x155003, x161000, x161001, x161002, x161003, x161004, x161005 => if x15 < (x146000.length : Int) then (if x14 = true then (if 0 ≤ x15 then (if x13.length < 2932031007402 then (spec_AddEvent.l1 k (x13 ++ [(⟨(rd_T62 x146000 x15).f0, (rd_T62 x146000 x15).f1, (rd_T62 x146000 x15).f2, (rd_T62 x146000 x15).f3, (rd_T62 x146000 x15).f4, (rd_T62 x146000 x15).f5⟩ : S62)]) x14 (wrap64 (x15 + 1)) x146000 x146001 x146002 x146003 x155000 x155001 x155002 x155003 x161000 x161001 x161002 x161003 x161004 x161005) else (none)) else (none)) else (if 0 ≤ x15 then ((spec_l05Ahead.f x161000 x161001 x161002 x161003 x161004 x161005 ((rd_T62 x146000 x15).f0) ((rd_T62 x146000 x15).f1) ((rd_T62 x146000 x15).f2) ((rd_T62 x146000 x15).f3) ((rd_T62 x146000 x15).f4) ((rd_T62 x146000 x15).f5)).bind fun t182 => (if t182 = true then (if x13.length < 2932031007402 then ((some (x13 ++ [(⟨x161000, x161001, x161002, x161003, x161004, x161005⟩ : S62)] : List (S62))).bind fun y183 => (if y183.length < 2932031007402 then (spec_AddEvent.l1 k (y183 ++ [(⟨(rd_T62 x146000 x15).f0, (rd_T62 x146000 x15).f1, (rd_T62 x146000 x15).f2, (rd_T62 x146000 x15).f3, (rd_T62 x146000 x15).f4, (rd_T62 x146000 x15).f5⟩ : S62)]) true (wrap64 (x15 + 1)) x146000 x146001 x146002 x146003 x155000 x155001 x155002 x155003 x161000 x161001 x161002 x161003 x161004 x161005) else (none))) else (none)) else (if x13.length < 2932031007402 then (spec_AddEvent.l1 k (x13 ++ [(⟨(rd_T62 x146000 x15).f0, (rd_T62 x146000 x15).f1, (rd_T62 x146000 x15).f2, (rd_T62 x146000 x15).f3, (rd_T62 x146000 x15).f4, (rd_T62 x146000 x15).f5⟩ : S62)]) x14 (wrap64 (x15 + 1)) x146000 x146001 x146002 x146003 x155000 x155001 x155002 x155003 x161000 x161001 x161002 x161003 x161004 x161005) else (none)))) else (none))) else (if x14 = true then (some (x13, x155001, x155002, x155003, 0)) else (if x13.length < 2932031007402 then (some ((x13 ++ [(⟨x161000, x161001, x161002, x161003, x161004, x161005⟩ : S62)]), x155001, x155002, x155003, 0)) else (none)))
end
def spec_AddEvent.f (k : Nat) (l0_0 : List (S62)) (a0_1 : Int) (a0_2 : Int) (a0_3 : Int) (a1 : Int) (a2 : Int) (a3_0 : Int) (a3_1 : Int) (a3_2 : Int) (a3_3 : Int) : Option ((List (S62)) × Int × Int × Int × Int) := (spec_l05Copy.f k l0_0 a0_1 a0_2 a0_3).bind fun bt148 => ((spec_ShardOk.f k l0_0 a0_1 a0_2 a0_3).bind fun t155 => (if t155 = true then ((spec_l01In.f a1 1 1000000).bind fun t156 => (if t156 = true then ((spec_l01In.f a2 1 40).bind fun t157 => (if t157 = true then (if a3_0 = 1 then ((spec_FrameOk.f a3_0 a3_1 a3_2 a3_3).bind fun t158 => (spec_AddEvent.j0 k a1 a2 (!t158) l0_0 a0_1 a0_2 a0_3 a3_0 a3_1 a3_2 a3_3 bt148.1 bt148.2.1 bt148.2.2.1 bt148.2.2.2)) else (spec_AddEvent.j0 k a1 a2 true l0_0 a0_1 a0_2 a0_3 a3_0 a3_1 a3_2 a3_3 bt148.1 bt148.2.1 bt148.2.2.1 bt148.2.2.2)) else (spec_AddEvent.j0 k a1 a2 true l0_0 a0_1 a0_2 a0_3 a3_0 a3_1 a3_2 a3_3 bt148.1 bt148.2.1 bt148.2.2.1 bt148.2.2.2))) else (spec_AddEvent.j0 k a1 a2 true l0_0 a0_1 a0_2 a0_3 a3_0 a3_1 a3_2 a3_3 bt148.1 bt148.2.1 bt148.2.2.1 bt148.2.2.2))) else (spec_AddEvent.j0 k a1 a2 true l0_0 a0_1 a0_2 a0_3 a3_0 a3_1 a3_2 a3_3 bt148.1 bt148.2.1 bt148.2.2.1 bt148.2.2.2)))
theorem spec_AddEvent.mono_l : ∀ k, (∀ y0 y1 y2 y3 y4 y5 y6 y7 y8 y9 y10 y11 y12 y13 y14, LeO (spec_AddEvent.j0 k y0 y1 y2 y3 y4 y5 y6 y7 y8 y9 y10 y11 y12 y13 y14) (spec_AddEvent.j0 (k + 1) y0 y1 y2 y3 y4 y5 y6 y7 y8 y9 y10 y11 y12 y13 y14)) ∧ (∀ y0 y1 y2 y3 y4 y5 y6 y7 y8 y9 y10 y11 y12 y13 y14 y15, LeO (spec_AddEvent.l0 k y0 y1 y2 y3 y4 y5 y6 y7 y8 y9 y10 y11 y12 y13 y14 y15) (spec_AddEvent.l0 (k + 1) y0 y1 y2 y3 y4 y5 y6 y7 y8 y9 y10 y11 y12 y13 y14 y15)) ∧ (∀ y0 y1 y2 y3 y4 y5 y6 y7 y8 y9 y10 y11 y12 y13 y14 y15 y16, LeO (spec_AddEvent.l1 k y0 y1 y2 y3 y4 y5 y6 y7 y8 y9 y10 y11 y12 y13 y14 y15 y16) (spec_AddEvent.l1 (k + 1) y0 y1 y2 y3 y4 y5 y6 y7 y8 y9 y10 y11 y12 y13 y14 y15 y16))
 | 0 => ⟨fun _ _ _ _ _ _ _ _ _ _ _ _ _ _ _ r h => by simp [spec_AddEvent.j0] at h, fun _ _ _ _ _ _ _ _ _ _ _ _ _ _ _ _ r h => by simp [spec_AddEvent.l0] at h, fun _ _ _ _ _ _ _ _ _ _ _ _ _ _ _ _ _ r h => by simp [spec_AddEvent.l1] at h⟩
 | k + 1 => by
  obtain ⟨ih0, ih1, ih2⟩ := spec_AddEvent.mono_l k
  refine ⟨?_, ?_, ?_⟩
  ·
   intro y0 y1 y2 y3 y4 y5 y6 y7 y8 y9 y10 y11 y12 y13 y14
   unfold spec_AddEvent.j0
   repeat' first
   | (with_reducible exact ih0 _ _ _ _ _ _ _ _ _ _ _ _ _ _ _)
   | (with_reducible exact ih1 _ _ _ _ _ _ _ _ _ _ _ _ _ _ _ _)
   | (with_reducible exact ih2 _ _ _ _ _ _ _ _ _ _ _ _ _ _ _ _ _)
   | (with_reducible exact spec_ShardOk.mono _ _ _ _ _)
   | (with_reducible exact spec_l05Copy.mono _ _ _ _ _)
   | (with_reducible exact LeO.refl _)
   | (with_reducible exact LeO.none _)
   | (with_reducible refine LeO.ite ?_ ?_)
   | (with_reducible refine LeO.bind ?_ (fun _ => ?_))
   | exact ih0 _ _ _ _ _ _ _ _ _ _ _ _ _ _ _
   | exact ih1 _ _ _ _ _ _ _ _ _ _ _ _ _ _ _ _
   | exact ih2 _ _ _ _ _ _ _ _ _ _ _ _ _ _ _ _ _
   | exact spec_ShardOk.mono _ _ _ _ _
   | exact spec_l05Copy.mono _ _ _ _ _
   | exact LeO.none _
   | refine LeO.ite ?_ ?_
   | refine LeO.bind ?_ (fun _ => ?_)
  ·
   intro y0 y1 y2 y3 y4 y5 y6 y7 y8 y9 y10 y11 y12 y13 y14 y15
   unfold spec_AddEvent.l0
   repeat' first
   | (with_reducible exact ih0 _ _ _ _ _ _ _ _ _ _ _ _ _ _ _)
   | (with_reducible exact ih1 _ _ _ _ _ _ _ _ _ _ _ _ _ _ _ _)
   | (with_reducible exact ih2 _ _ _ _ _ _ _ _ _ _ _ _ _ _ _ _ _)
   | (with_reducible exact spec_ShardOk.mono _ _ _ _ _)
   | (with_reducible exact spec_l05Copy.mono _ _ _ _ _)
   | (with_reducible exact LeO.refl _)
   | (with_reducible exact LeO.none _)
   | (with_reducible refine LeO.ite ?_ ?_)
   | (with_reducible refine LeO.bind ?_ (fun _ => ?_))
   | exact ih0 _ _ _ _ _ _ _ _ _ _ _ _ _ _ _
   | exact ih1 _ _ _ _ _ _ _ _ _ _ _ _ _ _ _ _
   | exact ih2 _ _ _ _ _ _ _ _ _ _ _ _ _ _ _ _ _
   | exact spec_ShardOk.mono _ _ _ _ _
   | exact spec_l05Copy.mono _ _ _ _ _
   | exact LeO.none _
   | refine LeO.ite ?_ ?_
   | refine LeO.bind ?_ (fun _ => ?_)
  intro y0 y1 y2 y3 y4 y5 y6 y7 y8 y9 y10 y11 y12 y13 y14 y15 y16
  unfold spec_AddEvent.l1
  repeat' first
  | (with_reducible exact ih0 _ _ _ _ _ _ _ _ _ _ _ _ _ _ _)
  | (with_reducible exact ih1 _ _ _ _ _ _ _ _ _ _ _ _ _ _ _ _)
  | (with_reducible exact ih2 _ _ _ _ _ _ _ _ _ _ _ _ _ _ _ _ _)
  | (with_reducible exact spec_ShardOk.mono _ _ _ _ _)
  | (with_reducible exact spec_l05Copy.mono _ _ _ _ _)
  | (with_reducible exact LeO.refl _)
  | (with_reducible exact LeO.none _)
  | (with_reducible refine LeO.ite ?_ ?_)
  | (with_reducible refine LeO.bind ?_ (fun _ => ?_))
  | exact ih0 _ _ _ _ _ _ _ _ _ _ _ _ _ _ _
  | exact ih1 _ _ _ _ _ _ _ _ _ _ _ _ _ _ _ _
  | exact ih2 _ _ _ _ _ _ _ _ _ _ _ _ _ _ _ _ _
  | exact spec_ShardOk.mono _ _ _ _ _
  | exact spec_l05Copy.mono _ _ _ _ _
  | exact LeO.none _
  | refine LeO.ite ?_ ?_
  | refine LeO.bind ?_ (fun _ => ?_)
theorem spec_AddEvent.mono : ∀ a0 a1 a2 a3 a4 a5 a6 a7 a8 a9 k, LeO (spec_AddEvent.f k a0 a1 a2 a3 a4 a5 a6 a7 a8 a9) (spec_AddEvent.f (k + 1) a0 a1 a2 a3 a4 a5 a6 a7 a8 a9) := by
 intro a0 a1 a2 a3 a4 a5 a6 a7 a8 a9 k
 obtain ⟨ih0, ih1, ih2⟩ := spec_AddEvent.mono_l k
 unfold spec_AddEvent.f
 repeat' first
   | (with_reducible exact ih0 _ _ _ _ _ _ _ _ _ _ _ _ _ _ _)
   | (with_reducible exact ih1 _ _ _ _ _ _ _ _ _ _ _ _ _ _ _ _)
   | (with_reducible exact ih2 _ _ _ _ _ _ _ _ _ _ _ _ _ _ _ _ _)
   | (with_reducible exact spec_ShardOk.mono _ _ _ _ _)
   | (with_reducible exact spec_l05Copy.mono _ _ _ _ _)
   | (with_reducible exact LeO.refl _)
   | (with_reducible exact LeO.none _)
   | (with_reducible refine LeO.ite ?_ ?_)
   | (with_reducible refine LeO.bind ?_ (fun _ => ?_))
   | exact ih0 _ _ _ _ _ _ _ _ _ _ _ _ _ _ _
   | exact ih1 _ _ _ _ _ _ _ _ _ _ _ _ _ _ _ _
   | exact ih2 _ _ _ _ _ _ _ _ _ _ _ _ _ _ _ _ _
   | exact spec_ShardOk.mono _ _ _ _ _
   | exact spec_l05Copy.mono _ _ _ _ _
   | exact LeO.none _
   | refine LeO.ite ?_ ?_
   | refine LeO.bind ?_ (fun _ => ?_)
def spec_AddEvent.T4 : Bool × List (List Nat × List Nat) := (true, [([], []), ([0], [0]), ([], []), ([1, 2], [1, 2]), ([], []), ([4], [4]), ([], []), ([6], [6]), ([], []), ([8], [8]), ([], []), ([10], [10]), ([3, 5, 7, 9, 11], [3, 5, 7, 9, 11]), ([], []), ([13, 12, 3, 0, 1, 2, 3, 4, 5, 6, 7, 8, 9, 10, 11, 12, 13], [12, 13])])
def spec_AddEvent.B4 : List Nat := [0, 1, 0, 7, 0, 16, 0, 64, 0, 256, 0, 1024, 4095, 0, 16383]
theorem spec_AddEvent.tab4 : rtab .any (opsOf Try.f6 4) = spec_AddEvent.T4 := by kernel_rfl
theorem spec_AddEvent.bits4 : waitsOk spec_AddEvent.T4.2 spec_AddEvent.B4 = true := by kernel_rfl
def spec_AddEvent.T11 : Bool × List (List Nat × List Nat) := (true, [([], []), ([0], [0]), ([], []), ([1, 2], [1, 2]), ([3], [3]), ([4], [4]), ([], []), ([6], [6]), ([5, 7], [5, 7]), ([8], [8]), ([9], [9]), ([10, 9], [9, 10]), ([9], [9]), ([11, 12, 9], [9, 11, 12]), ([13, 9], [9, 13]), ([14, 9], [9, 14]), ([9], [9]), ([16, 9], [9, 16]), ([15, 17, 9], [9, 15, 17]), ([9, 18], [9, 18])])
def spec_AddEvent.B11 : List Nat := [0, 1, 0, 7, 15, 31, 0, 64, 255, 511, 1023, 2047, 1023, 8191, 16383, 32767, 1023, 66559, 262143, 524287]
theorem spec_AddEvent.tab11 : rtab .any (opsOf Try.f6 11) = spec_AddEvent.T11 := by kernel_rfl
theorem spec_AddEvent.bits11 : waitsOk spec_AddEvent.T11.2 spec_AddEvent.B11 = true := by kernel_rfl
def spec_AddEvent.T12 : Bool × List (List Nat × List Nat) := (true, [([], []), ([0], [0]), ([], []), ([], []), ([3], [3]), ([], []), ([4, 5], [4, 5]), ([6], [6]), ([], []), ([7, 8], [7, 8]), ([1, 2, 0, 1, 2, 3, 4, 5, 6, 7, 8, 9], [1, 2]), ([10, 9, 9, 0, 1, 2, 3, 4, 5, 6, 7, 8, 9], [9, 10])])
def spec_AddEvent.B12 : List Nat := [0, 1, 0, 0, 8, 0, 56, 120, 0, 504, 1023, 2047]
theorem spec_AddEvent.tab12 : rtab .any (opsOf Try.f6 12) = spec_AddEvent.T12 := by kernel_rfl
theorem spec_AddEvent.bits12 : waitsOk spec_AddEvent.T12.2 spec_AddEvent.B12 = true := by kernel_rfl
def spec_AddEvent.T22 : Bool × List (List Nat × List Nat) := (true, [([], []), ([0], [0]), ([1], [1]), ([2], [2]), ([2], [2]), ([4, 2], [2, 4]), ([2], [2]), ([5, 6, 2], [2, 5, 6]), ([7, 2], [2, 7]), ([3, 8, 2, 2], [2, 3, 8]), ([2, 9], [2, 9])])
def spec_AddEvent.B22 : List Nat := [0, 1, 3, 7, 7, 23, 7, 119, 247, 511, 1023]
theorem spec_AddEvent.tab22 : rtab .any (opsOf Try.f6 22) = spec_AddEvent.T22 := by kernel_rfl
theorem spec_AddEvent.bits22 : waitsOk spec_AddEvent.T22.2 spec_AddEvent.B22 = true := by kernel_rfl
set_option maxHeartbeats 8000000 in
set_option maxRecDepth 100000 in
theorem spec_AddEvent.calls (k : Nat) (A0_0 : Option Addr) (c0_0 : Nat) (l0_0 : List (S62)) (a0_1 : Int) (a0_2 : Int) (a0_3 : Int) (a1 : Int) (a2 : Int) (a3_0 : Int) (a3_1 : Int) (a3_2 : Int) (a3_3 : Int) (r1 : List (S62)) (r2 : Int) (r3 : Int) (r4 : Int) (r5 : Int) (w : World) (hr0_0 : Kd.C k62 w A0_0 l0_0.length l0_0) (hc0_0 : l0_0.length ≤ c0_0) (h : spec_AddEvent.f k l0_0 a0_1 a0_2 a0_3 a1 a2 a3_0 a3_1 a3_2 a3_3 = some (r1, r2, r3, r4, r5)) :
  Calls Try.prog 6 #[.agg #[.slice A0_0 l0_0.length c0_0, .int .i64 a0_1, .int .i64 a0_2, .int .i64 a0_3], .int .i64 a1, .int .i64 a2, .agg #[.int .i64 a3_0, .int .i64 a3_1, .int .i64 a3_2, .int .i64 a3_3]] w fun e w' => ∃ v0_ : Value, e = .returned (.tuple #[.agg #[v0_, .int .i64 r2, .int .i64 r3, .int .i64 r4], .int .i64 r5]) ∧ Kd.R k62 62 w' w.heap.size (fun _ => True) v0_ r1 ∧ Below w.heap.size w w' := by
 have hu30 := Try.underlying30
 have hu34 := Try.underlying34
 have hu62 := Try.underlying62
 have HR0_0 := Aside0.mk hr0_0
 have HC0_0 := Aside0.mk hc0_0
 clear hr0_0 hc0_0
 have HB := am_ (Below.refl w.heap.size w)
 have H : ((spec_l05Copy.f k l0_0 a0_1 a0_2 a0_3).bind fun bt148 => ((spec_ShardOk.f k l0_0 a0_1 a0_2 a0_3).bind fun t155 => (if t155 = true then ((spec_l01In.f a1 1 1000000).bind fun t156 => (if t156 = true then ((spec_l01In.f a2 1 40).bind fun t157 => (if t157 = true then (if a3_0 = 1 then ((spec_FrameOk.f a3_0 a3_1 a3_2 a3_3).bind fun t158 => (spec_AddEvent.j0 k a1 a2 (!t158) l0_0 a0_1 a0_2 a0_3 a3_0 a3_1 a3_2 a3_3 bt148.1 bt148.2.1 bt148.2.2.1 bt148.2.2.2)) else (spec_AddEvent.j0 k a1 a2 true l0_0 a0_1 a0_2 a0_3 a3_0 a3_1 a3_2 a3_3 bt148.1 bt148.2.1 bt148.2.2.1 bt148.2.2.2)) else (spec_AddEvent.j0 k a1 a2 true l0_0 a0_1 a0_2 a0_3 a3_0 a3_1 a3_2 a3_3 bt148.1 bt148.2.1 bt148.2.2.1 bt148.2.2.2))) else (spec_AddEvent.j0 k a1 a2 true l0_0 a0_1 a0_2 a0_3 a3_0 a3_1 a3_2 a3_3 bt148.1 bt148.2.1 bt148.2.2.1 bt148.2.2.2))) else (spec_AddEvent.j0 k a1 a2 true l0_0 a0_1 a0_2 a0_3 a3_0 a3_1 a3_2 a3_3 bt148.1 bt148.2.1 bt148.2.2.1 bt148.2.2.2)))) = some (r1, r2, r3, r4, r5) := h
 clear h
 replace H := Option.bind_eq_some_iff.mp H
 obtain ⟨⟨t148, t151, t152, t153⟩, A50, H⟩ := H
 replace H : ((spec_ShardOk.f k l0_0 a0_1 a0_2 a0_3).bind fun t155 => (if t155 = true then ((spec_l01In.f a1 1 1000000).bind fun t156 => (if t156 = true then ((spec_l01In.f a2 1 40).bind fun t157 => (if t157 = true then (if a3_0 = 1 then ((spec_FrameOk.f a3_0 a3_1 a3_2 a3_3).bind fun t158 => (spec_AddEvent.j0 k a1 a2 (!t158) l0_0 a0_1 a0_2 a0_3 a3_0 a3_1 a3_2 a3_3 t148 t151 t152 t153)) else (spec_AddEvent.j0 k a1 a2 true l0_0 a0_1 a0_2 a0_3 a3_0 a3_1 a3_2 a3_3 t148 t151 t152 t153)) else (spec_AddEvent.j0 k a1 a2 true l0_0 a0_1 a0_2 a0_3 a3_0 a3_1 a3_2 a3_3 t148 t151 t152 t153))) else (spec_AddEvent.j0 k a1 a2 true l0_0 a0_1 a0_2 a0_3 a3_0 a3_1 a3_2 a3_3 t148 t151 t152 t153))) else (spec_AddEvent.j0 k a1 a2 true l0_0 a0_1 a0_2 a0_3 a3_0 a3_1 a3_2 a3_3 t148 t151 t152 t153))) = some (r1, r2, r3, r4, r5) := H
 have A5 := Aside0.mk A50
 clear A50
 have HC6 := Aside0.mk H
 clear H
 go_enter Try.func6, Try.ntmps6
 go_upto_region 2 with (first | ((with_reducible refine gate_dst (N := 4) rfl ?_); refine bx_ (N := 4) (cs := #[.slice A0_0 l0_0.length c0_0, .int .i64 a0_1, .int .i64 a0_2, .int .i64 a0_3]) (t := 30) ?_; intro gb145 hg w7 hbox hb; have BK145 := am_ (hbox); have GW145 := gs_ hg HB.out; have GE145 := gs_ hg HB.out; replace HB := hs_ HB hb; clear hb hbox hg) | ((with_reducible refine gate_dst (N := 7) rfl ?_); refine bx_ (N := 7) (cs := #[.int .i64 a3_0, .int .i64 a3_1, .int .i64 a3_2, .int .i64 a3_3]) (t := 34) ?_; intro gb146 hg w8 hbox hb; have BK146 := am_ (hbox); have GW146 := gs_ hg HB.out; have GE146 := gs_ hg HB.out; replace HB := hs_ HB hb; have NB145_146 := nl_ hg BK145.out; have NB146_145 := ng_ hg BK145.out; replace BK145 := bs_ BK145 hb; clear hb hbox hg) | ((with_reducible refine gate_dst (N := 8) rfl ?_); refine bx_ (N := 8) (cs := #[.slice none 0 0, .int .i64 0, .int .i64 0, .int .i64 0]) (t := 30) ?_; intro gb147 hg w9 hbox hb; have BK147 := am_ (hbox); have GW147 := gs_ hg HB.out; have GE147 := gs_ hg HB.out; replace HB := hs_ HB hb; have NB145_147 := nl_ hg BK145.out; have NB147_145 := ng_ hg BK145.out; replace BK145 := bs_ BK145 hb; have NB146_147 := nl_ hg BK146.out; have NB147_146 := ng_ hg BK146.out; replace BK146 := bs_ BK146 hb; clear hb hbox hg; have hnb10 := NB145_146.out; have hnc10 := NB146_145.out; have hnb11 := NB145_147.out; have hnc11 := NB147_145.out; obtain ⟨hcz12_0, hcz12_1, hcz12_2, hcz12_3⟩ := cb4_ BK145.out; obtain ⟨hfz12_0, hfz12_1, hfz12_2⟩ := bf3_ BK145.out; have hfz12_3 := blk_frozen BK145.out 3) | ((with_reducible refine gate_callee (f := 23) rfl ?_); refine goesL_ (some 17) rfl rfl Try.func23 (by kernel_rfl) rfl #[.agg #[.slice A0_0 l0_0.length c0_0, .int .i64 a0_1, .int .i64 a0_2, .int .i64 a0_3]] rfl ul_ ?_; (with_reducible refine (spec_l05Copy.calls k _ _ l0_0 a0_1 a0_2 a0_3 t148 t151 t152 t153 _ ?side1 ?side2 A5.out).mono ?_); (case side1 => repeat (first | exact (Kd.C_below HR0_0.out HB.out) | (with_reducible refine Kd.C_alloc ?_ _) | (with_reducible refine Kd.C_drewN ?_ _) | (with_reducible refine Kd.C_drew ?_))); (case side2 => exact HC0_0.out); rintro e w13 ⟨v149, rfl, ho0, hb⟩; refine ⟨_, rfl, ?_⟩; have HO150 := am_ (Kd.R_lower ho0 (below_size (ue_ HB.out))); replace BK145 := bs_ BK145 hb; replace BK146 := bs_ BK146 hb; replace BK147 := bs_ BK147 hb; replace HB := hs_ HB hb; (try clear hb); (try clear hb2); (try clear hk); (try clear hi); (try clear ho0)) | ((with_reducible refine gate_dst (N := 10) rfl ?_); refine bx_ (N := 10) (cs := #[.slice none 0 0, .int .i64 0, .int .i64 0, .int .i64 0]) (t := 30) ?_; intro gb154 hg w14 hbox hb; replace HO150 := am_ (Kd.R_below (ur_ HO150.out) hb); have BK154 := am_ (hbox); have GW154 := gs_ hg HB.out; have GE154 := gs_ hg HB.out; replace HB := hs_ HB hb; have NB145_154 := nl_ hg BK145.out; have NB154_145 := ng_ hg BK145.out; replace BK145 := bs_ BK145 hb; have NB146_154 := nl_ hg BK146.out; have NB154_146 := ng_ hg BK146.out; replace BK146 := bs_ BK146 hb; have NB147_154 := nl_ hg BK147.out; have NB154_147 := ng_ hg BK147.out; replace BK147 := bs_ BK147 hb; clear hb hbox hg; obtain ⟨Ao15, co15, eo15⟩ := Kd.R_slice HO150.out; subst eo15; have hnb16 := NB154_145.out; have hnc16 := NB145_154.out; have hnb17 := NB154_146.out; have hnc17 := NB146_154.out; have hnb18 := NB154_147.out; have hnc18 := NB147_154.out; obtain ⟨hcz19_0, hcz19_1, hcz19_2, hcz19_3⟩ := cb4_ BK154.out; obtain ⟨hfz19_0, hfz19_1, hfz19_2⟩ := bf3_ BK154.out; have hfz19_3 := blk_frozen BK154.out 3) | ((with_reducible refine gate_store (t := 30) (p := 10) rfl ?_); refine st_ (w1 := ((((w14.setCell ⟨gb154, 0, none⟩ (.slice Ao15 t148.length co15)).setCell ⟨gb154, 1, none⟩ (.int .i64 t151)).setCell ⟨gb154, 2, none⟩ (.int .i64 t152)).setCell ⟨gb154, 3, none⟩ (.int .i64 t153))) ?_; intro w20 hw; replace HO150 : Aside0 (Kd.R k62 62 w20 w.heap.size (fun _ => True) (.slice Ao15 t148.length co15) t148) := ⟨(by rw [hw]; exact (by (with_reducible repeat (first | apply Kd.R_alloc | apply Kd.R_drewN | apply Kd.R_drew)); exact Kd.R_mono (Rf4_ (g := gb154) (Kd.R_types HO150.out BK154.out (by decide))) (fun _ hk => trivial)))⟩; replace BK145 := uk_ hw BK145.out; replace BK146 := uk_ hw BK146.out; replace BK147 := uk_ hw BK147.out; replace BK154 : Aside0 (w20.heap[gb154]? = some (.cells #[.slice Ao15 t148.length co15, .int .i64 t151, .int .i64 t152, .int .i64 t153] 30 (0, 0))) := ⟨(by rw [hw]; exact (by (with_reducible repeat first|apply bn_|apply bd_|apply ba_); apply bp4_; (with_reducible repeat first|apply bn_|apply bd_|apply ba_); exact BK154.out))⟩; replace HB := uh_ hw HB.out; clear hw))
 (try simp only [Act.put, List.setIfInBounds_toArray, List.set_cons_zero, List.set_cons_succ])
 go_cut [40] (fun v40 wc => ∃ (kq : Nat) (x40_5 : Bool), v40 = .bool x40_5 ∧ Aside0 (spec_AddEvent.j0 kq a1 a2 x40_5 l0_0 a0_1 a0_2 a0_3 a3_0 a3_1 a3_2 a3_3 t148 t151 t152 t153 = some (r1, r2, r3, r4, r5)) ∧ Aside0 (kq ≤ k) ∧ Aside0 (Kd.R k62 62 wc w.heap.size (fun _ => True) (.slice Ao15 t148.length co15) t148) ∧ Aside0 (wc.heap[gb145]? = some (.cells #[(.slice A0_0 l0_0.length c0_0), .int .i64 a0_1, .int .i64 a0_2, .int .i64 a0_3] 30 (0, 0))) ∧ Aside0 (wc.heap[gb146]? = some (.cells #[.int .i64 a3_0, .int .i64 a3_1, .int .i64 a3_2, .int .i64 a3_3] 34 (0, 0))) ∧ Aside0 (wc.heap[gb147]? = some (.cells #[(.slice none 0 0), .int .i64 0, .int .i64 0, .int .i64 0] 30 (0, 0))) ∧ Aside0 (wc.heap[gb154]? = some (.cells #[(.slice Ao15 t148.length co15), .int .i64 t151, .int .i64 t152, .int .i64 t153] 30 (0, 0))) ∧ Aside0 (Below w.heap.size w wc))
 case first =>
  have H := HC6.out
  clear HC6
  replace H := Option.bind_eq_some_iff.mp H
  obtain ⟨t155, A210, H⟩ := H
  replace H : (if t155 = true then ((spec_l01In.f a1 1 1000000).bind fun t156 => (if t156 = true then ((spec_l01In.f a2 1 40).bind fun t157 => (if t157 = true then (if a3_0 = 1 then ((spec_FrameOk.f a3_0 a3_1 a3_2 a3_3).bind fun t158 => (spec_AddEvent.j0 k a1 a2 (!t158) l0_0 a0_1 a0_2 a0_3 a3_0 a3_1 a3_2 a3_3 t148 t151 t152 t153)) else (spec_AddEvent.j0 k a1 a2 true l0_0 a0_1 a0_2 a0_3 a3_0 a3_1 a3_2 a3_3 t148 t151 t152 t153)) else (spec_AddEvent.j0 k a1 a2 true l0_0 a0_1 a0_2 a0_3 a3_0 a3_1 a3_2 a3_3 t148 t151 t152 t153))) else (spec_AddEvent.j0 k a1 a2 true l0_0 a0_1 a0_2 a0_3 a3_0 a3_1 a3_2 a3_3 t148 t151 t152 t153))) else (spec_AddEvent.j0 k a1 a2 true l0_0 a0_1 a0_2 a0_3 a3_0 a3_1 a3_2 a3_3 t148 t151 t152 t153)) = some (r1, r2, r3, r4, r5) := H
  have A21 := Aside0.mk A210
  clear A210
  by_cases c22 : t155 = true
  ·
   subst c22
   have H1 : ((spec_l01In.f a1 1 1000000).bind fun t156 => (if t156 = true then ((spec_l01In.f a2 1 40).bind fun t157 => (if t157 = true then (if a3_0 = 1 then ((spec_FrameOk.f a3_0 a3_1 a3_2 a3_3).bind fun t158 => (spec_AddEvent.j0 k a1 a2 (!t158) l0_0 a0_1 a0_2 a0_3 a3_0 a3_1 a3_2 a3_3 t148 t151 t152 t153)) else (spec_AddEvent.j0 k a1 a2 true l0_0 a0_1 a0_2 a0_3 a3_0 a3_1 a3_2 a3_3 t148 t151 t152 t153)) else (spec_AddEvent.j0 k a1 a2 true l0_0 a0_1 a0_2 a0_3 a3_0 a3_1 a3_2 a3_3 t148 t151 t152 t153))) else (spec_AddEvent.j0 k a1 a2 true l0_0 a0_1 a0_2 a0_3 a3_0 a3_1 a3_2 a3_3 t148 t151 t152 t153))) = some (r1, r2, r3, r4, r5) := by rw [if_pos rfl] at H; exact H
   clear H
   have H := H1
   clear H1
   replace H := Option.bind_eq_some_iff.mp H
   obtain ⟨t156, A230, H⟩ := H
   replace H : (if t156 = true then ((spec_l01In.f a2 1 40).bind fun t157 => (if t157 = true then (if a3_0 = 1 then ((spec_FrameOk.f a3_0 a3_1 a3_2 a3_3).bind fun t158 => (spec_AddEvent.j0 k a1 a2 (!t158) l0_0 a0_1 a0_2 a0_3 a3_0 a3_1 a3_2 a3_3 t148 t151 t152 t153)) else (spec_AddEvent.j0 k a1 a2 true l0_0 a0_1 a0_2 a0_3 a3_0 a3_1 a3_2 a3_3 t148 t151 t152 t153)) else (spec_AddEvent.j0 k a1 a2 true l0_0 a0_1 a0_2 a0_3 a3_0 a3_1 a3_2 a3_3 t148 t151 t152 t153))) else (spec_AddEvent.j0 k a1 a2 true l0_0 a0_1 a0_2 a0_3 a3_0 a3_1 a3_2 a3_3 t148 t151 t152 t153)) = some (r1, r2, r3, r4, r5) := H
   have A23 := Aside0.mk A230
   clear A230
   by_cases c24 : t156 = true
   ·
    subst c24
    have H1 : ((spec_l01In.f a2 1 40).bind fun t157 => (if t157 = true then (if a3_0 = 1 then ((spec_FrameOk.f a3_0 a3_1 a3_2 a3_3).bind fun t158 => (spec_AddEvent.j0 k a1 a2 (!t158) l0_0 a0_1 a0_2 a0_3 a3_0 a3_1 a3_2 a3_3 t148 t151 t152 t153)) else (spec_AddEvent.j0 k a1 a2 true l0_0 a0_1 a0_2 a0_3 a3_0 a3_1 a3_2 a3_3 t148 t151 t152 t153)) else (spec_AddEvent.j0 k a1 a2 true l0_0 a0_1 a0_2 a0_3 a3_0 a3_1 a3_2 a3_3 t148 t151 t152 t153))) = some (r1, r2, r3, r4, r5) := by rw [if_pos rfl] at H; exact H
    clear H
    have H := H1
    clear H1
    replace H := Option.bind_eq_some_iff.mp H
    obtain ⟨t157, A250, H⟩ := H
    replace H : (if t157 = true then (if a3_0 = 1 then ((spec_FrameOk.f a3_0 a3_1 a3_2 a3_3).bind fun t158 => (spec_AddEvent.j0 k a1 a2 (!t158) l0_0 a0_1 a0_2 a0_3 a3_0 a3_1 a3_2 a3_3 t148 t151 t152 t153)) else (spec_AddEvent.j0 k a1 a2 true l0_0 a0_1 a0_2 a0_3 a3_0 a3_1 a3_2 a3_3 t148 t151 t152 t153)) else (spec_AddEvent.j0 k a1 a2 true l0_0 a0_1 a0_2 a0_3 a3_0 a3_1 a3_2 a3_3 t148 t151 t152 t153)) = some (r1, r2, r3, r4, r5) := H
    have A25 := Aside0.mk A250
    clear A250
    by_cases c26 : t157 = true
    ·
     subst c26
     have H1 : (if a3_0 = 1 then ((spec_FrameOk.f a3_0 a3_1 a3_2 a3_3).bind fun t158 => (spec_AddEvent.j0 k a1 a2 (!t158) l0_0 a0_1 a0_2 a0_3 a3_0 a3_1 a3_2 a3_3 t148 t151 t152 t153)) else (spec_AddEvent.j0 k a1 a2 true l0_0 a0_1 a0_2 a0_3 a3_0 a3_1 a3_2 a3_3 t148 t151 t152 t153)) = some (r1, r2, r3, r4, r5) := by rw [if_pos rfl] at H; exact H
     clear H
     have H := H1
     clear H1
     by_cases c27 : a3_0 = 1
     ·
      rw [if_pos c27] at H
      have c27b0 : (a3_0 == 1) = true := beq_iff_eq.mpr c27
      have c27b1 : (a3_0 != 1) = false := bne_eq_false_iff_eq.mpr c27
      clear c27
      (first | rw [c27b0] | (simp only [i64_w, i32_w]; rw [c27b0]) | skip)
      replace H := Option.bind_eq_some_iff.mp H
      obtain ⟨t158, A280, H⟩ := H
      replace H : (spec_AddEvent.j0 k a1 a2 (!t158) l0_0 a0_1 a0_2 a0_3 a3_0 a3_1 a3_2 a3_3 t148 t151 t152 t153) = some (r1, r2, r3, r4, r5) := H
      have A28 := Aside0.mk A280
      clear A280
      have H' := Aside0.mk H
      clear H
      have hnb29 := NB145_146.out
      have hnc29 := NB146_145.out
      have hnb30 := NB145_147.out
      have hnc30 := NB147_145.out
      have hnb31 := NB145_154.out
      have hnc31 := NB154_145.out
      obtain ⟨hcz32_0, hcz32_1, hcz32_2, hcz32_3⟩ := cbz4_ BK145.out
      obtain ⟨hfz32_0, hfz32_1, hfz32_2, hfz32_3⟩ := bfz4_ BK145.out
      go_wp2_with (first | ((with_reducible refine gate_callee (f := 24) rfl ?_); refine goesL_ (some 19) rfl rfl Try.func24 (by kernel_rfl) rfl #[.agg #[.slice A0_0 l0_0.length c0_0, .int .i64 a0_1, .int .i64 a0_2, .int .i64 a0_3]] rfl ul_ ?_; (with_reducible refine (spec_ShardOk.calls k _ _ l0_0 a0_1 a0_2 a0_3 true _ ?side1 ?side2 A21.out).mono ?_); (case side1 => repeat (first | exact (Kd.C_below HR0_0.out HB.out) | (with_reducible refine Kd.C_alloc ?_ _) | (with_reducible refine Kd.C_drewN ?_ _) | (with_reducible refine Kd.C_drew ?_))); (case side2 => exact HC0_0.out); rintro e w33 ⟨rfl, hb⟩; refine ⟨_, rfl, ?_⟩; replace HO150 := am_ (Kd.R_below (ur_ HO150.out) hb); replace BK145 := bs_ BK145 hb; replace BK146 := bs_ BK146 hb; replace BK147 := bs_ BK147 hb; replace BK154 := bs_ BK154 hb; replace HB := hs_ HB hb; (try clear hb); (try clear hb2); (try clear hk); (try clear hi)) | (go_at_call 25; (with_reducible refine (spec_l01In.calls a1 1 1000000 true _ A23.out).mono ?_); rintro e w' ⟨rfl, ⟨nd, rfl⟩⟩) | (go_at_call 25; (with_reducible refine (spec_l01In.calls a2 1 40 true _ A25.out).mono ?_); rintro e w' ⟨rfl, ⟨nd, rfl⟩⟩; have hnb34 := NB146_147.out; have hnc34 := NB147_146.out; have hnb35 := NB146_154.out; have hnc35 := NB154_146.out; obtain ⟨hcz36_0, hcz36_1, hcz36_2, hcz36_3⟩ := cb4_ BK146.out; obtain ⟨hfz36_0, hfz36_1, hfz36_2⟩ := bf3_ BK146.out; have hfz36_3 := blk_frozen BK146.out 3) | (go_at_call 26; (with_reducible refine (spec_FrameOk.calls a3_0 a3_1 a3_2 a3_3 t158 _ A28.out).mono ?_); rintro e w37 ⟨rfl, hb⟩; replace HO150 := am_ (Kd.R_below (ur_ HO150.out) hb); replace BK145 := bs_ BK145 hb; replace BK146 := bs_ BK146 hb; replace BK147 := bs_ BK147 hb; replace BK154 := bs_ BK154 hb; replace HB := hs_ HB hb; (try clear hb); (try clear hb2); (try clear hk); (try clear hi)))
      go_meet
      case rel => exact ⟨_, (!t158), (by first | rfl | (simp; done) | (simp [*]; done)), H', ⟨by first | omega | exact Nat.le_refl _⟩, ⟨by (with_reducible repeat (first | apply Kd.R_alloc | apply Kd.R_drewN | apply Kd.R_drew)); exact HO150.out⟩, ⟨by (with_reducible repeat first|apply bn_|apply bd_|apply ba_); exact BK145.out⟩, ⟨by (with_reducible repeat first|apply bn_|apply bd_|apply ba_); exact BK146.out⟩, ⟨by (with_reducible repeat first|apply bn_|apply bd_|apply ba_); exact BK147.out⟩, ⟨by (with_reducible repeat first|apply bn_|apply bd_|apply ba_); exact BK154.out⟩, ⟨ue_ HB.out⟩⟩
     rw [if_neg c27] at H
     have c27b0 : (a3_0 == 1) = false := beq_eq_false_iff_ne.mpr c27
     have c27b1 : (a3_0 != 1) = true := bne_iff_ne.mpr c27
     (first | rw [c27b0] | (simp only [i64_w, i32_w]; rw [c27b0]) | skip)
     have H' := Aside0.mk H
     clear H
     have hnb38 := NB145_146.out
     have hnc38 := NB146_145.out
     have hnb39 := NB145_147.out
     have hnc39 := NB147_145.out
     have hnb40 := NB145_154.out
     have hnc40 := NB154_145.out
     obtain ⟨hcz41_0, hcz41_1, hcz41_2, hcz41_3⟩ := cbz4_ BK145.out
     obtain ⟨hfz41_0, hfz41_1, hfz41_2, hfz41_3⟩ := bfz4_ BK145.out
     go_wp2_with (first | ((with_reducible refine gate_callee (f := 24) rfl ?_); refine goesL_ (some 19) rfl rfl Try.func24 (by kernel_rfl) rfl #[.agg #[.slice A0_0 l0_0.length c0_0, .int .i64 a0_1, .int .i64 a0_2, .int .i64 a0_3]] rfl ul_ ?_; (with_reducible refine (spec_ShardOk.calls k _ _ l0_0 a0_1 a0_2 a0_3 true _ ?side1 ?side2 A21.out).mono ?_); (case side1 => repeat (first | exact (Kd.C_below HR0_0.out HB.out) | (with_reducible refine Kd.C_alloc ?_ _) | (with_reducible refine Kd.C_drewN ?_ _) | (with_reducible refine Kd.C_drew ?_))); (case side2 => exact HC0_0.out); rintro e w42 ⟨rfl, hb⟩; refine ⟨_, rfl, ?_⟩; replace HO150 := am_ (Kd.R_below (ur_ HO150.out) hb); replace BK145 := bs_ BK145 hb; replace BK146 := bs_ BK146 hb; replace BK147 := bs_ BK147 hb; replace BK154 := bs_ BK154 hb; replace HB := hs_ HB hb; (try clear hb); (try clear hb2); (try clear hk); (try clear hi)) | (go_at_call 25; (with_reducible refine (spec_l01In.calls a1 1 1000000 true _ A23.out).mono ?_); rintro e w' ⟨rfl, ⟨nd, rfl⟩⟩) | (go_at_call 25; (with_reducible refine (spec_l01In.calls a2 1 40 true _ A25.out).mono ?_); rintro e w' ⟨rfl, ⟨nd, rfl⟩⟩; have hnb43 := NB146_147.out; have hnc43 := NB147_146.out; have hnb44 := NB146_154.out; have hnc44 := NB154_146.out; obtain ⟨hcz45_0, hcz45_1, hcz45_2, hcz45_3⟩ := cb4_ BK146.out; obtain ⟨hfz45_0, hfz45_1, hfz45_2⟩ := bf3_ BK146.out; have hfz45_3 := blk_frozen BK146.out 3))
     go_meet
     case rel => exact ⟨_, (true), (by first | rfl | (simp; done) | (simp [*]; done)), H', ⟨by first | omega | exact Nat.le_refl _⟩, ⟨by (with_reducible repeat (first | apply Kd.R_alloc | apply Kd.R_drewN | apply Kd.R_drew)); exact HO150.out⟩, ⟨by (with_reducible repeat first|apply bn_|apply bd_|apply ba_); exact BK145.out⟩, ⟨by (with_reducible repeat first|apply bn_|apply bd_|apply ba_); exact BK146.out⟩, ⟨by (with_reducible repeat first|apply bn_|apply bd_|apply ba_); exact BK147.out⟩, ⟨by (with_reducible repeat first|apply bn_|apply bd_|apply ba_); exact BK154.out⟩, ⟨ue_ HB.out⟩⟩
    replace c26 := Bool.eq_false_iff.mpr c26
    subst c26
    have H1 : (spec_AddEvent.j0 k a1 a2 true l0_0 a0_1 a0_2 a0_3 a3_0 a3_1 a3_2 a3_3 t148 t151 t152 t153) = some (r1, r2, r3, r4, r5) := by rw [if_neg (show ¬ (false = true) by decide)] at H; exact H
    clear H
    have H := H1
    clear H1
    have H' := Aside0.mk H
    clear H
    have hnb46 := NB145_146.out
    have hnc46 := NB146_145.out
    have hnb47 := NB145_147.out
    have hnc47 := NB147_145.out
    have hnb48 := NB145_154.out
    have hnc48 := NB154_145.out
    obtain ⟨hcz49_0, hcz49_1, hcz49_2, hcz49_3⟩ := cbz4_ BK145.out
    obtain ⟨hfz49_0, hfz49_1, hfz49_2, hfz49_3⟩ := bfz4_ BK145.out
    go_wp2_with (first | ((with_reducible refine gate_callee (f := 24) rfl ?_); refine goesL_ (some 19) rfl rfl Try.func24 (by kernel_rfl) rfl #[.agg #[.slice A0_0 l0_0.length c0_0, .int .i64 a0_1, .int .i64 a0_2, .int .i64 a0_3]] rfl ul_ ?_; (with_reducible refine (spec_ShardOk.calls k _ _ l0_0 a0_1 a0_2 a0_3 true _ ?side1 ?side2 A21.out).mono ?_); (case side1 => repeat (first | exact (Kd.C_below HR0_0.out HB.out) | (with_reducible refine Kd.C_alloc ?_ _) | (with_reducible refine Kd.C_drewN ?_ _) | (with_reducible refine Kd.C_drew ?_))); (case side2 => exact HC0_0.out); rintro e w50 ⟨rfl, hb⟩; refine ⟨_, rfl, ?_⟩; replace HO150 := am_ (Kd.R_below (ur_ HO150.out) hb); replace BK145 := bs_ BK145 hb; replace BK146 := bs_ BK146 hb; replace BK147 := bs_ BK147 hb; replace BK154 := bs_ BK154 hb; replace HB := hs_ HB hb; (try clear hb); (try clear hb2); (try clear hk); (try clear hi)) | (go_at_call 25; (with_reducible refine (spec_l01In.calls a1 1 1000000 true _ A23.out).mono ?_); rintro e w' ⟨rfl, ⟨nd, rfl⟩⟩) | (go_at_call 25; (with_reducible refine (spec_l01In.calls a2 1 40 false _ A25.out).mono ?_); rintro e w' ⟨rfl, ⟨nd, rfl⟩⟩))
    go_meet
    case rel => exact ⟨_, (true), (by first | rfl | (simp; done) | (simp [*]; done)), H', ⟨by first | omega | exact Nat.le_refl _⟩, ⟨by (with_reducible repeat (first | apply Kd.R_alloc | apply Kd.R_drewN | apply Kd.R_drew)); exact HO150.out⟩, ⟨by (with_reducible repeat first|apply bn_|apply bd_|apply ba_); exact BK145.out⟩, ⟨by (with_reducible repeat first|apply bn_|apply bd_|apply ba_); exact BK146.out⟩, ⟨by (with_reducible repeat first|apply bn_|apply bd_|apply ba_); exact BK147.out⟩, ⟨by (with_reducible repeat first|apply bn_|apply bd_|apply ba_); exact BK154.out⟩, ⟨ue_ HB.out⟩⟩
   replace c24 := Bool.eq_false_iff.mpr c24
   subst c24
   have H1 : (spec_AddEvent.j0 k a1 a2 true l0_0 a0_1 a0_2 a0_3 a3_0 a3_1 a3_2 a3_3 t148 t151 t152 t153) = some (r1, r2, r3, r4, r5) := by rw [if_neg (show ¬ (false = true) by decide)] at H; exact H
   clear H
   have H := H1
   clear H1
   have H' := Aside0.mk H
   clear H
   have hnb51 := NB145_146.out
   have hnc51 := NB146_145.out
   have hnb52 := NB145_147.out
   have hnc52 := NB147_145.out
   have hnb53 := NB145_154.out
   have hnc53 := NB154_145.out
   obtain ⟨hcz54_0, hcz54_1, hcz54_2, hcz54_3⟩ := cbz4_ BK145.out
   obtain ⟨hfz54_0, hfz54_1, hfz54_2, hfz54_3⟩ := bfz4_ BK145.out
   go_wp2_with (first | ((with_reducible refine gate_callee (f := 24) rfl ?_); refine goesL_ (some 19) rfl rfl Try.func24 (by kernel_rfl) rfl #[.agg #[.slice A0_0 l0_0.length c0_0, .int .i64 a0_1, .int .i64 a0_2, .int .i64 a0_3]] rfl ul_ ?_; (with_reducible refine (spec_ShardOk.calls k _ _ l0_0 a0_1 a0_2 a0_3 true _ ?side1 ?side2 A21.out).mono ?_); (case side1 => repeat (first | exact (Kd.C_below HR0_0.out HB.out) | (with_reducible refine Kd.C_alloc ?_ _) | (with_reducible refine Kd.C_drewN ?_ _) | (with_reducible refine Kd.C_drew ?_))); (case side2 => exact HC0_0.out); rintro e w55 ⟨rfl, hb⟩; refine ⟨_, rfl, ?_⟩; replace HO150 := am_ (Kd.R_below (ur_ HO150.out) hb); replace BK145 := bs_ BK145 hb; replace BK146 := bs_ BK146 hb; replace BK147 := bs_ BK147 hb; replace BK154 := bs_ BK154 hb; replace HB := hs_ HB hb; (try clear hb); (try clear hb2); (try clear hk); (try clear hi)) | (go_at_call 25; (with_reducible refine (spec_l01In.calls a1 1 1000000 false _ A23.out).mono ?_); rintro e w' ⟨rfl, ⟨nd, rfl⟩⟩))
   go_meet
   case rel => exact ⟨_, (true), (by first | rfl | (simp; done) | (simp [*]; done)), H', ⟨by first | omega | exact Nat.le_refl _⟩, ⟨by (with_reducible repeat (first | apply Kd.R_alloc | apply Kd.R_drewN | apply Kd.R_drew)); exact HO150.out⟩, ⟨by (with_reducible repeat first|apply bn_|apply bd_|apply ba_); exact BK145.out⟩, ⟨by (with_reducible repeat first|apply bn_|apply bd_|apply ba_); exact BK146.out⟩, ⟨by (with_reducible repeat first|apply bn_|apply bd_|apply ba_); exact BK147.out⟩, ⟨by (with_reducible repeat first|apply bn_|apply bd_|apply ba_); exact BK154.out⟩, ⟨ue_ HB.out⟩⟩
  replace c22 := Bool.eq_false_iff.mpr c22
  subst c22
  have H1 : (spec_AddEvent.j0 k a1 a2 true l0_0 a0_1 a0_2 a0_3 a3_0 a3_1 a3_2 a3_3 t148 t151 t152 t153) = some (r1, r2, r3, r4, r5) := by rw [if_neg (show ¬ (false = true) by decide)] at H; exact H
  clear H
  have H := H1
  clear H1
  have H' := Aside0.mk H
  clear H
  have hnb56 := NB145_146.out
  have hnc56 := NB146_145.out
  have hnb57 := NB145_147.out
  have hnc57 := NB147_145.out
  have hnb58 := NB145_154.out
  have hnc58 := NB154_145.out
  obtain ⟨hcz59_0, hcz59_1, hcz59_2, hcz59_3⟩ := cbz4_ BK145.out
  obtain ⟨hfz59_0, hfz59_1, hfz59_2, hfz59_3⟩ := bfz4_ BK145.out
  go_wp2_with (first | ((with_reducible refine gate_callee (f := 24) rfl ?_); refine goesL_ (some 19) rfl rfl Try.func24 (by kernel_rfl) rfl #[.agg #[.slice A0_0 l0_0.length c0_0, .int .i64 a0_1, .int .i64 a0_2, .int .i64 a0_3]] rfl ul_ ?_; (with_reducible refine (spec_ShardOk.calls k _ _ l0_0 a0_1 a0_2 a0_3 false _ ?side1 ?side2 A21.out).mono ?_); (case side1 => repeat (first | exact (Kd.C_below HR0_0.out HB.out) | (with_reducible refine Kd.C_alloc ?_ _) | (with_reducible refine Kd.C_drewN ?_ _) | (with_reducible refine Kd.C_drew ?_))); (case side2 => exact HC0_0.out); rintro e w60 ⟨rfl, hb⟩; refine ⟨_, rfl, ?_⟩; replace HO150 := am_ (Kd.R_below (ur_ HO150.out) hb); replace BK145 := bs_ BK145 hb; replace BK146 := bs_ BK146 hb; replace BK147 := bs_ BK147 hb; replace BK154 := bs_ BK154 hb; replace HB := hs_ HB hb; (try clear hb); (try clear hb2); (try clear hk); (try clear hi)))
  go_meet
  case rel => exact ⟨_, (true), (by first | rfl | (simp; done) | (simp [*]; done)), H', ⟨by first | omega | exact Nat.le_refl _⟩, ⟨by (with_reducible repeat (first | apply Kd.R_alloc | apply Kd.R_drewN | apply Kd.R_drew)); exact HO150.out⟩, ⟨by (with_reducible repeat first|apply bn_|apply bd_|apply ba_); exact BK145.out⟩, ⟨by (with_reducible repeat first|apply bn_|apply bd_|apply ba_); exact BK146.out⟩, ⟨by (with_reducible repeat first|apply bn_|apply bd_|apply ba_); exact BK147.out⟩, ⟨by (with_reducible repeat first|apply bn_|apply bd_|apply ba_); exact BK154.out⟩, ⟨ue_ HB.out⟩⟩
 case rest =>
  clear HC6
  try clear c1
  try clear c2
  try clear p2
  try clear c3
  try clear c4
  try clear c5
  try clear c6
  try clear c10
  try clear c11
  try clear c16
  try clear c17
  try clear c18
  try clear c22
  try clear c23
  try clear c24
  try clear c26
  try clear c27
  try clear c27b0
  try clear c27b1
  try clear c29
  try clear c30
  try clear c31
  try clear c34
  try clear c35
  try clear c38
  try clear c39
  try clear c40
  try clear c43
  try clear c44
  try clear c46
  try clear c47
  try clear c48
  try clear c51
  try clear c52
  try clear c53
  try clear c56
  try clear c57
  try clear c58
  try clear hcz12_0
  try clear hcz12_1
  try clear hcz12_2
  try clear hcz12_3
  try clear hcz19_0
  try clear hcz19_1
  try clear hcz19_2
  try clear hcz19_3
  try clear hcz32_0
  try clear hcz32_1
  try clear hcz32_2
  try clear hcz32_3
  try clear hcz36_0
  try clear hcz36_1
  try clear hcz36_2
  try clear hcz36_3
  try clear hcz41_0
  try clear hcz41_1
  try clear hcz41_2
  try clear hcz41_3
  try clear hcz45_0
  try clear hcz45_1
  try clear hcz45_2
  try clear hcz45_3
  try clear hcz49_0
  try clear hcz49_1
  try clear hcz49_2
  try clear hcz49_3
  try clear hcz54_0
  try clear hcz54_1
  try clear hcz54_2
  try clear hcz54_3
  try clear hcz59_0
  try clear hcz59_1
  try clear hcz59_2
  try clear hcz59_3
  try clear hfz12_0
  try clear hfz12_1
  try clear hfz12_2
  try clear hfz12_3
  try clear hfz19_0
  try clear hfz19_1
  try clear hfz19_2
  try clear hfz19_3
  try clear hfz32_0
  try clear hfz32_1
  try clear hfz32_2
  try clear hfz32_3
  try clear hfz36_0
  try clear hfz36_1
  try clear hfz36_2
  try clear hfz36_3
  try clear hfz41_0
  try clear hfz41_1
  try clear hfz41_2
  try clear hfz41_3
  try clear hfz45_0
  try clear hfz45_1
  try clear hfz45_2
  try clear hfz45_3
  try clear hfz49_0
  try clear hfz49_1
  try clear hfz49_2
  try clear hfz49_3
  try clear hfz54_0
  try clear hfz54_1
  try clear hfz54_2
  try clear hfz54_3
  try clear hfz59_0
  try clear hfz59_1
  try clear hfz59_2
  try clear hfz59_3
  obtain ⟨kq, x40_5, rfl, HA, HJ5, HO_155000, BK145, BK146, BK147, BK154, HB⟩ := hcut
  cases kq with
  | zero => exact absurd HA.out (by simp [spec_AddEvent.j0])
  | succ kj5 =>
   have H := HA.out
   clear HA
   simp only [spec_AddEvent.j0] at H
   by_cases c61 : x40_5 = true
   ·
    subst c61
    have H1 : (some (t148, t151, t152, t153, 3)) = some (r1, r2, r3, r4, r5) := by rw [if_pos rfl] at H; exact H
    clear H
    have H := H1
    clear H1
    simp only [Option.some.injEq, Prod.mk.injEq] at H
    obtain ⟨rfl, rfl, rfl, rfl, rfl⟩ := H
    have hnb62 := NB154_145.out
    have hnc62 := NB145_154.out
    have hnb63 := NB154_146.out
    have hnc63 := NB146_154.out
    have hnb64 := NB154_147.out
    have hnc64 := NB147_154.out
    obtain ⟨hcz65_0, hcz65_1, hcz65_2, hcz65_3⟩ := cbz4_ BK154.out
    obtain ⟨hfz65_0, hfz65_1, hfz65_2, hfz65_3⟩ := bfz4_ BK154.out
    have hnb66 := NB147_145.out
    have hnc66 := NB145_147.out
    have hnb67 := NB147_146.out
    have hnc67 := NB146_147.out
    obtain ⟨hcz68_0, hcz68_1, hcz68_2, hcz68_3⟩ := cbz4_ BK147.out
    obtain ⟨hfz68_0, hfz68_1, hfz68_2, hfz68_3⟩ := bfz4_ BK147.out
    go_wp2_with (first | ((with_reducible refine gate_store (t := 30) (p := 8) rfl ?_); refine st_ (w1 := ((((wc.setCell ⟨gb147, 0, none⟩ (.slice Ao15 t148.length co15)).setCell ⟨gb147, 1, none⟩ (.int .i64 t151)).setCell ⟨gb147, 2, none⟩ (.int .i64 t152)).setCell ⟨gb147, 3, none⟩ (.int .i64 t153))) ?_; intro w69 hw; replace HO_155000 : Aside0 (Kd.R k62 62 w69 w.heap.size (fun _ => True) (.slice Ao15 t148.length co15) t148) := ⟨(by rw [hw]; exact (by (with_reducible repeat (first | apply Kd.R_alloc | apply Kd.R_drewN | apply Kd.R_drew)); exact Kd.R_mono (Rf4_ (g := gb147) (Kd.R_types HO_155000.out BK147.out (by decide))) (fun _ hk => trivial)))⟩; replace BK145 := uk_ hw BK145.out; replace BK146 := uk_ hw BK146.out; replace BK147 : Aside0 (w69.heap[gb147]? = some (.cells #[.slice Ao15 t148.length co15, .int .i64 t151, .int .i64 t152, .int .i64 t153] 30 (0, 0))) := ⟨(by rw [hw]; exact (by (with_reducible repeat first|apply bn_|apply bd_|apply ba_); apply bp4_; (with_reducible repeat first|apply bn_|apply bd_|apply ba_); exact BK147.out))⟩; replace BK154 := uk_ hw BK154.out; replace HB := uh_ hw HB.out; clear hw))
    refine bodyPost_ret (results_ct rfl _ _ gb147 30 #[.slice Ao15 t148.length co15, .int .i64 t151, .int .i64 t152, .int .i64 t153] (0, 0) _ rfl (ub_ BK147.out) Try.underlying30 rfl (by kernel_rfl)) rfl ?_
    exact ⟨_, ew_, by (with_reducible repeat (first | apply Kd.R_alloc | apply Kd.R_drewN | apply Kd.R_drew)); exact HO_155000.out, ue_ HB.out⟩
   replace c61 := Bool.eq_false_iff.mpr c61
   subst c61
   have H1 : ((spec_WindowOf.f a3_2 a1).bind fun t159 => ((spec_WindowEnd.f t159 a1).bind fun t161 => (if t161 ≤ a0_1 then ((spec_l05Cap.f (wrap64 (a0_2 + 1))).bind fun t162 => (some (t148, t151, t162, t153, 1))) else (spec_AddEvent.l0 kj5 a2 0 l0_0 a0_1 a0_2 a0_3 t148 t151 t152 t153 t159 a3_1 1 a3_3 a3_3 a3_3)))) = some (r1, r2, r3, r4, r5) := by rw [if_neg (show ¬ (false = true) by decide)] at H; exact H
   clear H
   have H := H1
   clear H1
   replace H := Option.bind_eq_some_iff.mp H
   obtain ⟨t159, A700, H⟩ := H
   replace H : ((spec_WindowEnd.f t159 a1).bind fun t161 => (if t161 ≤ a0_1 then ((spec_l05Cap.f (wrap64 (a0_2 + 1))).bind fun t162 => (some (t148, t151, t162, t153, 1))) else (spec_AddEvent.l0 kj5 a2 0 l0_0 a0_1 a0_2 a0_3 t148 t151 t152 t153 t159 a3_1 1 a3_3 a3_3 a3_3))) = some (r1, r2, r3, r4, r5) := H
   have A70 := Aside0.mk A700
   clear A700
   replace H := Option.bind_eq_some_iff.mp H
   obtain ⟨t161, A710, H⟩ := H
   replace H : (if t161 ≤ a0_1 then ((spec_l05Cap.f (wrap64 (a0_2 + 1))).bind fun t162 => (some (t148, t151, t162, t153, 1))) else (spec_AddEvent.l0 kj5 a2 0 l0_0 a0_1 a0_2 a0_3 t148 t151 t152 t153 t159 a3_1 1 a3_3 a3_3 a3_3)) = some (r1, r2, r3, r4, r5) := H
   have A71 := Aside0.mk A710
   clear A710
   by_cases c72 : t161 ≤ a0_1
   ·
    rw [if_pos c72] at H
    have c72b0 : decide (t161 ≤ a0_1) = true := decide_eq_true c72
    clear c72
    replace H := Option.bind_eq_some_iff.mp H
    obtain ⟨t162, A730, H⟩ := H
    replace H : (some (t148, t151, t162, t153, 1)) = some (r1, r2, r3, r4, r5) := H
    have A73 := Aside0.mk A730
    clear A730
    simp only [Option.some.injEq, Prod.mk.injEq] at H
    obtain ⟨rfl, rfl, rfl, rfl, rfl⟩ := H
    try go_wp2
    replace HO_155000 := am_ (Kd.R_drew HO_155000.out)
    replace BK145 := am_ (blk_drew BK145.out)
    replace BK146 := am_ (blk_drew BK146.out)
    replace BK147 := am_ (blk_drew BK147.out)
    replace BK154 := am_ (blk_drew BK154.out)
    replace HB := am_ (below_drew1 HB.out)
    refine start_ (n := 15) (S := fun w' => w'.cell? ⟨gb146, 0, none⟩ = some (.int .i64 a3_0) ∧ w'.cell? ⟨gb146, 1, none⟩ = some (.int .i64 a3_1) ∧ w'.cell? ⟨gb146, 2, none⟩ = some (.int .i64 a3_2) ∧ w'.cell? ⟨gb146, 3, none⟩ = some (.int .i64 a3_3)) (ds := []) #[false, false, false, false, false, false, false, false, false, false, false, false, false, false, false] (by kernel_rfl) rfl rfl (cbz4_ BK146.out) (fun hHeld => ?_); refine with_tabW spec_AddEvent.tab4 spec_AddEvent.bits4 (fun HT_ HW_ => ?_)
    generalize wc.drew = w74 at HO_155000 BK145 BK146 BK147 BK154 HB hHeld ⊢
    refine pu_ (i := 0) (N := some 42) #[true, false, false, false, false, false, false, false, false, false, false, false, false, false, false] HT_ ?_
    refine pu_ (i := 2) (N := some 44) #[true, false, true, false, false, false, false, false, false, false, false, false, false, false, false] HT_ ?_
    refine pu_ (i := 4) (N := some 46) #[true, false, true, false, true, false, false, false, false, false, false, false, false, false, false] HT_ ?_
    refine pu_ (i := 6) (N := some 48) #[true, false, true, false, true, false, true, false, false, false, false, false, false, false, false] HT_ ?_
    refine pu_ (i := 8) (N := some 50) #[true, false, true, false, true, false, true, false, true, false, false, false, false, false, false] HT_ ?_
    refine pu_ (i := 10) (N := some 52) #[true, false, true, false, true, false, true, false, true, false, true, false, false, false, false] HT_ ?_
    refine tk_ (i := 1) (N := some 43) #[true, true, true, false, true, false, true, false, true, false, true, false, false, false, false] HT_ HW_ hHeld ?_
    refine tk_ (i := 5) (N := some 47) #[true, true, true, false, true, true, true, false, true, false, true, false, false, false, false] HT_ HW_ hHeld ?_
    refine tk_ (i := 7) (N := some 49) #[true, true, true, false, true, true, true, true, true, false, true, false, false, false, false] HT_ HW_ hHeld ?_
    refine tk_ (i := 9) (N := some 51) #[true, true, true, false, true, true, true, true, true, true, true, false, false, false, false] HT_ HW_ hHeld ?_
    refine tk_ (i := 11) (N := some 53) #[true, true, true, false, true, true, true, true, true, true, true, true, false, false, false] HT_ HW_ hHeld ?_
    refine join_ (σ := Nat) 1 #[true, true, true, true, true, true, true, true, true, true, true, true, true, true, false] (fun s_ => [(45, .int .i64 t159), (11, .pointer (some ⟨s_, 0, none⟩)), (54, .agg #[.int .i64 t159, .int .i64 a3_1, .int .i64 1, .int .i64 a3_3, .int .i64 a3_3, .int .i64 a3_3])]) (fun s_ w' => (w'.cell? ⟨gb146, 0, none⟩ = some (.int .i64 a3_0) ∧ w'.cell? ⟨gb146, 1, none⟩ = some (.int .i64 a3_1) ∧ w'.cell? ⟨gb146, 2, none⟩ = some (.int .i64 a3_2) ∧ w'.cell? ⟨gb146, 3, none⟩ = some (.int .i64 a3_3)) ∧ (Kd.R k62 62 w' w.heap.size (fun k_ => k_ ≠ s_) (.slice Ao15 t148.length co15) t148) ∧ (w'.heap[gb145]? = some (.cells #[.slice A0_0 l0_0.length c0_0, .int .i64 a0_1, .int .i64 a0_2, .int .i64 a0_3] 30 (0, 0))) ∧ (w'.heap[gb146]? = some (.cells #[.int .i64 a3_0, .int .i64 a3_1, .int .i64 a3_2, .int .i64 a3_3] 34 (0, 0))) ∧ (w'.heap[gb147]? = some (.cells #[.slice none 0 0, .int .i64 0, .int .i64 0, .int .i64 0] 30 (0, 0))) ∧ (w'.heap[gb154]? = some (.cells #[.slice Ao15 t148.length co15, .int .i64 t151, .int .i64 t152, .int .i64 t153] 30 (0, 0))) ∧ (w'.heap[s_]? = some (.cells #[.int .i64 0, .int .i64 0, .int .i64 0, .int .i64 0, .int .i64 0, .int .i64 0] 62 (0, 0))) ∧ (w.heap.size ≤ s_) ∧ (w.heap.size ≤ s_) ∧ (gb145 ≠ s_) ∧ (s_ ≠ gb145) ∧ (gb146 ≠ s_) ∧ (s_ ≠ gb146) ∧ (gb147 ≠ s_) ∧ (s_ ≠ gb147) ∧ (gb154 ≠ s_) ∧ (s_ ≠ gb154) ∧ (Below w.heap.size w w')) ?_ ?_
    rotate_left
    ·
     intro hCont
     refine two_ (i := 3) (j := 13) (Ni := some 45) (Nj := some 11) #[true, true, true, true, true, true, true, true, true, true, true, true, false, false, false] #[true, true, true, false, true, true, true, true, true, true, true, true, false, true, false] rfl rfl rfl rfl (two_of HT_.out (by kernel_rfl)) (by decide) (by decide) (fun K hK => ?_) (fun K hK => ?_)
     ·
      skip
      refine goes_ Try.func27 (by kernel_rfl) rfl #[.int .i64 a3_2, .int .i64 a1] (by rfl) rfl rfl ul_ ?_
      with_reducible refine (spec_WindowOf.calls a3_2 a1 t159 _ A70.out).mono ?_
      rintro e w' ⟨rfl, ⟨nd, rfl⟩⟩
      refine ⟨_, rfl, ?_⟩
      refine hK.out _ _ (cbz4_ BK146.out) (fun hHeld => ?_)
      clear hK K
      refine norm_ (a' := ?_) ?_ ?_
      rotate_left
      ·
       show Act.put _ (some 45) _ = _
       simp only [Act.put, List.setIfInBounds_toArray, List.set_cons_zero, List.set_cons_succ, i64_w, i32_w]
       rfl
      refine pu_ (i := 12) (N := some 54) #[true, true, true, true, true, true, true, true, true, true, true, true, true, false, false] HT_ ?_
      refine one_ (i := 13) (N := some 11) #[true, true, true, true, true, true, true, true, true, true, true, true, true, true, false] rfl rfl (one_of HT_.out (by kernel_rfl)) (by decide) (fun K hK => ?_)
      refine box_step ?hg (N := 11) ?hd (cs := #[.int .i64 0, .int .i64 0, .int .i64 0, .int .i64 0, .int .i64 0, .int .i64 0]) (t := 62) ?hr ?_; (case hd => rfl); (case hg => rfl); (case hr => first | (go_simp; done) | (go_simp; rfl))
      intro gb160 hg w75 hbox hb
      replace HO_155000 := am_ (Kd.R_below (Kd.R_elderB (ur_ HO_155000.out) gb160 (Nat.le_of_eq hg.symm)) hb)
      have BK160 := am_ (hbox)
      have GW160 := gs_ hg HB.out
      have GE160 := gs_ hg HB.out
      replace HB := hs_ HB hb
      have NB145_160 := nl_ hg BK145.out
      have NB160_145 := ng_ hg BK145.out
      replace BK145 := bs_ BK145 hb
      have NB146_160 := nl_ hg BK146.out
      have NB160_146 := ng_ hg BK146.out
      replace BK146 := bs_ BK146 hb
      have NB147_160 := nl_ hg BK147.out
      have NB160_147 := ng_ hg BK147.out
      replace BK147 := bs_ BK147 hb
      have NB154_160 := nl_ hg BK154.out
      have NB160_154 := ng_ hg BK154.out
      replace BK154 := bs_ BK154 hb
      clear hb hbox hg
      refine hK.out _ _ (cbz4_ BK146.out) (fun hHeld => ?_)
      clear hK K
      refine norm_ (a' := ?_) ?_ ?_
      rotate_left
      ·
       show Act.put _ (some 11) _ = _
       simp only [Act.put, List.setIfInBounds_toArray, List.set_cons_zero, List.set_cons_succ, i64_w, i32_w]
       rfl
      exact norm_ (by simp only [putAll, Act.put, List.setIfInBounds_toArray, List.set_cons_zero, List.set_cons_succ]) (hCont (gb160) _ ⟨hHeld, (by (with_reducible repeat (first | apply Kd.R_alloc | apply Kd.R_drewN | apply Kd.R_drew)); exact Kd.R_mono HO_155000.out h2_), (ub_ BK145.out), (ub_ BK146.out), (ub_ BK147.out), (ub_ BK154.out), (ub_ BK160.out), GW160.out, GE160.out, NB145_160.out, NB160_145.out, NB146_160.out, NB160_146.out, NB147_160.out, NB160_147.out, NB154_160.out, NB160_154.out, (ue_ HB.out)⟩)
     skip
     refine box_step ?hg (N := 11) ?hd (cs := #[.int .i64 0, .int .i64 0, .int .i64 0, .int .i64 0, .int .i64 0, .int .i64 0]) (t := 62) ?hr ?_; (case hd => rfl); (case hg => rfl); (case hr => first | (go_simp; done) | (go_simp; rfl))
     intro gb160 hg w75 hbox hb
     replace HO_155000 := am_ (Kd.R_below (Kd.R_elderB (ur_ HO_155000.out) gb160 (Nat.le_of_eq hg.symm)) hb)
     have BK160 := am_ (hbox)
     have GW160 := gs_ hg HB.out
     have GE160 := gs_ hg HB.out
     replace HB := hs_ HB hb
     have NB145_160 := nl_ hg BK145.out
     have NB160_145 := ng_ hg BK145.out
     replace BK145 := bs_ BK145 hb
     have NB146_160 := nl_ hg BK146.out
     have NB160_146 := ng_ hg BK146.out
     replace BK146 := bs_ BK146 hb
     have NB147_160 := nl_ hg BK147.out
     have NB160_147 := ng_ hg BK147.out
     replace BK147 := bs_ BK147 hb
     have NB154_160 := nl_ hg BK154.out
     have NB160_154 := ng_ hg BK154.out
     replace BK154 := bs_ BK154 hb
     clear hb hbox hg
     refine hK.out _ _ (cbz4_ BK146.out) (fun hHeld => ?_)
     clear hK K
     refine norm_ (a' := ?_) ?_ ?_
     rotate_left
     ·
      show Act.put _ (some 11) _ = _
      simp only [Act.put, List.setIfInBounds_toArray, List.set_cons_zero, List.set_cons_succ, i64_w, i32_w]
      rfl
     refine one_ (i := 3) (N := some 45) #[true, true, true, true, true, true, true, true, true, true, true, true, false, true, false] rfl rfl (one_of HT_.out (by kernel_rfl)) (by decide) (fun K hK => ?_)
     refine goes_ Try.func27 (by kernel_rfl) rfl #[.int .i64 a3_2, .int .i64 a1] (by rfl) rfl rfl ul_ ?_
     with_reducible refine (spec_WindowOf.calls a3_2 a1 t159 _ A70.out).mono ?_
     rintro e w' ⟨rfl, ⟨nd, rfl⟩⟩
     refine ⟨_, rfl, ?_⟩
     refine hK.out _ _ (cbz4_ BK146.out) (fun hHeld => ?_)
     clear hK K
     refine norm_ (a' := ?_) ?_ ?_
     rotate_left
     ·
      show Act.put _ (some 45) _ = _
      simp only [Act.put, List.setIfInBounds_toArray, List.set_cons_zero, List.set_cons_succ, i64_w, i32_w]
      rfl
     refine pu_ (i := 12) (N := some 54) #[true, true, true, true, true, true, true, true, true, true, true, true, true, true, false] HT_ ?_
     exact norm_ (by simp only [putAll, Act.put, List.setIfInBounds_toArray, List.set_cons_zero, List.set_cons_succ]) (hCont (gb160) _ ⟨hHeld, (by (with_reducible repeat (first | apply Kd.R_alloc | apply Kd.R_drewN | apply Kd.R_drew)); exact Kd.R_mono HO_155000.out h2_), (ub_ BK145.out), (ub_ BK146.out), (ub_ BK147.out), (ub_ BK154.out), (ub_ BK160.out), GW160.out, GE160.out, NB145_160.out, NB160_145.out, NB146_160.out, NB160_146.out, NB147_160.out, NB160_147.out, NB154_160.out, NB160_154.out, (ue_ HB.out)⟩)
    rintro gb160 w76 ⟨hS_, h0_, h1_, h2_, h3_, h4_, h5_, h6_, h7_, h8_, h9_, h10_, h11_, h12_, h13_, h14_, h15_, h16_⟩
    replace HO_155000 : Aside0 (Kd.R k62 62 w76 w.heap.size (fun k_ => k_ ≠ gb160) (.slice Ao15 t148.length co15) t148) := ⟨h0_⟩
    replace BK145 : Aside0 (w76.heap[gb145]? = some (.cells #[.slice A0_0 l0_0.length c0_0, .int .i64 a0_1, .int .i64 a0_2, .int .i64 a0_3] 30 (0, 0))) := ⟨h1_⟩
    replace BK146 : Aside0 (w76.heap[gb146]? = some (.cells #[.int .i64 a3_0, .int .i64 a3_1, .int .i64 a3_2, .int .i64 a3_3] 34 (0, 0))) := ⟨h2_⟩
    replace BK147 : Aside0 (w76.heap[gb147]? = some (.cells #[.slice none 0 0, .int .i64 0, .int .i64 0, .int .i64 0] 30 (0, 0))) := ⟨h3_⟩
    replace BK154 : Aside0 (w76.heap[gb154]? = some (.cells #[.slice Ao15 t148.length co15, .int .i64 t151, .int .i64 t152, .int .i64 t153] 30 (0, 0))) := ⟨h4_⟩
    have BK160 : Aside0 (w76.heap[gb160]? = some (.cells #[.int .i64 0, .int .i64 0, .int .i64 0, .int .i64 0, .int .i64 0, .int .i64 0] 62 (0, 0))) := ⟨h5_⟩
    have GW160 : Aside0 (w.heap.size ≤ gb160) := ⟨h6_⟩
    have GE160 : Aside0 (w.heap.size ≤ gb160) := ⟨h7_⟩
    have NB145_160 : Aside0 (gb145 ≠ gb160) := ⟨h8_⟩
    have NB160_145 : Aside0 (gb160 ≠ gb145) := ⟨h9_⟩
    have NB146_160 : Aside0 (gb146 ≠ gb160) := ⟨h10_⟩
    have NB160_146 : Aside0 (gb160 ≠ gb146) := ⟨h11_⟩
    have NB147_160 : Aside0 (gb147 ≠ gb160) := ⟨h12_⟩
    have NB160_147 : Aside0 (gb160 ≠ gb147) := ⟨h13_⟩
    have NB154_160 : Aside0 (gb154 ≠ gb160) := ⟨h14_⟩
    have NB160_154 : Aside0 (gb160 ≠ gb154) := ⟨h15_⟩
    replace HB : Aside0 (Below w.heap.size w w76) := ⟨h16_⟩
    clear h0_ h1_ h2_ h3_ h4_ h5_ h6_ h7_ h8_ h9_ h10_ h11_ h12_ h13_ h14_ h15_ h16_
    have hHeld : w76.cell? ⟨gb146, 0, none⟩ = some (.int .i64 a3_0) ∧ w76.cell? ⟨gb146, 1, none⟩ = some (.int .i64 a3_1) ∧ w76.cell? ⟨gb146, 2, none⟩ = some (.int .i64 a3_2) ∧ w76.cell? ⟨gb146, 3, none⟩ = some (.int .i64 a3_3) := hS_
    refine norm_ (a' := ?_) ?_ ?_
    rotate_left
    ·
     simp only [putAll, Act.put, List.setIfInBounds_toArray, List.set_cons_zero, List.set_cons_succ]
     rfl
    refine one_ (i := 14) (N := none) #[true, true, true, true, true, true, true, true, true, true, true, true, true, true, true] rfl rfl (one_of HT_.out (by kernel_rfl)) (by decide) (fun K hK => ?_)
    have hs77 := cb_ BK160.out 0 rfl
    have hfs77 := blk_frozen BK160.out 0
    have hns77_0 := NB145_160.out
    have hns77_1 := NB146_160.out
    have hns77_2 := NB147_160.out
    have hns77_3 := NB154_160.out
    have hms77_0 := NB160_145.out
    have hms77_1 := NB160_146.out
    have hms77_2 := NB160_147.out
    have hms77_3 := NB160_154.out
    have hs78 := cb_ BK160.out 1 rfl
    have hfs78 := blk_frozen BK160.out 1
    have hns78_0 := NB145_160.out
    have hns78_1 := NB146_160.out
    have hns78_2 := NB147_160.out
    have hns78_3 := NB154_160.out
    have hms78_0 := NB160_145.out
    have hms78_1 := NB160_146.out
    have hms78_2 := NB160_147.out
    have hms78_3 := NB160_154.out
    have hs79 := cb_ BK160.out 2 rfl
    have hfs79 := blk_frozen BK160.out 2
    have hns79_0 := NB145_160.out
    have hns79_1 := NB146_160.out
    have hns79_2 := NB147_160.out
    have hns79_3 := NB154_160.out
    have hms79_0 := NB160_145.out
    have hms79_1 := NB160_146.out
    have hms79_2 := NB160_147.out
    have hms79_3 := NB160_154.out
    have hs80 := cb_ BK160.out 3 rfl
    have hfs80 := blk_frozen BK160.out 3
    have hns80_0 := NB145_160.out
    have hns80_1 := NB146_160.out
    have hns80_2 := NB147_160.out
    have hns80_3 := NB154_160.out
    have hms80_0 := NB160_145.out
    have hms80_1 := NB160_146.out
    have hms80_2 := NB160_147.out
    have hms80_3 := NB160_154.out
    have hs81 := cb_ BK160.out 4 rfl
    have hfs81 := blk_frozen BK160.out 4
    have hns81_0 := NB145_160.out
    have hns81_1 := NB146_160.out
    have hns81_2 := NB147_160.out
    have hns81_3 := NB154_160.out
    have hms81_0 := NB160_145.out
    have hms81_1 := NB160_146.out
    have hms81_2 := NB160_147.out
    have hms81_3 := NB160_154.out
    have hs82 := cb_ BK160.out 5 rfl
    have hfs82 := blk_frozen BK160.out 5
    have hns82_0 := NB145_160.out
    have hns82_1 := NB146_160.out
    have hns82_2 := NB147_160.out
    have hns82_3 := NB154_160.out
    have hms82_0 := NB160_145.out
    have hms82_1 := NB160_146.out
    have hms82_2 := NB160_147.out
    have hms82_3 := NB160_154.out
    refine skip_ (w1 := ?_) (by rfl) rfl ?_ ?_
    rotate_left
    ·
     go_simp
     rfl
    refine hK.out _ _ ⟨(cf6_ hHeld.1 NB146_160.out), (cf6_ hHeld.2.1 NB146_160.out), (cf6_ hHeld.2.2.1 NB146_160.out), (cf6_ hHeld.2.2.2 NB146_160.out)⟩ (fun hHeld => ?_)
    clear hK K
    refine done_ (done_of HT_.out (by kernel_rfl)) ?_
    try go_wp2
    have n0_ : Aside0 (Kd.R k62 62 ((((((w76.setCell ⟨gb160, 0, none⟩ (.int .i64 t159)).setCell ⟨gb160, 1, none⟩ (.int .i64 a3_1)).setCell ⟨gb160, 2, none⟩ (.int .i64 1)).setCell ⟨gb160, 3, none⟩ (.int .i64 a3_3)).setCell ⟨gb160, 4, none⟩ (.int .i64 a3_3)).setCell ⟨gb160, 5, none⟩ (.int .i64 a3_3)) w.heap.size (fun k_ => k_ ≠ gb160) (.slice Ao15 t148.length co15) t148) := ⟨by (with_reducible repeat (first | apply Kd.R_alloc | apply Kd.R_drewN | apply Kd.R_drew)); exact Kd.R_mono (Rf6_ (g := gb160) (Kd.R_mono HO_155000.out (fun k_ hk => (⟨hk, (by first | exact hk | grind)⟩ : _ ∧ k_ ≠ gb160)))) (fun _ hk => by first | exact hk.1 | grind)⟩
    have n1_ : Aside0 (((((((w76.setCell ⟨gb160, 0, none⟩ (.int .i64 t159)).setCell ⟨gb160, 1, none⟩ (.int .i64 a3_1)).setCell ⟨gb160, 2, none⟩ (.int .i64 1)).setCell ⟨gb160, 3, none⟩ (.int .i64 a3_3)).setCell ⟨gb160, 4, none⟩ (.int .i64 a3_3)).setCell ⟨gb160, 5, none⟩ (.int .i64 a3_3)).heap[gb145]? = some (.cells #[.slice A0_0 l0_0.length c0_0, .int .i64 a0_1, .int .i64 a0_2, .int .i64 a0_3] 30 (0, 0))) := ⟨by (with_reducible repeat first|apply bn_|apply bd_|apply ba_); refine blk_far ?_ NB145_160.out _; refine blk_far ?_ NB145_160.out _; refine blk_far ?_ NB145_160.out _; refine blk_far ?_ NB145_160.out _; refine blk_far ?_ NB145_160.out _; refine blk_far ?_ NB145_160.out _; (with_reducible repeat first|apply bn_|apply bd_|apply ba_); exact BK145.out⟩
    have n2_ : Aside0 (((((((w76.setCell ⟨gb160, 0, none⟩ (.int .i64 t159)).setCell ⟨gb160, 1, none⟩ (.int .i64 a3_1)).setCell ⟨gb160, 2, none⟩ (.int .i64 1)).setCell ⟨gb160, 3, none⟩ (.int .i64 a3_3)).setCell ⟨gb160, 4, none⟩ (.int .i64 a3_3)).setCell ⟨gb160, 5, none⟩ (.int .i64 a3_3)).heap[gb146]? = some (.cells #[.int .i64 a3_0, .int .i64 a3_1, .int .i64 a3_2, .int .i64 a3_3] 34 (0, 0))) := ⟨by (with_reducible repeat first|apply bn_|apply bd_|apply ba_); refine blk_far ?_ NB146_160.out _; refine blk_far ?_ NB146_160.out _; refine blk_far ?_ NB146_160.out _; refine blk_far ?_ NB146_160.out _; refine blk_far ?_ NB146_160.out _; refine blk_far ?_ NB146_160.out _; (with_reducible repeat first|apply bn_|apply bd_|apply ba_); exact BK146.out⟩
    have n3_ : Aside0 (((((((w76.setCell ⟨gb160, 0, none⟩ (.int .i64 t159)).setCell ⟨gb160, 1, none⟩ (.int .i64 a3_1)).setCell ⟨gb160, 2, none⟩ (.int .i64 1)).setCell ⟨gb160, 3, none⟩ (.int .i64 a3_3)).setCell ⟨gb160, 4, none⟩ (.int .i64 a3_3)).setCell ⟨gb160, 5, none⟩ (.int .i64 a3_3)).heap[gb147]? = some (.cells #[.slice none 0 0, .int .i64 0, .int .i64 0, .int .i64 0] 30 (0, 0))) := ⟨by (with_reducible repeat first|apply bn_|apply bd_|apply ba_); refine blk_far ?_ NB147_160.out _; refine blk_far ?_ NB147_160.out _; refine blk_far ?_ NB147_160.out _; refine blk_far ?_ NB147_160.out _; refine blk_far ?_ NB147_160.out _; refine blk_far ?_ NB147_160.out _; (with_reducible repeat first|apply bn_|apply bd_|apply ba_); exact BK147.out⟩
    have n4_ : Aside0 (((((((w76.setCell ⟨gb160, 0, none⟩ (.int .i64 t159)).setCell ⟨gb160, 1, none⟩ (.int .i64 a3_1)).setCell ⟨gb160, 2, none⟩ (.int .i64 1)).setCell ⟨gb160, 3, none⟩ (.int .i64 a3_3)).setCell ⟨gb160, 4, none⟩ (.int .i64 a3_3)).setCell ⟨gb160, 5, none⟩ (.int .i64 a3_3)).heap[gb154]? = some (.cells #[.slice Ao15 t148.length co15, .int .i64 t151, .int .i64 t152, .int .i64 t153] 30 (0, 0))) := ⟨by (with_reducible repeat first|apply bn_|apply bd_|apply ba_); refine blk_far ?_ NB154_160.out _; refine blk_far ?_ NB154_160.out _; refine blk_far ?_ NB154_160.out _; refine blk_far ?_ NB154_160.out _; refine blk_far ?_ NB154_160.out _; refine blk_far ?_ NB154_160.out _; (with_reducible repeat first|apply bn_|apply bd_|apply ba_); exact BK154.out⟩
    have n5_ : Aside0 (((((((w76.setCell ⟨gb160, 0, none⟩ (.int .i64 t159)).setCell ⟨gb160, 1, none⟩ (.int .i64 a3_1)).setCell ⟨gb160, 2, none⟩ (.int .i64 1)).setCell ⟨gb160, 3, none⟩ (.int .i64 a3_3)).setCell ⟨gb160, 4, none⟩ (.int .i64 a3_3)).setCell ⟨gb160, 5, none⟩ (.int .i64 a3_3)).heap[gb160]? = some (.cells #[.int .i64 t159, .int .i64 a3_1, .int .i64 1, .int .i64 a3_3, .int .i64 a3_3, .int .i64 a3_3] 62 (0, 0))) := ⟨by (with_reducible repeat first|apply bn_|apply bd_|apply ba_); apply bp6_; (with_reducible repeat first|apply bn_|apply bd_|apply ba_); exact BK160.out⟩
    have n6_ : Aside0 (Below w.heap.size w ((((((w76.setCell ⟨gb160, 0, none⟩ (.int .i64 t159)).setCell ⟨gb160, 1, none⟩ (.int .i64 a3_1)).setCell ⟨gb160, 2, none⟩ (.int .i64 1)).setCell ⟨gb160, 3, none⟩ (.int .i64 a3_3)).setCell ⟨gb160, 4, none⟩ (.int .i64 a3_3)).setCell ⟨gb160, 5, none⟩ (.int .i64 a3_3))) := ⟨ue_ HB.out⟩
    (try clear HO_155000)
    (try clear BK145)
    (try clear BK146)
    (try clear BK147)
    (try clear BK154)
    (try clear BK160)
    (try clear HB)
    generalize ((((((w76.setCell ⟨gb160, 0, none⟩ (.int .i64 t159)).setCell ⟨gb160, 1, none⟩ (.int .i64 a3_1)).setCell ⟨gb160, 2, none⟩ (.int .i64 1)).setCell ⟨gb160, 3, none⟩ (.int .i64 a3_3)).setCell ⟨gb160, 4, none⟩ (.int .i64 a3_3)).setCell ⟨gb160, 5, none⟩ (.int .i64 a3_3)) = w83 at n0_ n1_ n2_ n3_ n4_ n5_ n6_ ⊢
    have HO_155000 := n0_
    have BK145 := n1_
    have BK146 := n2_
    have BK147 := n3_
    have BK154 := n4_
    have BK160 := n5_
    have HB := n6_
    clear n0_ n1_ n2_ n3_ n4_ n5_ n6_
    replace HO_155000 := am_ (Kd.R_drew HO_155000.out)
    replace BK145 := am_ (blk_drew BK145.out)
    replace BK146 := am_ (blk_drew BK146.out)
    replace BK147 := am_ (blk_drew BK147.out)
    replace BK154 := am_ (blk_drew BK154.out)
    replace BK160 := am_ (blk_drew BK160.out)
    replace HB := am_ (below_drew1 HB.out)
    refine start_ (n := 7) (S := fun w' => w'.cell? ⟨gb160, 0, none⟩ = some (.int .i64 t159) ∧ w'.cell? ⟨gb160, 1, none⟩ = some (.int .i64 a3_1) ∧ w'.cell? ⟨gb160, 2, none⟩ = some (.int .i64 1) ∧ w'.cell? ⟨gb160, 3, none⟩ = some (.int .i64 a3_3) ∧ w'.cell? ⟨gb160, 4, none⟩ = some (.int .i64 a3_3) ∧ w'.cell? ⟨gb160, 5, none⟩ = some (.int .i64 a3_3) ∧ w'.cell? ⟨gb145, 0, none⟩ = some (.slice A0_0 l0_0.length c0_0) ∧ w'.cell? ⟨gb145, 1, none⟩ = some (.int .i64 a0_1) ∧ w'.cell? ⟨gb145, 2, none⟩ = some (.int .i64 a0_2) ∧ w'.cell? ⟨gb145, 3, none⟩ = some (.int .i64 a0_3)) (ds := []) #[false, false, false, false, false, false, false] (by kernel_rfl) rfl rfl ⟨cb_ BK160.out 0 rfl, cb_ BK160.out 1 rfl, cb_ BK160.out 2 rfl, cb_ BK160.out 3 rfl, cb_ BK160.out 4 rfl, cb_ BK160.out 5 rfl, cb_ BK145.out 0 rfl, cb_ BK145.out 1 rfl, cb_ BK145.out 2 rfl, cb_ BK145.out 3 rfl⟩ (fun hHeld => ?_)
    generalize w83.drew = w84 at HO_155000 BK145 BK146 BK147 BK154 BK160 HB hHeld ⊢
    refine pure_ (i := 0) (N := some 55) (v := ?_) (a' := ?_) #[true, false, false, false, false, false, false] rfl rfl (by kernel_rfl) (fun _ _ _ h => h) (Or.inl ⟨by rfl, ?_⟩) ?_ ?_
    rotate_left
    ·
     intro w'
     go_simp
     with_reducible rfl
    rotate_left
    ·
     simp only [Act.put, List.setIfInBounds_toArray, List.set_cons_zero, List.set_cons_succ, i64_w, i32_w]
     rfl
    refine pure_ (i := 2) (N := some 57) (v := ?_) (a' := ?_) #[true, false, true, false, false, false, false] rfl rfl (by kernel_rfl) (fun _ _ _ h => h) (Or.inl ⟨by rfl, ?_⟩) ?_ ?_
    rotate_left
    ·
     intro w'
     go_simp
     with_reducible rfl
    rotate_left
    ·
     simp only [Act.put, List.setIfInBounds_toArray, List.set_cons_zero, List.set_cons_succ, i64_w, i32_w]
     rfl
    refine pure_ (i := 4) (N := some 59) (v := ?_) (a' := ?_) #[true, false, true, false, true, false, false] rfl rfl (by kernel_rfl) (fun _ _ _ h => h) (Or.inl ⟨by rfl, ?_⟩) ?_ ?_
    rotate_left
    ·
     intro w'
     go_simp
     with_reducible rfl
    rotate_left
    ·
     simp only [Act.put, List.setIfInBounds_toArray, List.set_cons_zero, List.set_cons_succ, i64_w, i32_w]
     rfl
    refine take_ (i := 1) (N := some 56) (v := ?_) (a' := ?_) #[true, true, true, false, true, false, false] rfl rfl (by kernel_rfl) (fun _ _ _ h => h) (Or.inl ⟨by rfl, ?_⟩) hHeld ?_ ?_
    rotate_left
    ·
     rintro w' ⟨s0, s1, s2, s3, s4, s5, s6, s7, s8, s9⟩
     go_simp
     with_reducible rfl
    rotate_left
    ·
     simp only [Act.put, List.setIfInBounds_toArray, List.set_cons_zero, List.set_cons_succ, i64_w, i32_w]
     rfl
    refine take_ (i := 5) (N := some 60) (v := ?_) (a' := ?_) #[true, true, true, false, true, true, false] rfl rfl (by kernel_rfl) (fun _ _ _ h => h) (Or.inl ⟨by rfl, ?_⟩) hHeld ?_ ?_
    rotate_left
    ·
     rintro w' ⟨s0, s1, s2, s3, s4, s5, s6, s7, s8, s9⟩
     go_simp
     with_reducible rfl
    rotate_left
    ·
     simp only [Act.put, List.setIfInBounds_toArray, List.set_cons_zero, List.set_cons_succ, i64_w, i32_w]
     rfl
    refine one_ (i := 3) (N := some 58) #[true, true, true, true, true, true, false] rfl rfl (by kernel_rfl) (by decide) (fun K hK => ?_)
    refine goes_ Try.func28 (by kernel_rfl) rfl #[.int .i64 t159, .int .i64 a1] (by rfl) rfl rfl ul_ ?_
    with_reducible refine (spec_WindowEnd.calls t159 a1 t161 _ A71.out).mono ?_
    rintro e w' ⟨rfl, ⟨nd, rfl⟩⟩
    refine ⟨_, rfl, ?_⟩
    refine hK.out _ _ ⟨cb_ BK160.out 0 rfl, cb_ BK160.out 1 rfl, cb_ BK160.out 2 rfl, cb_ BK160.out 3 rfl, cb_ BK160.out 4 rfl, cb_ BK160.out 5 rfl, cb_ BK145.out 0 rfl, cb_ BK145.out 1 rfl, cb_ BK145.out 2 rfl, cb_ BK145.out 3 rfl⟩ (fun hHeld => ?_)
    clear hK K
    refine norm_ (a' := ?_) ?_ ?_
    rotate_left
    ·
     show Act.put _ (some 58) _ = _
     simp only [Act.put, List.setIfInBounds_toArray, List.set_cons_zero, List.set_cons_succ, i64_w, i32_w]
     rfl
    refine pure_ (i := 6) (N := some 61) (v := ?_) (a' := ?_) #[true, true, true, true, true, true, true] rfl rfl (by kernel_rfl) (fun _ _ _ h => h) (Or.inl ⟨by rfl, ?_⟩) ?_ ?_
    rotate_left
    ·
     intro w'
     go_simp
     with_reducible rfl
    rotate_left
    ·
     simp only [Act.put, List.setIfInBounds_toArray, List.set_cons_zero, List.set_cons_succ, i64_w, i32_w]
     rfl
    refine done_ (by kernel_rfl) ?_
    have hnb85 := NB145_146.out
    have hnc85 := NB146_145.out
    have hnb86 := NB145_147.out
    have hnc86 := NB147_145.out
    have hnb87 := NB145_154.out
    have hnc87 := NB154_145.out
    have hnb88 := NB145_160.out
    have hnc88 := NB160_145.out
    obtain ⟨hcz89_0, hcz89_1, hcz89_2, hcz89_3⟩ := cbz4_ BK145.out
    obtain ⟨hfz89_0, hfz89_1, hfz89_2, hfz89_3⟩ := bfz4_ BK145.out
    try go_wp2_with (first | ((with_reducible refine gate_callee (f := 29) rfl ?_); refine goesL_ (some 65) rfl rfl Try.func29 (by kernel_rfl) rfl #[.int .i64 (wrap64 (a0_2 + 1))] rfl ul_ ?_; (with_reducible refine (spec_l05Cap.calls (wrap64 (a0_2 + 1)) t162 _ A73.out).mono ?_); rintro e w' ⟨rfl, ⟨nd, rfl⟩⟩; refine ⟨_, rfl, ?_⟩; (try (rw [drewN_self w84]; generalize hq_ : World.drewN w84 _ = w84; replace HO_155000 : Aside0 (Kd.R k62 62 w84 w.heap.size (fun k_ => k_ ≠ gb160) (.slice Ao15 t148.length co15) t148) := ⟨by rw [← hq_]; exact (ur_ HO_155000.out)⟩; replace BK145 : Aside0 (w84.heap[gb145]? = some (.cells #[.slice A0_0 l0_0.length c0_0, .int .i64 a0_1, .int .i64 a0_2, .int .i64 a0_3] 30 (0, 0))) := ⟨by rw [← hq_]; exact (ub_ BK145.out)⟩; replace BK146 : Aside0 (w84.heap[gb146]? = some (.cells #[.int .i64 a3_0, .int .i64 a3_1, .int .i64 a3_2, .int .i64 a3_3] 34 (0, 0))) := ⟨by rw [← hq_]; exact (ub_ BK146.out)⟩; replace BK147 : Aside0 (w84.heap[gb147]? = some (.cells #[.slice none 0 0, .int .i64 0, .int .i64 0, .int .i64 0] 30 (0, 0))) := ⟨by rw [← hq_]; exact (ub_ BK147.out)⟩; replace BK154 : Aside0 (w84.heap[gb154]? = some (.cells #[.slice Ao15 t148.length co15, .int .i64 t151, .int .i64 t152, .int .i64 t153] 30 (0, 0))) := ⟨by rw [← hq_]; exact (ub_ BK154.out)⟩; replace BK160 : Aside0 (w84.heap[gb160]? = some (.cells #[.int .i64 t159, .int .i64 a3_1, .int .i64 1, .int .i64 a3_3, .int .i64 a3_3, .int .i64 a3_3] 62 (0, 0))) := ⟨by rw [← hq_]; exact (ub_ BK160.out)⟩; replace HB : Aside0 (Below w.heap.size w w84) := ⟨by rw [← hq_]; exact (ue_ HB.out)⟩; clear hq_)); (try (rw [drewN_self w84]; generalize hq_ : World.drewN w84 _ = w84; replace HO_155000 : Aside0 (Kd.R k62 62 w84 w.heap.size (fun k_ => k_ ≠ gb160) (.slice Ao15 t148.length co15) t148) := ⟨by rw [← hq_]; exact (ur_ HO_155000.out)⟩; replace BK145 : Aside0 (w84.heap[gb145]? = some (.cells #[.slice A0_0 l0_0.length c0_0, .int .i64 a0_1, .int .i64 a0_2, .int .i64 a0_3] 30 (0, 0))) := ⟨by rw [← hq_]; exact (ub_ BK145.out)⟩; replace BK146 : Aside0 (w84.heap[gb146]? = some (.cells #[.int .i64 a3_0, .int .i64 a3_1, .int .i64 a3_2, .int .i64 a3_3] 34 (0, 0))) := ⟨by rw [← hq_]; exact (ub_ BK146.out)⟩; replace BK147 : Aside0 (w84.heap[gb147]? = some (.cells #[.slice none 0 0, .int .i64 0, .int .i64 0, .int .i64 0] 30 (0, 0))) := ⟨by rw [← hq_]; exact (ub_ BK147.out)⟩; replace BK154 : Aside0 (w84.heap[gb154]? = some (.cells #[.slice Ao15 t148.length co15, .int .i64 t151, .int .i64 t152, .int .i64 t153] 30 (0, 0))) := ⟨by rw [← hq_]; exact (ub_ BK154.out)⟩; replace BK160 : Aside0 (w84.heap[gb160]? = some (.cells #[.int .i64 t159, .int .i64 a3_1, .int .i64 1, .int .i64 a3_3, .int .i64 a3_3, .int .i64 a3_3] 62 (0, 0))) := ⟨by rw [← hq_]; exact (ub_ BK160.out)⟩; replace HB : Aside0 (Below w.heap.size w w84) := ⟨by rw [← hq_]; exact (ue_ HB.out)⟩; clear hq_)); have hnb90 := NB154_146.out; have hnc90 := NB146_154.out; have hnb91 := NB154_147.out; have hnc91 := NB147_154.out; have hnb92 := NB154_160.out; have hnc92 := NB160_154.out; obtain ⟨hcz93_0, hcz93_1, hcz93_2, hcz93_3⟩ := cb4_ BK154.out; obtain ⟨hfz93_0, hfz93_1, hfz93_2⟩ := bf3_ BK154.out; have hfz93_3 := blk_frozen BK154.out 3) | ((with_reducible refine gate_store (t := 3) (p := 66) rfl ?_); refine st_ (w1 := (w84.setCell ⟨gb154, 2, none⟩ (.int .i64 t162))) ?_; intro w94 hw; replace HO_155000 : Aside0 (Kd.R k62 62 w94 w.heap.size (fun k_ => k_ ≠ gb160) (.slice Ao15 t148.length co15) t148) := ⟨(by rw [hw]; exact (by (with_reducible repeat (first | apply Kd.R_alloc | apply Kd.R_drewN | apply Kd.R_drew)); exact Kd.R_mono (Kd.R_far (p := ⟨gb154, 2, none⟩) (Kd.R_types HO_155000.out BK154.out (by decide)) h2_ (.int .i64 t162)) (fun _ hk => by first | exact hk.1 | grind)))⟩; replace BK145 := uk_ hw BK145.out; replace BK146 := uk_ hw BK146.out; replace BK147 := uk_ hw BK147.out; replace BK154 : Aside0 (w94.heap[gb154]? = some (.cells #[.slice Ao15 t148.length co15, .int .i64 t151, .int .i64 t162, .int .i64 t153] 30 (0, 0))) := ⟨(by rw [hw]; exact (by (with_reducible repeat first|apply bn_|apply bd_|apply ba_); refine blk_put (cs := #[.slice Ao15 t148.length co15, .int .i64 t151, .int .i64 t152, .int .i64 t153]) ?_ 2 _ rfl; (with_reducible repeat first|apply bn_|apply bd_|apply ba_); exact BK154.out))⟩; replace BK160 := uk_ hw BK160.out; replace HB := uh_ hw HB.out; clear hw; obtain ⟨hcz95_0, hcz95_1, hcz95_2, hcz95_3⟩ := cb4_ BK154.out; obtain ⟨hfz95_0, hfz95_1, hfz95_2, hfz95_3⟩ := bf4_ BK154.out; have hnb96 := NB147_146.out; have hnc96 := NB146_147.out; have hnb97 := NB147_160.out; have hnc97 := NB160_147.out; obtain ⟨hcz98_0, hcz98_1, hcz98_2, hcz98_3⟩ := cb4_ BK147.out; obtain ⟨hfz98_0, hfz98_1, hfz98_2⟩ := bf3_ BK147.out; have hfz98_3 := blk_frozen BK147.out 3) | ((with_reducible refine gate_store (t := 30) (p := 8) rfl ?_); refine st_ (w1 := ((((w94.setCell ⟨gb147, 0, none⟩ (.slice Ao15 t148.length co15)).setCell ⟨gb147, 1, none⟩ (.int .i64 t151)).setCell ⟨gb147, 2, none⟩ (.int .i64 t162)).setCell ⟨gb147, 3, none⟩ (.int .i64 t153))) ?_; intro w99 hw; replace HO_155000 : Aside0 (Kd.R k62 62 w99 w.heap.size (fun k_ => k_ ≠ gb160) (.slice Ao15 t148.length co15) t148) := ⟨(by rw [hw]; exact (by (with_reducible repeat (first | apply Kd.R_alloc | apply Kd.R_drewN | apply Kd.R_drew)); exact Kd.R_mono (Rf4_ (g := gb147) (Kd.R_types HO_155000.out BK147.out (by decide))) (fun _ hk => by first | exact hk.1 | grind)))⟩; replace BK145 := uk_ hw BK145.out; replace BK146 := uk_ hw BK146.out; replace BK147 : Aside0 (w99.heap[gb147]? = some (.cells #[.slice Ao15 t148.length co15, .int .i64 t151, .int .i64 t162, .int .i64 t153] 30 (0, 0))) := ⟨(by rw [hw]; exact (by (with_reducible repeat first|apply bn_|apply bd_|apply ba_); apply bp4_; (with_reducible repeat first|apply bn_|apply bd_|apply ba_); exact BK147.out))⟩; replace BK154 := uk_ hw BK154.out; replace BK160 := uk_ hw BK160.out; replace HB := uh_ hw HB.out; clear hw))
    refine bodyPost_ret (results_ct rfl _ _ gb147 30 #[.slice Ao15 t148.length co15, .int .i64 t151, .int .i64 t162, .int .i64 t153] (0, 0) _ rfl (ub_ BK147.out) Try.underlying30 rfl (by kernel_rfl)) rfl ?_
    exact ⟨_, ew_, by (with_reducible repeat (first | apply Kd.R_alloc | apply Kd.R_drewN | apply Kd.R_drew)); exact Kd.R_mono HO_155000.out (fun _ hk => trivial), ue_ HB.out⟩
   rw [if_neg c72] at H
   have c72b0 : decide (t161 ≤ a0_1) = false := decide_eq_false c72
   clear c72
   have H' := Aside0.mk H
   clear H
   try go_wp2
   replace HO_155000 := am_ (Kd.R_drew HO_155000.out)
   replace BK145 := am_ (blk_drew BK145.out)
   replace BK146 := am_ (blk_drew BK146.out)
   replace BK147 := am_ (blk_drew BK147.out)
   replace BK154 := am_ (blk_drew BK154.out)
   replace HB := am_ (below_drew1 HB.out)
   refine start_ (n := 15) (S := fun w' => w'.cell? ⟨gb146, 0, none⟩ = some (.int .i64 a3_0) ∧ w'.cell? ⟨gb146, 1, none⟩ = some (.int .i64 a3_1) ∧ w'.cell? ⟨gb146, 2, none⟩ = some (.int .i64 a3_2) ∧ w'.cell? ⟨gb146, 3, none⟩ = some (.int .i64 a3_3)) (ds := []) #[false, false, false, false, false, false, false, false, false, false, false, false, false, false, false] (by kernel_rfl) rfl rfl (cbz4_ BK146.out) (fun hHeld => ?_); refine with_tabW spec_AddEvent.tab4 spec_AddEvent.bits4 (fun HT_ HW_ => ?_)
   generalize wc.drew = w100 at HO_155000 BK145 BK146 BK147 BK154 HB hHeld ⊢
   refine pu_ (i := 0) (N := some 42) #[true, false, false, false, false, false, false, false, false, false, false, false, false, false, false] HT_ ?_
   refine pu_ (i := 2) (N := some 44) #[true, false, true, false, false, false, false, false, false, false, false, false, false, false, false] HT_ ?_
   refine pu_ (i := 4) (N := some 46) #[true, false, true, false, true, false, false, false, false, false, false, false, false, false, false] HT_ ?_
   refine pu_ (i := 6) (N := some 48) #[true, false, true, false, true, false, true, false, false, false, false, false, false, false, false] HT_ ?_
   refine pu_ (i := 8) (N := some 50) #[true, false, true, false, true, false, true, false, true, false, false, false, false, false, false] HT_ ?_
   refine pu_ (i := 10) (N := some 52) #[true, false, true, false, true, false, true, false, true, false, true, false, false, false, false] HT_ ?_
   refine tk_ (i := 1) (N := some 43) #[true, true, true, false, true, false, true, false, true, false, true, false, false, false, false] HT_ HW_ hHeld ?_
   refine tk_ (i := 5) (N := some 47) #[true, true, true, false, true, true, true, false, true, false, true, false, false, false, false] HT_ HW_ hHeld ?_
   refine tk_ (i := 7) (N := some 49) #[true, true, true, false, true, true, true, true, true, false, true, false, false, false, false] HT_ HW_ hHeld ?_
   refine tk_ (i := 9) (N := some 51) #[true, true, true, false, true, true, true, true, true, true, true, false, false, false, false] HT_ HW_ hHeld ?_
   refine tk_ (i := 11) (N := some 53) #[true, true, true, false, true, true, true, true, true, true, true, true, false, false, false] HT_ HW_ hHeld ?_
   refine join_ (σ := Nat) 1 #[true, true, true, true, true, true, true, true, true, true, true, true, true, true, false] (fun s_ => [(45, .int .i64 t159), (11, .pointer (some ⟨s_, 0, none⟩)), (54, .agg #[.int .i64 t159, .int .i64 a3_1, .int .i64 1, .int .i64 a3_3, .int .i64 a3_3, .int .i64 a3_3])]) (fun s_ w' => (w'.cell? ⟨gb146, 0, none⟩ = some (.int .i64 a3_0) ∧ w'.cell? ⟨gb146, 1, none⟩ = some (.int .i64 a3_1) ∧ w'.cell? ⟨gb146, 2, none⟩ = some (.int .i64 a3_2) ∧ w'.cell? ⟨gb146, 3, none⟩ = some (.int .i64 a3_3)) ∧ (Kd.R k62 62 w' w.heap.size (fun k_ => k_ ≠ s_) (.slice Ao15 t148.length co15) t148) ∧ (w'.heap[gb145]? = some (.cells #[.slice A0_0 l0_0.length c0_0, .int .i64 a0_1, .int .i64 a0_2, .int .i64 a0_3] 30 (0, 0))) ∧ (w'.heap[gb146]? = some (.cells #[.int .i64 a3_0, .int .i64 a3_1, .int .i64 a3_2, .int .i64 a3_3] 34 (0, 0))) ∧ (w'.heap[gb147]? = some (.cells #[.slice none 0 0, .int .i64 0, .int .i64 0, .int .i64 0] 30 (0, 0))) ∧ (w'.heap[gb154]? = some (.cells #[.slice Ao15 t148.length co15, .int .i64 t151, .int .i64 t152, .int .i64 t153] 30 (0, 0))) ∧ (w'.heap[s_]? = some (.cells #[.int .i64 0, .int .i64 0, .int .i64 0, .int .i64 0, .int .i64 0, .int .i64 0] 62 (0, 0))) ∧ (w.heap.size ≤ s_) ∧ (w.heap.size ≤ s_) ∧ (gb145 ≠ s_) ∧ (s_ ≠ gb145) ∧ (gb146 ≠ s_) ∧ (s_ ≠ gb146) ∧ (gb147 ≠ s_) ∧ (s_ ≠ gb147) ∧ (gb154 ≠ s_) ∧ (s_ ≠ gb154) ∧ (Below w.heap.size w w')) ?_ ?_
   rotate_left
   ·
    intro hCont
    refine two_ (i := 3) (j := 13) (Ni := some 45) (Nj := some 11) #[true, true, true, true, true, true, true, true, true, true, true, true, false, false, false] #[true, true, true, false, true, true, true, true, true, true, true, true, false, true, false] rfl rfl rfl rfl (two_of HT_.out (by kernel_rfl)) (by decide) (by decide) (fun K hK => ?_) (fun K hK => ?_)
    ·
     skip
     refine goes_ Try.func27 (by kernel_rfl) rfl #[.int .i64 a3_2, .int .i64 a1] (by rfl) rfl rfl ul_ ?_
     with_reducible refine (spec_WindowOf.calls a3_2 a1 t159 _ A70.out).mono ?_
     rintro e w' ⟨rfl, ⟨nd, rfl⟩⟩
     refine ⟨_, rfl, ?_⟩
     refine hK.out _ _ (cbz4_ BK146.out) (fun hHeld => ?_)
     clear hK K
     refine norm_ (a' := ?_) ?_ ?_
     rotate_left
     ·
      show Act.put _ (some 45) _ = _
      simp only [Act.put, List.setIfInBounds_toArray, List.set_cons_zero, List.set_cons_succ, i64_w, i32_w]
      rfl
     refine pu_ (i := 12) (N := some 54) #[true, true, true, true, true, true, true, true, true, true, true, true, true, false, false] HT_ ?_
     refine one_ (i := 13) (N := some 11) #[true, true, true, true, true, true, true, true, true, true, true, true, true, true, false] rfl rfl (one_of HT_.out (by kernel_rfl)) (by decide) (fun K hK => ?_)
     refine box_step ?hg (N := 11) ?hd (cs := #[.int .i64 0, .int .i64 0, .int .i64 0, .int .i64 0, .int .i64 0, .int .i64 0]) (t := 62) ?hr ?_; (case hd => rfl); (case hg => rfl); (case hr => first | (go_simp; done) | (go_simp; rfl))
     intro gb160 hg w101 hbox hb
     replace HO_155000 := am_ (Kd.R_below (Kd.R_elderB (ur_ HO_155000.out) gb160 (Nat.le_of_eq hg.symm)) hb)
     have BK160 := am_ (hbox)
     have GW160 := gs_ hg HB.out
     have GE160 := gs_ hg HB.out
     replace HB := hs_ HB hb
     have NB145_160 := nl_ hg BK145.out
     have NB160_145 := ng_ hg BK145.out
     replace BK145 := bs_ BK145 hb
     have NB146_160 := nl_ hg BK146.out
     have NB160_146 := ng_ hg BK146.out
     replace BK146 := bs_ BK146 hb
     have NB147_160 := nl_ hg BK147.out
     have NB160_147 := ng_ hg BK147.out
     replace BK147 := bs_ BK147 hb
     have NB154_160 := nl_ hg BK154.out
     have NB160_154 := ng_ hg BK154.out
     replace BK154 := bs_ BK154 hb
     clear hb hbox hg
     refine hK.out _ _ (cbz4_ BK146.out) (fun hHeld => ?_)
     clear hK K
     refine norm_ (a' := ?_) ?_ ?_
     rotate_left
     ·
      show Act.put _ (some 11) _ = _
      simp only [Act.put, List.setIfInBounds_toArray, List.set_cons_zero, List.set_cons_succ, i64_w, i32_w]
      rfl
     exact norm_ (by simp only [putAll, Act.put, List.setIfInBounds_toArray, List.set_cons_zero, List.set_cons_succ]) (hCont (gb160) _ ⟨hHeld, (by (with_reducible repeat (first | apply Kd.R_alloc | apply Kd.R_drewN | apply Kd.R_drew)); exact Kd.R_mono HO_155000.out h2_), (ub_ BK145.out), (ub_ BK146.out), (ub_ BK147.out), (ub_ BK154.out), (ub_ BK160.out), GW160.out, GE160.out, NB145_160.out, NB160_145.out, NB146_160.out, NB160_146.out, NB147_160.out, NB160_147.out, NB154_160.out, NB160_154.out, (ue_ HB.out)⟩)
    skip
    refine box_step ?hg (N := 11) ?hd (cs := #[.int .i64 0, .int .i64 0, .int .i64 0, .int .i64 0, .int .i64 0, .int .i64 0]) (t := 62) ?hr ?_; (case hd => rfl); (case hg => rfl); (case hr => first | (go_simp; done) | (go_simp; rfl))
    intro gb160 hg w101 hbox hb
    replace HO_155000 := am_ (Kd.R_below (Kd.R_elderB (ur_ HO_155000.out) gb160 (Nat.le_of_eq hg.symm)) hb)
    have BK160 := am_ (hbox)
    have GW160 := gs_ hg HB.out
    have GE160 := gs_ hg HB.out
    replace HB := hs_ HB hb
    have NB145_160 := nl_ hg BK145.out
    have NB160_145 := ng_ hg BK145.out
    replace BK145 := bs_ BK145 hb
    have NB146_160 := nl_ hg BK146.out
    have NB160_146 := ng_ hg BK146.out
    replace BK146 := bs_ BK146 hb
    have NB147_160 := nl_ hg BK147.out
    have NB160_147 := ng_ hg BK147.out
    replace BK147 := bs_ BK147 hb
    have NB154_160 := nl_ hg BK154.out
    have NB160_154 := ng_ hg BK154.out
    replace BK154 := bs_ BK154 hb
    clear hb hbox hg
    refine hK.out _ _ (cbz4_ BK146.out) (fun hHeld => ?_)
    clear hK K
    refine norm_ (a' := ?_) ?_ ?_
    rotate_left
    ·
     show Act.put _ (some 11) _ = _
     simp only [Act.put, List.setIfInBounds_toArray, List.set_cons_zero, List.set_cons_succ, i64_w, i32_w]
     rfl
    refine one_ (i := 3) (N := some 45) #[true, true, true, true, true, true, true, true, true, true, true, true, false, true, false] rfl rfl (one_of HT_.out (by kernel_rfl)) (by decide) (fun K hK => ?_)
    refine goes_ Try.func27 (by kernel_rfl) rfl #[.int .i64 a3_2, .int .i64 a1] (by rfl) rfl rfl ul_ ?_
    with_reducible refine (spec_WindowOf.calls a3_2 a1 t159 _ A70.out).mono ?_
    rintro e w' ⟨rfl, ⟨nd, rfl⟩⟩
    refine ⟨_, rfl, ?_⟩
    refine hK.out _ _ (cbz4_ BK146.out) (fun hHeld => ?_)
    clear hK K
    refine norm_ (a' := ?_) ?_ ?_
    rotate_left
    ·
     show Act.put _ (some 45) _ = _
     simp only [Act.put, List.setIfInBounds_toArray, List.set_cons_zero, List.set_cons_succ, i64_w, i32_w]
     rfl
    refine pu_ (i := 12) (N := some 54) #[true, true, true, true, true, true, true, true, true, true, true, true, true, true, false] HT_ ?_
    exact norm_ (by simp only [putAll, Act.put, List.setIfInBounds_toArray, List.set_cons_zero, List.set_cons_succ]) (hCont (gb160) _ ⟨hHeld, (by (with_reducible repeat (first | apply Kd.R_alloc | apply Kd.R_drewN | apply Kd.R_drew)); exact Kd.R_mono HO_155000.out h2_), (ub_ BK145.out), (ub_ BK146.out), (ub_ BK147.out), (ub_ BK154.out), (ub_ BK160.out), GW160.out, GE160.out, NB145_160.out, NB160_145.out, NB146_160.out, NB160_146.out, NB147_160.out, NB160_147.out, NB154_160.out, NB160_154.out, (ue_ HB.out)⟩)
   rintro gb160 w102 ⟨hS_, h0_, h1_, h2_, h3_, h4_, h5_, h6_, h7_, h8_, h9_, h10_, h11_, h12_, h13_, h14_, h15_, h16_⟩
   replace HO_155000 : Aside0 (Kd.R k62 62 w102 w.heap.size (fun k_ => k_ ≠ gb160) (.slice Ao15 t148.length co15) t148) := ⟨h0_⟩
   replace BK145 : Aside0 (w102.heap[gb145]? = some (.cells #[.slice A0_0 l0_0.length c0_0, .int .i64 a0_1, .int .i64 a0_2, .int .i64 a0_3] 30 (0, 0))) := ⟨h1_⟩
   replace BK146 : Aside0 (w102.heap[gb146]? = some (.cells #[.int .i64 a3_0, .int .i64 a3_1, .int .i64 a3_2, .int .i64 a3_3] 34 (0, 0))) := ⟨h2_⟩
   replace BK147 : Aside0 (w102.heap[gb147]? = some (.cells #[.slice none 0 0, .int .i64 0, .int .i64 0, .int .i64 0] 30 (0, 0))) := ⟨h3_⟩
   replace BK154 : Aside0 (w102.heap[gb154]? = some (.cells #[.slice Ao15 t148.length co15, .int .i64 t151, .int .i64 t152, .int .i64 t153] 30 (0, 0))) := ⟨h4_⟩
   have BK160 : Aside0 (w102.heap[gb160]? = some (.cells #[.int .i64 0, .int .i64 0, .int .i64 0, .int .i64 0, .int .i64 0, .int .i64 0] 62 (0, 0))) := ⟨h5_⟩
   have GW160 : Aside0 (w.heap.size ≤ gb160) := ⟨h6_⟩
   have GE160 : Aside0 (w.heap.size ≤ gb160) := ⟨h7_⟩
   have NB145_160 : Aside0 (gb145 ≠ gb160) := ⟨h8_⟩
   have NB160_145 : Aside0 (gb160 ≠ gb145) := ⟨h9_⟩
   have NB146_160 : Aside0 (gb146 ≠ gb160) := ⟨h10_⟩
   have NB160_146 : Aside0 (gb160 ≠ gb146) := ⟨h11_⟩
   have NB147_160 : Aside0 (gb147 ≠ gb160) := ⟨h12_⟩
   have NB160_147 : Aside0 (gb160 ≠ gb147) := ⟨h13_⟩
   have NB154_160 : Aside0 (gb154 ≠ gb160) := ⟨h14_⟩
   have NB160_154 : Aside0 (gb160 ≠ gb154) := ⟨h15_⟩
   replace HB : Aside0 (Below w.heap.size w w102) := ⟨h16_⟩
   clear h0_ h1_ h2_ h3_ h4_ h5_ h6_ h7_ h8_ h9_ h10_ h11_ h12_ h13_ h14_ h15_ h16_
   have hHeld : w102.cell? ⟨gb146, 0, none⟩ = some (.int .i64 a3_0) ∧ w102.cell? ⟨gb146, 1, none⟩ = some (.int .i64 a3_1) ∧ w102.cell? ⟨gb146, 2, none⟩ = some (.int .i64 a3_2) ∧ w102.cell? ⟨gb146, 3, none⟩ = some (.int .i64 a3_3) := hS_
   refine norm_ (a' := ?_) ?_ ?_
   rotate_left
   ·
    simp only [putAll, Act.put, List.setIfInBounds_toArray, List.set_cons_zero, List.set_cons_succ]
    rfl
   refine one_ (i := 14) (N := none) #[true, true, true, true, true, true, true, true, true, true, true, true, true, true, true] rfl rfl (one_of HT_.out (by kernel_rfl)) (by decide) (fun K hK => ?_)
   have hs103 := cb_ BK160.out 0 rfl
   have hfs103 := blk_frozen BK160.out 0
   have hns103_0 := NB145_160.out
   have hns103_1 := NB146_160.out
   have hns103_2 := NB147_160.out
   have hns103_3 := NB154_160.out
   have hms103_0 := NB160_145.out
   have hms103_1 := NB160_146.out
   have hms103_2 := NB160_147.out
   have hms103_3 := NB160_154.out
   have hs104 := cb_ BK160.out 1 rfl
   have hfs104 := blk_frozen BK160.out 1
   have hns104_0 := NB145_160.out
   have hns104_1 := NB146_160.out
   have hns104_2 := NB147_160.out
   have hns104_3 := NB154_160.out
   have hms104_0 := NB160_145.out
   have hms104_1 := NB160_146.out
   have hms104_2 := NB160_147.out
   have hms104_3 := NB160_154.out
   have hs105 := cb_ BK160.out 2 rfl
   have hfs105 := blk_frozen BK160.out 2
   have hns105_0 := NB145_160.out
   have hns105_1 := NB146_160.out
   have hns105_2 := NB147_160.out
   have hns105_3 := NB154_160.out
   have hms105_0 := NB160_145.out
   have hms105_1 := NB160_146.out
   have hms105_2 := NB160_147.out
   have hms105_3 := NB160_154.out
   have hs106 := cb_ BK160.out 3 rfl
   have hfs106 := blk_frozen BK160.out 3
   have hns106_0 := NB145_160.out
   have hns106_1 := NB146_160.out
   have hns106_2 := NB147_160.out
   have hns106_3 := NB154_160.out
   have hms106_0 := NB160_145.out
   have hms106_1 := NB160_146.out
   have hms106_2 := NB160_147.out
   have hms106_3 := NB160_154.out
   have hs107 := cb_ BK160.out 4 rfl
   have hfs107 := blk_frozen BK160.out 4
   have hns107_0 := NB145_160.out
   have hns107_1 := NB146_160.out
   have hns107_2 := NB147_160.out
   have hns107_3 := NB154_160.out
   have hms107_0 := NB160_145.out
   have hms107_1 := NB160_146.out
   have hms107_2 := NB160_147.out
   have hms107_3 := NB160_154.out
   have hs108 := cb_ BK160.out 5 rfl
   have hfs108 := blk_frozen BK160.out 5
   have hns108_0 := NB145_160.out
   have hns108_1 := NB146_160.out
   have hns108_2 := NB147_160.out
   have hns108_3 := NB154_160.out
   have hms108_0 := NB160_145.out
   have hms108_1 := NB160_146.out
   have hms108_2 := NB160_147.out
   have hms108_3 := NB160_154.out
   refine skip_ (w1 := ?_) (by rfl) rfl ?_ ?_
   rotate_left
   ·
    go_simp
    rfl
   refine hK.out _ _ ⟨(cf6_ hHeld.1 NB146_160.out), (cf6_ hHeld.2.1 NB146_160.out), (cf6_ hHeld.2.2.1 NB146_160.out), (cf6_ hHeld.2.2.2 NB146_160.out)⟩ (fun hHeld => ?_)
   clear hK K
   refine done_ (done_of HT_.out (by kernel_rfl)) ?_
   try go_wp2
   have n0_ : Aside0 (Kd.R k62 62 ((((((w102.setCell ⟨gb160, 0, none⟩ (.int .i64 t159)).setCell ⟨gb160, 1, none⟩ (.int .i64 a3_1)).setCell ⟨gb160, 2, none⟩ (.int .i64 1)).setCell ⟨gb160, 3, none⟩ (.int .i64 a3_3)).setCell ⟨gb160, 4, none⟩ (.int .i64 a3_3)).setCell ⟨gb160, 5, none⟩ (.int .i64 a3_3)) w.heap.size (fun k_ => k_ ≠ gb160) (.slice Ao15 t148.length co15) t148) := ⟨by (with_reducible repeat (first | apply Kd.R_alloc | apply Kd.R_drewN | apply Kd.R_drew)); exact Kd.R_mono (Rf6_ (g := gb160) (Kd.R_mono HO_155000.out (fun k_ hk => (⟨hk, (by first | exact hk | grind)⟩ : _ ∧ k_ ≠ gb160)))) (fun _ hk => by first | exact hk.1 | grind)⟩
   have n1_ : Aside0 (((((((w102.setCell ⟨gb160, 0, none⟩ (.int .i64 t159)).setCell ⟨gb160, 1, none⟩ (.int .i64 a3_1)).setCell ⟨gb160, 2, none⟩ (.int .i64 1)).setCell ⟨gb160, 3, none⟩ (.int .i64 a3_3)).setCell ⟨gb160, 4, none⟩ (.int .i64 a3_3)).setCell ⟨gb160, 5, none⟩ (.int .i64 a3_3)).heap[gb145]? = some (.cells #[.slice A0_0 l0_0.length c0_0, .int .i64 a0_1, .int .i64 a0_2, .int .i64 a0_3] 30 (0, 0))) := ⟨by (with_reducible repeat first|apply bn_|apply bd_|apply ba_); refine blk_far ?_ NB145_160.out _; refine blk_far ?_ NB145_160.out _; refine blk_far ?_ NB145_160.out _; refine blk_far ?_ NB145_160.out _; refine blk_far ?_ NB145_160.out _; refine blk_far ?_ NB145_160.out _; (with_reducible repeat first|apply bn_|apply bd_|apply ba_); exact BK145.out⟩
   have n2_ : Aside0 (((((((w102.setCell ⟨gb160, 0, none⟩ (.int .i64 t159)).setCell ⟨gb160, 1, none⟩ (.int .i64 a3_1)).setCell ⟨gb160, 2, none⟩ (.int .i64 1)).setCell ⟨gb160, 3, none⟩ (.int .i64 a3_3)).setCell ⟨gb160, 4, none⟩ (.int .i64 a3_3)).setCell ⟨gb160, 5, none⟩ (.int .i64 a3_3)).heap[gb146]? = some (.cells #[.int .i64 a3_0, .int .i64 a3_1, .int .i64 a3_2, .int .i64 a3_3] 34 (0, 0))) := ⟨by (with_reducible repeat first|apply bn_|apply bd_|apply ba_); refine blk_far ?_ NB146_160.out _; refine blk_far ?_ NB146_160.out _; refine blk_far ?_ NB146_160.out _; refine blk_far ?_ NB146_160.out _; refine blk_far ?_ NB146_160.out _; refine blk_far ?_ NB146_160.out _; (with_reducible repeat first|apply bn_|apply bd_|apply ba_); exact BK146.out⟩
   have n3_ : Aside0 (((((((w102.setCell ⟨gb160, 0, none⟩ (.int .i64 t159)).setCell ⟨gb160, 1, none⟩ (.int .i64 a3_1)).setCell ⟨gb160, 2, none⟩ (.int .i64 1)).setCell ⟨gb160, 3, none⟩ (.int .i64 a3_3)).setCell ⟨gb160, 4, none⟩ (.int .i64 a3_3)).setCell ⟨gb160, 5, none⟩ (.int .i64 a3_3)).heap[gb147]? = some (.cells #[.slice none 0 0, .int .i64 0, .int .i64 0, .int .i64 0] 30 (0, 0))) := ⟨by (with_reducible repeat first|apply bn_|apply bd_|apply ba_); refine blk_far ?_ NB147_160.out _; refine blk_far ?_ NB147_160.out _; refine blk_far ?_ NB147_160.out _; refine blk_far ?_ NB147_160.out _; refine blk_far ?_ NB147_160.out _; refine blk_far ?_ NB147_160.out _; (with_reducible repeat first|apply bn_|apply bd_|apply ba_); exact BK147.out⟩
   have n4_ : Aside0 (((((((w102.setCell ⟨gb160, 0, none⟩ (.int .i64 t159)).setCell ⟨gb160, 1, none⟩ (.int .i64 a3_1)).setCell ⟨gb160, 2, none⟩ (.int .i64 1)).setCell ⟨gb160, 3, none⟩ (.int .i64 a3_3)).setCell ⟨gb160, 4, none⟩ (.int .i64 a3_3)).setCell ⟨gb160, 5, none⟩ (.int .i64 a3_3)).heap[gb154]? = some (.cells #[.slice Ao15 t148.length co15, .int .i64 t151, .int .i64 t152, .int .i64 t153] 30 (0, 0))) := ⟨by (with_reducible repeat first|apply bn_|apply bd_|apply ba_); refine blk_far ?_ NB154_160.out _; refine blk_far ?_ NB154_160.out _; refine blk_far ?_ NB154_160.out _; refine blk_far ?_ NB154_160.out _; refine blk_far ?_ NB154_160.out _; refine blk_far ?_ NB154_160.out _; (with_reducible repeat first|apply bn_|apply bd_|apply ba_); exact BK154.out⟩
   have n5_ : Aside0 (((((((w102.setCell ⟨gb160, 0, none⟩ (.int .i64 t159)).setCell ⟨gb160, 1, none⟩ (.int .i64 a3_1)).setCell ⟨gb160, 2, none⟩ (.int .i64 1)).setCell ⟨gb160, 3, none⟩ (.int .i64 a3_3)).setCell ⟨gb160, 4, none⟩ (.int .i64 a3_3)).setCell ⟨gb160, 5, none⟩ (.int .i64 a3_3)).heap[gb160]? = some (.cells #[.int .i64 t159, .int .i64 a3_1, .int .i64 1, .int .i64 a3_3, .int .i64 a3_3, .int .i64 a3_3] 62 (0, 0))) := ⟨by (with_reducible repeat first|apply bn_|apply bd_|apply ba_); apply bp6_; (with_reducible repeat first|apply bn_|apply bd_|apply ba_); exact BK160.out⟩
   have n6_ : Aside0 (Below w.heap.size w ((((((w102.setCell ⟨gb160, 0, none⟩ (.int .i64 t159)).setCell ⟨gb160, 1, none⟩ (.int .i64 a3_1)).setCell ⟨gb160, 2, none⟩ (.int .i64 1)).setCell ⟨gb160, 3, none⟩ (.int .i64 a3_3)).setCell ⟨gb160, 4, none⟩ (.int .i64 a3_3)).setCell ⟨gb160, 5, none⟩ (.int .i64 a3_3))) := ⟨ue_ HB.out⟩
   (try clear HO_155000)
   (try clear BK145)
   (try clear BK146)
   (try clear BK147)
   (try clear BK154)
   (try clear BK160)
   (try clear HB)
   generalize ((((((w102.setCell ⟨gb160, 0, none⟩ (.int .i64 t159)).setCell ⟨gb160, 1, none⟩ (.int .i64 a3_1)).setCell ⟨gb160, 2, none⟩ (.int .i64 1)).setCell ⟨gb160, 3, none⟩ (.int .i64 a3_3)).setCell ⟨gb160, 4, none⟩ (.int .i64 a3_3)).setCell ⟨gb160, 5, none⟩ (.int .i64 a3_3)) = w109 at n0_ n1_ n2_ n3_ n4_ n5_ n6_ ⊢
   have HO_155000 := n0_
   have BK145 := n1_
   have BK146 := n2_
   have BK147 := n3_
   have BK154 := n4_
   have BK160 := n5_
   have HB := n6_
   clear n0_ n1_ n2_ n3_ n4_ n5_ n6_
   replace HO_155000 := am_ (Kd.R_drew HO_155000.out)
   replace BK145 := am_ (blk_drew BK145.out)
   replace BK146 := am_ (blk_drew BK146.out)
   replace BK147 := am_ (blk_drew BK147.out)
   replace BK154 := am_ (blk_drew BK154.out)
   replace BK160 := am_ (blk_drew BK160.out)
   replace HB := am_ (below_drew1 HB.out)
   refine start_ (n := 7) (S := fun w' => w'.cell? ⟨gb160, 0, none⟩ = some (.int .i64 t159) ∧ w'.cell? ⟨gb160, 1, none⟩ = some (.int .i64 a3_1) ∧ w'.cell? ⟨gb160, 2, none⟩ = some (.int .i64 1) ∧ w'.cell? ⟨gb160, 3, none⟩ = some (.int .i64 a3_3) ∧ w'.cell? ⟨gb160, 4, none⟩ = some (.int .i64 a3_3) ∧ w'.cell? ⟨gb160, 5, none⟩ = some (.int .i64 a3_3) ∧ w'.cell? ⟨gb145, 0, none⟩ = some (.slice A0_0 l0_0.length c0_0) ∧ w'.cell? ⟨gb145, 1, none⟩ = some (.int .i64 a0_1) ∧ w'.cell? ⟨gb145, 2, none⟩ = some (.int .i64 a0_2) ∧ w'.cell? ⟨gb145, 3, none⟩ = some (.int .i64 a0_3)) (ds := []) #[false, false, false, false, false, false, false] (by kernel_rfl) rfl rfl ⟨cb_ BK160.out 0 rfl, cb_ BK160.out 1 rfl, cb_ BK160.out 2 rfl, cb_ BK160.out 3 rfl, cb_ BK160.out 4 rfl, cb_ BK160.out 5 rfl, cb_ BK145.out 0 rfl, cb_ BK145.out 1 rfl, cb_ BK145.out 2 rfl, cb_ BK145.out 3 rfl⟩ (fun hHeld => ?_)
   generalize w109.drew = w110 at HO_155000 BK145 BK146 BK147 BK154 BK160 HB hHeld ⊢
   refine pure_ (i := 0) (N := some 55) (v := ?_) (a' := ?_) #[true, false, false, false, false, false, false] rfl rfl (by kernel_rfl) (fun _ _ _ h => h) (Or.inl ⟨by rfl, ?_⟩) ?_ ?_
   rotate_left
   ·
    intro w'
    go_simp
    with_reducible rfl
   rotate_left
   ·
    simp only [Act.put, List.setIfInBounds_toArray, List.set_cons_zero, List.set_cons_succ, i64_w, i32_w]
    rfl
   refine pure_ (i := 2) (N := some 57) (v := ?_) (a' := ?_) #[true, false, true, false, false, false, false] rfl rfl (by kernel_rfl) (fun _ _ _ h => h) (Or.inl ⟨by rfl, ?_⟩) ?_ ?_
   rotate_left
   ·
    intro w'
    go_simp
    with_reducible rfl
   rotate_left
   ·
    simp only [Act.put, List.setIfInBounds_toArray, List.set_cons_zero, List.set_cons_succ, i64_w, i32_w]
    rfl
   refine pure_ (i := 4) (N := some 59) (v := ?_) (a' := ?_) #[true, false, true, false, true, false, false] rfl rfl (by kernel_rfl) (fun _ _ _ h => h) (Or.inl ⟨by rfl, ?_⟩) ?_ ?_
   rotate_left
   ·
    intro w'
    go_simp
    with_reducible rfl
   rotate_left
   ·
    simp only [Act.put, List.setIfInBounds_toArray, List.set_cons_zero, List.set_cons_succ, i64_w, i32_w]
    rfl
   refine take_ (i := 1) (N := some 56) (v := ?_) (a' := ?_) #[true, true, true, false, true, false, false] rfl rfl (by kernel_rfl) (fun _ _ _ h => h) (Or.inl ⟨by rfl, ?_⟩) hHeld ?_ ?_
   rotate_left
   ·
    rintro w' ⟨s0, s1, s2, s3, s4, s5, s6, s7, s8, s9⟩
    go_simp
    with_reducible rfl
   rotate_left
   ·
    simp only [Act.put, List.setIfInBounds_toArray, List.set_cons_zero, List.set_cons_succ, i64_w, i32_w]
    rfl
   refine take_ (i := 5) (N := some 60) (v := ?_) (a' := ?_) #[true, true, true, false, true, true, false] rfl rfl (by kernel_rfl) (fun _ _ _ h => h) (Or.inl ⟨by rfl, ?_⟩) hHeld ?_ ?_
   rotate_left
   ·
    rintro w' ⟨s0, s1, s2, s3, s4, s5, s6, s7, s8, s9⟩
    go_simp
    with_reducible rfl
   rotate_left
   ·
    simp only [Act.put, List.setIfInBounds_toArray, List.set_cons_zero, List.set_cons_succ, i64_w, i32_w]
    rfl
   refine one_ (i := 3) (N := some 58) #[true, true, true, true, true, true, false] rfl rfl (by kernel_rfl) (by decide) (fun K hK => ?_)
   refine goes_ Try.func28 (by kernel_rfl) rfl #[.int .i64 t159, .int .i64 a1] (by rfl) rfl rfl ul_ ?_
   with_reducible refine (spec_WindowEnd.calls t159 a1 t161 _ A71.out).mono ?_
   rintro e w' ⟨rfl, ⟨nd, rfl⟩⟩
   refine ⟨_, rfl, ?_⟩
   refine hK.out _ _ ⟨cb_ BK160.out 0 rfl, cb_ BK160.out 1 rfl, cb_ BK160.out 2 rfl, cb_ BK160.out 3 rfl, cb_ BK160.out 4 rfl, cb_ BK160.out 5 rfl, cb_ BK145.out 0 rfl, cb_ BK145.out 1 rfl, cb_ BK145.out 2 rfl, cb_ BK145.out 3 rfl⟩ (fun hHeld => ?_)
   clear hK K
   refine norm_ (a' := ?_) ?_ ?_
   rotate_left
   ·
    show Act.put _ (some 58) _ = _
    simp only [Act.put, List.setIfInBounds_toArray, List.set_cons_zero, List.set_cons_succ, i64_w, i32_w]
    rfl
   refine pure_ (i := 6) (N := some 61) (v := ?_) (a' := ?_) #[true, true, true, true, true, true, true] rfl rfl (by kernel_rfl) (fun _ _ _ h => h) (Or.inl ⟨by rfl, ?_⟩) ?_ ?_
   rotate_left
   ·
    intro w'
    go_simp
    with_reducible rfl
   rotate_left
   ·
    simp only [Act.put, List.setIfInBounds_toArray, List.set_cons_zero, List.set_cons_succ, i64_w, i32_w]
    rfl
   refine done_ (by kernel_rfl) ?_
   try go_wp2
   (try simp only [Act.put, List.setIfInBounds_toArray, List.set_cons_zero, List.set_cons_succ])
   go_loopg [12] kj5 (fun kq v12 w' => ∃ (x12_2 : Int) (x148001_2 : Int) (x148002_2 : Int) (x148003_2 : Int) (x155000_2 : List (S62)) (x161000_2 : Int) (x161001_2 : Int) (x161002_2 : Int) (x161003_2 : Int) (x161004_2 : Int) (x161005_2 : Int) (u155000 : Value), v12 = .int .i64 x12_2 ∧ Aside0 (spec_AddEvent.l0 kq a2 x12_2 l0_0 a0_1 a0_2 a0_3 x155000_2 t151 t152 t153 x161000_2 x161001_2 x161002_2 x161003_2 x161004_2 x161005_2 = some (r1, r2, r3, r4, r5)) ∧ Aside0 (kq ≤ kj5) ∧ Aside0 (Kd.R k62 62 w' w.heap.size (fun k_ => k_ ≠ gb160) u155000 x155000_2) ∧ Aside0 (w'.heap[gb145]? = some (.cells #[(.slice A0_0 l0_0.length c0_0), .int .i64 a0_1, .int .i64 a0_2, .int .i64 a0_3] 30 (0, 0))) ∧ Aside0 (w'.heap[gb146]? = some (.cells #[.int .i64 a3_0, .int .i64 a3_1, .int .i64 a3_2, .int .i64 a3_3] 34 (0, 0))) ∧ Aside0 (w'.heap[gb147]? = some (.cells #[(.slice none 0 0), .int .i64 x148001_2, .int .i64 x148002_2, .int .i64 x148003_2] 30 (0, 0))) ∧ Aside0 (w'.heap[gb154]? = some (.cells #[u155000, .int .i64 t151, .int .i64 t152, .int .i64 t153] 30 (0, 0))) ∧ Aside0 (w'.heap[gb160]? = some (.cells #[.int .i64 x161000_2, .int .i64 x161001_2, .int .i64 x161002_2, .int .i64 x161003_2, .int .i64 x161004_2, .int .i64 x161005_2] 62 (0, 0))) ∧ Aside0 (Below w.heap.size w w'))
   case atStart => exact ⟨(0), (0), (0), (0), (t148), (t159), (a3_1), (1), (a3_3), (a3_3), (a3_3), (.slice Ao15 t148.length co15), (by first | rfl | (simp; done) | (simp [*]; done)), H', ⟨Nat.le_refl _⟩, ⟨by (with_reducible repeat (first | apply Kd.R_alloc | apply Kd.R_drewN | apply Kd.R_drew)); exact HO_155000.out⟩, ⟨by (with_reducible repeat first|apply bn_|apply bd_|apply ba_); exact BK145.out⟩, ⟨by (with_reducible repeat first|apply bn_|apply bd_|apply ba_); exact BK146.out⟩, ⟨by (with_reducible repeat first|apply bn_|apply bd_|apply ba_); exact BK147.out⟩, ⟨by (with_reducible repeat first|apply bn_|apply bd_|apply ba_); exact BK154.out⟩, ⟨by (with_reducible repeat first|apply bn_|apply bd_|apply ba_); exact BK160.out⟩, ⟨ue_ HB.out⟩⟩
   case round =>
    clear H'
    try clear c2
    try clear p2
    try clear p6
    try clear c7
    try clear c8
    try clear c9
    try clear c27
    try clear c28
    try clear c29
    try clear p64
    try clear c72
    try clear c72b0
    try clear c85
    try clear c86
    try clear c87
    try clear c88
    try clear c90
    try clear c91
    try clear c92
    try clear c96
    try clear c97
    try clear hcz89_0
    try clear hcz89_1
    try clear hcz89_2
    try clear hcz89_3
    try clear hcz93_0
    try clear hcz93_1
    try clear hcz93_2
    try clear hcz93_3
    try clear hcz95_0
    try clear hcz95_1
    try clear hcz95_2
    try clear hcz95_3
    try clear hcz98_0
    try clear hcz98_1
    try clear hcz98_2
    try clear hcz98_3
    try clear hfz89_0
    try clear hfz89_1
    try clear hfz89_2
    try clear hfz89_3
    try clear hfz93_0
    try clear hfz93_1
    try clear hfz93_2
    try clear hfz93_3
    try clear hfz95_0
    try clear hfz95_1
    try clear hfz95_2
    try clear hfz95_3
    try clear hfz98_0
    try clear hfz98_1
    try clear hfz98_2
    try clear hfz98_3
    obtain ⟨x12_2, x148001_2, x148002_2, x148003_2, x155000_2, x161000_2, x161001_2, x161002_2, x161003_2, x161004_2, x161005_2, u155000, rfl, HA, HK2, HO_155000, BK145, BK146, BK147, BK154, BK160, HB⟩ := hrel
    cases gk with
    | zero => exact absurd HA.out (by simp [spec_AddEvent.l0])
    | succ k2 =>
     have H := HA.out
     clear HA
     simp only [spec_AddEvent.l0] at H
     by_cases c111 : x12_2 < (l0_0.length : Int)
     ·
      rw [if_pos c111] at H
      have c111b0 : decide (x12_2 < (l0_0.length : Int)) = true := decide_eq_true c111
      clear c111
      by_cases c112 : 0 ≤ x12_2
      ·
       rw [if_pos c112] at H
       have c112b0 : decide (0 ≤ x12_2) = true := decide_eq_true c112
       clear c112
       by_cases c113 : ((rd_T62 l0_0 x12_2).f0) = x161000_2
       ·
        rw [if_pos c113] at H
        have c113b0 : (((rd_T62 l0_0 x12_2).f0) == x161000_2) = true := beq_iff_eq.mpr c113
        have c113b1 : (((rd_T62 l0_0 x12_2).f0) != x161000_2) = false := bne_eq_false_iff_eq.mpr c113
        clear c113
        by_cases c114 : ((rd_T62 l0_0 x12_2).f1) = x161001_2
        ·
         rw [if_pos c114] at H
         have c114b0 : (((rd_T62 l0_0 x12_2).f1) == x161001_2) = true := beq_iff_eq.mpr c114
         have c114b1 : (((rd_T62 l0_0 x12_2).f1) != x161001_2) = false := bne_eq_false_iff_eq.mpr c114
         clear c114
         replace H := Option.bind_eq_some_iff.mp H
         obtain ⟨⟨t166, t167, t168, t169, t170, t171⟩, A1150, H⟩ := H
         replace H : (if x12_2 < (x155000_2.length : Int) then (some ((x155000_2.set (x12_2 : Int).toNat (⟨t166, t167, t168, t169, t170, t171⟩ : S62)), t151, t152, t153, 0)) else (none)) = some (r1, r2, r3, r4, r5) := H
         have A115 := Aside0.mk A1150
         clear A1150
         by_cases c116 : x12_2 < (x155000_2.length : Int)
         ·
          rw [if_pos c116] at H
          have c116b0 : decide (x12_2 < (x155000_2.length : Int)) = true := decide_eq_true c116
          clear c116
          obtain ⟨y172, hy172⟩ : ∃ y_ : List (S62), y_ = (x155000_2.set (x12_2 : Int).toNat (⟨t166, t167, t168, t169, t170, t171⟩ : S62)) := ⟨_, rfl⟩
          replace H : (some (y172, t151, t152, t153, 0)) = some (r1, r2, r3, r4, r5) := by first | (rw [hy172]; with_reducible exact H) | (have H2_ := (Option.bind_some _ _).symm.trans H; rw [hy172]; with_reducible exact H2_) | (have H2_ := (Option.bind_some _ _).symm.trans H; with_reducible exact H2_) | with_reducible exact H | (rw [hy172]; exact H) | exact H
          have Ny172 := Aside0.mk hy172
          clear hy172
          simp only [Option.some.injEq, Prod.mk.injEq] at H
          obtain ⟨rfl, rfl, rfl, rfl, rfl⟩ := H
          have hnb118 := NB145_146.out
          have hnc118 := NB146_145.out
          have hnb119 := NB145_147.out
          have hnc119 := NB147_145.out
          have hnb120 := NB145_154.out
          have hnc120 := NB154_145.out
          have hnb121 := NB145_160.out
          have hnc121 := NB160_145.out
          obtain ⟨hcz122_0, hcz122_1, hcz122_2, hcz122_3⟩ := cbz4_ BK145.out
          obtain ⟨hfz122_0, hfz122_1, hfz122_2, hfz122_3⟩ := bfz4_ BK145.out
          try go_wp2
          replace HO_155000 := am_ (Kd.R_drew HO_155000.out)
          replace BK145 := am_ (blk_drew BK145.out)
          replace BK146 := am_ (blk_drew BK146.out)
          replace BK147 := am_ (blk_drew BK147.out)
          replace BK154 := am_ (blk_drew BK154.out)
          replace BK160 := am_ (blk_drew BK160.out)
          replace HB := am_ (below_drew1 HB.out)
          have p163 : 0 ≤ (x12_2 : Int) := of_decide_eq_true ua_
          have q163 : x12_2 < (l0_0.length : Int) := of_decide_eq_true ua_
          obtain ⟨ad163, e163, hx163_0, hx163_1, hx163_2, hx163_3, hx163_4, hx163_5⟩ := at_T62 HR0_0.out x12_2 p163 q163
          have hw163_5 := hx163_5
          have hw163_4 := hx163_4
          have hw163_3 := hx163_3
          have hw163_2 := hx163_2
          have hw163_1 := hx163_1
          have hw163_0 := hx163_0
          cases e163
          replace hx163_0 := bc_ HB.out hx163_0
          replace hx163_1 := bc_ HB.out hx163_1
          replace hx163_2 := bc_ HB.out hx163_2
          replace hx163_3 := bc_ HB.out hx163_3
          replace hx163_4 := bc_ HB.out hx163_4
          replace hx163_5 := bc_ HB.out hx163_5
          replace p163 := eq_true p163
          replace q163 := eq_true q163
          have p164 : 0 ≤ (x12_2 : Int) := of_decide_eq_true ua_
          have q164 : x12_2 < (l0_0.length : Int) := of_decide_eq_true ua_
          obtain ⟨ad164, e164, hx164_0, hx164_1, hx164_2, hx164_3, hx164_4, hx164_5⟩ := at_T62 HR0_0.out x12_2 p164 q164
          have hw164_5 := hx164_5
          have hw164_4 := hx164_4
          have hw164_3 := hx164_3
          have hw164_2 := hx164_2
          have hw164_1 := hx164_1
          have hw164_0 := hx164_0
          obtain rfl : ad163 = ad164 := (by injection e164)
          replace hx164_0 := bc_ HB.out hx164_0
          replace hx164_1 := bc_ HB.out hx164_1
          replace hx164_2 := bc_ HB.out hx164_2
          replace hx164_3 := bc_ HB.out hx164_3
          replace hx164_4 := bc_ HB.out hx164_4
          replace hx164_5 := bc_ HB.out hx164_5
          replace p164 := eq_true p164
          replace q164 := eq_true q164
          refine start_ (n := 20) (S := fun w' => w'.cell? ⟨gb145, 0, none⟩ = some (.slice (some ad163) l0_0.length c0_0) ∧ w'.cell? ⟨gb145, 1, none⟩ = some (.int .i64 a0_1) ∧ w'.cell? ⟨gb145, 2, none⟩ = some (.int .i64 a0_2) ∧ w'.cell? ⟨gb145, 3, none⟩ = some (.int .i64 a0_3) ∧ w'.cell? ⟨gb160, 0, none⟩ = some (.int .i64 x161000_2) ∧ w'.cell? ⟨gb160, 1, none⟩ = some (.int .i64 x161001_2) ∧ w'.cell? ⟨gb160, 2, none⟩ = some (.int .i64 x161002_2) ∧ w'.cell? ⟨gb160, 3, none⟩ = some (.int .i64 x161003_2) ∧ w'.cell? ⟨gb160, 4, none⟩ = some (.int .i64 x161004_2) ∧ w'.cell? ⟨gb160, 5, none⟩ = some (.int .i64 x161005_2) ∧ w'.cell? (ad163.add ((x12_2).toNat * 6)) = some (.int .i64 ((rd_T62 l0_0 x12_2).f0)) ∧ w'.cell? ⟨(ad163.add ((x12_2).toNat * 6)).block, (ad163.add ((x12_2).toNat * 6)).off + 1, none⟩ = some (.int .i64 ((rd_T62 l0_0 x12_2).f1)) ∧ w'.cell? ⟨(ad163.add ((x12_2).toNat * 6)).block, (ad163.add ((x12_2).toNat * 6)).off + 2, none⟩ = some (.int .i64 ((rd_T62 l0_0 x12_2).f2)) ∧ w'.cell? ⟨(ad163.add ((x12_2).toNat * 6)).block, (ad163.add ((x12_2).toNat * 6)).off + 3, none⟩ = some (.int .i64 ((rd_T62 l0_0 x12_2).f3)) ∧ w'.cell? ⟨(ad163.add ((x12_2).toNat * 6)).block, (ad163.add ((x12_2).toNat * 6)).off + 4, none⟩ = some (.int .i64 ((rd_T62 l0_0 x12_2).f4)) ∧ w'.cell? ⟨(ad163.add ((x12_2).toNat * 6)).block, (ad163.add ((x12_2).toNat * 6)).off + 5, none⟩ = some (.int .i64 ((rd_T62 l0_0 x12_2).f5)) ∧ w'.cell? (ad163.add ((x12_2).toNat * 6)) = some (.int .i64 ((rd_T62 l0_0 x12_2).f0)) ∧ w'.cell? ⟨(ad163.add ((x12_2).toNat * 6)).block, (ad163.add ((x12_2).toNat * 6)).off + 1, none⟩ = some (.int .i64 ((rd_T62 l0_0 x12_2).f1)) ∧ w'.cell? ⟨(ad163.add ((x12_2).toNat * 6)).block, (ad163.add ((x12_2).toNat * 6)).off + 2, none⟩ = some (.int .i64 ((rd_T62 l0_0 x12_2).f2)) ∧ w'.cell? ⟨(ad163.add ((x12_2).toNat * 6)).block, (ad163.add ((x12_2).toNat * 6)).off + 3, none⟩ = some (.int .i64 ((rd_T62 l0_0 x12_2).f3)) ∧ w'.cell? ⟨(ad163.add ((x12_2).toNat * 6)).block, (ad163.add ((x12_2).toNat * 6)).off + 4, none⟩ = some (.int .i64 ((rd_T62 l0_0 x12_2).f4)) ∧ w'.cell? ⟨(ad163.add ((x12_2).toNat * 6)).block, (ad163.add ((x12_2).toNat * 6)).off + 5, none⟩ = some (.int .i64 ((rd_T62 l0_0 x12_2).f5))) (ds := []) #[false, false, false, false, false, false, false, false, false, false, false, false, false, false, false, false, false, false, false, false] (by kernel_rfl) rfl rfl ⟨cb_ BK145.out 0 rfl, cb_ BK145.out 1 rfl, cb_ BK145.out 2 rfl, cb_ BK145.out 3 rfl, cb_ BK160.out 0 rfl, cb_ BK160.out 1 rfl, cb_ BK160.out 2 rfl, cb_ BK160.out 3 rfl, cb_ BK160.out 4 rfl, cb_ BK160.out 5 rfl, bc_ HB.out hw163_0, bc_ HB.out hw163_1, bc_ HB.out hw163_2, bc_ HB.out hw163_3, bc_ HB.out hw163_4, bc_ HB.out hw163_5, bc_ HB.out hw164_0, bc_ HB.out hw164_1, bc_ HB.out hw164_2, bc_ HB.out hw164_3, bc_ HB.out hw164_4, bc_ HB.out hw164_5⟩ (fun hHeld => ?_); refine with_tabW spec_AddEvent.tab11 spec_AddEvent.bits11 (fun HT_ HW_ => ?_)
          generalize wr.drew = w123 at HO_155000 BK145 BK146 BK147 BK154 BK160 HB hx163_0 hx163_1 hx163_2 hx163_3 hx163_4 hx163_5 hx164_0 hx164_1 hx164_2 hx164_3 hx164_4 hx164_5 hHeld ⊢
          refine pu_ (i := 0) (N := some 75) #[true, false, false, false, false, false, false, false, false, false, false, false, false, false, false, false, false, false, false, false] HT_ ?_
          refine pu_ (i := 2) (N := some 77) #[true, false, true, false, false, false, false, false, false, false, false, false, false, false, false, false, false, false, false, false] HT_ ?_
          refine pu_ (i := 6) (N := some 81) #[true, false, true, false, false, false, true, false, false, false, false, false, false, false, false, false, false, false, false, false] HT_ ?_
          refine tk_ (i := 1) (N := some 76) #[true, true, true, false, false, false, true, false, false, false, false, false, false, false, false, false, false, false, false, false] HT_ HW_ hHeld ?_
          refine pu_ (i := 3) (N := some 78) #[true, true, true, true, false, false, true, false, false, false, false, false, false, false, false, false, false, false, false, false] HT_ ?_
          refine pu_ (i := 4) (N := some 79) #[true, true, true, true, true, false, true, false, false, false, false, false, false, false, false, false, false, false, false, false] HT_ ?_
          refine tk_ (i := 5) (N := some 80) #[true, true, true, true, true, true, true, false, false, false, false, false, false, false, false, false, false, false, false, false] HT_ HW_ hHeld ?_
          refine tk_ (i := 7) (N := some 82) #[true, true, true, true, true, true, true, true, false, false, false, false, false, false, false, false, false, false, false, false] HT_ HW_ hHeld ?_
          refine pu_ (i := 8) (N := some 83) #[true, true, true, true, true, true, true, true, true, false, false, false, false, false, false, false, false, false, false, false] HT_ ?_
          refine pu_ (i := 9) (N := some 84) #[true, true, true, true, true, true, true, true, true, true, false, false, false, false, false, false, false, false, false, false] HT_ ?_
          refine pu_ (i := 10) (N := some 85) #[true, true, true, true, true, true, true, true, true, true, true, false, false, false, false, false, false, false, false, false] HT_ ?_
          refine pu_ (i := 12) (N := some 87) #[true, true, true, true, true, true, true, true, true, true, true, false, true, false, false, false, false, false, false, false] HT_ ?_
          refine pu_ (i := 16) (N := some 91) #[true, true, true, true, true, true, true, true, true, true, true, false, true, false, false, false, true, false, false, false] HT_ ?_
          refine tk_ (i := 11) (N := some 86) #[true, true, true, true, true, true, true, true, true, true, true, true, true, false, false, false, true, false, false, false] HT_ HW_ hHeld ?_
          refine pu_ (i := 13) (N := some 88) #[true, true, true, true, true, true, true, true, true, true, true, true, true, true, false, false, true, false, false, false] HT_ ?_
          refine pu_ (i := 14) (N := some 89) #[true, true, true, true, true, true, true, true, true, true, true, true, true, true, true, false, true, false, false, false] HT_ ?_
          refine tk_ (i := 15) (N := some 90) #[true, true, true, true, true, true, true, true, true, true, true, true, true, true, true, true, true, false, false, false] HT_ HW_ hHeld ?_
          refine tk_ (i := 17) (N := some 92) #[true, true, true, true, true, true, true, true, true, true, true, true, true, true, true, true, true, true, false, false] HT_ HW_ hHeld ?_
          refine pu_ (i := 18) (N := some 93) #[true, true, true, true, true, true, true, true, true, true, true, true, true, true, true, true, true, true, true, false] HT_ ?_
          refine pu_ (i := 19) (N := some 94) #[true, true, true, true, true, true, true, true, true, true, true, true, true, true, true, true, true, true, true, true] HT_ ?_
          refine done_ (done_of HT_.out (by kernel_rfl)) ?_
          try go_wp2
          replace HO_155000 := am_ (Kd.R_drew HO_155000.out)
          replace BK145 := am_ (blk_drew BK145.out)
          replace BK146 := am_ (blk_drew BK146.out)
          replace BK147 := am_ (blk_drew BK147.out)
          replace BK154 := am_ (blk_drew BK154.out)
          replace BK160 := am_ (blk_drew BK160.out)
          replace HB := am_ (below_drew1 HB.out)
          have p165 : 0 ≤ (x12_2 : Int) := of_decide_eq_true ua_
          have q165 : x12_2 < (l0_0.length : Int) := of_decide_eq_true ua_
          obtain ⟨ad165, e165, hx165_0, hx165_1, hx165_2, hx165_3, hx165_4, hx165_5⟩ := at_T62 HR0_0.out x12_2 p165 q165
          have hw165_5 := hx165_5
          have hw165_4 := hx165_4
          have hw165_3 := hx165_3
          have hw165_2 := hx165_2
          have hw165_1 := hx165_1
          have hw165_0 := hx165_0
          obtain rfl : ad163 = ad165 := (by injection e165)
          replace hx165_0 := bc_ HB.out hx165_0
          replace hx165_1 := bc_ HB.out hx165_1
          replace hx165_2 := bc_ HB.out hx165_2
          replace hx165_3 := bc_ HB.out hx165_3
          replace hx165_4 := bc_ HB.out hx165_4
          replace hx165_5 := bc_ HB.out hx165_5
          replace p165 := eq_true p165
          replace q165 := eq_true q165
          refine start_ (n := 12) (S := fun w' => w'.cell? ⟨gb154, 0, none⟩ = some (u155000) ∧ w'.cell? ⟨gb154, 1, none⟩ = some (.int .i64 t151) ∧ w'.cell? ⟨gb154, 2, none⟩ = some (.int .i64 t152) ∧ w'.cell? ⟨gb154, 3, none⟩ = some (.int .i64 t153) ∧ w'.cell? ⟨gb145, 0, none⟩ = some (.slice (some ad163) l0_0.length c0_0) ∧ w'.cell? ⟨gb145, 1, none⟩ = some (.int .i64 a0_1) ∧ w'.cell? ⟨gb145, 2, none⟩ = some (.int .i64 a0_2) ∧ w'.cell? ⟨gb145, 3, none⟩ = some (.int .i64 a0_3) ∧ w'.cell? ⟨gb160, 0, none⟩ = some (.int .i64 x161000_2) ∧ w'.cell? ⟨gb160, 1, none⟩ = some (.int .i64 x161001_2) ∧ w'.cell? ⟨gb160, 2, none⟩ = some (.int .i64 x161002_2) ∧ w'.cell? ⟨gb160, 3, none⟩ = some (.int .i64 x161003_2) ∧ w'.cell? ⟨gb160, 4, none⟩ = some (.int .i64 x161004_2) ∧ w'.cell? ⟨gb160, 5, none⟩ = some (.int .i64 x161005_2) ∧ w'.cell? (ad163.add ((x12_2).toNat * 6)) = some (.int .i64 ((rd_T62 l0_0 x12_2).f0)) ∧ w'.cell? ⟨(ad163.add ((x12_2).toNat * 6)).block, (ad163.add ((x12_2).toNat * 6)).off + 1, none⟩ = some (.int .i64 ((rd_T62 l0_0 x12_2).f1)) ∧ w'.cell? ⟨(ad163.add ((x12_2).toNat * 6)).block, (ad163.add ((x12_2).toNat * 6)).off + 2, none⟩ = some (.int .i64 ((rd_T62 l0_0 x12_2).f2)) ∧ w'.cell? ⟨(ad163.add ((x12_2).toNat * 6)).block, (ad163.add ((x12_2).toNat * 6)).off + 3, none⟩ = some (.int .i64 ((rd_T62 l0_0 x12_2).f3)) ∧ w'.cell? ⟨(ad163.add ((x12_2).toNat * 6)).block, (ad163.add ((x12_2).toNat * 6)).off + 4, none⟩ = some (.int .i64 ((rd_T62 l0_0 x12_2).f4)) ∧ w'.cell? ⟨(ad163.add ((x12_2).toNat * 6)).block, (ad163.add ((x12_2).toNat * 6)).off + 5, none⟩ = some (.int .i64 ((rd_T62 l0_0 x12_2).f5))) (ds := [11]) #[false, false, false, false, false, false, false, false, false, false, false, false] (by kernel_rfl) rfl rfl ⟨cb_ BK154.out 0 rfl, cb_ BK154.out 1 rfl, cb_ BK154.out 2 rfl, cb_ BK154.out 3 rfl, cb_ BK145.out 0 rfl, cb_ BK145.out 1 rfl, cb_ BK145.out 2 rfl, cb_ BK145.out 3 rfl, cb_ BK160.out 0 rfl, cb_ BK160.out 1 rfl, cb_ BK160.out 2 rfl, cb_ BK160.out 3 rfl, cb_ BK160.out 4 rfl, cb_ BK160.out 5 rfl, bc_ HB.out hw165_0, bc_ HB.out hw165_1, bc_ HB.out hw165_2, bc_ HB.out hw165_3, bc_ HB.out hw165_4, bc_ HB.out hw165_5⟩ (fun hHeld => ?_); refine with_tabW spec_AddEvent.tab12 spec_AddEvent.bits12 (fun HT_ HW_ => ?_)
          generalize w123.drew = w124 at HO_155000 BK145 BK146 BK147 BK154 BK160 HB hx165_0 hx165_1 hx165_2 hx165_3 hx165_4 hx165_5 hHeld ⊢
          refine pu_ (i := 0) (N := some 95) #[true, false, false, false, false, false, false, false, false, false, false, false] HT_ ?_
          refine pu_ (i := 2) (N := some 97) #[true, false, true, false, false, false, false, false, false, false, false, false] HT_ ?_
          refine pu_ (i := 3) (N := some 98) #[true, false, true, true, false, false, false, false, false, false, false, false] HT_ ?_
          refine pu_ (i := 5) (N := some 100) #[true, false, true, true, false, true, false, false, false, false, false, false] HT_ ?_
          refine tk_ (i := 1) (N := some 96) #[true, true, true, true, false, true, false, false, false, false, false, false] HT_ HW_ hHeld ?_
          refine tk_ (i := 4) (N := some 99) #[true, true, true, true, true, true, false, false, false, false, false, false] HT_ HW_ hHeld ?_
          refine pu_ (i := 6) (N := some 101) #[true, true, true, true, true, true, true, false, false, false, false, false] HT_ ?_
          refine tk_ (i := 7) (N := some 102) #[true, true, true, true, true, true, true, true, false, false, false, false] HT_ HW_ hHeld ?_
          refine tk_ (i := 8) (N := some 103) #[true, true, true, true, true, true, true, true, true, false, false, false] HT_ HW_ hHeld ?_
          refine one_ (i := 9) (N := some 104) #[true, true, true, true, true, true, true, true, true, true, false, false] rfl rfl (one_of HT_.out (by kernel_rfl)) (by decide) (fun K hK => ?_)
          refine goes_ Try.func30 (by kernel_rfl) rfl #[.agg #[.int .i64 ((rd_T62 l0_0 x12_2).f0), .int .i64 ((rd_T62 l0_0 x12_2).f1), .int .i64 ((rd_T62 l0_0 x12_2).f2), .int .i64 ((rd_T62 l0_0 x12_2).f3), .int .i64 ((rd_T62 l0_0 x12_2).f4), .int .i64 ((rd_T62 l0_0 x12_2).f5)], .agg #[.int .i64 x161000_2, .int .i64 x161001_2, .int .i64 x161002_2, .int .i64 x161003_2, .int .i64 x161004_2, .int .i64 x161005_2]] (by rfl) rfl rfl ul_ ?_
          with_reducible refine (spec_l05Sum.calls ((rd_T62 l0_0 x12_2).f0) ((rd_T62 l0_0 x12_2).f1) ((rd_T62 l0_0 x12_2).f2) ((rd_T62 l0_0 x12_2).f3) ((rd_T62 l0_0 x12_2).f4) ((rd_T62 l0_0 x12_2).f5) x161000_2 x161001_2 x161002_2 x161003_2 x161004_2 x161005_2 t166 t167 t168 t169 t170 t171 _ A115.out).mono ?_
          rintro e w125 ⟨rfl, hb⟩
          refine ⟨_, rfl, ?_⟩
          replace HO_155000 := am_ (Kd.R_below (ur_ HO_155000.out) hb)
          replace BK145 := bs_ BK145 hb
          replace BK146 := bs_ BK146 hb
          replace BK147 := bs_ BK147 hb
          replace BK154 := bs_ BK154 hb
          replace BK160 := bs_ BK160 hb
          replace HB := hs_ HB hb
          (try clear hb)
          (try clear hb2)
          (try clear hk)
          (try clear hi)
          have p117 : 0 ≤ (x12_2 : Int) := of_decide_eq_true ua_
          have q117 : (x12_2 : Int) < ((x155000_2.length : Int) : Int) := of_decide_eq_true ua_
          obtain ⟨go117, co117, eo117, gb117, gl117, cl117, HG117⟩ := Kd.R_form HO_155000.out (by omega)
          (first | cases eo117 | (injection eo117 with ea_ en_ ec_; (first | subst ea_ | (injection ea_ with ea_; subst ea_)); subst ec_; clear en_))
          have GB117 := Aside0.mk gb117
          have GG117 := Aside0.mk HG117
          clear gb117 gl117 HG117
          obtain ⟨ce117, hcl117, hM117, hcc117, hfr117⟩ := Kd.R_elem HO_155000.out z62 (x12_2 : Int) p117 q117
          obtain rfl := k62_openM hM117
          have hx117_0 : World.cell? _ ⟨go117, (x12_2 : Int).toNat * 6, none⟩ = some (.int .i64 ((rd_T62 x155000_2 x12_2).f0)) := hcc117 0 _ rfl
          have hx117_1 : World.cell? _ ⟨go117, (x12_2 : Int).toNat * 6 + 1, none⟩ = some (.int .i64 ((rd_T62 x155000_2 x12_2).f1)) := hcc117 1 _ rfl
          have hx117_2 : World.cell? _ ⟨go117, (x12_2 : Int).toNat * 6 + 2, none⟩ = some (.int .i64 ((rd_T62 x155000_2 x12_2).f2)) := hcc117 2 _ rfl
          have hx117_3 : World.cell? _ ⟨go117, (x12_2 : Int).toNat * 6 + 3, none⟩ = some (.int .i64 ((rd_T62 x155000_2 x12_2).f3)) := hcc117 3 _ rfl
          have hx117_4 : World.cell? _ ⟨go117, (x12_2 : Int).toNat * 6 + 4, none⟩ = some (.int .i64 ((rd_T62 x155000_2 x12_2).f4)) := hcc117 4 _ rfl
          have hx117_5 : World.cell? _ ⟨go117, (x12_2 : Int).toNat * 6 + 5, none⟩ = some (.int .i64 ((rd_T62 x155000_2 x12_2).f5)) := hcc117 5 _ rfl
          have hf117_0 : World.frozen? _ ⟨go117, (x12_2 : Int).toNat * 6, none⟩ = false := hfr117 0
          have hf117_1 : World.frozen? _ ⟨go117, (x12_2 : Int).toNat * 6 + 1, none⟩ = false := hfr117 1
          have hf117_2 : World.frozen? _ ⟨go117, (x12_2 : Int).toNat * 6 + 2, none⟩ = false := hfr117 2
          have hf117_3 : World.frozen? _ ⟨go117, (x12_2 : Int).toNat * 6 + 3, none⟩ = false := hfr117 3
          have hf117_4 : World.frozen? _ ⟨go117, (x12_2 : Int).toNat * 6 + 4, none⟩ = false := hfr117 4
          have hf117_5 : World.frozen? _ ⟨go117, (x12_2 : Int).toNat * 6 + 5, none⟩ = false := hfr117 5
          clear hcl117 hcc117 hfr117 hM117
          replace p117 := eq_true p117
          replace q117 := eq_true q117
          obtain ⟨ce126, hcl126, hM126, hcc126, hfr126⟩ := Kd.R_elem HO_155000.out z62 (x12_2 : Int) (of_decide_eq_true ua_) (by have h_ : (x12_2 : Int) < ((x155000_2.length : Int) : Int) := of_decide_eq_true ua_; first | exact h_ | (have e_ := (Kd.R_reads' HO_155000.out).1; omega) | simpa using h_)
          obtain rfl := k62_openM hM126
          have HP126 := (Kd.R_seg HO_155000.out (x12_2 : Int) (of_decide_eq_true ua_) (by have h_ : (x12_2 : Int) < ((x155000_2.length : Int) : Int) := of_decide_eq_true ua_; first | exact h_ | (have e_ := (Kd.R_reads' HO_155000.out).1; omega) | simpa using h_) (seg := [.int .i64 t166, .int .i64 t167, .int .i64 t168, .int .i64 t169, .int .i64 t170, .int .i64 t171]) (j := 0) hcl126 hcc126 (show 6 ≤ 6 from by decide) (x' := (⟨t166, t167, t168, t169, t170, t171⟩ : S62)) (k62_mkM _ _ _ (⟨t166, t167, t168, t169, t170, t171⟩ : S62) ) (fun _ hk => hk)).1
          rw [← Ny172.out] at HP126
          have HQ126 := Aside0.mk HP126
          clear hcl126 hcc126 hfr126 hM126 HP126
          refine hK.out _ _ ⟨cb_ BK154.out 0 rfl, cb_ BK154.out 1 rfl, cb_ BK154.out 2 rfl, cb_ BK154.out 3 rfl, cb_ BK145.out 0 rfl, cb_ BK145.out 1 rfl, cb_ BK145.out 2 rfl, cb_ BK145.out 3 rfl, cb_ BK160.out 0 rfl, cb_ BK160.out 1 rfl, cb_ BK160.out 2 rfl, cb_ BK160.out 3 rfl, cb_ BK160.out 4 rfl, cb_ BK160.out 5 rfl, bc_ HB.out hw165_0, bc_ HB.out hw165_1, bc_ HB.out hw165_2, bc_ HB.out hw165_3, bc_ HB.out hw165_4, bc_ HB.out hw165_5⟩ (fun hHeld => ?_)
          clear hK K
          refine norm_ (a' := ?_) ?_ ?_
          rotate_left
          ·
           show Act.put _ (some 104) _ = _
           simp only [Act.put, List.setIfInBounds_toArray, List.set_cons_zero, List.set_cons_succ, i64_w, i32_w]
           rfl
          refine pu_ (i := 10) (N := some 105) #[true, true, true, true, true, true, true, true, true, true, true, false] HT_ ?_
          refine last_ (i := 11) (N := none) #[true, true, true, true, true, true, true, true, true, true, true, true] rfl rfl (one_of HT_.out (by kernel_rfl)) (by decide) (fun K hK => ?_)
          refine skip_ (w1 := ?_) (by rfl) rfl ?_ ?_
          rotate_left
          ·
           go_simp
           rfl
          refine hK.out _ _ ?_
          clear hK K
          refine done_ (done_of HT_.out (by kernel_rfl)) ?_
          have n0_ : Aside0 (Kd.R k62 62 ((((((w125.setCell ⟨go117, (x12_2 : Int).toNat * 6, none⟩ (.int .i64 t166)).setCell ⟨go117, (x12_2 : Int).toNat * 6 + 1, none⟩ (.int .i64 t167)).setCell ⟨go117, (x12_2 : Int).toNat * 6 + 2, none⟩ (.int .i64 t168)).setCell ⟨go117, (x12_2 : Int).toNat * 6 + 3, none⟩ (.int .i64 t169)).setCell ⟨go117, (x12_2 : Int).toNat * 6 + 4, none⟩ (.int .i64 t170)).setCell ⟨go117, (x12_2 : Int).toNat * 6 + 5, none⟩ (.int .i64 t171)) w.heap.size (fun k_ => k_ ≠ gb160) (.slice (some ⟨go117, 0, none⟩) x155000_2.length co117) y172) := ⟨by (with_reducible repeat (first | apply Kd.R_alloc | apply Kd.R_drewN | apply Kd.R_drew)); exact HQ126.out⟩
          have n1_ : Aside0 (((((((w125.setCell ⟨go117, (x12_2 : Int).toNat * 6, none⟩ (.int .i64 t166)).setCell ⟨go117, (x12_2 : Int).toNat * 6 + 1, none⟩ (.int .i64 t167)).setCell ⟨go117, (x12_2 : Int).toNat * 6 + 2, none⟩ (.int .i64 t168)).setCell ⟨go117, (x12_2 : Int).toNat * 6 + 3, none⟩ (.int .i64 t169)).setCell ⟨go117, (x12_2 : Int).toNat * 6 + 4, none⟩ (.int .i64 t170)).setCell ⟨go117, (x12_2 : Int).toNat * 6 + 5, none⟩ (.int .i64 t171)).heap[gb145]? = some (.cells #[.slice (some ad163) l0_0.length c0_0, .int .i64 a0_1, .int .i64 a0_2, .int .i64 a0_3] 30 (0, 0))) := ⟨by (with_reducible repeat first|apply bn_|apply bd_|apply ba_); refine blk_far ?_ (by have h_ := Kd.R_ne HO_155000.out BK145.out (by decide); intro e_; exact h_ (by rw [e_]; rfl)) _; (with_reducible repeat first|apply bn_|apply bd_|apply ba_); refine blk_far ?_ (by have h_ := Kd.R_ne HO_155000.out BK145.out (by decide); intro e_; exact h_ (by rw [e_]; rfl)) _; (with_reducible repeat first|apply bn_|apply bd_|apply ba_); refine blk_far ?_ (by have h_ := Kd.R_ne HO_155000.out BK145.out (by decide); intro e_; exact h_ (by rw [e_]; rfl)) _; (with_reducible repeat first|apply bn_|apply bd_|apply ba_); refine blk_far ?_ (by have h_ := Kd.R_ne HO_155000.out BK145.out (by decide); intro e_; exact h_ (by rw [e_]; rfl)) _; (with_reducible repeat first|apply bn_|apply bd_|apply ba_); refine blk_far ?_ (by have h_ := Kd.R_ne HO_155000.out BK145.out (by decide); intro e_; exact h_ (by rw [e_]; rfl)) _; (with_reducible repeat first|apply bn_|apply bd_|apply ba_); refine blk_far ?_ (by have h_ := Kd.R_ne HO_155000.out BK145.out (by decide); intro e_; exact h_ (by rw [e_]; rfl)) _; (with_reducible repeat first|apply bn_|apply bd_|apply ba_); exact BK145.out⟩
          have n2_ : Aside0 (((((((w125.setCell ⟨go117, (x12_2 : Int).toNat * 6, none⟩ (.int .i64 t166)).setCell ⟨go117, (x12_2 : Int).toNat * 6 + 1, none⟩ (.int .i64 t167)).setCell ⟨go117, (x12_2 : Int).toNat * 6 + 2, none⟩ (.int .i64 t168)).setCell ⟨go117, (x12_2 : Int).toNat * 6 + 3, none⟩ (.int .i64 t169)).setCell ⟨go117, (x12_2 : Int).toNat * 6 + 4, none⟩ (.int .i64 t170)).setCell ⟨go117, (x12_2 : Int).toNat * 6 + 5, none⟩ (.int .i64 t171)).heap[gb146]? = some (.cells #[.int .i64 a3_0, .int .i64 a3_1, .int .i64 a3_2, .int .i64 a3_3] 34 (0, 0))) := ⟨by (with_reducible repeat first|apply bn_|apply bd_|apply ba_); refine blk_far ?_ (by have h_ := Kd.R_ne HO_155000.out BK146.out (by decide); intro e_; exact h_ (by rw [e_]; rfl)) _; (with_reducible repeat first|apply bn_|apply bd_|apply ba_); refine blk_far ?_ (by have h_ := Kd.R_ne HO_155000.out BK146.out (by decide); intro e_; exact h_ (by rw [e_]; rfl)) _; (with_reducible repeat first|apply bn_|apply bd_|apply ba_); refine blk_far ?_ (by have h_ := Kd.R_ne HO_155000.out BK146.out (by decide); intro e_; exact h_ (by rw [e_]; rfl)) _; (with_reducible repeat first|apply bn_|apply bd_|apply ba_); refine blk_far ?_ (by have h_ := Kd.R_ne HO_155000.out BK146.out (by decide); intro e_; exact h_ (by rw [e_]; rfl)) _; (with_reducible repeat first|apply bn_|apply bd_|apply ba_); refine blk_far ?_ (by have h_ := Kd.R_ne HO_155000.out BK146.out (by decide); intro e_; exact h_ (by rw [e_]; rfl)) _; (with_reducible repeat first|apply bn_|apply bd_|apply ba_); refine blk_far ?_ (by have h_ := Kd.R_ne HO_155000.out BK146.out (by decide); intro e_; exact h_ (by rw [e_]; rfl)) _; (with_reducible repeat first|apply bn_|apply bd_|apply ba_); exact BK146.out⟩
          have n3_ : Aside0 (((((((w125.setCell ⟨go117, (x12_2 : Int).toNat * 6, none⟩ (.int .i64 t166)).setCell ⟨go117, (x12_2 : Int).toNat * 6 + 1, none⟩ (.int .i64 t167)).setCell ⟨go117, (x12_2 : Int).toNat * 6 + 2, none⟩ (.int .i64 t168)).setCell ⟨go117, (x12_2 : Int).toNat * 6 + 3, none⟩ (.int .i64 t169)).setCell ⟨go117, (x12_2 : Int).toNat * 6 + 4, none⟩ (.int .i64 t170)).setCell ⟨go117, (x12_2 : Int).toNat * 6 + 5, none⟩ (.int .i64 t171)).heap[gb147]? = some (.cells #[.slice none 0 0, .int .i64 x148001_2, .int .i64 x148002_2, .int .i64 x148003_2] 30 (0, 0))) := ⟨by (with_reducible repeat first|apply bn_|apply bd_|apply ba_); refine blk_far ?_ (by have h_ := Kd.R_ne HO_155000.out BK147.out (by decide); intro e_; exact h_ (by rw [e_]; rfl)) _; (with_reducible repeat first|apply bn_|apply bd_|apply ba_); refine blk_far ?_ (by have h_ := Kd.R_ne HO_155000.out BK147.out (by decide); intro e_; exact h_ (by rw [e_]; rfl)) _; (with_reducible repeat first|apply bn_|apply bd_|apply ba_); refine blk_far ?_ (by have h_ := Kd.R_ne HO_155000.out BK147.out (by decide); intro e_; exact h_ (by rw [e_]; rfl)) _; (with_reducible repeat first|apply bn_|apply bd_|apply ba_); refine blk_far ?_ (by have h_ := Kd.R_ne HO_155000.out BK147.out (by decide); intro e_; exact h_ (by rw [e_]; rfl)) _; (with_reducible repeat first|apply bn_|apply bd_|apply ba_); refine blk_far ?_ (by have h_ := Kd.R_ne HO_155000.out BK147.out (by decide); intro e_; exact h_ (by rw [e_]; rfl)) _; (with_reducible repeat first|apply bn_|apply bd_|apply ba_); refine blk_far ?_ (by have h_ := Kd.R_ne HO_155000.out BK147.out (by decide); intro e_; exact h_ (by rw [e_]; rfl)) _; (with_reducible repeat first|apply bn_|apply bd_|apply ba_); exact BK147.out⟩
          have n4_ : Aside0 (((((((w125.setCell ⟨go117, (x12_2 : Int).toNat * 6, none⟩ (.int .i64 t166)).setCell ⟨go117, (x12_2 : Int).toNat * 6 + 1, none⟩ (.int .i64 t167)).setCell ⟨go117, (x12_2 : Int).toNat * 6 + 2, none⟩ (.int .i64 t168)).setCell ⟨go117, (x12_2 : Int).toNat * 6 + 3, none⟩ (.int .i64 t169)).setCell ⟨go117, (x12_2 : Int).toNat * 6 + 4, none⟩ (.int .i64 t170)).setCell ⟨go117, (x12_2 : Int).toNat * 6 + 5, none⟩ (.int .i64 t171)).heap[gb154]? = some (.cells #[.slice (some ⟨go117, 0, none⟩) x155000_2.length co117, .int .i64 t151, .int .i64 t152, .int .i64 t153] 30 (0, 0))) := ⟨by (with_reducible repeat first|apply bn_|apply bd_|apply ba_); refine blk_far ?_ (by have h_ := Kd.R_ne HO_155000.out BK154.out (by decide); intro e_; exact h_ (by rw [e_]; rfl)) _; (with_reducible repeat first|apply bn_|apply bd_|apply ba_); refine blk_far ?_ (by have h_ := Kd.R_ne HO_155000.out BK154.out (by decide); intro e_; exact h_ (by rw [e_]; rfl)) _; (with_reducible repeat first|apply bn_|apply bd_|apply ba_); refine blk_far ?_ (by have h_ := Kd.R_ne HO_155000.out BK154.out (by decide); intro e_; exact h_ (by rw [e_]; rfl)) _; (with_reducible repeat first|apply bn_|apply bd_|apply ba_); refine blk_far ?_ (by have h_ := Kd.R_ne HO_155000.out BK154.out (by decide); intro e_; exact h_ (by rw [e_]; rfl)) _; (with_reducible repeat first|apply bn_|apply bd_|apply ba_); refine blk_far ?_ (by have h_ := Kd.R_ne HO_155000.out BK154.out (by decide); intro e_; exact h_ (by rw [e_]; rfl)) _; (with_reducible repeat first|apply bn_|apply bd_|apply ba_); refine blk_far ?_ (by have h_ := Kd.R_ne HO_155000.out BK154.out (by decide); intro e_; exact h_ (by rw [e_]; rfl)) _; (with_reducible repeat first|apply bn_|apply bd_|apply ba_); exact BK154.out⟩
          have n5_ : Aside0 (((((((w125.setCell ⟨go117, (x12_2 : Int).toNat * 6, none⟩ (.int .i64 t166)).setCell ⟨go117, (x12_2 : Int).toNat * 6 + 1, none⟩ (.int .i64 t167)).setCell ⟨go117, (x12_2 : Int).toNat * 6 + 2, none⟩ (.int .i64 t168)).setCell ⟨go117, (x12_2 : Int).toNat * 6 + 3, none⟩ (.int .i64 t169)).setCell ⟨go117, (x12_2 : Int).toNat * 6 + 4, none⟩ (.int .i64 t170)).setCell ⟨go117, (x12_2 : Int).toNat * 6 + 5, none⟩ (.int .i64 t171)).heap[gb160]? = some (.cells #[.int .i64 x161000_2, .int .i64 x161001_2, .int .i64 x161002_2, .int .i64 x161003_2, .int .i64 x161004_2, .int .i64 x161005_2] 62 (0, 0))) := ⟨by (with_reducible repeat first|apply bn_|apply bd_|apply ba_); refine blk_far ?_ (by have h_ := Kd.R_away HO_155000.out (fun _ hk => hk); intro e_; exact h_ (by rw [e_]; rfl)) _; (with_reducible repeat first|apply bn_|apply bd_|apply ba_); refine blk_far ?_ (by have h_ := Kd.R_away HO_155000.out (fun _ hk => hk); intro e_; exact h_ (by rw [e_]; rfl)) _; (with_reducible repeat first|apply bn_|apply bd_|apply ba_); refine blk_far ?_ (by have h_ := Kd.R_away HO_155000.out (fun _ hk => hk); intro e_; exact h_ (by rw [e_]; rfl)) _; (with_reducible repeat first|apply bn_|apply bd_|apply ba_); refine blk_far ?_ (by have h_ := Kd.R_away HO_155000.out (fun _ hk => hk); intro e_; exact h_ (by rw [e_]; rfl)) _; (with_reducible repeat first|apply bn_|apply bd_|apply ba_); refine blk_far ?_ (by have h_ := Kd.R_away HO_155000.out (fun _ hk => hk); intro e_; exact h_ (by rw [e_]; rfl)) _; (with_reducible repeat first|apply bn_|apply bd_|apply ba_); refine blk_far ?_ (by have h_ := Kd.R_away HO_155000.out (fun _ hk => hk); intro e_; exact h_ (by rw [e_]; rfl)) _; (with_reducible repeat first|apply bn_|apply bd_|apply ba_); exact BK160.out⟩
          have n6_ : Aside0 (Below w.heap.size w ((((((w125.setCell ⟨go117, (x12_2 : Int).toNat * 6, none⟩ (.int .i64 t166)).setCell ⟨go117, (x12_2 : Int).toNat * 6 + 1, none⟩ (.int .i64 t167)).setCell ⟨go117, (x12_2 : Int).toNat * 6 + 2, none⟩ (.int .i64 t168)).setCell ⟨go117, (x12_2 : Int).toNat * 6 + 3, none⟩ (.int .i64 t169)).setCell ⟨go117, (x12_2 : Int).toNat * 6 + 4, none⟩ (.int .i64 t170)).setCell ⟨go117, (x12_2 : Int).toNat * 6 + 5, none⟩ (.int .i64 t171))) := ⟨by repeat (first | (with_reducible first | exact HB.out | apply below_alloc | apply pw_below_drewN | apply below_drew1 | refine below_set ?_ GB117.out | refine below_set ?_ GB117.out | refine below_set ?_ GB117.out | refine below_set ?_ GB117.out | refine below_set ?_ GB117.out | refine below_set ?_ GB117.out | refine below_set ?_ GE145.out | refine below_set ?_ GE146.out | refine below_set ?_ GE147.out | refine below_set ?_ GE154.out | refine below_set ?_ GE160.out) | exact HB.out)⟩
          (try clear HO_155000)
          (try clear BK145)
          (try clear BK146)
          (try clear BK147)
          (try clear BK154)
          (try clear BK160)
          (try clear HB)
          generalize ((((((w125.setCell ⟨go117, (x12_2 : Int).toNat * 6, none⟩ (.int .i64 t166)).setCell ⟨go117, (x12_2 : Int).toNat * 6 + 1, none⟩ (.int .i64 t167)).setCell ⟨go117, (x12_2 : Int).toNat * 6 + 2, none⟩ (.int .i64 t168)).setCell ⟨go117, (x12_2 : Int).toNat * 6 + 3, none⟩ (.int .i64 t169)).setCell ⟨go117, (x12_2 : Int).toNat * 6 + 4, none⟩ (.int .i64 t170)).setCell ⟨go117, (x12_2 : Int).toNat * 6 + 5, none⟩ (.int .i64 t171)) = w127 at n0_ n1_ n2_ n3_ n4_ n5_ n6_ ⊢
          have HO_155000 := n0_
          have BK145 := n1_
          have BK146 := n2_
          have BK147 := n3_
          have BK154 := n4_
          have BK160 := n5_
          have HB := n6_
          clear n0_ n1_ n2_ n3_ n4_ n5_ n6_
          have hnb128 := NB154_146.out
          have hnc128 := NB146_154.out
          have hnb129 := NB154_147.out
          have hnc129 := NB147_154.out
          have hnb130 := NB154_160.out
          have hnc130 := NB160_154.out
          obtain ⟨hcz131_0, hcz131_1, hcz131_2, hcz131_3⟩ := cbz4_ BK154.out
          obtain ⟨hfz131_0, hfz131_1, hfz131_2, hfz131_3⟩ := bfz4_ BK154.out
          have hnb132 := NB147_146.out
          have hnc132 := NB146_147.out
          have hnb133 := NB147_160.out
          have hnc133 := NB160_147.out
          obtain ⟨hcz134_0, hcz134_1, hcz134_2, hcz134_3⟩ := cbz4_ BK147.out
          obtain ⟨hfz134_0, hfz134_1, hfz134_2, hfz134_3⟩ := bfz4_ BK147.out
          try go_wp2_with (first | ((with_reducible refine gate_store (t := 30) (p := 8) rfl ?_); refine st_ (w1 := ((((w127.setCell ⟨gb147, 0, none⟩ (.slice (some ⟨go117, 0, none⟩) x155000_2.length co117)).setCell ⟨gb147, 1, none⟩ (.int .i64 t151)).setCell ⟨gb147, 2, none⟩ (.int .i64 t152)).setCell ⟨gb147, 3, none⟩ (.int .i64 t153))) ?_; intro w135 hw; replace HO_155000 : Aside0 (Kd.R k62 62 w135 w.heap.size (fun k_ => k_ ≠ gb160) (.slice (some ⟨go117, 0, none⟩) x155000_2.length co117) y172) := ⟨(by rw [hw]; exact (by (with_reducible repeat (first | apply Kd.R_alloc | apply Kd.R_drewN | apply Kd.R_drew)); exact Kd.R_mono (Rf4_ (g := gb147) (Kd.R_types HO_155000.out BK147.out (by decide))) (fun _ hk => by first | exact hk.1 | grind)))⟩; replace BK145 := uk_ hw BK145.out; replace BK146 := uk_ hw BK146.out; replace BK147 : Aside0 (w135.heap[gb147]? = some (.cells #[.slice (some ⟨go117, 0, none⟩) x155000_2.length co117, .int .i64 t151, .int .i64 t152, .int .i64 t153] 30 (0, 0))) := ⟨(by rw [hw]; exact (by (with_reducible repeat first|apply bn_|apply bd_|apply ba_); apply bp4_; (with_reducible repeat first|apply bn_|apply bd_|apply ba_); exact BK147.out))⟩; replace BK154 : Aside0 (w135.heap[gb154]? = some (.cells #[.slice (some ⟨go117, 0, none⟩) x155000_2.length co117, .int .i64 t151, .int .i64 t152, .int .i64 t153] 30 (0, 0))) := ⟨(by rw [hw]; exact (uf_ BK154.out))⟩; replace BK160 := uk_ hw BK160.out; replace HB := uh_ hw HB.out; clear hw))
          refine bodyPost_ret (results_ct rfl _ _ gb147 30 #[.slice (some ⟨go117, 0, none⟩) x155000_2.length co117, .int .i64 t151, .int .i64 t152, .int .i64 t153] (0, 0) _ rfl (ub_ BK147.out) Try.underlying30 rfl (by kernel_rfl)) rfl ?_
          exact ⟨_, ew_, by (with_reducible repeat (first | apply Kd.R_alloc | apply Kd.R_drewN | apply Kd.R_drew)); exact Kd.R_mono HO_155000.out (fun _ hk => trivial), ue_ HB.out⟩
         rw [if_neg c116] at H
         exact absurd H (by simp)
        rw [if_neg c114] at H
        have c114b0 : (((rd_T62 l0_0 x12_2).f1) == x161001_2) = false := beq_eq_false_iff_ne.mpr c114
        have c114b1 : (((rd_T62 l0_0 x12_2).f1) != x161001_2) = true := bne_iff_ne.mpr c114
        have H' := Aside0.mk H
        clear H
        have hnb136 := NB145_146.out
        have hnc136 := NB146_145.out
        have hnb137 := NB145_147.out
        have hnc137 := NB147_145.out
        have hnb138 := NB145_154.out
        have hnc138 := NB154_145.out
        have hnb139 := NB145_160.out
        have hnc139 := NB160_145.out
        obtain ⟨hcz140_0, hcz140_1, hcz140_2, hcz140_3⟩ := cbz4_ BK145.out
        obtain ⟨hfz140_0, hfz140_1, hfz140_2, hfz140_3⟩ := bfz4_ BK145.out
        try go_wp2
        replace HO_155000 := am_ (Kd.R_drew HO_155000.out)
        replace BK145 := am_ (blk_drew BK145.out)
        replace BK146 := am_ (blk_drew BK146.out)
        replace BK147 := am_ (blk_drew BK147.out)
        replace BK154 := am_ (blk_drew BK154.out)
        replace BK160 := am_ (blk_drew BK160.out)
        replace HB := am_ (below_drew1 HB.out)
        have p163 : 0 ≤ (x12_2 : Int) := of_decide_eq_true ua_
        have q163 : x12_2 < (l0_0.length : Int) := of_decide_eq_true ua_
        obtain ⟨ad163, e163, hx163_0, hx163_1, hx163_2, hx163_3, hx163_4, hx163_5⟩ := at_T62 HR0_0.out x12_2 p163 q163
        have hw163_5 := hx163_5
        have hw163_4 := hx163_4
        have hw163_3 := hx163_3
        have hw163_2 := hx163_2
        have hw163_1 := hx163_1
        have hw163_0 := hx163_0
        cases e163
        replace hx163_0 := bc_ HB.out hx163_0
        replace hx163_1 := bc_ HB.out hx163_1
        replace hx163_2 := bc_ HB.out hx163_2
        replace hx163_3 := bc_ HB.out hx163_3
        replace hx163_4 := bc_ HB.out hx163_4
        replace hx163_5 := bc_ HB.out hx163_5
        replace p163 := eq_true p163
        replace q163 := eq_true q163
        have p164 : 0 ≤ (x12_2 : Int) := of_decide_eq_true ua_
        have q164 : x12_2 < (l0_0.length : Int) := of_decide_eq_true ua_
        obtain ⟨ad164, e164, hx164_0, hx164_1, hx164_2, hx164_3, hx164_4, hx164_5⟩ := at_T62 HR0_0.out x12_2 p164 q164
        have hw164_5 := hx164_5
        have hw164_4 := hx164_4
        have hw164_3 := hx164_3
        have hw164_2 := hx164_2
        have hw164_1 := hx164_1
        have hw164_0 := hx164_0
        obtain rfl : ad163 = ad164 := (by injection e164)
        replace hx164_0 := bc_ HB.out hx164_0
        replace hx164_1 := bc_ HB.out hx164_1
        replace hx164_2 := bc_ HB.out hx164_2
        replace hx164_3 := bc_ HB.out hx164_3
        replace hx164_4 := bc_ HB.out hx164_4
        replace hx164_5 := bc_ HB.out hx164_5
        replace p164 := eq_true p164
        replace q164 := eq_true q164
        refine start_ (n := 20) (S := fun w' => w'.cell? ⟨gb145, 0, none⟩ = some (.slice (some ad163) l0_0.length c0_0) ∧ w'.cell? ⟨gb145, 1, none⟩ = some (.int .i64 a0_1) ∧ w'.cell? ⟨gb145, 2, none⟩ = some (.int .i64 a0_2) ∧ w'.cell? ⟨gb145, 3, none⟩ = some (.int .i64 a0_3) ∧ w'.cell? ⟨gb160, 0, none⟩ = some (.int .i64 x161000_2) ∧ w'.cell? ⟨gb160, 1, none⟩ = some (.int .i64 x161001_2) ∧ w'.cell? ⟨gb160, 2, none⟩ = some (.int .i64 x161002_2) ∧ w'.cell? ⟨gb160, 3, none⟩ = some (.int .i64 x161003_2) ∧ w'.cell? ⟨gb160, 4, none⟩ = some (.int .i64 x161004_2) ∧ w'.cell? ⟨gb160, 5, none⟩ = some (.int .i64 x161005_2) ∧ w'.cell? (ad163.add ((x12_2).toNat * 6)) = some (.int .i64 ((rd_T62 l0_0 x12_2).f0)) ∧ w'.cell? ⟨(ad163.add ((x12_2).toNat * 6)).block, (ad163.add ((x12_2).toNat * 6)).off + 1, none⟩ = some (.int .i64 ((rd_T62 l0_0 x12_2).f1)) ∧ w'.cell? ⟨(ad163.add ((x12_2).toNat * 6)).block, (ad163.add ((x12_2).toNat * 6)).off + 2, none⟩ = some (.int .i64 ((rd_T62 l0_0 x12_2).f2)) ∧ w'.cell? ⟨(ad163.add ((x12_2).toNat * 6)).block, (ad163.add ((x12_2).toNat * 6)).off + 3, none⟩ = some (.int .i64 ((rd_T62 l0_0 x12_2).f3)) ∧ w'.cell? ⟨(ad163.add ((x12_2).toNat * 6)).block, (ad163.add ((x12_2).toNat * 6)).off + 4, none⟩ = some (.int .i64 ((rd_T62 l0_0 x12_2).f4)) ∧ w'.cell? ⟨(ad163.add ((x12_2).toNat * 6)).block, (ad163.add ((x12_2).toNat * 6)).off + 5, none⟩ = some (.int .i64 ((rd_T62 l0_0 x12_2).f5)) ∧ w'.cell? (ad163.add ((x12_2).toNat * 6)) = some (.int .i64 ((rd_T62 l0_0 x12_2).f0)) ∧ w'.cell? ⟨(ad163.add ((x12_2).toNat * 6)).block, (ad163.add ((x12_2).toNat * 6)).off + 1, none⟩ = some (.int .i64 ((rd_T62 l0_0 x12_2).f1)) ∧ w'.cell? ⟨(ad163.add ((x12_2).toNat * 6)).block, (ad163.add ((x12_2).toNat * 6)).off + 2, none⟩ = some (.int .i64 ((rd_T62 l0_0 x12_2).f2)) ∧ w'.cell? ⟨(ad163.add ((x12_2).toNat * 6)).block, (ad163.add ((x12_2).toNat * 6)).off + 3, none⟩ = some (.int .i64 ((rd_T62 l0_0 x12_2).f3)) ∧ w'.cell? ⟨(ad163.add ((x12_2).toNat * 6)).block, (ad163.add ((x12_2).toNat * 6)).off + 4, none⟩ = some (.int .i64 ((rd_T62 l0_0 x12_2).f4)) ∧ w'.cell? ⟨(ad163.add ((x12_2).toNat * 6)).block, (ad163.add ((x12_2).toNat * 6)).off + 5, none⟩ = some (.int .i64 ((rd_T62 l0_0 x12_2).f5))) (ds := []) #[false, false, false, false, false, false, false, false, false, false, false, false, false, false, false, false, false, false, false, false] (by kernel_rfl) rfl rfl ⟨cb_ BK145.out 0 rfl, cb_ BK145.out 1 rfl, cb_ BK145.out 2 rfl, cb_ BK145.out 3 rfl, cb_ BK160.out 0 rfl, cb_ BK160.out 1 rfl, cb_ BK160.out 2 rfl, cb_ BK160.out 3 rfl, cb_ BK160.out 4 rfl, cb_ BK160.out 5 rfl, bc_ HB.out hw163_0, bc_ HB.out hw163_1, bc_ HB.out hw163_2, bc_ HB.out hw163_3, bc_ HB.out hw163_4, bc_ HB.out hw163_5, bc_ HB.out hw164_0, bc_ HB.out hw164_1, bc_ HB.out hw164_2, bc_ HB.out hw164_3, bc_ HB.out hw164_4, bc_ HB.out hw164_5⟩ (fun hHeld => ?_); refine with_tabW spec_AddEvent.tab11 spec_AddEvent.bits11 (fun HT_ HW_ => ?_)
        generalize wr.drew = w141 at HO_155000 BK145 BK146 BK147 BK154 BK160 HB hx163_0 hx163_1 hx163_2 hx163_3 hx163_4 hx163_5 hx164_0 hx164_1 hx164_2 hx164_3 hx164_4 hx164_5 hHeld ⊢
        refine pu_ (i := 0) (N := some 75) #[true, false, false, false, false, false, false, false, false, false, false, false, false, false, false, false, false, false, false, false] HT_ ?_
        refine pu_ (i := 2) (N := some 77) #[true, false, true, false, false, false, false, false, false, false, false, false, false, false, false, false, false, false, false, false] HT_ ?_
        refine pu_ (i := 6) (N := some 81) #[true, false, true, false, false, false, true, false, false, false, false, false, false, false, false, false, false, false, false, false] HT_ ?_
        refine tk_ (i := 1) (N := some 76) #[true, true, true, false, false, false, true, false, false, false, false, false, false, false, false, false, false, false, false, false] HT_ HW_ hHeld ?_
        refine pu_ (i := 3) (N := some 78) #[true, true, true, true, false, false, true, false, false, false, false, false, false, false, false, false, false, false, false, false] HT_ ?_
        refine pu_ (i := 4) (N := some 79) #[true, true, true, true, true, false, true, false, false, false, false, false, false, false, false, false, false, false, false, false] HT_ ?_
        refine tk_ (i := 5) (N := some 80) #[true, true, true, true, true, true, true, false, false, false, false, false, false, false, false, false, false, false, false, false] HT_ HW_ hHeld ?_
        refine tk_ (i := 7) (N := some 82) #[true, true, true, true, true, true, true, true, false, false, false, false, false, false, false, false, false, false, false, false] HT_ HW_ hHeld ?_
        refine pu_ (i := 8) (N := some 83) #[true, true, true, true, true, true, true, true, true, false, false, false, false, false, false, false, false, false, false, false] HT_ ?_
        refine pu_ (i := 9) (N := some 84) #[true, true, true, true, true, true, true, true, true, true, false, false, false, false, false, false, false, false, false, false] HT_ ?_
        refine pu_ (i := 10) (N := some 85) #[true, true, true, true, true, true, true, true, true, true, true, false, false, false, false, false, false, false, false, false] HT_ ?_
        refine pu_ (i := 12) (N := some 87) #[true, true, true, true, true, true, true, true, true, true, true, false, true, false, false, false, false, false, false, false] HT_ ?_
        refine pu_ (i := 16) (N := some 91) #[true, true, true, true, true, true, true, true, true, true, true, false, true, false, false, false, true, false, false, false] HT_ ?_
        refine tk_ (i := 11) (N := some 86) #[true, true, true, true, true, true, true, true, true, true, true, true, true, false, false, false, true, false, false, false] HT_ HW_ hHeld ?_
        refine pu_ (i := 13) (N := some 88) #[true, true, true, true, true, true, true, true, true, true, true, true, true, true, false, false, true, false, false, false] HT_ ?_
        refine pu_ (i := 14) (N := some 89) #[true, true, true, true, true, true, true, true, true, true, true, true, true, true, true, false, true, false, false, false] HT_ ?_
        refine tk_ (i := 15) (N := some 90) #[true, true, true, true, true, true, true, true, true, true, true, true, true, true, true, true, true, false, false, false] HT_ HW_ hHeld ?_
        refine tk_ (i := 17) (N := some 92) #[true, true, true, true, true, true, true, true, true, true, true, true, true, true, true, true, true, true, false, false] HT_ HW_ hHeld ?_
        refine pu_ (i := 18) (N := some 93) #[true, true, true, true, true, true, true, true, true, true, true, true, true, true, true, true, true, true, true, false] HT_ ?_
        refine pu_ (i := 19) (N := some 94) #[true, true, true, true, true, true, true, true, true, true, true, true, true, true, true, true, true, true, true, true] HT_ ?_
        refine done_ (done_of HT_.out (by kernel_rfl)) ?_
        try go_wp2
        go_roundg k2
        case measure => have := HJ5.out; have := HK2.out; omega
        case rel => exact ⟨(wrap64 (x12_2 + 1)), (x148001_2), (x148002_2), (x148003_2), (x155000_2), (x161000_2), (x161001_2), (x161002_2), (x161003_2), (x161004_2), (x161005_2), (u155000), (by first | rfl | (simp; done) | (simp [*]; done)), H', ⟨by have := HJ5.out; have := HK2.out; omega⟩, ⟨by (with_reducible repeat (first | apply Kd.R_alloc | apply Kd.R_drewN | apply Kd.R_drew)); exact HO_155000.out⟩, ⟨by (with_reducible repeat first|apply bn_|apply bd_|apply ba_); exact BK145.out⟩, ⟨by (with_reducible repeat first|apply bn_|apply bd_|apply ba_); exact BK146.out⟩, ⟨by (with_reducible repeat first|apply bn_|apply bd_|apply ba_); exact BK147.out⟩, ⟨by (with_reducible repeat first|apply bn_|apply bd_|apply ba_); exact BK154.out⟩, ⟨by (with_reducible repeat first|apply bn_|apply bd_|apply ba_); exact BK160.out⟩, ⟨ue_ HB.out⟩⟩
       rw [if_neg c113] at H
       have c113b0 : (((rd_T62 l0_0 x12_2).f0) == x161000_2) = false := beq_eq_false_iff_ne.mpr c113
       have c113b1 : (((rd_T62 l0_0 x12_2).f0) != x161000_2) = true := bne_iff_ne.mpr c113
       have H' := Aside0.mk H
       clear H
       have hnb142 := NB145_146.out
       have hnc142 := NB146_145.out
       have hnb143 := NB145_147.out
       have hnc143 := NB147_145.out
       have hnb144 := NB145_154.out
       have hnc144 := NB154_145.out
       have hnb145 := NB145_160.out
       have hnc145 := NB160_145.out
       obtain ⟨hcz146_0, hcz146_1, hcz146_2, hcz146_3⟩ := cbz4_ BK145.out
       obtain ⟨hfz146_0, hfz146_1, hfz146_2, hfz146_3⟩ := bfz4_ BK145.out
       try go_wp2
       replace HO_155000 := am_ (Kd.R_drew HO_155000.out)
       replace BK145 := am_ (blk_drew BK145.out)
       replace BK146 := am_ (blk_drew BK146.out)
       replace BK147 := am_ (blk_drew BK147.out)
       replace BK154 := am_ (blk_drew BK154.out)
       replace BK160 := am_ (blk_drew BK160.out)
       replace HB := am_ (below_drew1 HB.out)
       have p163 : 0 ≤ (x12_2 : Int) := of_decide_eq_true ua_
       have q163 : x12_2 < (l0_0.length : Int) := of_decide_eq_true ua_
       obtain ⟨ad163, e163, hx163_0, hx163_1, hx163_2, hx163_3, hx163_4, hx163_5⟩ := at_T62 HR0_0.out x12_2 p163 q163
       have hw163_5 := hx163_5
       have hw163_4 := hx163_4
       have hw163_3 := hx163_3
       have hw163_2 := hx163_2
       have hw163_1 := hx163_1
       have hw163_0 := hx163_0
       cases e163
       replace hx163_0 := bc_ HB.out hx163_0
       replace hx163_1 := bc_ HB.out hx163_1
       replace hx163_2 := bc_ HB.out hx163_2
       replace hx163_3 := bc_ HB.out hx163_3
       replace hx163_4 := bc_ HB.out hx163_4
       replace hx163_5 := bc_ HB.out hx163_5
       replace p163 := eq_true p163
       replace q163 := eq_true q163
       refine start_ (n := 20) (S := fun w' => w'.cell? ⟨gb145, 0, none⟩ = some (.slice (some ad163) l0_0.length c0_0) ∧ w'.cell? ⟨gb145, 1, none⟩ = some (.int .i64 a0_1) ∧ w'.cell? ⟨gb145, 2, none⟩ = some (.int .i64 a0_2) ∧ w'.cell? ⟨gb145, 3, none⟩ = some (.int .i64 a0_3) ∧ w'.cell? ⟨gb160, 0, none⟩ = some (.int .i64 x161000_2) ∧ w'.cell? ⟨gb160, 1, none⟩ = some (.int .i64 x161001_2) ∧ w'.cell? ⟨gb160, 2, none⟩ = some (.int .i64 x161002_2) ∧ w'.cell? ⟨gb160, 3, none⟩ = some (.int .i64 x161003_2) ∧ w'.cell? ⟨gb160, 4, none⟩ = some (.int .i64 x161004_2) ∧ w'.cell? ⟨gb160, 5, none⟩ = some (.int .i64 x161005_2) ∧ w'.cell? (ad163.add ((x12_2).toNat * 6)) = some (.int .i64 ((rd_T62 l0_0 x12_2).f0)) ∧ w'.cell? ⟨(ad163.add ((x12_2).toNat * 6)).block, (ad163.add ((x12_2).toNat * 6)).off + 1, none⟩ = some (.int .i64 ((rd_T62 l0_0 x12_2).f1)) ∧ w'.cell? ⟨(ad163.add ((x12_2).toNat * 6)).block, (ad163.add ((x12_2).toNat * 6)).off + 2, none⟩ = some (.int .i64 ((rd_T62 l0_0 x12_2).f2)) ∧ w'.cell? ⟨(ad163.add ((x12_2).toNat * 6)).block, (ad163.add ((x12_2).toNat * 6)).off + 3, none⟩ = some (.int .i64 ((rd_T62 l0_0 x12_2).f3)) ∧ w'.cell? ⟨(ad163.add ((x12_2).toNat * 6)).block, (ad163.add ((x12_2).toNat * 6)).off + 4, none⟩ = some (.int .i64 ((rd_T62 l0_0 x12_2).f4)) ∧ w'.cell? ⟨(ad163.add ((x12_2).toNat * 6)).block, (ad163.add ((x12_2).toNat * 6)).off + 5, none⟩ = some (.int .i64 ((rd_T62 l0_0 x12_2).f5))) (ds := []) #[false, false, false, false, false, false, false, false, false, false, false, false, false, false, false, false, false, false, false, false] (by kernel_rfl) rfl rfl ⟨cb_ BK145.out 0 rfl, cb_ BK145.out 1 rfl, cb_ BK145.out 2 rfl, cb_ BK145.out 3 rfl, cb_ BK160.out 0 rfl, cb_ BK160.out 1 rfl, cb_ BK160.out 2 rfl, cb_ BK160.out 3 rfl, cb_ BK160.out 4 rfl, cb_ BK160.out 5 rfl, bc_ HB.out hw163_0, bc_ HB.out hw163_1, bc_ HB.out hw163_2, bc_ HB.out hw163_3, bc_ HB.out hw163_4, bc_ HB.out hw163_5⟩ (fun hHeld => ?_); refine with_tabW spec_AddEvent.tab11 spec_AddEvent.bits11 (fun HT_ HW_ => ?_)
       generalize wr.drew = w147 at HO_155000 BK145 BK146 BK147 BK154 BK160 HB hx163_0 hx163_1 hx163_2 hx163_3 hx163_4 hx163_5 hHeld ⊢
       refine pu_ (i := 0) (N := some 75) #[true, false, false, false, false, false, false, false, false, false, false, false, false, false, false, false, false, false, false, false] HT_ ?_
       refine pu_ (i := 2) (N := some 77) #[true, false, true, false, false, false, false, false, false, false, false, false, false, false, false, false, false, false, false, false] HT_ ?_
       refine pu_ (i := 6) (N := some 81) #[true, false, true, false, false, false, true, false, false, false, false, false, false, false, false, false, false, false, false, false] HT_ ?_
       refine tk_ (i := 1) (N := some 76) #[true, true, true, false, false, false, true, false, false, false, false, false, false, false, false, false, false, false, false, false] HT_ HW_ hHeld ?_
       refine pu_ (i := 3) (N := some 78) #[true, true, true, true, false, false, true, false, false, false, false, false, false, false, false, false, false, false, false, false] HT_ ?_
       refine pu_ (i := 4) (N := some 79) #[true, true, true, true, true, false, true, false, false, false, false, false, false, false, false, false, false, false, false, false] HT_ ?_
       refine tk_ (i := 5) (N := some 80) #[true, true, true, true, true, true, true, false, false, false, false, false, false, false, false, false, false, false, false, false] HT_ HW_ hHeld ?_
       refine tk_ (i := 7) (N := some 82) #[true, true, true, true, true, true, true, true, false, false, false, false, false, false, false, false, false, false, false, false] HT_ HW_ hHeld ?_
       refine pu_ (i := 8) (N := some 83) #[true, true, true, true, true, true, true, true, true, false, false, false, false, false, false, false, false, false, false, false] HT_ ?_
       refine pu_ (i := 9) (N := some 84) #[true, true, true, true, true, true, true, true, true, true, false, false, false, false, false, false, false, false, false, false] HT_ ?_
       refine pn_ (i := 10) (N := some 85) #[true, true, true, true, true, true, true, true, true, true, true, false, false, false, false, false, false, false, false, false] HT_ ?_
       refine pn_ (i := 11) (N := some 86) #[true, true, true, true, true, true, true, true, true, true, true, true, false, false, false, false, false, false, false, false] HT_ ?_
       refine pn_ (i := 12) (N := some 87) #[true, true, true, true, true, true, true, true, true, true, true, true, true, false, false, false, false, false, false, false] HT_ ?_
       refine pn_ (i := 13) (N := some 88) #[true, true, true, true, true, true, true, true, true, true, true, true, true, true, false, false, false, false, false, false] HT_ ?_
       refine pn_ (i := 14) (N := some 89) #[true, true, true, true, true, true, true, true, true, true, true, true, true, true, true, false, false, false, false, false] HT_ ?_
       refine pn_ (i := 15) (N := some 90) #[true, true, true, true, true, true, true, true, true, true, true, true, true, true, true, true, false, false, false, false] HT_ ?_
       refine pn_ (i := 16) (N := some 91) #[true, true, true, true, true, true, true, true, true, true, true, true, true, true, true, true, true, false, false, false] HT_ ?_
       refine pn_ (i := 17) (N := some 92) #[true, true, true, true, true, true, true, true, true, true, true, true, true, true, true, true, true, true, false, false] HT_ ?_
       refine pn_ (i := 18) (N := some 93) #[true, true, true, true, true, true, true, true, true, true, true, true, true, true, true, true, true, true, true, false] HT_ ?_
       refine pu_ (i := 19) (N := some 94) #[true, true, true, true, true, true, true, true, true, true, true, true, true, true, true, true, true, true, true, true] HT_ ?_
       refine done_ (done_of HT_.out (by kernel_rfl)) ?_
       try go_wp2
       go_roundg k2
       case measure => have := HJ5.out; have := HK2.out; omega
       case rel => exact ⟨(wrap64 (x12_2 + 1)), (x148001_2), (x148002_2), (x148003_2), (x155000_2), (x161000_2), (x161001_2), (x161002_2), (x161003_2), (x161004_2), (x161005_2), (u155000), (by first | rfl | (simp; done) | (simp [*]; done)), H', ⟨by have := HJ5.out; have := HK2.out; omega⟩, ⟨by (with_reducible repeat (first | apply Kd.R_alloc | apply Kd.R_drewN | apply Kd.R_drew)); exact HO_155000.out⟩, ⟨by (with_reducible repeat first|apply bn_|apply bd_|apply ba_); exact BK145.out⟩, ⟨by (with_reducible repeat first|apply bn_|apply bd_|apply ba_); exact BK146.out⟩, ⟨by (with_reducible repeat first|apply bn_|apply bd_|apply ba_); exact BK147.out⟩, ⟨by (with_reducible repeat first|apply bn_|apply bd_|apply ba_); exact BK154.out⟩, ⟨by (with_reducible repeat first|apply bn_|apply bd_|apply ba_); exact BK160.out⟩, ⟨ue_ HB.out⟩⟩
      rw [if_neg c112] at H
      exact absurd H (by simp)
     rw [if_neg c111] at H
     have c111b0 : decide (x12_2 < (l0_0.length : Int)) = false := decide_eq_false c111
     clear c111
     by_cases c148 : (l0_0.length : Int) ≥ a2
     ·
      rw [if_pos c148] at H
      have c148b0 : decide (a2 ≤ (l0_0.length : Int)) = true := decide_eq_true c148
      clear c148
      replace H := Option.bind_eq_some_iff.mp H
      obtain ⟨t173, A1490, H⟩ := H
      replace H : (some (x155000_2, t151, t152, t173, 2)) = some (r1, r2, r3, r4, r5) := H
      have A149 := Aside0.mk A1490
      clear A1490
      simp only [Option.some.injEq, Prod.mk.injEq] at H
      obtain ⟨rfl, rfl, rfl, rfl, rfl⟩ := H
      have hnb150 := NB145_146.out
      have hnc150 := NB146_145.out
      have hnb151 := NB145_147.out
      have hnc151 := NB147_145.out
      have hnb152 := NB145_154.out
      have hnc152 := NB154_145.out
      have hnb153 := NB145_160.out
      have hnc153 := NB160_145.out
      obtain ⟨hcz154_0, hcz154_1, hcz154_2, hcz154_3⟩ := cbz4_ BK145.out
      obtain ⟨hfz154_0, hfz154_1, hfz154_2, hfz154_3⟩ := bfz4_ BK145.out
      go_wp2_with (first | ((with_reducible refine gate_callee (f := 29) rfl ?_); refine goesL_ (some 115) rfl rfl Try.func29 (by kernel_rfl) rfl #[.int .i64 (wrap64 (a0_3 + 1))] rfl ul_ ?_; (with_reducible refine (spec_l05Cap.calls (wrap64 (a0_3 + 1)) t173 _ A149.out).mono ?_); rintro e w' ⟨rfl, ⟨nd, rfl⟩⟩; refine ⟨_, rfl, ?_⟩; (try (rw [drewN_self wr]; generalize hq_ : World.drewN wr _ = wr; replace HO_155000 : Aside0 (Kd.R k62 62 wr w.heap.size (fun k_ => k_ ≠ gb160) u155000 x155000_2) := ⟨by rw [← hq_]; exact (ur_ HO_155000.out)⟩; replace BK145 : Aside0 (wr.heap[gb145]? = some (.cells #[.slice A0_0 l0_0.length c0_0, .int .i64 a0_1, .int .i64 a0_2, .int .i64 a0_3] 30 (0, 0))) := ⟨by rw [← hq_]; exact (ub_ BK145.out)⟩; replace BK146 : Aside0 (wr.heap[gb146]? = some (.cells #[.int .i64 a3_0, .int .i64 a3_1, .int .i64 a3_2, .int .i64 a3_3] 34 (0, 0))) := ⟨by rw [← hq_]; exact (ub_ BK146.out)⟩; replace BK147 : Aside0 (wr.heap[gb147]? = some (.cells #[.slice none 0 0, .int .i64 x148001_2, .int .i64 x148002_2, .int .i64 x148003_2] 30 (0, 0))) := ⟨by rw [← hq_]; exact (ub_ BK147.out)⟩; replace BK154 : Aside0 (wr.heap[gb154]? = some (.cells #[u155000, .int .i64 t151, .int .i64 t152, .int .i64 t153] 30 (0, 0))) := ⟨by rw [← hq_]; exact (ub_ BK154.out)⟩; replace BK160 : Aside0 (wr.heap[gb160]? = some (.cells #[.int .i64 x161000_2, .int .i64 x161001_2, .int .i64 x161002_2, .int .i64 x161003_2, .int .i64 x161004_2, .int .i64 x161005_2] 62 (0, 0))) := ⟨by rw [← hq_]; exact (ub_ BK160.out)⟩; replace HB : Aside0 (Below w.heap.size w wr) := ⟨by rw [← hq_]; exact (ue_ HB.out)⟩; clear hq_)); have hnb155 := NB154_146.out; have hnc155 := NB146_154.out; have hnb156 := NB154_147.out; have hnc156 := NB147_154.out; have hnb157 := NB154_160.out; have hnc157 := NB160_154.out; obtain ⟨hcz158_0, hcz158_1, hcz158_2, hcz158_3⟩ := cb4_ BK154.out; obtain ⟨hfz158_0, hfz158_1, hfz158_2⟩ := bf3_ BK154.out; have hfz158_3 := blk_frozen BK154.out 3) | ((with_reducible refine gate_store (t := 3) (p := 116) rfl ?_); refine st_ (w1 := (wr.setCell ⟨gb154, 3, none⟩ (.int .i64 t173))) ?_; intro w159 hw; replace HO_155000 : Aside0 (Kd.R k62 62 w159 w.heap.size (fun k_ => k_ ≠ gb160) u155000 x155000_2) := ⟨(by rw [hw]; exact (by (with_reducible repeat (first | apply Kd.R_alloc | apply Kd.R_drewN | apply Kd.R_drew)); exact Kd.R_mono (Kd.R_far (p := ⟨gb154, 3, none⟩) (Kd.R_types HO_155000.out BK154.out (by decide)) h2_ (.int .i64 t173)) (fun _ hk => by first | exact hk.1 | grind)))⟩; replace BK145 := uk_ hw BK145.out; replace BK146 := uk_ hw BK146.out; replace BK147 := uk_ hw BK147.out; replace BK154 : Aside0 (w159.heap[gb154]? = some (.cells #[u155000, .int .i64 t151, .int .i64 t152, .int .i64 t173] 30 (0, 0))) := ⟨(by rw [hw]; exact (by (with_reducible repeat first|apply bn_|apply bd_|apply ba_); refine blk_put (cs := #[u155000, .int .i64 t151, .int .i64 t152, .int .i64 t153]) ?_ 3 _ rfl; (with_reducible repeat first|apply bn_|apply bd_|apply ba_); exact BK154.out))⟩; replace BK160 := uk_ hw BK160.out; replace HB := uh_ hw HB.out; clear hw; obtain ⟨hcz160_0, hcz160_1, hcz160_2, hcz160_3⟩ := cb4_ BK154.out; obtain ⟨hfz160_0, hfz160_1, hfz160_2, hfz160_3⟩ := bf4_ BK154.out; obtain ⟨Ao161, co161, eo161⟩ := Kd.R_slice HO_155000.out; subst eo161; have hnb162 := NB147_146.out; have hnc162 := NB146_147.out; have hnb163 := NB147_160.out; have hnc163 := NB160_147.out; obtain ⟨hcz164_0, hcz164_1, hcz164_2, hcz164_3⟩ := cb4_ BK147.out; obtain ⟨hfz164_0, hfz164_1, hfz164_2⟩ := bf3_ BK147.out; have hfz164_3 := blk_frozen BK147.out 3) | ((with_reducible refine gate_store (t := 30) (p := 8) rfl ?_); refine st_ (w1 := ((((w159.setCell ⟨gb147, 0, none⟩ (.slice Ao161 x155000_2.length co161)).setCell ⟨gb147, 1, none⟩ (.int .i64 t151)).setCell ⟨gb147, 2, none⟩ (.int .i64 t152)).setCell ⟨gb147, 3, none⟩ (.int .i64 t173))) ?_; intro w165 hw; replace HO_155000 : Aside0 (Kd.R k62 62 w165 w.heap.size (fun k_ => k_ ≠ gb160) (.slice Ao161 x155000_2.length co161) x155000_2) := ⟨(by rw [hw]; exact (by (with_reducible repeat (first | apply Kd.R_alloc | apply Kd.R_drewN | apply Kd.R_drew)); exact Kd.R_mono (Rf4_ (g := gb147) (Kd.R_types HO_155000.out BK147.out (by decide))) (fun _ hk => by first | exact hk.1 | grind)))⟩; replace BK145 := uk_ hw BK145.out; replace BK146 := uk_ hw BK146.out; replace BK147 : Aside0 (w165.heap[gb147]? = some (.cells #[.slice Ao161 x155000_2.length co161, .int .i64 t151, .int .i64 t152, .int .i64 t173] 30 (0, 0))) := ⟨(by rw [hw]; exact (by (with_reducible repeat first|apply bn_|apply bd_|apply ba_); apply bp4_; (with_reducible repeat first|apply bn_|apply bd_|apply ba_); exact BK147.out))⟩; replace BK154 := uk_ hw BK154.out; replace BK160 := uk_ hw BK160.out; replace HB := uh_ hw HB.out; clear hw))
      refine bodyPost_ret (results_ct rfl _ _ gb147 30 #[.slice Ao161 x155000_2.length co161, .int .i64 t151, .int .i64 t152, .int .i64 t173] (0, 0) _ rfl (ub_ BK147.out) Try.underlying30 rfl (by kernel_rfl)) rfl ?_
      exact ⟨_, ew_, by (with_reducible repeat (first | apply Kd.R_alloc | apply Kd.R_drewN | apply Kd.R_drew)); exact Kd.R_mono HO_155000.out (fun _ hk => trivial), ue_ HB.out⟩
     rw [if_neg c148] at H
     have c148b0 : decide (a2 ≤ (l0_0.length : Int)) = false := decide_eq_false c148
     clear c148
     obtain ⟨y174, hy174⟩ : ∃ y_ : List (S62), y_ = (([] : List (S62))) := ⟨_, rfl⟩
     replace H : (spec_AddEvent.l1 k2 y174 false 0 l0_0 a0_1 a0_2 a0_3 x155000_2 t151 t152 t153 x161000_2 x161001_2 x161002_2 x161003_2 x161004_2 x161005_2) = some (r1, r2, r3, r4, r5) := by first | (rw [hy174]; with_reducible exact H) | (have H2_ := (Option.bind_some _ _).symm.trans H; rw [hy174]; with_reducible exact H2_) | (have H2_ := (Option.bind_some _ _).symm.trans H; with_reducible exact H2_) | with_reducible exact H | (rw [hy174]; exact H) | exact H
     have Ny174 := Aside0.mk hy174
     clear hy174
     have H' := Aside0.mk H
     clear H
     have hnb166 := NB145_146.out
     have hnc166 := NB146_145.out
     have hnb167 := NB145_147.out
     have hnc167 := NB147_145.out
     have hnb168 := NB145_154.out
     have hnc168 := NB154_145.out
     have hnb169 := NB145_160.out
     have hnc169 := NB160_145.out
     obtain ⟨hcz170_0, hcz170_1, hcz170_2, hcz170_3⟩ := cbz4_ BK145.out
     obtain ⟨hfz170_0, hfz170_1, hfz170_2, hfz170_3⟩ := bfz4_ BK145.out
     go_wp2_with (first | ((with_reducible refine gate_dst (N := 118) rfl ?_); refine Kd.R_lit k62 _ 62 ?hg (N := 118) ?hd (xs := ([] : List (S62))) (inner := []) (ok := fun _ => True) (okp := fun _ => True) ?hr ?hp (fun _ hk => hk) trivial (Below.refl _ _) (Nat.le_refl _) (by simp) ?_; (case hd => rfl); (case hg => rfl); (case hr => first | (go_simp; done) | (go_simp; rfl)); (case hp => exact (Reps.none _ _)); intro v175 w171 ho172 hb hg_ hnew_; clear hg_ hnew_; (first | rw [← Ny174.out] at ho172 | (simp only [Int.reduceToNat] at ho172; rw [← Ny174.out] at ho172)); have HO176 := am_ (Kd.R_lower (Kd.R_newB (Kd.R_new' ho172 (Kd.R_lt (ur_ HO_155000.out))) (g := gb160) (o := .cells #[.int .i64 x161000_2, .int .i64 x161001_2, .int .i64 x161002_2, .int .i64 x161003_2, .int .i64 x161004_2, .int .i64 x161005_2] 62 (0, 0)) (ub_ BK160.out)) (below_size (ue_ HB.out))); replace HO_155000 := am_ (Kd.R_elder' (ur_ HO_155000.out) (Kd.R_base ho172) hb); replace BK145 := bs_ BK145 hb; replace BK146 := bs_ BK146 hb; replace BK147 := bs_ BK147 hb; replace BK154 := bs_ BK154 hb; replace BK160 := bs_ BK160 hb; replace HB := hs_ HB hb; clear hb ho172))
     (try simp only [Act.put, List.setIfInBounds_toArray, List.set_cons_zero, List.set_cons_succ])
     go_loopg [13, 14, 15] k2 (fun kq v13 v14 v15 w' => ∃ (x13_3 : List (S62)) (x14_3 : Bool) (x15_3 : Int), v14 = .bool x14_3 ∧ v15 = .int .i64 x15_3 ∧ Aside0 (spec_AddEvent.l1 kq x13_3 x14_3 x15_3 l0_0 a0_1 a0_2 a0_3 x155000_2 t151 t152 t153 x161000_2 x161001_2 x161002_2 x161003_2 x161004_2 x161005_2 = some (r1, r2, r3, r4, r5)) ∧ Aside0 (kq ≤ k2) ∧ Aside0 (Kd.R k62 62 w' w.heap.size (fun k_ => some k_ ≠ (u155000 : Value).ownBlock ∧ k_ ≠ gb160) v13 x13_3) ∧ Aside0 (Kd.R k62 62 w' w.heap.size (fun k_ => some k_ ≠ (v13 : Value).ownBlock ∧ k_ ≠ gb160) u155000 x155000_2) ∧ Aside0 (w'.heap[gb145]? = some (.cells #[(.slice A0_0 l0_0.length c0_0), .int .i64 a0_1, .int .i64 a0_2, .int .i64 a0_3] 30 (0, 0))) ∧ Aside0 (w'.heap[gb146]? = some (.cells #[.int .i64 a3_0, .int .i64 a3_1, .int .i64 a3_2, .int .i64 a3_3] 34 (0, 0))) ∧ Aside0 (w'.heap[gb147]? = some (.cells #[(.slice none 0 0), .int .i64 x148001_2, .int .i64 x148002_2, .int .i64 x148003_2] 30 (0, 0))) ∧ Aside0 (w'.heap[gb154]? = some (.cells #[u155000, .int .i64 t151, .int .i64 t152, .int .i64 t153] 30 (0, 0))) ∧ Aside0 (w'.heap[gb160]? = some (.cells #[.int .i64 x161000_2, .int .i64 x161001_2, .int .i64 x161002_2, .int .i64 x161003_2, .int .i64 x161004_2, .int .i64 x161005_2] 62 (0, 0))) ∧ Aside0 (Below w.heap.size w w'))
     case atStart => exact ⟨(y174), (false), (0), (by first | rfl | (simp; done) | (simp [*]; done)), (by first | rfl | (simp; done) | (simp [*]; done)), H', ⟨Nat.le_refl _⟩, ⟨by (with_reducible repeat (first | apply Kd.R_alloc | apply Kd.R_drewN | apply Kd.R_drew)); exact Kd.R_mono HO176.out (fun _ hk => by first | exact ⟨hk.1.2, hk.2⟩ | grind)⟩, ⟨by (with_reducible repeat (first | apply Kd.R_alloc | apply Kd.R_drewN | apply Kd.R_drew)); exact Kd.R_mono HO_155000.out (fun _ hk => by first | exact ⟨hk.2, hk.1⟩ | grind)⟩, ⟨by (with_reducible repeat first|apply bn_|apply bd_|apply ba_); exact BK145.out⟩, ⟨by (with_reducible repeat first|apply bn_|apply bd_|apply ba_); exact BK146.out⟩, ⟨by (with_reducible repeat first|apply bn_|apply bd_|apply ba_); exact BK147.out⟩, ⟨by (with_reducible repeat first|apply bn_|apply bd_|apply ba_); exact BK154.out⟩, ⟨by (with_reducible repeat first|apply bn_|apply bd_|apply ba_); exact BK160.out⟩, ⟨ue_ HB.out⟩⟩
     case round =>
      clear H'
      try clear c1
      try clear p1
      try clear q1
      try clear hx1
      try clear c2
      try clear p2
      try clear p6
      try clear c11
      try clear p11
      try clear q11
      try clear hx11
      try clear hf11
      try clear c12
      try clear c13
      try clear c14
      try clear c15
      try clear c16
      try clear p16
      try clear q16
      try clear hx16
      try clear c29
      try clear p64
      try clear c111
      try clear c111b0
      try clear c112
      try clear c113
      try clear c113b0
      try clear c113b1
      try clear c114
      try clear c114b0
      try clear c114b1
      try clear c116
      try clear c117
      try clear p117
      try clear q117
      try clear hx117
      try clear hf117
      try clear c126
      try clear c128
      try clear c129
      try clear c130
      try clear c132
      try clear c133
      try clear c136
      try clear c137
      try clear c138
      try clear c139
      try clear c142
      try clear c143
      try clear c144
      try clear c145
      try clear c148
      try clear c148b0
      try clear c150
      try clear c151
      try clear c152
      try clear c153
      try clear c155
      try clear c156
      try clear c157
      try clear c162
      try clear c163
      try clear p163
      try clear q163
      try clear hx163
      try clear p164
      try clear q164
      try clear hx164
      try clear c166
      try clear c167
      try clear c168
      try clear c169
      try clear hcz131_0
      try clear hcz131_1
      try clear hcz131_2
      try clear hcz131_3
      try clear hcz134_0
      try clear hcz134_1
      try clear hcz134_2
      try clear hcz134_3
      try clear hcz140_0
      try clear hcz140_1
      try clear hcz140_2
      try clear hcz140_3
      try clear hcz146_0
      try clear hcz146_1
      try clear hcz146_2
      try clear hcz146_3
      try clear hcz154_0
      try clear hcz154_1
      try clear hcz154_2
      try clear hcz154_3
      try clear hcz158_0
      try clear hcz158_1
      try clear hcz158_2
      try clear hcz158_3
      try clear hcz160_0
      try clear hcz160_1
      try clear hcz160_2
      try clear hcz160_3
      try clear hcz164_0
      try clear hcz164_1
      try clear hcz164_2
      try clear hcz164_3
      try clear hcz170_0
      try clear hcz170_1
      try clear hcz170_2
      try clear hcz170_3
      try clear hfz131_0
      try clear hfz131_1
      try clear hfz131_2
      try clear hfz131_3
      try clear hfz134_0
      try clear hfz134_1
      try clear hfz134_2
      try clear hfz134_3
      try clear hfz140_0
      try clear hfz140_1
      try clear hfz140_2
      try clear hfz140_3
      try clear hfz146_0
      try clear hfz146_1
      try clear hfz146_2
      try clear hfz146_3
      try clear hfz154_0
      try clear hfz154_1
      try clear hfz154_2
      try clear hfz154_3
      try clear hfz158_0
      try clear hfz158_1
      try clear hfz158_2
      try clear hfz158_3
      try clear hfz160_0
      try clear hfz160_1
      try clear hfz160_2
      try clear hfz160_3
      try clear hfz164_0
      try clear hfz164_1
      try clear hfz164_2
      try clear hfz164_3
      try clear hfz170_0
      try clear hfz170_1
      try clear hfz170_2
      try clear hfz170_3
      try clear hx117_3
      try clear hx117_4
      try clear hx117_5
      try clear hx163_0
      try clear hx163_1
      try clear hx163_2
      try clear hx163_3
      try clear hx163_4
      try clear hx163_5
      try clear hx164_0
      try clear hx164_1
      try clear hx164_2
      try clear hx164_3
      try clear hx164_4
      try clear hx164_5
      try clear p117
      try clear p163
      try clear p164
      try clear q117
      try clear q163
      try clear q164
      obtain ⟨x13_3, x14_3, x15_3, rfl, rfl, HA, HK3, HO_13, HO_155000, BK145, BK146, BK147, BK154, BK160, HB⟩ := hrel
      cases gk with
      | zero => exact absurd HA.out (by simp [spec_AddEvent.l1])
      | succ k3 =>
       have H := HA.out
       clear HA
       simp only [spec_AddEvent.l1] at H
       by_cases c173 : x15_3 < (l0_0.length : Int)
       ·
        rw [if_pos c173] at H
        have c173b0 : decide (x15_3 < (l0_0.length : Int)) = true := decide_eq_true c173
        clear c173
        by_cases c174 : x14_3 = true
        ·
         subst c174
         have H1 : (if 0 ≤ x15_3 then (if x13_3.length < 2932031007402 then (spec_AddEvent.l1 k3 (x13_3 ++ [(⟨(rd_T62 l0_0 x15_3).f0, (rd_T62 l0_0 x15_3).f1, (rd_T62 l0_0 x15_3).f2, (rd_T62 l0_0 x15_3).f3, (rd_T62 l0_0 x15_3).f4, (rd_T62 l0_0 x15_3).f5⟩ : S62)]) true (wrap64 (x15_3 + 1)) l0_0 a0_1 a0_2 a0_3 x155000_2 t151 t152 t153 x161000_2 x161001_2 x161002_2 x161003_2 x161004_2 x161005_2) else (none)) else (none)) = some (r1, r2, r3, r4, r5) := by rw [if_pos rfl] at H; exact H
         clear H
         have H := H1
         clear H1
         by_cases c175 : 0 ≤ x15_3
         ·
          rw [if_pos c175] at H
          have c175b0 : decide (0 ≤ x15_3) = true := decide_eq_true c175
          clear c175
          by_cases c176 : x13_3.length < 2932031007402
          ·
           rw [if_pos c176] at H
           have LMc176 := Aside0.mk c176
           clear c176
           obtain ⟨y178, hy178⟩ : ∃ y_ : List (S62), y_ = (x13_3 ++ [(⟨(rd_T62 l0_0 x15_3).f0, (rd_T62 l0_0 x15_3).f1, (rd_T62 l0_0 x15_3).f2, (rd_T62 l0_0 x15_3).f3, (rd_T62 l0_0 x15_3).f4, (rd_T62 l0_0 x15_3).f5⟩ : S62)]) := ⟨_, rfl⟩
           replace H : (spec_AddEvent.l1 k3 y178 true (wrap64 (x15_3 + 1)) l0_0 a0_1 a0_2 a0_3 x155000_2 t151 t152 t153 x161000_2 x161001_2 x161002_2 x161003_2 x161004_2 x161005_2) = some (r1, r2, r3, r4, r5) := by first | (rw [hy178]; with_reducible exact H) | (have H2_ := (Option.bind_some _ _).symm.trans H; rw [hy178]; with_reducible exact H2_) | (have H2_ := (Option.bind_some _ _).symm.trans H; with_reducible exact H2_) | with_reducible exact H | (rw [hy178]; exact H) | exact H
           have Ny178 := Aside0.mk hy178
           clear hy178
           have H' := Aside0.mk H
           clear H
           have hnb177 := NB145_146.out
           have hnc177 := NB146_145.out
           have hnb178 := NB145_147.out
           have hnc178 := NB147_145.out
           have hnb179 := NB145_154.out
           have hnc179 := NB154_145.out
           have hnb180 := NB145_160.out
           have hnc180 := NB160_145.out
           obtain ⟨hcz181_0, hcz181_1, hcz181_2, hcz181_3⟩ := cbz4_ BK145.out
           obtain ⟨hfz181_0, hfz181_1, hfz181_2, hfz181_3⟩ := bfz4_ BK145.out
           try go_wp2
           replace HO_13 := am_ (Kd.R_drew HO_13.out)
           replace HO_155000 := am_ (Kd.R_drew HO_155000.out)
           replace BK145 := am_ (blk_drew BK145.out)
           replace BK146 := am_ (blk_drew BK146.out)
           replace BK147 := am_ (blk_drew BK147.out)
           replace BK154 := am_ (blk_drew BK154.out)
           replace BK160 := am_ (blk_drew BK160.out)
           replace HB := am_ (below_drew1 HB.out)
           refine start_ (n := 11) (S := fun w' => True) (ds := []) #[false, false, false, false, false, false, false, false, false, false, false] (by kernel_rfl) rfl rfl trivial (fun hHeld => ?_); refine with_tabW spec_AddEvent.tab22 spec_AddEvent.bits22 (fun HT_ HW_ => ?_)
           generalize wr.drew = w182 at HO_13 HO_155000 BK145 BK146 BK147 BK154 BK160 HB hHeld ⊢
           refine pu_ (i := 0) (N := some 126) #[true, false, false, false, false, false, false, false, false, false, false] HT_ ?_
           refine pu_ (i := 1) (N := some 127) #[true, true, false, false, false, false, false, false, false, false, false] HT_ ?_
           refine pu_ (i := 2) (N := some 128) #[true, true, true, false, false, false, false, false, false, false, false] HT_ ?_
           refine pn_ (i := 3) (N := some 129) #[true, true, true, true, false, false, false, false, false, false, false] HT_ ?_
           refine pn_ (i := 4) (N := some 130) #[true, true, true, true, true, false, false, false, false, false, false] HT_ ?_
           refine pn_ (i := 5) (N := some 131) #[true, true, true, true, true, true, false, false, false, false, false] HT_ ?_
           refine pn_ (i := 6) (N := some 132) #[true, true, true, true, true, true, true, false, false, false, false] HT_ ?_
           refine pn_ (i := 7) (N := some 133) #[true, true, true, true, true, true, true, true, false, false, false] HT_ ?_
           refine pn_ (i := 8) (N := some 134) #[true, true, true, true, true, true, true, true, true, false, false] HT_ ?_
           refine pn_ (i := 9) (N := some 135) #[true, true, true, true, true, true, true, true, true, true, false] HT_ ?_
           refine pu_ (i := 10) (N := some 136) #[true, true, true, true, true, true, true, true, true, true, true] HT_ ?_
           refine done_ (done_of HT_.out (by kernel_rfl)) ?_
           obtain ⟨hcz183_0, hcz183_1, hcz183_2, hcz183_3⟩ := cbz4_ BK145.out
           obtain ⟨hfz183_0, hfz183_1, hfz183_2, hfz183_3⟩ := bfz4_ BK145.out
           have p177 : 0 ≤ (x15_3 : Int) := of_decide_eq_true ua_
           have q177 : x15_3 < (l0_0.length : Int) := of_decide_eq_true ua_
           obtain ⟨ad177, e177, hx177_0, hx177_1, hx177_2, hx177_3, hx177_4, hx177_5⟩ := at_T62 HR0_0.out x15_3 p177 q177
           cases e177
           replace hx177_0 := bc_ HB.out hx177_0
           replace hx177_1 := bc_ HB.out hx177_1
           replace hx177_2 := bc_ HB.out hx177_2
           replace hx177_3 := bc_ HB.out hx177_3
           replace hx177_4 := bc_ HB.out hx177_4
           replace hx177_5 := bc_ HB.out hx177_5
           replace p177 := eq_true p177
           replace q177 := eq_true q177
           try go_wp2_with (first | ((with_reducible refine gate_builtin (b := .append) (xs := #[.tmp 141, .tmp 147]) rfl ?_); at_builtin; refine Kd.R_append k62 (w0 := w) w.heap.size rfl (.tmp 141) (.tmp 147) 28 62 (.agg #[(.int .i64 0), (.int .i64 0), (.int .i64 0), (.int .i64 0), (.int .i64 0), (.int .i64 0)]) 48 rfl Try.underlying28 info62 rfl (by decide) (by omega) u13 x13_3 (⟨(rd_T62 l0_0 x15_3).f0, (rd_T62 l0_0 x15_3).f1, (rd_T62 l0_0 x15_3).f2, (rd_T62 l0_0 x15_3).f3, (rd_T62 l0_0 x15_3).f4, (rd_T62 l0_0 x15_3).f5⟩ : S62) [.int .i64 ((rd_T62 l0_0 x15_3).f0), .int .i64 ((rd_T62 l0_0 x15_3).f1), .int .i64 ((rd_T62 l0_0 x15_3).f2), .int .i64 ((rd_T62 l0_0 x15_3).f3), .int .i64 ((rd_T62 l0_0 x15_3).f4), .int .i64 ((rd_T62 l0_0 x15_3).f5)] (fun k_ => some k_ ≠ (u155000 : Value).ownBlock ∧ k_ ≠ gb160) (fun _ => False) rfl rfl ?aP (fun _ hk => hk.elim) ?aF ?aO ?aB ?aS ?aL ?_; (case aP => exact k62_mkM _ _ _ (⟨(rd_T62 l0_0 x15_3).f0, (rd_T62 l0_0 x15_3).f1, (rd_T62 l0_0 x15_3).f2, (rd_T62 l0_0 x15_3).f3, (rd_T62 l0_0 x15_3).f4, (rd_T62 l0_0 x15_3).f5⟩ : S62)); (case aB => exact (ue_ HB.out)); (case aF => exact (fun k_ hk => ⟨Kd.fresh' (Kd.R_lt (ur_ HO_155000.out)) k_ hk, Kd.freshB (g := gb160) (o := .cells #[.int .i64 x161000_2, .int .i64 x161001_2, .int .i64 x161002_2, .int .i64 x161003_2, .int .i64 x161004_2, .int .i64 x161005_2] 62 (0, 0)) (ub_ BK160.out) k_ hk⟩)); (case aO => exact (ur_ HO_13.out)); (case aS => exact (below_size (ue_ HB.out))); (case aL => have := LMc176.out; omega); intro v179 w184 ho hb hg hat; rw [← Ny178.out] at ho; replace HO_155000 := am_ (Kd.R_after (ok := (fun k_ => k_ ≠ gb160)) (by (with_reducible repeat (first | apply Kd.R_alloc | apply Kd.R_drewN | apply Kd.R_drew)); exact Kd.R_mono HO_155000.out (fun _ hk => by first | exact ⟨hk.2, hk.1⟩ | grind)) hg hat); replace BK145 := am_ (blk_grown (g := gb145) (o := .cells #[.slice (some ad177) l0_0.length c0_0, .int .i64 a0_1, .int .i64 a0_2, .int .i64 a0_3] 30 (0, 0)) (ub_ BK145.out) hg (Kd.R_ne HO_13.out BK145.out (by decide))); replace BK146 := am_ (blk_grown (g := gb146) (o := .cells #[.int .i64 a3_0, .int .i64 a3_1, .int .i64 a3_2, .int .i64 a3_3] 34 (0, 0)) (ub_ BK146.out) hg (Kd.R_ne HO_13.out BK146.out (by decide))); replace BK147 := am_ (blk_grown (g := gb147) (o := .cells #[.slice none 0 0, .int .i64 x148001_2, .int .i64 x148002_2, .int .i64 x148003_2] 30 (0, 0)) (ub_ BK147.out) hg (Kd.R_ne HO_13.out BK147.out (by decide))); replace BK154 := am_ (blk_grown (g := gb154) (o := .cells #[u155000, .int .i64 t151, .int .i64 t152, .int .i64 t153] 30 (0, 0)) (ub_ BK154.out) hg (Kd.R_ne HO_13.out BK154.out (by decide))); replace BK160 := am_ (blk_grown (g := gb160) (o := .cells #[.int .i64 x161000_2, .int .i64 x161001_2, .int .i64 x161002_2, .int .i64 x161003_2, .int .i64 x161004_2, .int .i64 x161005_2] 62 (0, 0)) (ub_ BK160.out) hg (Kd.R_away HO_13.out h2_)); replace HB := am_ (hb); have HO180 := am_ (ho); clear HO_13; clear ho hb hg hat))
           go_roundg k3
           case measure => have := HJ5.out; have := HK2.out; have := HK3.out; omega
           case rel => exact ⟨(y178), (true), (wrap64 (x15_3 + 1)), (by first | rfl | (simp; done) | (simp [*]; done)), (by first | rfl | (simp; done) | (simp [*]; done)), H', ⟨by have := HJ5.out; have := HK2.out; have := HK3.out; omega⟩, ⟨by (with_reducible repeat (first | apply Kd.R_alloc | apply Kd.R_drewN | apply Kd.R_drew)); exact HO180.out⟩, ⟨by (with_reducible repeat (first | apply Kd.R_alloc | apply Kd.R_drewN | apply Kd.R_drew)); exact Kd.R_mono HO_155000.out (fun _ hk => by first | exact ⟨hk.2, hk.1⟩ | grind)⟩, ⟨by (with_reducible repeat first|apply bn_|apply bd_|apply ba_); exact BK145.out⟩, ⟨by (with_reducible repeat first|apply bn_|apply bd_|apply ba_); exact BK146.out⟩, ⟨by (with_reducible repeat first|apply bn_|apply bd_|apply ba_); exact BK147.out⟩, ⟨by (with_reducible repeat first|apply bn_|apply bd_|apply ba_); exact BK154.out⟩, ⟨by (with_reducible repeat first|apply bn_|apply bd_|apply ba_); exact BK160.out⟩, ⟨ue_ HB.out⟩⟩
          rw [if_neg c176] at H
          exact absurd H (by simp)
         rw [if_neg c175] at H
         exact absurd H (by simp)
        replace c174 := Bool.eq_false_iff.mpr c174
        subst c174
        have H1 : (if 0 ≤ x15_3 then ((spec_l05Ahead.f x161000_2 x161001_2 x161002_2 x161003_2 x161004_2 x161005_2 ((rd_T62 l0_0 x15_3).f0) ((rd_T62 l0_0 x15_3).f1) ((rd_T62 l0_0 x15_3).f2) ((rd_T62 l0_0 x15_3).f3) ((rd_T62 l0_0 x15_3).f4) ((rd_T62 l0_0 x15_3).f5)).bind fun t182 => (if t182 = true then (if x13_3.length < 2932031007402 then ((some (x13_3 ++ [(⟨x161000_2, x161001_2, x161002_2, x161003_2, x161004_2, x161005_2⟩ : S62)] : List (S62))).bind fun y183 => (if y183.length < 2932031007402 then (spec_AddEvent.l1 k3 (y183 ++ [(⟨(rd_T62 l0_0 x15_3).f0, (rd_T62 l0_0 x15_3).f1, (rd_T62 l0_0 x15_3).f2, (rd_T62 l0_0 x15_3).f3, (rd_T62 l0_0 x15_3).f4, (rd_T62 l0_0 x15_3).f5⟩ : S62)]) true (wrap64 (x15_3 + 1)) l0_0 a0_1 a0_2 a0_3 x155000_2 t151 t152 t153 x161000_2 x161001_2 x161002_2 x161003_2 x161004_2 x161005_2) else (none))) else (none)) else (if x13_3.length < 2932031007402 then (spec_AddEvent.l1 k3 (x13_3 ++ [(⟨(rd_T62 l0_0 x15_3).f0, (rd_T62 l0_0 x15_3).f1, (rd_T62 l0_0 x15_3).f2, (rd_T62 l0_0 x15_3).f3, (rd_T62 l0_0 x15_3).f4, (rd_T62 l0_0 x15_3).f5⟩ : S62)]) false (wrap64 (x15_3 + 1)) l0_0 a0_1 a0_2 a0_3 x155000_2 t151 t152 t153 x161000_2 x161001_2 x161002_2 x161003_2 x161004_2 x161005_2) else (none)))) else (none)) = some (r1, r2, r3, r4, r5) := by rw [if_neg (show ¬ (false = true) by decide)] at H; exact H
        clear H
        have H := H1
        clear H1
        by_cases c185 : 0 ≤ x15_3
        ·
         rw [if_pos c185] at H
         have c185b0 : decide (0 ≤ x15_3) = true := decide_eq_true c185
         clear c185
         replace H := Option.bind_eq_some_iff.mp H
         obtain ⟨t182, A1860, H⟩ := H
         replace H : (if t182 = true then (if x13_3.length < 2932031007402 then ((some (x13_3 ++ [(⟨x161000_2, x161001_2, x161002_2, x161003_2, x161004_2, x161005_2⟩ : S62)] : List (S62))).bind fun y183 => (if y183.length < 2932031007402 then (spec_AddEvent.l1 k3 (y183 ++ [(⟨(rd_T62 l0_0 x15_3).f0, (rd_T62 l0_0 x15_3).f1, (rd_T62 l0_0 x15_3).f2, (rd_T62 l0_0 x15_3).f3, (rd_T62 l0_0 x15_3).f4, (rd_T62 l0_0 x15_3).f5⟩ : S62)]) true (wrap64 (x15_3 + 1)) l0_0 a0_1 a0_2 a0_3 x155000_2 t151 t152 t153 x161000_2 x161001_2 x161002_2 x161003_2 x161004_2 x161005_2) else (none))) else (none)) else (if x13_3.length < 2932031007402 then (spec_AddEvent.l1 k3 (x13_3 ++ [(⟨(rd_T62 l0_0 x15_3).f0, (rd_T62 l0_0 x15_3).f1, (rd_T62 l0_0 x15_3).f2, (rd_T62 l0_0 x15_3).f3, (rd_T62 l0_0 x15_3).f4, (rd_T62 l0_0 x15_3).f5⟩ : S62)]) false (wrap64 (x15_3 + 1)) l0_0 a0_1 a0_2 a0_3 x155000_2 t151 t152 t153 x161000_2 x161001_2 x161002_2 x161003_2 x161004_2 x161005_2) else (none))) = some (r1, r2, r3, r4, r5) := H
         have A186 := Aside0.mk A1860
         clear A1860
         by_cases c187 : t182 = true
         ·
          subst c187
          have H1 : (if x13_3.length < 2932031007402 then ((some (x13_3 ++ [(⟨x161000_2, x161001_2, x161002_2, x161003_2, x161004_2, x161005_2⟩ : S62)] : List (S62))).bind fun y183 => (if y183.length < 2932031007402 then (spec_AddEvent.l1 k3 (y183 ++ [(⟨(rd_T62 l0_0 x15_3).f0, (rd_T62 l0_0 x15_3).f1, (rd_T62 l0_0 x15_3).f2, (rd_T62 l0_0 x15_3).f3, (rd_T62 l0_0 x15_3).f4, (rd_T62 l0_0 x15_3).f5⟩ : S62)]) true (wrap64 (x15_3 + 1)) l0_0 a0_1 a0_2 a0_3 x155000_2 t151 t152 t153 x161000_2 x161001_2 x161002_2 x161003_2 x161004_2 x161005_2) else (none))) else (none)) = some (r1, r2, r3, r4, r5) := by rw [if_pos rfl] at H; exact H
          clear H
          have H := H1
          clear H1
          by_cases c188 : x13_3.length < 2932031007402
          ·
           rw [if_pos c188] at H
           have LMc188 := Aside0.mk c188
           clear c188
           obtain ⟨y183, hy183⟩ : ∃ y_ : List (S62), y_ = (x13_3 ++ [(⟨x161000_2, x161001_2, x161002_2, x161003_2, x161004_2, x161005_2⟩ : S62)]) := ⟨_, rfl⟩
           replace H : (if y183.length < 2932031007402 then (spec_AddEvent.l1 k3 (y183 ++ [(⟨(rd_T62 l0_0 x15_3).f0, (rd_T62 l0_0 x15_3).f1, (rd_T62 l0_0 x15_3).f2, (rd_T62 l0_0 x15_3).f3, (rd_T62 l0_0 x15_3).f4, (rd_T62 l0_0 x15_3).f5⟩ : S62)]) true (wrap64 (x15_3 + 1)) l0_0 a0_1 a0_2 a0_3 x155000_2 t151 t152 t153 x161000_2 x161001_2 x161002_2 x161003_2 x161004_2 x161005_2) else (none)) = some (r1, r2, r3, r4, r5) := by first | (rw [hy183]; with_reducible exact H) | (have H2_ := (Option.bind_some _ _).symm.trans H; rw [hy183]; with_reducible exact H2_) | (have H2_ := (Option.bind_some _ _).symm.trans H; with_reducible exact H2_) | with_reducible exact H | (rw [hy183]; exact H) | exact H
           have Ny183 := Aside0.mk hy183
           clear hy183
           by_cases c189 : y183.length < 2932031007402
           ·
            rw [if_pos c189] at H
            have LMc189 := Aside0.mk c189
            clear c189
            obtain ⟨y187, hy187⟩ : ∃ y_ : List (S62), y_ = (y183 ++ [(⟨(rd_T62 l0_0 x15_3).f0, (rd_T62 l0_0 x15_3).f1, (rd_T62 l0_0 x15_3).f2, (rd_T62 l0_0 x15_3).f3, (rd_T62 l0_0 x15_3).f4, (rd_T62 l0_0 x15_3).f5⟩ : S62)]) := ⟨_, rfl⟩
            replace H : (spec_AddEvent.l1 k3 y187 true (wrap64 (x15_3 + 1)) l0_0 a0_1 a0_2 a0_3 x155000_2 t151 t152 t153 x161000_2 x161001_2 x161002_2 x161003_2 x161004_2 x161005_2) = some (r1, r2, r3, r4, r5) := by first | (rw [hy187]; with_reducible exact H) | (have H2_ := (Option.bind_some _ _).symm.trans H; rw [hy187]; with_reducible exact H2_) | (have H2_ := (Option.bind_some _ _).symm.trans H; with_reducible exact H2_) | with_reducible exact H | (rw [hy187]; exact H) | exact H
            have Ny187 := Aside0.mk hy187
            clear hy187
            have H' := Aside0.mk H
            clear H
            have hnb190 := NB145_146.out
            have hnc190 := NB146_145.out
            have hnb191 := NB145_147.out
            have hnc191 := NB147_145.out
            have hnb192 := NB145_154.out
            have hnc192 := NB154_145.out
            have hnb193 := NB145_160.out
            have hnc193 := NB160_145.out
            obtain ⟨hcz194_0, hcz194_1, hcz194_2, hcz194_3⟩ := cbz4_ BK145.out
            obtain ⟨hfz194_0, hfz194_1, hfz194_2, hfz194_3⟩ := bfz4_ BK145.out
            try go_wp2
            replace HO_13 := am_ (Kd.R_drew HO_13.out)
            replace HO_155000 := am_ (Kd.R_drew HO_155000.out)
            replace BK145 := am_ (blk_drew BK145.out)
            replace BK146 := am_ (blk_drew BK146.out)
            replace BK147 := am_ (blk_drew BK147.out)
            replace BK154 := am_ (blk_drew BK154.out)
            replace BK160 := am_ (blk_drew BK160.out)
            replace HB := am_ (below_drew1 HB.out)
            have p181 : 0 ≤ (x15_3 : Int) := of_decide_eq_true ua_
            have q181 : x15_3 < (l0_0.length : Int) := of_decide_eq_true ua_
            obtain ⟨ad181, e181, hx181_0, hx181_1, hx181_2, hx181_3, hx181_4, hx181_5⟩ := at_T62 HR0_0.out x15_3 p181 q181
            have hw181_5 := hx181_5
            have hw181_4 := hx181_4
            have hw181_3 := hx181_3
            have hw181_2 := hx181_2
            have hw181_1 := hx181_1
            have hw181_0 := hx181_0
            cases e181
            replace hx181_0 := bc_ HB.out hx181_0
            replace hx181_1 := bc_ HB.out hx181_1
            replace hx181_2 := bc_ HB.out hx181_2
            replace hx181_3 := bc_ HB.out hx181_3
            replace hx181_4 := bc_ HB.out hx181_4
            replace hx181_5 := bc_ HB.out hx181_5
            replace p181 := eq_true p181
            replace q181 := eq_true q181
            refine start_ (n := 11) (S := fun w' => w'.cell? ⟨gb160, 0, none⟩ = some (.int .i64 x161000_2) ∧ w'.cell? ⟨gb160, 1, none⟩ = some (.int .i64 x161001_2) ∧ w'.cell? ⟨gb160, 2, none⟩ = some (.int .i64 x161002_2) ∧ w'.cell? ⟨gb160, 3, none⟩ = some (.int .i64 x161003_2) ∧ w'.cell? ⟨gb160, 4, none⟩ = some (.int .i64 x161004_2) ∧ w'.cell? ⟨gb160, 5, none⟩ = some (.int .i64 x161005_2) ∧ w'.cell? ⟨gb145, 0, none⟩ = some (.slice (some ad181) l0_0.length c0_0) ∧ w'.cell? ⟨gb145, 1, none⟩ = some (.int .i64 a0_1) ∧ w'.cell? ⟨gb145, 2, none⟩ = some (.int .i64 a0_2) ∧ w'.cell? ⟨gb145, 3, none⟩ = some (.int .i64 a0_3) ∧ w'.cell? (ad181.add ((x15_3).toNat * 6)) = some (.int .i64 ((rd_T62 l0_0 x15_3).f0)) ∧ w'.cell? ⟨(ad181.add ((x15_3).toNat * 6)).block, (ad181.add ((x15_3).toNat * 6)).off + 1, none⟩ = some (.int .i64 ((rd_T62 l0_0 x15_3).f1)) ∧ w'.cell? ⟨(ad181.add ((x15_3).toNat * 6)).block, (ad181.add ((x15_3).toNat * 6)).off + 2, none⟩ = some (.int .i64 ((rd_T62 l0_0 x15_3).f2)) ∧ w'.cell? ⟨(ad181.add ((x15_3).toNat * 6)).block, (ad181.add ((x15_3).toNat * 6)).off + 3, none⟩ = some (.int .i64 ((rd_T62 l0_0 x15_3).f3)) ∧ w'.cell? ⟨(ad181.add ((x15_3).toNat * 6)).block, (ad181.add ((x15_3).toNat * 6)).off + 4, none⟩ = some (.int .i64 ((rd_T62 l0_0 x15_3).f4)) ∧ w'.cell? ⟨(ad181.add ((x15_3).toNat * 6)).block, (ad181.add ((x15_3).toNat * 6)).off + 5, none⟩ = some (.int .i64 ((rd_T62 l0_0 x15_3).f5))) (ds := []) #[false, false, false, false, false, false, false, false, false, false, false] (by kernel_rfl) rfl rfl ⟨cb_ BK160.out 0 rfl, cb_ BK160.out 1 rfl, cb_ BK160.out 2 rfl, cb_ BK160.out 3 rfl, cb_ BK160.out 4 rfl, cb_ BK160.out 5 rfl, cb_ BK145.out 0 rfl, cb_ BK145.out 1 rfl, cb_ BK145.out 2 rfl, cb_ BK145.out 3 rfl, bc_ HB.out hw181_0, bc_ HB.out hw181_1, bc_ HB.out hw181_2, bc_ HB.out hw181_3, bc_ HB.out hw181_4, bc_ HB.out hw181_5⟩ (fun hHeld => ?_); refine with_tabW spec_AddEvent.tab22 spec_AddEvent.bits22 (fun HT_ HW_ => ?_)
            generalize wr.drew = w195 at HO_13 HO_155000 BK145 BK146 BK147 BK154 BK160 HB hx181_0 hx181_1 hx181_2 hx181_3 hx181_4 hx181_5 hHeld ⊢
            refine pu_ (i := 0) (N := some 126) #[true, false, false, false, false, false, false, false, false, false, false] HT_ ?_
            refine pu_ (i := 1) (N := some 127) #[true, true, false, false, false, false, false, false, false, false, false] HT_ ?_
            refine pu_ (i := 2) (N := some 128) #[true, true, true, false, false, false, false, false, false, false, false] HT_ ?_
            refine pu_ (i := 4) (N := some 130) #[true, true, true, false, true, false, false, false, false, false, false] HT_ ?_
            refine pu_ (i := 6) (N := some 132) #[true, true, true, false, true, false, true, false, false, false, false] HT_ ?_
            refine tk_ (i := 3) (N := some 129) #[true, true, true, true, true, false, true, false, false, false, false] HT_ HW_ hHeld ?_
            refine tk_ (i := 5) (N := some 131) #[true, true, true, true, true, true, true, false, false, false, false] HT_ HW_ hHeld ?_
            refine pu_ (i := 7) (N := some 133) #[true, true, true, true, true, true, true, true, false, false, false] HT_ ?_
            refine tk_ (i := 8) (N := some 134) #[true, true, true, true, true, true, true, true, true, false, false] HT_ HW_ hHeld ?_
            refine one_ (i := 9) (N := some 135) #[true, true, true, true, true, true, true, true, true, true, false] rfl rfl (one_of HT_.out (by kernel_rfl)) (by decide) (fun K hK => ?_)
            refine goes_ Try.func31 (by kernel_rfl) rfl #[.agg #[.int .i64 x161000_2, .int .i64 x161001_2, .int .i64 x161002_2, .int .i64 x161003_2, .int .i64 x161004_2, .int .i64 x161005_2], .agg #[.int .i64 ((rd_T62 l0_0 x15_3).f0), .int .i64 ((rd_T62 l0_0 x15_3).f1), .int .i64 ((rd_T62 l0_0 x15_3).f2), .int .i64 ((rd_T62 l0_0 x15_3).f3), .int .i64 ((rd_T62 l0_0 x15_3).f4), .int .i64 ((rd_T62 l0_0 x15_3).f5)]] (by rfl) rfl rfl ul_ ?_
            with_reducible refine (spec_l05Ahead.calls x161000_2 x161001_2 x161002_2 x161003_2 x161004_2 x161005_2 ((rd_T62 l0_0 x15_3).f0) ((rd_T62 l0_0 x15_3).f1) ((rd_T62 l0_0 x15_3).f2) ((rd_T62 l0_0 x15_3).f3) ((rd_T62 l0_0 x15_3).f4) ((rd_T62 l0_0 x15_3).f5) true _ A186.out).mono ?_
            rintro e w196 ⟨rfl, hb⟩
            refine ⟨_, rfl, ?_⟩
            replace HO_13 := am_ (Kd.R_below (ur_ HO_13.out) hb)
            replace HO_155000 := am_ (Kd.R_below (ur_ HO_155000.out) hb)
            replace BK145 := bs_ BK145 hb
            replace BK146 := bs_ BK146 hb
            replace BK147 := bs_ BK147 hb
            replace BK154 := bs_ BK154 hb
            replace BK160 := bs_ BK160 hb
            replace HB := hs_ HB hb
            (try clear hb)
            (try clear hb2)
            (try clear hk)
            (try clear hi)
            refine hK.out _ _ ⟨cb_ BK160.out 0 rfl, cb_ BK160.out 1 rfl, cb_ BK160.out 2 rfl, cb_ BK160.out 3 rfl, cb_ BK160.out 4 rfl, cb_ BK160.out 5 rfl, cb_ BK145.out 0 rfl, cb_ BK145.out 1 rfl, cb_ BK145.out 2 rfl, cb_ BK145.out 3 rfl, bc_ HB.out hw181_0, bc_ HB.out hw181_1, bc_ HB.out hw181_2, bc_ HB.out hw181_3, bc_ HB.out hw181_4, bc_ HB.out hw181_5⟩ (fun hHeld => ?_)
            clear hK K
            refine norm_ (a' := ?_) ?_ ?_
            rotate_left
            ·
             show Act.put _ (some 135) _ = _
             simp only [Act.put, List.setIfInBounds_toArray, List.set_cons_zero, List.set_cons_succ, i64_w, i32_w]
             rfl
            refine pu_ (i := 10) (N := some 136) #[true, true, true, true, true, true, true, true, true, true, true] HT_ ?_
            refine done_ (done_of HT_.out (by kernel_rfl)) ?_
            have hnb197 := NB160_146.out
            have hnc197 := NB146_160.out
            have hnb198 := NB160_147.out
            have hnc198 := NB147_160.out
            have hnb199 := NB160_154.out
            have hnc199 := NB154_160.out
            obtain ⟨hcz200_0, hcz200_1, hcz200_2, hcz200_3, hcz200_4, hcz200_5⟩ := cbz6_ BK160.out
            obtain ⟨hfz200_0, hfz200_1, hfz200_2, hfz200_3, hfz200_4, hfz200_5⟩ := bfz6_ BK160.out
            try go_wp2_with (first | ((with_reducible refine gate_builtin (b := .append) (xs := #[.tmp 137, .tmp 139]) rfl ?_); at_builtin; refine Kd.R_append k62 (w0 := w) w.heap.size rfl (.tmp 137) (.tmp 139) 28 62 (.agg #[(.int .i64 0), (.int .i64 0), (.int .i64 0), (.int .i64 0), (.int .i64 0), (.int .i64 0)]) 48 rfl Try.underlying28 info62 rfl (by decide) (by omega) u13 x13_3 (⟨x161000_2, x161001_2, x161002_2, x161003_2, x161004_2, x161005_2⟩ : S62) [.int .i64 x161000_2, .int .i64 x161001_2, .int .i64 x161002_2, .int .i64 x161003_2, .int .i64 x161004_2, .int .i64 x161005_2] (fun k_ => some k_ ≠ (u155000 : Value).ownBlock ∧ k_ ≠ gb160) (fun _ => False) rfl rfl ?aP (fun _ hk => hk.elim) ?aF ?aO ?aB ?aS ?aL ?_; (case aP => exact k62_mkM _ _ _ (⟨x161000_2, x161001_2, x161002_2, x161003_2, x161004_2, x161005_2⟩ : S62)); (case aB => exact (ue_ HB.out)); (case aF => exact (fun k_ hk => ⟨Kd.fresh' (Kd.R_lt (ur_ HO_155000.out)) k_ hk, Kd.freshB (g := gb160) (o := .cells #[.int .i64 x161000_2, .int .i64 x161001_2, .int .i64 x161002_2, .int .i64 x161003_2, .int .i64 x161004_2, .int .i64 x161005_2] 62 (0, 0)) (ub_ BK160.out) k_ hk⟩)); (case aO => exact (ur_ HO_13.out)); (case aS => exact (below_size (ue_ HB.out))); (case aL => have := LMc188.out; omega); intro v184 w201 ho hb hg hat; rw [← Ny183.out] at ho; replace HO_155000 := am_ (Kd.R_after (ok := (fun k_ => k_ ≠ gb160)) (by (with_reducible repeat (first | apply Kd.R_alloc | apply Kd.R_drewN | apply Kd.R_drew)); exact Kd.R_mono HO_155000.out (fun _ hk => by first | exact ⟨hk.2, hk.1⟩ | grind)) hg hat); replace BK145 := am_ (blk_grown (g := gb145) (o := .cells #[.slice (some ad181) l0_0.length c0_0, .int .i64 a0_1, .int .i64 a0_2, .int .i64 a0_3] 30 (0, 0)) (ub_ BK145.out) hg (Kd.R_ne HO_13.out BK145.out (by decide))); replace BK146 := am_ (blk_grown (g := gb146) (o := .cells #[.int .i64 a3_0, .int .i64 a3_1, .int .i64 a3_2, .int .i64 a3_3] 34 (0, 0)) (ub_ BK146.out) hg (Kd.R_ne HO_13.out BK146.out (by decide))); replace BK147 := am_ (blk_grown (g := gb147) (o := .cells #[.slice none 0 0, .int .i64 x148001_2, .int .i64 x148002_2, .int .i64 x148003_2] 30 (0, 0)) (ub_ BK147.out) hg (Kd.R_ne HO_13.out BK147.out (by decide))); replace BK154 := am_ (blk_grown (g := gb154) (o := .cells #[u155000, .int .i64 t151, .int .i64 t152, .int .i64 t153] 30 (0, 0)) (ub_ BK154.out) hg (Kd.R_ne HO_13.out BK154.out (by decide))); replace BK160 := am_ (blk_grown (g := gb160) (o := .cells #[.int .i64 x161000_2, .int .i64 x161001_2, .int .i64 x161002_2, .int .i64 x161003_2, .int .i64 x161004_2, .int .i64 x161005_2] 62 (0, 0)) (ub_ BK160.out) hg (Kd.R_away HO_13.out h2_)); replace HB := am_ (hb); have HO185 := am_ (ho); clear HO_13; clear ho hb hg hat; obtain ⟨hcz202_0, hcz202_1, hcz202_2, hcz202_3⟩ := cb4_ BK145.out; obtain ⟨hfz202_0, hfz202_1, hfz202_2, hfz202_3⟩ := bf4_ BK145.out; have p186 : 0 ≤ (x15_3 : Int) := of_decide_eq_true ua_; have q186 : x15_3 < (l0_0.length : Int) := of_decide_eq_true ua_; obtain ⟨ad186, e186, hx186_0, hx186_1, hx186_2, hx186_3, hx186_4, hx186_5⟩ := at_T62 HR0_0.out x15_3 p186 q186; obtain rfl : ad181 = ad186 := (by injection e186); replace hx186_0 := bc_ HB.out hx186_0; replace hx186_1 := bc_ HB.out hx186_1; replace hx186_2 := bc_ HB.out hx186_2; replace hx186_3 := bc_ HB.out hx186_3; replace hx186_4 := bc_ HB.out hx186_4; replace hx186_5 := bc_ HB.out hx186_5; replace p186 := eq_true p186; replace q186 := eq_true q186) | ((with_reducible refine gate_builtin (b := .append) (xs := #[.tmp 141, .tmp 147]) rfl ?_); at_builtin; refine Kd.R_append k62 (w0 := w) w.heap.size rfl (.tmp 141) (.tmp 147) 28 62 (.agg #[(.int .i64 0), (.int .i64 0), (.int .i64 0), (.int .i64 0), (.int .i64 0), (.int .i64 0)]) 48 rfl Try.underlying28 info62 rfl (by decide) (by omega) v184 y183 (⟨(rd_T62 l0_0 x15_3).f0, (rd_T62 l0_0 x15_3).f1, (rd_T62 l0_0 x15_3).f2, (rd_T62 l0_0 x15_3).f3, (rd_T62 l0_0 x15_3).f4, (rd_T62 l0_0 x15_3).f5⟩ : S62) [.int .i64 ((rd_T62 l0_0 x15_3).f0), .int .i64 ((rd_T62 l0_0 x15_3).f1), .int .i64 ((rd_T62 l0_0 x15_3).f2), .int .i64 ((rd_T62 l0_0 x15_3).f3), .int .i64 ((rd_T62 l0_0 x15_3).f4), .int .i64 ((rd_T62 l0_0 x15_3).f5)] (fun k_ => some k_ ≠ (u155000 : Value).ownBlock ∧ k_ ≠ gb160) (fun _ => False) rfl rfl ?aP (fun _ hk => hk.elim) ?aF ?aO ?aB ?aS ?aL ?_; (case aP => exact k62_mkM _ _ _ (⟨(rd_T62 l0_0 x15_3).f0, (rd_T62 l0_0 x15_3).f1, (rd_T62 l0_0 x15_3).f2, (rd_T62 l0_0 x15_3).f3, (rd_T62 l0_0 x15_3).f4, (rd_T62 l0_0 x15_3).f5⟩ : S62)); (case aB => exact (ue_ HB.out)); (case aF => exact (fun k_ hk => ⟨Kd.fresh' (Kd.R_lt (ur_ HO_155000.out)) k_ hk, Kd.freshB (g := gb160) (o := .cells #[.int .i64 x161000_2, .int .i64 x161001_2, .int .i64 x161002_2, .int .i64 x161003_2, .int .i64 x161004_2, .int .i64 x161005_2] 62 (0, 0)) (ub_ BK160.out) k_ hk⟩)); (case aO => exact (ur_ HO185.out)); (case aS => exact (below_size (ue_ HB.out))); (case aL => have := LMc189.out; omega); intro v188 w203 ho hb hg hat; rw [← Ny187.out] at ho; replace HO_155000 := am_ (Kd.R_after (ok := (fun k_ => k_ ≠ gb160)) (ur_ HO_155000.out) hg hat); replace BK145 := am_ (blk_grown (g := gb145) (o := .cells #[.slice (some ad181) l0_0.length c0_0, .int .i64 a0_1, .int .i64 a0_2, .int .i64 a0_3] 30 (0, 0)) (ub_ BK145.out) hg (Kd.R_ne HO185.out BK145.out (by decide))); replace BK146 := am_ (blk_grown (g := gb146) (o := .cells #[.int .i64 a3_0, .int .i64 a3_1, .int .i64 a3_2, .int .i64 a3_3] 34 (0, 0)) (ub_ BK146.out) hg (Kd.R_ne HO185.out BK146.out (by decide))); replace BK147 := am_ (blk_grown (g := gb147) (o := .cells #[.slice none 0 0, .int .i64 x148001_2, .int .i64 x148002_2, .int .i64 x148003_2] 30 (0, 0)) (ub_ BK147.out) hg (Kd.R_ne HO185.out BK147.out (by decide))); replace BK154 := am_ (blk_grown (g := gb154) (o := .cells #[u155000, .int .i64 t151, .int .i64 t152, .int .i64 t153] 30 (0, 0)) (ub_ BK154.out) hg (Kd.R_ne HO185.out BK154.out (by decide))); replace BK160 := am_ (blk_grown (g := gb160) (o := .cells #[.int .i64 x161000_2, .int .i64 x161001_2, .int .i64 x161002_2, .int .i64 x161003_2, .int .i64 x161004_2, .int .i64 x161005_2] 62 (0, 0)) (ub_ BK160.out) hg (Kd.R_away HO185.out h2_)); replace HB := am_ (hb); have HO189 := am_ (ho); clear HO185; clear ho hb hg hat))
            go_roundg k3
            case measure => have := HJ5.out; have := HK2.out; have := HK3.out; omega
            case rel => exact ⟨(y187), (true), (wrap64 (x15_3 + 1)), (by first | rfl | (simp; done) | (simp [*]; done)), (by first | rfl | (simp; done) | (simp [*]; done)), H', ⟨by have := HJ5.out; have := HK2.out; have := HK3.out; omega⟩, ⟨by (with_reducible repeat (first | apply Kd.R_alloc | apply Kd.R_drewN | apply Kd.R_drew)); exact HO189.out⟩, ⟨by (with_reducible repeat (first | apply Kd.R_alloc | apply Kd.R_drewN | apply Kd.R_drew)); exact Kd.R_mono HO_155000.out (fun _ hk => by first | exact ⟨hk.2, hk.1⟩ | grind)⟩, ⟨by (with_reducible repeat first|apply bn_|apply bd_|apply ba_); exact BK145.out⟩, ⟨by (with_reducible repeat first|apply bn_|apply bd_|apply ba_); exact BK146.out⟩, ⟨by (with_reducible repeat first|apply bn_|apply bd_|apply ba_); exact BK147.out⟩, ⟨by (with_reducible repeat first|apply bn_|apply bd_|apply ba_); exact BK154.out⟩, ⟨by (with_reducible repeat first|apply bn_|apply bd_|apply ba_); exact BK160.out⟩, ⟨ue_ HB.out⟩⟩
           rw [if_neg c189] at H
           exact absurd H (by simp)
          rw [if_neg c188] at H
          exact absurd H (by simp)
         replace c187 := Bool.eq_false_iff.mpr c187
         subst c187
         have H1 : (if x13_3.length < 2932031007402 then (spec_AddEvent.l1 k3 (x13_3 ++ [(⟨(rd_T62 l0_0 x15_3).f0, (rd_T62 l0_0 x15_3).f1, (rd_T62 l0_0 x15_3).f2, (rd_T62 l0_0 x15_3).f3, (rd_T62 l0_0 x15_3).f4, (rd_T62 l0_0 x15_3).f5⟩ : S62)]) false (wrap64 (x15_3 + 1)) l0_0 a0_1 a0_2 a0_3 x155000_2 t151 t152 t153 x161000_2 x161001_2 x161002_2 x161003_2 x161004_2 x161005_2) else (none)) = some (r1, r2, r3, r4, r5) := by rw [if_neg (show ¬ (false = true) by decide)] at H; exact H
         clear H
         have H := H1
         clear H1
         by_cases c204 : x13_3.length < 2932031007402
         ·
          rw [if_pos c204] at H
          have LMc204 := Aside0.mk c204
          clear c204
          obtain ⟨y191, hy191⟩ : ∃ y_ : List (S62), y_ = (x13_3 ++ [(⟨(rd_T62 l0_0 x15_3).f0, (rd_T62 l0_0 x15_3).f1, (rd_T62 l0_0 x15_3).f2, (rd_T62 l0_0 x15_3).f3, (rd_T62 l0_0 x15_3).f4, (rd_T62 l0_0 x15_3).f5⟩ : S62)]) := ⟨_, rfl⟩
          replace H : (spec_AddEvent.l1 k3 y191 false (wrap64 (x15_3 + 1)) l0_0 a0_1 a0_2 a0_3 x155000_2 t151 t152 t153 x161000_2 x161001_2 x161002_2 x161003_2 x161004_2 x161005_2) = some (r1, r2, r3, r4, r5) := by first | (rw [hy191]; with_reducible exact H) | (have H2_ := (Option.bind_some _ _).symm.trans H; rw [hy191]; with_reducible exact H2_) | (have H2_ := (Option.bind_some _ _).symm.trans H; with_reducible exact H2_) | with_reducible exact H | (rw [hy191]; exact H) | exact H
          have Ny191 := Aside0.mk hy191
          clear hy191
          have H' := Aside0.mk H
          clear H
          have hnb205 := NB145_146.out
          have hnc205 := NB146_145.out
          have hnb206 := NB145_147.out
          have hnc206 := NB147_145.out
          have hnb207 := NB145_154.out
          have hnc207 := NB154_145.out
          have hnb208 := NB145_160.out
          have hnc208 := NB160_145.out
          obtain ⟨hcz209_0, hcz209_1, hcz209_2, hcz209_3⟩ := cbz4_ BK145.out
          obtain ⟨hfz209_0, hfz209_1, hfz209_2, hfz209_3⟩ := bfz4_ BK145.out
          try go_wp2
          replace HO_13 := am_ (Kd.R_drew HO_13.out)
          replace HO_155000 := am_ (Kd.R_drew HO_155000.out)
          replace BK145 := am_ (blk_drew BK145.out)
          replace BK146 := am_ (blk_drew BK146.out)
          replace BK147 := am_ (blk_drew BK147.out)
          replace BK154 := am_ (blk_drew BK154.out)
          replace BK160 := am_ (blk_drew BK160.out)
          replace HB := am_ (below_drew1 HB.out)
          have p181 : 0 ≤ (x15_3 : Int) := of_decide_eq_true ua_
          have q181 : x15_3 < (l0_0.length : Int) := of_decide_eq_true ua_
          obtain ⟨ad181, e181, hx181_0, hx181_1, hx181_2, hx181_3, hx181_4, hx181_5⟩ := at_T62 HR0_0.out x15_3 p181 q181
          have hw181_5 := hx181_5
          have hw181_4 := hx181_4
          have hw181_3 := hx181_3
          have hw181_2 := hx181_2
          have hw181_1 := hx181_1
          have hw181_0 := hx181_0
          cases e181
          replace hx181_0 := bc_ HB.out hx181_0
          replace hx181_1 := bc_ HB.out hx181_1
          replace hx181_2 := bc_ HB.out hx181_2
          replace hx181_3 := bc_ HB.out hx181_3
          replace hx181_4 := bc_ HB.out hx181_4
          replace hx181_5 := bc_ HB.out hx181_5
          replace p181 := eq_true p181
          replace q181 := eq_true q181
          refine start_ (n := 11) (S := fun w' => w'.cell? ⟨gb160, 0, none⟩ = some (.int .i64 x161000_2) ∧ w'.cell? ⟨gb160, 1, none⟩ = some (.int .i64 x161001_2) ∧ w'.cell? ⟨gb160, 2, none⟩ = some (.int .i64 x161002_2) ∧ w'.cell? ⟨gb160, 3, none⟩ = some (.int .i64 x161003_2) ∧ w'.cell? ⟨gb160, 4, none⟩ = some (.int .i64 x161004_2) ∧ w'.cell? ⟨gb160, 5, none⟩ = some (.int .i64 x161005_2) ∧ w'.cell? ⟨gb145, 0, none⟩ = some (.slice (some ad181) l0_0.length c0_0) ∧ w'.cell? ⟨gb145, 1, none⟩ = some (.int .i64 a0_1) ∧ w'.cell? ⟨gb145, 2, none⟩ = some (.int .i64 a0_2) ∧ w'.cell? ⟨gb145, 3, none⟩ = some (.int .i64 a0_3) ∧ w'.cell? (ad181.add ((x15_3).toNat * 6)) = some (.int .i64 ((rd_T62 l0_0 x15_3).f0)) ∧ w'.cell? ⟨(ad181.add ((x15_3).toNat * 6)).block, (ad181.add ((x15_3).toNat * 6)).off + 1, none⟩ = some (.int .i64 ((rd_T62 l0_0 x15_3).f1)) ∧ w'.cell? ⟨(ad181.add ((x15_3).toNat * 6)).block, (ad181.add ((x15_3).toNat * 6)).off + 2, none⟩ = some (.int .i64 ((rd_T62 l0_0 x15_3).f2)) ∧ w'.cell? ⟨(ad181.add ((x15_3).toNat * 6)).block, (ad181.add ((x15_3).toNat * 6)).off + 3, none⟩ = some (.int .i64 ((rd_T62 l0_0 x15_3).f3)) ∧ w'.cell? ⟨(ad181.add ((x15_3).toNat * 6)).block, (ad181.add ((x15_3).toNat * 6)).off + 4, none⟩ = some (.int .i64 ((rd_T62 l0_0 x15_3).f4)) ∧ w'.cell? ⟨(ad181.add ((x15_3).toNat * 6)).block, (ad181.add ((x15_3).toNat * 6)).off + 5, none⟩ = some (.int .i64 ((rd_T62 l0_0 x15_3).f5))) (ds := []) #[false, false, false, false, false, false, false, false, false, false, false] (by kernel_rfl) rfl rfl ⟨cb_ BK160.out 0 rfl, cb_ BK160.out 1 rfl, cb_ BK160.out 2 rfl, cb_ BK160.out 3 rfl, cb_ BK160.out 4 rfl, cb_ BK160.out 5 rfl, cb_ BK145.out 0 rfl, cb_ BK145.out 1 rfl, cb_ BK145.out 2 rfl, cb_ BK145.out 3 rfl, bc_ HB.out hw181_0, bc_ HB.out hw181_1, bc_ HB.out hw181_2, bc_ HB.out hw181_3, bc_ HB.out hw181_4, bc_ HB.out hw181_5⟩ (fun hHeld => ?_); refine with_tabW spec_AddEvent.tab22 spec_AddEvent.bits22 (fun HT_ HW_ => ?_)
          generalize wr.drew = w210 at HO_13 HO_155000 BK145 BK146 BK147 BK154 BK160 HB hx181_0 hx181_1 hx181_2 hx181_3 hx181_4 hx181_5 hHeld ⊢
          refine pu_ (i := 0) (N := some 126) #[true, false, false, false, false, false, false, false, false, false, false] HT_ ?_
          refine pu_ (i := 1) (N := some 127) #[true, true, false, false, false, false, false, false, false, false, false] HT_ ?_
          refine pu_ (i := 2) (N := some 128) #[true, true, true, false, false, false, false, false, false, false, false] HT_ ?_
          refine pu_ (i := 4) (N := some 130) #[true, true, true, false, true, false, false, false, false, false, false] HT_ ?_
          refine pu_ (i := 6) (N := some 132) #[true, true, true, false, true, false, true, false, false, false, false] HT_ ?_
          refine tk_ (i := 3) (N := some 129) #[true, true, true, true, true, false, true, false, false, false, false] HT_ HW_ hHeld ?_
          refine tk_ (i := 5) (N := some 131) #[true, true, true, true, true, true, true, false, false, false, false] HT_ HW_ hHeld ?_
          refine pu_ (i := 7) (N := some 133) #[true, true, true, true, true, true, true, true, false, false, false] HT_ ?_
          refine tk_ (i := 8) (N := some 134) #[true, true, true, true, true, true, true, true, true, false, false] HT_ HW_ hHeld ?_
          refine one_ (i := 9) (N := some 135) #[true, true, true, true, true, true, true, true, true, true, false] rfl rfl (one_of HT_.out (by kernel_rfl)) (by decide) (fun K hK => ?_)
          refine goes_ Try.func31 (by kernel_rfl) rfl #[.agg #[.int .i64 x161000_2, .int .i64 x161001_2, .int .i64 x161002_2, .int .i64 x161003_2, .int .i64 x161004_2, .int .i64 x161005_2], .agg #[.int .i64 ((rd_T62 l0_0 x15_3).f0), .int .i64 ((rd_T62 l0_0 x15_3).f1), .int .i64 ((rd_T62 l0_0 x15_3).f2), .int .i64 ((rd_T62 l0_0 x15_3).f3), .int .i64 ((rd_T62 l0_0 x15_3).f4), .int .i64 ((rd_T62 l0_0 x15_3).f5)]] (by rfl) rfl rfl ul_ ?_
          with_reducible refine (spec_l05Ahead.calls x161000_2 x161001_2 x161002_2 x161003_2 x161004_2 x161005_2 ((rd_T62 l0_0 x15_3).f0) ((rd_T62 l0_0 x15_3).f1) ((rd_T62 l0_0 x15_3).f2) ((rd_T62 l0_0 x15_3).f3) ((rd_T62 l0_0 x15_3).f4) ((rd_T62 l0_0 x15_3).f5) false _ A186.out).mono ?_
          rintro e w211 ⟨rfl, hb⟩
          refine ⟨_, rfl, ?_⟩
          replace HO_13 := am_ (Kd.R_below (ur_ HO_13.out) hb)
          replace HO_155000 := am_ (Kd.R_below (ur_ HO_155000.out) hb)
          replace BK145 := bs_ BK145 hb
          replace BK146 := bs_ BK146 hb
          replace BK147 := bs_ BK147 hb
          replace BK154 := bs_ BK154 hb
          replace BK160 := bs_ BK160 hb
          replace HB := hs_ HB hb
          (try clear hb)
          (try clear hb2)
          (try clear hk)
          (try clear hi)
          refine hK.out _ _ ⟨cb_ BK160.out 0 rfl, cb_ BK160.out 1 rfl, cb_ BK160.out 2 rfl, cb_ BK160.out 3 rfl, cb_ BK160.out 4 rfl, cb_ BK160.out 5 rfl, cb_ BK145.out 0 rfl, cb_ BK145.out 1 rfl, cb_ BK145.out 2 rfl, cb_ BK145.out 3 rfl, bc_ HB.out hw181_0, bc_ HB.out hw181_1, bc_ HB.out hw181_2, bc_ HB.out hw181_3, bc_ HB.out hw181_4, bc_ HB.out hw181_5⟩ (fun hHeld => ?_)
          clear hK K
          refine norm_ (a' := ?_) ?_ ?_
          rotate_left
          ·
           show Act.put _ (some 135) _ = _
           simp only [Act.put, List.setIfInBounds_toArray, List.set_cons_zero, List.set_cons_succ, i64_w, i32_w]
           rfl
          refine pu_ (i := 10) (N := some 136) #[true, true, true, true, true, true, true, true, true, true, true] HT_ ?_
          refine done_ (done_of HT_.out (by kernel_rfl)) ?_
          obtain ⟨hcz212_0, hcz212_1, hcz212_2, hcz212_3⟩ := cbz4_ BK145.out
          obtain ⟨hfz212_0, hfz212_1, hfz212_2, hfz212_3⟩ := bfz4_ BK145.out
          have p190 : 0 ≤ (x15_3 : Int) := of_decide_eq_true ua_
          have q190 : x15_3 < (l0_0.length : Int) := of_decide_eq_true ua_
          obtain ⟨ad190, e190, hx190_0, hx190_1, hx190_2, hx190_3, hx190_4, hx190_5⟩ := at_T62 HR0_0.out x15_3 p190 q190
          obtain rfl : ad181 = ad190 := (by injection e190)
          replace hx190_0 := bc_ HB.out hx190_0
          replace hx190_1 := bc_ HB.out hx190_1
          replace hx190_2 := bc_ HB.out hx190_2
          replace hx190_3 := bc_ HB.out hx190_3
          replace hx190_4 := bc_ HB.out hx190_4
          replace hx190_5 := bc_ HB.out hx190_5
          replace p190 := eq_true p190
          replace q190 := eq_true q190
          try go_wp2_with (first | ((with_reducible refine gate_builtin (b := .append) (xs := #[.tmp 141, .tmp 147]) rfl ?_); at_builtin; refine Kd.R_append k62 (w0 := w) w.heap.size rfl (.tmp 141) (.tmp 147) 28 62 (.agg #[(.int .i64 0), (.int .i64 0), (.int .i64 0), (.int .i64 0), (.int .i64 0), (.int .i64 0)]) 48 rfl Try.underlying28 info62 rfl (by decide) (by omega) u13 x13_3 (⟨(rd_T62 l0_0 x15_3).f0, (rd_T62 l0_0 x15_3).f1, (rd_T62 l0_0 x15_3).f2, (rd_T62 l0_0 x15_3).f3, (rd_T62 l0_0 x15_3).f4, (rd_T62 l0_0 x15_3).f5⟩ : S62) [.int .i64 ((rd_T62 l0_0 x15_3).f0), .int .i64 ((rd_T62 l0_0 x15_3).f1), .int .i64 ((rd_T62 l0_0 x15_3).f2), .int .i64 ((rd_T62 l0_0 x15_3).f3), .int .i64 ((rd_T62 l0_0 x15_3).f4), .int .i64 ((rd_T62 l0_0 x15_3).f5)] (fun k_ => some k_ ≠ (u155000 : Value).ownBlock ∧ k_ ≠ gb160) (fun _ => False) rfl rfl ?aP (fun _ hk => hk.elim) ?aF ?aO ?aB ?aS ?aL ?_; (case aP => exact k62_mkM _ _ _ (⟨(rd_T62 l0_0 x15_3).f0, (rd_T62 l0_0 x15_3).f1, (rd_T62 l0_0 x15_3).f2, (rd_T62 l0_0 x15_3).f3, (rd_T62 l0_0 x15_3).f4, (rd_T62 l0_0 x15_3).f5⟩ : S62)); (case aB => exact (ue_ HB.out)); (case aF => exact (fun k_ hk => ⟨Kd.fresh' (Kd.R_lt (ur_ HO_155000.out)) k_ hk, Kd.freshB (g := gb160) (o := .cells #[.int .i64 x161000_2, .int .i64 x161001_2, .int .i64 x161002_2, .int .i64 x161003_2, .int .i64 x161004_2, .int .i64 x161005_2] 62 (0, 0)) (ub_ BK160.out) k_ hk⟩)); (case aO => exact (ur_ HO_13.out)); (case aS => exact (below_size (ue_ HB.out))); (case aL => have := LMc204.out; omega); intro v192 w213 ho hb hg hat; rw [← Ny191.out] at ho; replace HO_155000 := am_ (Kd.R_after (ok := (fun k_ => k_ ≠ gb160)) (by (with_reducible repeat (first | apply Kd.R_alloc | apply Kd.R_drewN | apply Kd.R_drew)); exact Kd.R_mono HO_155000.out (fun _ hk => by first | exact ⟨hk.2, hk.1⟩ | grind)) hg hat); replace BK145 := am_ (blk_grown (g := gb145) (o := .cells #[.slice (some ad181) l0_0.length c0_0, .int .i64 a0_1, .int .i64 a0_2, .int .i64 a0_3] 30 (0, 0)) (ub_ BK145.out) hg (Kd.R_ne HO_13.out BK145.out (by decide))); replace BK146 := am_ (blk_grown (g := gb146) (o := .cells #[.int .i64 a3_0, .int .i64 a3_1, .int .i64 a3_2, .int .i64 a3_3] 34 (0, 0)) (ub_ BK146.out) hg (Kd.R_ne HO_13.out BK146.out (by decide))); replace BK147 := am_ (blk_grown (g := gb147) (o := .cells #[.slice none 0 0, .int .i64 x148001_2, .int .i64 x148002_2, .int .i64 x148003_2] 30 (0, 0)) (ub_ BK147.out) hg (Kd.R_ne HO_13.out BK147.out (by decide))); replace BK154 := am_ (blk_grown (g := gb154) (o := .cells #[u155000, .int .i64 t151, .int .i64 t152, .int .i64 t153] 30 (0, 0)) (ub_ BK154.out) hg (Kd.R_ne HO_13.out BK154.out (by decide))); replace BK160 := am_ (blk_grown (g := gb160) (o := .cells #[.int .i64 x161000_2, .int .i64 x161001_2, .int .i64 x161002_2, .int .i64 x161003_2, .int .i64 x161004_2, .int .i64 x161005_2] 62 (0, 0)) (ub_ BK160.out) hg (Kd.R_away HO_13.out h2_)); replace HB := am_ (hb); have HO193 := am_ (ho); clear HO_13; clear ho hb hg hat))
          go_roundg k3
          case measure => have := HJ5.out; have := HK2.out; have := HK3.out; omega
          case rel => exact ⟨(y191), (false), (wrap64 (x15_3 + 1)), (by first | rfl | (simp; done) | (simp [*]; done)), (by first | rfl | (simp; done) | (simp [*]; done)), H', ⟨by have := HJ5.out; have := HK2.out; have := HK3.out; omega⟩, ⟨by (with_reducible repeat (first | apply Kd.R_alloc | apply Kd.R_drewN | apply Kd.R_drew)); exact HO193.out⟩, ⟨by (with_reducible repeat (first | apply Kd.R_alloc | apply Kd.R_drewN | apply Kd.R_drew)); exact Kd.R_mono HO_155000.out (fun _ hk => by first | exact ⟨hk.2, hk.1⟩ | grind)⟩, ⟨by (with_reducible repeat first|apply bn_|apply bd_|apply ba_); exact BK145.out⟩, ⟨by (with_reducible repeat first|apply bn_|apply bd_|apply ba_); exact BK146.out⟩, ⟨by (with_reducible repeat first|apply bn_|apply bd_|apply ba_); exact BK147.out⟩, ⟨by (with_reducible repeat first|apply bn_|apply bd_|apply ba_); exact BK154.out⟩, ⟨by (with_reducible repeat first|apply bn_|apply bd_|apply ba_); exact BK160.out⟩, ⟨ue_ HB.out⟩⟩
         rw [if_neg c204] at H
         exact absurd H (by simp)
        rw [if_neg c185] at H
        exact absurd H (by simp)
       rw [if_neg c173] at H
       have c173b0 : decide (x15_3 < (l0_0.length : Int)) = false := decide_eq_false c173
       clear c173
       by_cases c214 : x14_3 = true
       ·
        subst c214
        have H1 : (some (x13_3, t151, t152, t153, 0)) = some (r1, r2, r3, r4, r5) := by rw [if_pos rfl] at H; exact H
        clear H
        have H := H1
        clear H1
        simp only [Option.some.injEq, Prod.mk.injEq] at H
        obtain ⟨rfl, rfl, rfl, rfl, rfl⟩ := H
        have hnb215 := NB145_146.out
        have hnc215 := NB146_145.out
        have hnb216 := NB145_147.out
        have hnc216 := NB147_145.out
        have hnb217 := NB145_154.out
        have hnc217 := NB154_145.out
        have hnb218 := NB145_160.out
        have hnc218 := NB160_145.out
        obtain ⟨hcz219_0, hcz219_1, hcz219_2, hcz219_3⟩ := cbz4_ BK145.out
        obtain ⟨hfz219_0, hfz219_1, hfz219_2, hfz219_3⟩ := bfz4_ BK145.out
        obtain ⟨Ao220, co220, eo220⟩ := Kd.R_slice HO_13.out
        subst eo220
        have hnb221 := NB154_146.out
        have hnc221 := NB146_154.out
        have hnb222 := NB154_147.out
        have hnc222 := NB147_154.out
        have hnb223 := NB154_160.out
        have hnc223 := NB160_154.out
        obtain ⟨hcz224_0, hcz224_1, hcz224_2, hcz224_3⟩ := cbz4_ BK154.out
        obtain ⟨hfz224_0, hfz224_1, hfz224_2, hfz224_3⟩ := bfz4_ BK154.out
        go_wp2_with (first | ((with_reducible refine gate_store (t := 28) (p := 156) rfl ?_); refine st_ (w1 := (wr.setCell ⟨gb154, 0, none⟩ (.slice Ao220 x13_3.length co220))) ?_; intro w225 hw; replace HO_13 : Aside0 (Kd.R k62 62 w225 w.heap.size (fun k_ => some k_ ≠ (u155000 : Value).ownBlock ∧ k_ ≠ gb160) (.slice Ao220 x13_3.length co220) x13_3) := ⟨(by rw [hw]; exact (by (with_reducible repeat (first | apply Kd.R_alloc | apply Kd.R_drewN | apply Kd.R_drew)); exact Kd.R_mono (Kd.R_far (p := ⟨gb154, 0, none⟩) (Kd.R_types HO_13.out BK154.out (by decide)) h2_ (.slice Ao220 x13_3.length co220)) (fun _ hk => by first | exact ⟨hk.1.1, hk.1.2⟩ | grind)))⟩; replace HO_155000 : Aside0 (Kd.R k62 62 w225 w.heap.size (fun k_ => some k_ ≠ (.slice Ao220 x13_3.length co220 : Value).ownBlock ∧ k_ ≠ gb160) u155000 x155000_2) := ⟨(by rw [hw]; exact (by (with_reducible repeat (first | apply Kd.R_alloc | apply Kd.R_drewN | apply Kd.R_drew)); exact Kd.R_mono (Kd.R_far (p := ⟨gb154, 0, none⟩) (Kd.R_types HO_155000.out BK154.out (by decide)) h2_ (.slice Ao220 x13_3.length co220)) (fun _ hk => by first | exact ⟨hk.1.1, hk.1.2⟩ | grind)))⟩; replace BK145 := uk_ hw BK145.out; replace BK146 := uk_ hw BK146.out; replace BK147 := uk_ hw BK147.out; replace BK154 : Aside0 (w225.heap[gb154]? = some (.cells #[.slice Ao220 x13_3.length co220, .int .i64 t151, .int .i64 t152, .int .i64 t153] 30 (0, 0))) := ⟨(by rw [hw]; exact (by (with_reducible repeat first|apply bn_|apply bd_|apply ba_); refine blk_put (cs := #[u155000, .int .i64 t151, .int .i64 t152, .int .i64 t153]) ?_ 0 _ rfl; (with_reducible repeat first|apply bn_|apply bd_|apply ba_); exact BK154.out))⟩; replace BK160 := uk_ hw BK160.out; replace HB := uh_ hw HB.out; clear hw; obtain ⟨hcz226_0, hcz226_1, hcz226_2, hcz226_3⟩ := cb4_ BK154.out; obtain ⟨hfz226_0, hfz226_1, hfz226_2, hfz226_3⟩ := bf4_ BK154.out; have hnb227 := NB147_146.out; have hnc227 := NB146_147.out; have hnb228 := NB147_160.out; have hnc228 := NB160_147.out; obtain ⟨hcz229_0, hcz229_1, hcz229_2, hcz229_3⟩ := cb4_ BK147.out; obtain ⟨hfz229_0, hfz229_1, hfz229_2⟩ := bf3_ BK147.out; have hfz229_3 := blk_frozen BK147.out 3) | ((with_reducible refine gate_store (t := 30) (p := 8) rfl ?_); refine st_ (w1 := ((((w225.setCell ⟨gb147, 0, none⟩ (.slice Ao220 x13_3.length co220)).setCell ⟨gb147, 1, none⟩ (.int .i64 t151)).setCell ⟨gb147, 2, none⟩ (.int .i64 t152)).setCell ⟨gb147, 3, none⟩ (.int .i64 t153))) ?_; intro w230 hw; replace HO_13 : Aside0 (Kd.R k62 62 w230 w.heap.size (fun k_ => some k_ ≠ (u155000 : Value).ownBlock ∧ k_ ≠ gb160) (.slice Ao220 x13_3.length co220) x13_3) := ⟨(by rw [hw]; exact (by (with_reducible repeat (first | apply Kd.R_alloc | apply Kd.R_drewN | apply Kd.R_drew)); exact Kd.R_mono (Rf4_ (g := gb147) (Kd.R_types HO_13.out BK147.out (by decide))) (fun _ hk => by first | exact ⟨hk.1.1, hk.1.2⟩ | grind)))⟩; replace HO_155000 : Aside0 (Kd.R k62 62 w230 w.heap.size (fun k_ => some k_ ≠ (.slice Ao220 x13_3.length co220 : Value).ownBlock ∧ k_ ≠ gb160) u155000 x155000_2) := ⟨(by rw [hw]; exact (by (with_reducible repeat (first | apply Kd.R_alloc | apply Kd.R_drewN | apply Kd.R_drew)); exact Kd.R_mono (Rf4_ (g := gb147) (Kd.R_types HO_155000.out BK147.out (by decide))) (fun _ hk => by first | exact ⟨hk.1.1, hk.1.2⟩ | grind)))⟩; replace BK145 := uk_ hw BK145.out; replace BK146 := uk_ hw BK146.out; replace BK147 : Aside0 (w230.heap[gb147]? = some (.cells #[.slice Ao220 x13_3.length co220, .int .i64 t151, .int .i64 t152, .int .i64 t153] 30 (0, 0))) := ⟨(by rw [hw]; exact (by (with_reducible repeat first|apply bn_|apply bd_|apply ba_); apply bp4_; (with_reducible repeat first|apply bn_|apply bd_|apply ba_); exact BK147.out))⟩; replace BK154 := uk_ hw BK154.out; replace BK160 := uk_ hw BK160.out; replace HB := uh_ hw HB.out; clear hw))
        refine bodyPost_ret (results_ct rfl _ _ gb147 30 #[.slice Ao220 x13_3.length co220, .int .i64 t151, .int .i64 t152, .int .i64 t153] (0, 0) _ rfl (ub_ BK147.out) Try.underlying30 rfl (by kernel_rfl)) rfl ?_
        exact ⟨_, ew_, by (with_reducible repeat (first | apply Kd.R_alloc | apply Kd.R_drewN | apply Kd.R_drew)); exact Kd.R_mono HO_13.out (fun _ hk => trivial), ue_ HB.out⟩
       replace c214 := Bool.eq_false_iff.mpr c214
       subst c214
       have H1 : (if x13_3.length < 2932031007402 then (some ((x13_3 ++ [(⟨x161000_2, x161001_2, x161002_2, x161003_2, x161004_2, x161005_2⟩ : S62)]), t151, t152, t153, 0)) else (none)) = some (r1, r2, r3, r4, r5) := by rw [if_neg (show ¬ (false = true) by decide)] at H; exact H
       clear H
       have H := H1
       clear H1
       by_cases c231 : x13_3.length < 2932031007402
       ·
        rw [if_pos c231] at H
        have LMc231 := Aside0.mk c231
        clear c231
        obtain ⟨y194, hy194⟩ : ∃ y_ : List (S62), y_ = (x13_3 ++ [(⟨x161000_2, x161001_2, x161002_2, x161003_2, x161004_2, x161005_2⟩ : S62)]) := ⟨_, rfl⟩
        replace H : (some (y194, t151, t152, t153, 0)) = some (r1, r2, r3, r4, r5) := by first | (rw [hy194]; with_reducible exact H) | (have H2_ := (Option.bind_some _ _).symm.trans H; rw [hy194]; with_reducible exact H2_) | (have H2_ := (Option.bind_some _ _).symm.trans H; with_reducible exact H2_) | with_reducible exact H | (rw [hy194]; exact H) | exact H
        have Ny194 := Aside0.mk hy194
        clear hy194
        simp only [Option.some.injEq, Prod.mk.injEq] at H
        obtain ⟨rfl, rfl, rfl, rfl, rfl⟩ := H
        have hnb232 := NB145_146.out
        have hnc232 := NB146_145.out
        have hnb233 := NB145_147.out
        have hnc233 := NB147_145.out
        have hnb234 := NB145_154.out
        have hnc234 := NB154_145.out
        have hnb235 := NB145_160.out
        have hnc235 := NB160_145.out
        obtain ⟨hcz236_0, hcz236_1, hcz236_2, hcz236_3⟩ := cbz4_ BK145.out
        obtain ⟨hfz236_0, hfz236_1, hfz236_2, hfz236_3⟩ := bfz4_ BK145.out
        have hnb237 := NB160_146.out
        have hnc237 := NB146_160.out
        have hnb238 := NB160_147.out
        have hnc238 := NB147_160.out
        have hnb239 := NB160_154.out
        have hnc239 := NB154_160.out
        obtain ⟨hcz240_0, hcz240_1, hcz240_2, hcz240_3, hcz240_4, hcz240_5⟩ := cbz6_ BK160.out
        obtain ⟨hfz240_0, hfz240_1, hfz240_2, hfz240_3, hfz240_4, hfz240_5⟩ := bfz6_ BK160.out
        go_wp2_with (first | ((with_reducible refine gate_builtin (b := .append) (xs := #[.tmp 151, .tmp 153]) rfl ?_); at_builtin; refine Kd.R_append k62 (w0 := w) w.heap.size rfl (.tmp 151) (.tmp 153) 28 62 (.agg #[(.int .i64 0), (.int .i64 0), (.int .i64 0), (.int .i64 0), (.int .i64 0), (.int .i64 0)]) 48 rfl Try.underlying28 info62 rfl (by decide) (by omega) u13 x13_3 (⟨x161000_2, x161001_2, x161002_2, x161003_2, x161004_2, x161005_2⟩ : S62) [.int .i64 x161000_2, .int .i64 x161001_2, .int .i64 x161002_2, .int .i64 x161003_2, .int .i64 x161004_2, .int .i64 x161005_2] (fun k_ => some k_ ≠ (u155000 : Value).ownBlock ∧ k_ ≠ gb160) (fun _ => False) rfl rfl ?aP (fun _ hk => hk.elim) ?aF ?aO ?aB ?aS ?aL ?_; (case aP => exact k62_mkM _ _ _ (⟨x161000_2, x161001_2, x161002_2, x161003_2, x161004_2, x161005_2⟩ : S62)); (case aB => exact (ue_ HB.out)); (case aF => exact (fun k_ hk => ⟨Kd.fresh' (Kd.R_lt (ur_ HO_155000.out)) k_ hk, Kd.freshB (g := gb160) (o := .cells #[.int .i64 x161000_2, .int .i64 x161001_2, .int .i64 x161002_2, .int .i64 x161003_2, .int .i64 x161004_2, .int .i64 x161005_2] 62 (0, 0)) (ub_ BK160.out) k_ hk⟩)); (case aO => exact (ur_ HO_13.out)); (case aS => exact (below_size (ue_ HB.out))); (case aL => have := LMc231.out; omega); intro v195 w241 ho hb hg hat; rw [← Ny194.out] at ho; replace HO_155000 := am_ (Kd.R_after (ok := (fun k_ => k_ ≠ gb160)) (by (with_reducible repeat (first | apply Kd.R_alloc | apply Kd.R_drewN | apply Kd.R_drew)); exact Kd.R_mono HO_155000.out (fun _ hk => by first | exact ⟨hk.2, hk.1⟩ | grind)) hg hat); replace BK145 := am_ (blk_grown (g := gb145) (o := .cells #[.slice A0_0 l0_0.length c0_0, .int .i64 a0_1, .int .i64 a0_2, .int .i64 a0_3] 30 (0, 0)) (ub_ BK145.out) hg (Kd.R_ne HO_13.out BK145.out (by decide))); replace BK146 := am_ (blk_grown (g := gb146) (o := .cells #[.int .i64 a3_0, .int .i64 a3_1, .int .i64 a3_2, .int .i64 a3_3] 34 (0, 0)) (ub_ BK146.out) hg (Kd.R_ne HO_13.out BK146.out (by decide))); replace BK147 := am_ (blk_grown (g := gb147) (o := .cells #[.slice none 0 0, .int .i64 x148001_2, .int .i64 x148002_2, .int .i64 x148003_2] 30 (0, 0)) (ub_ BK147.out) hg (Kd.R_ne HO_13.out BK147.out (by decide))); replace BK154 := am_ (blk_grown (g := gb154) (o := .cells #[u155000, .int .i64 t151, .int .i64 t152, .int .i64 t153] 30 (0, 0)) (ub_ BK154.out) hg (Kd.R_ne HO_13.out BK154.out (by decide))); replace BK160 := am_ (blk_grown (g := gb160) (o := .cells #[.int .i64 x161000_2, .int .i64 x161001_2, .int .i64 x161002_2, .int .i64 x161003_2, .int .i64 x161004_2, .int .i64 x161005_2] 62 (0, 0)) (ub_ BK160.out) hg (Kd.R_away HO_13.out h2_)); replace HB := am_ (hb); have HO196 := am_ (ho); clear HO_13; clear ho hb hg hat; obtain ⟨Ao242, co242, eo242⟩ := Kd.R_slice HO196.out; subst eo242; have hnb243 := NB154_146.out; have hnc243 := NB146_154.out; have hnb244 := NB154_147.out; have hnc244 := NB147_154.out; obtain ⟨hcz245_0, hcz245_1, hcz245_2, hcz245_3⟩ := cb4_ BK154.out; obtain ⟨hfz245_0, hfz245_1, hfz245_2⟩ := bf3_ BK154.out; have hfz245_3 := blk_frozen BK154.out 3) | ((with_reducible refine gate_store (t := 28) (p := 156) rfl ?_); refine st_ (w1 := (w241.setCell ⟨gb154, 0, none⟩ (.slice Ao242 y194.length co242))) ?_; intro w246 hw; replace HO_155000 : Aside0 (Kd.R k62 62 w246 w.heap.size (fun k_ => some k_ ≠ (.slice Ao242 y194.length co242 : Value).ownBlock ∧ k_ ≠ gb160) u155000 x155000_2) := ⟨(by rw [hw]; exact (by (with_reducible repeat (first | apply Kd.R_alloc | apply Kd.R_drewN | apply Kd.R_drew)); exact Kd.R_mono (Kd.R_far (p := ⟨gb154, 0, none⟩) (Kd.R_types HO_155000.out BK154.out (by decide)) h2_ (.slice Ao242 y194.length co242)) (fun _ hk => by first | exact ⟨hk.1.2, hk.1.1⟩ | grind)))⟩; replace HO196 : Aside0 (Kd.R k62 62 w246 w.heap.size (fun k_ => some k_ ≠ (u155000 : Value).ownBlock ∧ k_ ≠ gb160) (.slice Ao242 y194.length co242) y194) := ⟨(by rw [hw]; exact (by (with_reducible repeat (first | apply Kd.R_alloc | apply Kd.R_drewN | apply Kd.R_drew)); exact Kd.R_mono (Kd.R_far (p := ⟨gb154, 0, none⟩) (Kd.R_types HO196.out BK154.out (by decide)) h2_ (.slice Ao242 y194.length co242)) (fun _ hk => by first | exact ⟨hk.1.1, hk.1.2⟩ | grind)))⟩; replace BK145 := uk_ hw BK145.out; replace BK146 := uk_ hw BK146.out; replace BK147 := uk_ hw BK147.out; replace BK154 : Aside0 (w246.heap[gb154]? = some (.cells #[.slice Ao242 y194.length co242, .int .i64 t151, .int .i64 t152, .int .i64 t153] 30 (0, 0))) := ⟨(by rw [hw]; exact (by (with_reducible repeat first|apply bn_|apply bd_|apply ba_); refine blk_put (cs := #[u155000, .int .i64 t151, .int .i64 t152, .int .i64 t153]) ?_ 0 _ rfl; (with_reducible repeat first|apply bn_|apply bd_|apply ba_); exact BK154.out))⟩; replace BK160 := uk_ hw BK160.out; replace HB := uh_ hw HB.out; clear hw; obtain ⟨hcz247_0, hcz247_1, hcz247_2, hcz247_3⟩ := cb4_ BK154.out; obtain ⟨hfz247_0, hfz247_1, hfz247_2, hfz247_3⟩ := bf4_ BK154.out; have hnb248 := NB147_146.out; have hnc248 := NB146_147.out; obtain ⟨hcz249_0, hcz249_1, hcz249_2, hcz249_3⟩ := cb4_ BK147.out; obtain ⟨hfz249_0, hfz249_1, hfz249_2⟩ := bf3_ BK147.out; have hfz249_3 := blk_frozen BK147.out 3) | ((with_reducible refine gate_store (t := 30) (p := 8) rfl ?_); refine st_ (w1 := ((((w246.setCell ⟨gb147, 0, none⟩ (.slice Ao242 y194.length co242)).setCell ⟨gb147, 1, none⟩ (.int .i64 t151)).setCell ⟨gb147, 2, none⟩ (.int .i64 t152)).setCell ⟨gb147, 3, none⟩ (.int .i64 t153))) ?_; intro w250 hw; replace HO_155000 : Aside0 (Kd.R k62 62 w250 w.heap.size (fun k_ => some k_ ≠ (.slice Ao242 y194.length co242 : Value).ownBlock ∧ k_ ≠ gb160) u155000 x155000_2) := ⟨(by rw [hw]; exact (by (with_reducible repeat (first | apply Kd.R_alloc | apply Kd.R_drewN | apply Kd.R_drew)); exact Kd.R_mono (Rf4_ (g := gb147) (Kd.R_types HO_155000.out BK147.out (by decide))) (fun _ hk => by first | exact ⟨hk.1.1, hk.1.2⟩ | grind)))⟩; replace HO196 : Aside0 (Kd.R k62 62 w250 w.heap.size (fun k_ => some k_ ≠ (u155000 : Value).ownBlock ∧ k_ ≠ gb160) (.slice Ao242 y194.length co242) y194) := ⟨(by rw [hw]; exact (by (with_reducible repeat (first | apply Kd.R_alloc | apply Kd.R_drewN | apply Kd.R_drew)); exact Kd.R_mono (Rf4_ (g := gb147) (Kd.R_types HO196.out BK147.out (by decide))) (fun _ hk => by first | exact ⟨hk.1.1, hk.1.2⟩ | grind)))⟩; replace BK145 := uk_ hw BK145.out; replace BK146 := uk_ hw BK146.out; replace BK147 : Aside0 (w250.heap[gb147]? = some (.cells #[.slice Ao242 y194.length co242, .int .i64 t151, .int .i64 t152, .int .i64 t153] 30 (0, 0))) := ⟨(by rw [hw]; exact (by (with_reducible repeat first|apply bn_|apply bd_|apply ba_); apply bp4_; (with_reducible repeat first|apply bn_|apply bd_|apply ba_); exact BK147.out))⟩; replace BK154 := uk_ hw BK154.out; replace BK160 := uk_ hw BK160.out; replace HB := uh_ hw HB.out; clear hw))
        refine bodyPost_ret (results_ct rfl _ _ gb147 30 #[.slice Ao242 y194.length co242, .int .i64 t151, .int .i64 t152, .int .i64 t153] (0, 0) _ rfl (ub_ BK147.out) Try.underlying30 rfl (by kernel_rfl)) rfl ?_
        exact ⟨_, ew_, by (with_reducible repeat (first | apply Kd.R_alloc | apply Kd.R_drewN | apply Kd.R_drew)); exact Kd.R_mono HO196.out (fun _ hk => trivial), ue_ HB.out⟩
       rw [if_neg c231] at H
       exact absurd H (by simp)

end Go.Proofs.Ytaofcalmgodgjaa.QFnExactAddEvent
