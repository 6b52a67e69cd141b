/- The machine side of a law: Lean functions with the Go functions' answers and the walks that show it. No condition. -/
import Derived.Test.YtaofcalmgodgjaaQFnExactAddEventx0
import Derived.Test.YtaofcalmgodgjaaQFnExactAddEventx2
namespace Go.Proofs.Ytaofcalmgodgjaa.QFnExactAddEvent
open Go.RowKit Go.Proofs.YtaofcalmgodgjaaW.PrintWords Go.Proofs.YtaofcalmgodgjaaW.PrintLast Go.Proofs.YtaofcalmgodgjaaW.PrintMore
attribute [local go_sem] max2_int min2_int max_two min_two max_three min_three max_four min_four   -- for this text's walks alone
set_option linter.unusedVariables false
set_option linter.unusedSimpArgs false

/-! ### spec_ShardOk: function 24 -/
mutual
def spec_ShardOk.j0 : Nat → Bool → List (S62) → Int → Int → Int → Option (Bool)
 | 0, _, _, _, _, _ => none
 | k + 1, x25, x122000, x122001, x122002, x122003 => if x25 = true then (some false) else (spec_ShardOk.l0 k 0 x122000 x122001 x122002 x122003)
def spec_ShardOk.l0 : Nat → Int → List (S62) → Int → Int → Int → Option (Bool)
 | 0, _, _, _, _, _ => none
 | k + 1, x3, x122000, x122001, x122002, x122003 => if x3 < (x122000.length : Int) then (if 0 ≤ x3 then ((spec_AggOk.f ((rd_T62 x122000 x3).f0) ((rd_T62 x122000 x3).f1) ((rd_T62 x122000 x3).f2) ((rd_T62 x122000 x3).f3) ((rd_T62 x122000 x3).f4) ((rd_T62 x122000 x3).f5)).bind fun t126 => (if t126 = true then (if x3 > 0 then (if 0 ≤ (wrap64 (x3 - 1)) then (if (wrap64 (x3 - 1)) < (x122000.length : Int) then ((spec_l05Ahead.f ((rd_T62 x122000 (wrap64 (x3 - 1))).f0) ((rd_T62 x122000 (wrap64 (x3 - 1))).f1) ((rd_T62 x122000 (wrap64 (x3 - 1))).f2) ((rd_T62 x122000 (wrap64 (x3 - 1))).f3) ((rd_T62 x122000 (wrap64 (x3 - 1))).f4) ((rd_T62 x122000 (wrap64 (x3 - 1))).f5) ((rd_T62 x122000 x3).f0) ((rd_T62 x122000 x3).f1) ((rd_T62 x122000 x3).f2) ((rd_T62 x122000 x3).f3) ((rd_T62 x122000 x3).f4) ((rd_T62 x122000 x3).f5)).bind fun t129 => (if t129 = true then (spec_ShardOk.l0 k (wrap64 (x3 + 1)) x122000 x122001 x122002 x122003) else (some false))) else (none)) else (none)) else (spec_ShardOk.l0 k (wrap64 (x3 + 1)) x122000 x122001 x122002 x122003)) else (some false))) else (none)) else (some true)
end
def spec_ShardOk.f (k : Nat) (l0_0 : List (S62)) (a0_1 : Int) (a0_2 : Int) (a0_3 : Int) : Option (Bool) := if (l0_0.length : Int) > 40 then (spec_ShardOk.j0 k true l0_0 a0_1 a0_2 a0_3) else ((spec_l04Mark.f a0_1).bind fun t122 => (if t122 = true then ((spec_l01In.f a0_2 0 1000000000).bind fun t123 => (if t123 = true then ((spec_l01In.f a0_3 0 1000000000).bind fun t124 => (spec_ShardOk.j0 k (!t124) l0_0 a0_1 a0_2 a0_3)) else (spec_ShardOk.j0 k true l0_0 a0_1 a0_2 a0_3))) else (spec_ShardOk.j0 k true l0_0 a0_1 a0_2 a0_3)))
theorem spec_ShardOk.mono_l : ∀ k, (∀ y0 y1 y2 y3 y4, LeO (spec_ShardOk.j0 k y0 y1 y2 y3 y4) (spec_ShardOk.j0 (k + 1) y0 y1 y2 y3 y4)) ∧ (∀ y0 y1 y2 y3 y4, LeO (spec_ShardOk.l0 k y0 y1 y2 y3 y4) (spec_ShardOk.l0 (k + 1) y0 y1 y2 y3 y4))
 | 0 => ⟨fun _ _ _ _ _ r h => by simp [spec_ShardOk.j0] at h, fun _ _ _ _ _ r h => by simp [spec_ShardOk.l0] at h⟩
 | k + 1 => by
  obtain ⟨ih0, ih1⟩ := spec_ShardOk.mono_l k
  refine ⟨?_, ?_⟩
  ·
   intro y0 y1 y2 y3 y4
   unfold spec_ShardOk.j0
   repeat' first
   | (with_reducible exact ih0 _ _ _ _ _)
   | (with_reducible exact ih1 _ _ _ _ _)
   | (with_reducible exact LeO.refl _)
   | (with_reducible exact LeO.none _)
   | (with_reducible refine LeO.ite ?_ ?_)
   | (with_reducible refine LeO.bind ?_ (fun _ => ?_))
   | exact ih0 _ _ _ _ _
   | exact ih1 _ _ _ _ _
   | exact LeO.none _
   | refine LeO.ite ?_ ?_
   | refine LeO.bind ?_ (fun _ => ?_)
  intro y0 y1 y2 y3 y4
  unfold spec_ShardOk.l0
  repeat' first
  | (with_reducible exact ih0 _ _ _ _ _)
  | (with_reducible exact ih1 _ _ _ _ _)
  | (with_reducible exact LeO.refl _)
  | (with_reducible exact LeO.none _)
  | (with_reducible refine LeO.ite ?_ ?_)
  | (with_reducible refine LeO.bind ?_ (fun _ => ?_))
  | exact ih0 _ _ _ _ _
  | exact ih1 _ _ _ _ _
  | exact LeO.none _
  | refine LeO.ite ?_ ?_
  | refine LeO.bind ?_ (fun _ => ?_)
theorem spec_ShardOk.mono : ∀ a0 a1 a2 a3 k, LeO (spec_ShardOk.f k a0 a1 a2 a3) (spec_ShardOk.f (k + 1) a0 a1 a2 a3) := by
 intro a0 a1 a2 a3 k
 obtain ⟨ih0, ih1⟩ := spec_ShardOk.mono_l k
 unfold spec_ShardOk.f
 repeat' first
   | (with_reducible exact ih0 _ _ _ _ _)
   | (with_reducible exact ih1 _ _ _ _ _)
   | (with_reducible exact LeO.refl _)
   | (with_reducible exact LeO.none _)
   | (with_reducible refine LeO.ite ?_ ?_)
   | (with_reducible refine LeO.bind ?_ (fun _ => ?_))
   | exact ih0 _ _ _ _ _
   | exact ih1 _ _ _ _ _
   | exact LeO.none _
   | refine LeO.ite ?_ ?_
   | refine LeO.bind ?_ (fun _ => ?_)
def spec_ShardOk.T6 : Bool × List (List Nat × List Nat) := (true, [([], []), ([0], [0]), ([], []), ([1, 2], [1, 2]), ([3], [3]), ([4], [4]), ([5], [5]), ([6, 5], [6]), ([7], [7]), ([8, 7], [7, 8]), ([9, 7, 7], [7, 9]), ([10], [10]), ([11, 10], [10, 11]), ([10], [10]), ([13, 10], [10, 13]), ([12, 14, 10], [10, 12, 14]), ([15, 10], [10, 15]), ([10], [10]), ([17, 10], [10, 17]), ([10], [10]), ([18, 19, 10], [10, 18, 19]), ([20, 10], [10, 20]), ([16, 21, 10, 10], [10, 16, 21]), ([22, 10], [10, 22]), ([10, 23, 7], [7, 10, 23]), ([7, 24], [7, 24])])
def spec_ShardOk.B6 : List Nat := [0, 1, 0, 7, 15, 31, 63, 127, 255, 511, 1023, 2047, 4095, 2047, 10239, 32767, 65535, 2047, 133119, 2047, 919551, 1968127, 4194303, 8388607, 16777215, 33554431]
theorem spec_ShardOk.tab6 : rtab .any (opsOf Try.f24 6) = spec_ShardOk.T6 := by kernel_rfl
theorem spec_ShardOk.bits6 : waitsOk spec_ShardOk.T6.2 spec_ShardOk.B6 = true := by kernel_rfl
set_option maxHeartbeats 8000000 in
set_option maxRecDepth 100000 in
theorem spec_ShardOk.calls (k : Nat) (A0_0 : Option Addr) (c0_0 : Nat) (l0_0 : List (S62)) (a0_1 : Int) (a0_2 : Int) (a0_3 : Int) (r : Bool) (w : World) (hr0_0 : Kd.C k62 w A0_0 l0_0.length l0_0) (hc0_0 : l0_0.length ≤ c0_0) (h : spec_ShardOk.f k l0_0 a0_1 a0_2 a0_3 = some r) :
  Calls Try.prog 24 #[.agg #[.slice A0_0 l0_0.length c0_0, .int .i64 a0_1, .int .i64 a0_2, .int .i64 a0_3]] w fun e w' => e = .returned (.bool r) ∧ Below w.heap.size w w' := by
 have hu30 := Try.underlying30
 have hu62 := Try.underlying62
 have HR0_0 := Aside0.mk hr0_0
 have HC0_0 := Aside0.mk hc0_0
 clear hr0_0 hc0_0
 have HB := am_ (Below.refl w.heap.size w)
 have H : (if (l0_0.length : Int) > 40 then (spec_ShardOk.j0 k true l0_0 a0_1 a0_2 a0_3) else ((spec_l04Mark.f a0_1).bind fun t122 => (if t122 = true then ((spec_l01In.f a0_2 0 1000000000).bind fun t123 => (if t123 = true then ((spec_l01In.f a0_3 0 1000000000).bind fun t124 => (spec_ShardOk.j0 k (!t124) l0_0 a0_1 a0_2 a0_3)) else (spec_ShardOk.j0 k true l0_0 a0_1 a0_2 a0_3))) else (spec_ShardOk.j0 k true l0_0 a0_1 a0_2 a0_3)))) = some r := h
 clear h
 have HC2 := Aside0.mk H
 clear H
 go_enter Try.func24, Try.ntmps24
 go_upto_region 1 with (first | ((with_reducible refine gate_dst (N := 1) rfl ?_); refine bx_ (N := 1) (cs := #[.slice A0_0 l0_0.length c0_0, .int .i64 a0_1, .int .i64 a0_2, .int .i64 a0_3]) (t := 30) ?_; intro gb121 hg w3 hbox hb; have BK121 := am_ (hbox); have GW121 := gs_ hg HB.out; have GE121 := gs_ hg HB.out; replace HB := hs_ HB hb; clear hb hbox hg))
 (try simp only [Act.put, List.setIfInBounds_toArray, List.set_cons_zero, List.set_cons_succ])
 go_cut [25] (fun v25 wc => ∃ (kq : Nat) (x25_1 : Bool), v25 = .bool x25_1 ∧ Aside0 (spec_ShardOk.j0 kq x25_1 l0_0 a0_1 a0_2 a0_3 = some r) ∧ Aside0 (kq ≤ k) ∧ Aside0 (wc.heap[gb121]? = some (.cells #[(.slice A0_0 l0_0.length c0_0), .int .i64 a0_1, .int .i64 a0_2, .int .i64 a0_3] 30 (0, 0))) ∧ Aside0 (Below w.heap.size w wc))
 case first =>
  have H := HC2.out
  clear HC2
  by_cases c4 : (l0_0.length : Int) > 40
  ·
   rw [if_pos c4] at H
   have c4b0 : decide (40 < (l0_0.length : Int)) = true := decide_eq_true c4
   have c4b1 : decide (40 < l0_0.length) = true := decide_eq_true (by omega)
   clear c4
   (first | rw [c4b0] | (simp only [i64_w, i32_w]; rw [c4b0]) | skip)
   have H' := Aside0.mk H
   clear H
   obtain ⟨hcz5_0, hcz5_1, hcz5_2, hcz5_3⟩ := cbz4_ BK121.out
   obtain ⟨hfz5_0, hfz5_1, hfz5_2, hfz5_3⟩ := bfz4_ BK121.out
   go_wp2
   go_meet
   case rel => exact ⟨_, (true), (by first | rfl | (simp; done) | (simp [*]; done)), H', ⟨by first | omega | exact Nat.le_refl _⟩, ⟨by (with_reducible repeat first|apply bn_|apply bd_|apply ba_); exact BK121.out⟩, ⟨ue_ HB.out⟩⟩
  rw [if_neg c4] at H
  have c4b0 : decide (40 < (l0_0.length : Int)) = false := decide_eq_false c4
  have c4b1 : decide (40 < l0_0.length) = false := decide_eq_false (by omega)
  clear c4
  (first | rw [c4b0] | (simp only [i64_w, i32_w]; rw [c4b0]) | skip)
  replace H := Option.bind_eq_some_iff.mp H
  obtain ⟨t122, A60, H⟩ := H
  replace H : (if t122 = true then ((spec_l01In.f a0_2 0 1000000000).bind fun t123 => (if t123 = true then ((spec_l01In.f a0_3 0 1000000000).bind fun t124 => (spec_ShardOk.j0 k (!t124) l0_0 a0_1 a0_2 a0_3)) else (spec_ShardOk.j0 k true l0_0 a0_1 a0_2 a0_3))) else (spec_ShardOk.j0 k true l0_0 a0_1 a0_2 a0_3)) = some r := H
  have A6 := Aside0.mk A60
  clear A60
  by_cases c7 : t122 = true
  ·
   subst c7
   have H1 : ((spec_l01In.f a0_2 0 1000000000).bind fun t123 => (if t123 = true then ((spec_l01In.f a0_3 0 1000000000).bind fun t124 => (spec_ShardOk.j0 k (!t124) l0_0 a0_1 a0_2 a0_3)) else (spec_ShardOk.j0 k true l0_0 a0_1 a0_2 a0_3))) = some r := by rw [if_pos rfl] at H; exact H
   clear H
   have H := H1
   clear H1
   replace H := Option.bind_eq_some_iff.mp H
   obtain ⟨t123, A80, H⟩ := H
   replace H : (if t123 = true then ((spec_l01In.f a0_3 0 1000000000).bind fun t124 => (spec_ShardOk.j0 k (!t124) l0_0 a0_1 a0_2 a0_3)) else (spec_ShardOk.j0 k true l0_0 a0_1 a0_2 a0_3)) = some r := H
   have A8 := Aside0.mk A80
   clear A80
   by_cases c9 : t123 = true
   ·
    subst c9
    have H1 : ((spec_l01In.f a0_3 0 1000000000).bind fun t124 => (spec_ShardOk.j0 k (!t124) l0_0 a0_1 a0_2 a0_3)) = some r := by rw [if_pos rfl] at H; exact H
    clear H
    have H := H1
    clear H1
    replace H := Option.bind_eq_some_iff.mp H
    obtain ⟨t124, A100, H⟩ := H
    replace H : (spec_ShardOk.j0 k (!t124) l0_0 a0_1 a0_2 a0_3) = some r := H
    have A10 := Aside0.mk A100
    clear A100
    have H' := Aside0.mk H
    clear H
    obtain ⟨hcz11_0, hcz11_1, hcz11_2, hcz11_3⟩ := cbz4_ BK121.out
    obtain ⟨hfz11_0, hfz11_1, hfz11_2, hfz11_3⟩ := bfz4_ BK121.out
    go_wp2_with (first | (go_at_call 59; (with_reducible refine (spec_l04Mark.calls a0_1 true _ A6.out).mono ?_); rintro e w' ⟨rfl, ⟨nd, rfl⟩⟩) | (go_at_call 25; (with_reducible refine (spec_l01In.calls a0_2 0 1000000000 true _ A8.out).mono ?_); rintro e w' ⟨rfl, ⟨nd, rfl⟩⟩) | (go_at_call 25; (with_reducible refine (spec_l01In.calls a0_3 0 1000000000 t124 _ A10.out).mono ?_); rintro e w' ⟨rfl, ⟨nd, rfl⟩⟩))
    go_meet
    case rel => exact ⟨_, (!t124), (by first | rfl | (simp; done) | (simp [*]; done)), H', ⟨by first | omega | exact Nat.le_refl _⟩, ⟨by (with_reducible repeat first|apply bn_|apply bd_|apply ba_); exact BK121.out⟩, ⟨ue_ HB.out⟩⟩
   replace c9 := Bool.eq_false_iff.mpr c9
   subst c9
   have H1 : (spec_ShardOk.j0 k true l0_0 a0_1 a0_2 a0_3) = some r := by rw [if_neg (show ¬ (false = true) by decide)] at H; exact H
   clear H
   have H := H1
   clear H1
   have H' := Aside0.mk H
   clear H
   obtain ⟨hcz12_0, hcz12_1, hcz12_2, hcz12_3⟩ := cbz4_ BK121.out
   obtain ⟨hfz12_0, hfz12_1, hfz12_2, hfz12_3⟩ := bfz4_ BK121.out
   go_wp2_with (first | (go_at_call 59; (with_reducible refine (spec_l04Mark.calls a0_1 true _ A6.out).mono ?_); rintro e w' ⟨rfl, ⟨nd, rfl⟩⟩) | (go_at_call 25; (with_reducible refine (spec_l01In.calls a0_2 0 1000000000 false _ A8.out).mono ?_); rintro e w' ⟨rfl, ⟨nd, rfl⟩⟩))
   go_meet
   case rel => exact ⟨_, (true), (by first | rfl | (simp; done) | (simp [*]; done)), H', ⟨by first | omega | exact Nat.le_refl _⟩, ⟨by (with_reducible repeat first|apply bn_|apply bd_|apply ba_); exact BK121.out⟩, ⟨ue_ HB.out⟩⟩
  replace c7 := Bool.eq_false_iff.mpr c7
  subst c7
  have H1 : (spec_ShardOk.j0 k true l0_0 a0_1 a0_2 a0_3) = some r := by rw [if_neg (show ¬ (false = true) by decide)] at H; exact H
  clear H
  have H := H1
  clear H1
  have H' := Aside0.mk H
  clear H
  obtain ⟨hcz13_0, hcz13_1, hcz13_2, hcz13_3⟩ := cbz4_ BK121.out
  obtain ⟨hfz13_0, hfz13_1, hfz13_2, hfz13_3⟩ := bfz4_ BK121.out
  go_wp2_with (first | (go_at_call 59; (with_reducible refine (spec_l04Mark.calls a0_1 false _ A6.out).mono ?_); rintro e w' ⟨rfl, ⟨nd, rfl⟩⟩))
  go_meet
  case rel => exact ⟨_, (true), (by first | rfl | (simp; done) | (simp [*]; done)), H', ⟨by first | omega | exact Nat.le_refl _⟩, ⟨by (with_reducible repeat first|apply bn_|apply bd_|apply ba_); exact BK121.out⟩, ⟨ue_ HB.out⟩⟩
 case rest =>
  clear HC2
  try clear c2
  try clear p2
  try clear c4
  try clear c4b0
  try clear c4b1
  try clear c7
  try clear c9
  try clear hcz11_0
  try clear hcz11_1
  try clear hcz11_2
  try clear hcz11_3
  try clear hcz12_0
  try clear hcz12_1
  try clear hcz12_2
  try clear hcz12_3
  try clear hcz13_0
  try clear hcz13_1
  try clear hcz13_2
  try clear hcz13_3
  try clear hcz5_0
  try clear hcz5_1
  try clear hcz5_2
  try clear hcz5_3
  try clear hfz11_0
  try clear hfz11_1
  try clear hfz11_2
  try clear hfz11_3
  try clear hfz12_0
  try clear hfz12_1
  try clear hfz12_2
  try clear hfz12_3
  try clear hfz13_0
  try clear hfz13_1
  try clear hfz13_2
  try clear hfz13_3
  try clear hfz5_0
  try clear hfz5_1
  try clear hfz5_2
  try clear hfz5_3
  obtain ⟨kq, x25_1, rfl, HA, HJ1, BK121, HB⟩ := hcut
  cases kq with
  | zero => exact absurd HA.out (by simp [spec_ShardOk.j0])
  | succ kj1 =>
   have H := HA.out
   clear HA
   simp only [spec_ShardOk.j0] at H
   by_cases c14 : x25_1 = true
   ·
    subst c14
    have H1 : (some false) = some r := by rw [if_pos rfl] at H; exact H
    clear H
    have H := H1
    clear H1
    obtain rfl := Option.some.inj H
    go_wp2
    go_ret
    exact ⟨ew_, ue_ HB.out⟩
   replace c14 := Bool.eq_false_iff.mpr c14
   subst c14
   have H1 : (spec_ShardOk.l0 kj1 0 l0_0 a0_1 a0_2 a0_3) = some r := by rw [if_neg (show ¬ (false = true) by decide)] at H; exact H
   clear H
   have H := H1
   clear H1
   have H' := Aside0.mk H
   clear H
   go_wp2
   (try simp only [Act.put, List.setIfInBounds_toArray, List.set_cons_zero, List.set_cons_succ])
   go_loopg [3] kj1 (fun kq v3 w' => ∃ (x3_2 : Int), v3 = .int .i64 x3_2 ∧ Aside0 (spec_ShardOk.l0 kq x3_2 l0_0 a0_1 a0_2 a0_3 = some r) ∧ Aside0 (kq ≤ kj1) ∧ Aside0 (w'.heap[gb121]? = some (.cells #[(.slice A0_0 l0_0.length c0_0), .int .i64 a0_1, .int .i64 a0_2, .int .i64 a0_3] 30 (0, 0))) ∧ Aside0 (Below w.heap.size w w'))
   case atStart => exact ⟨(0), (by first | rfl | (simp; done) | (simp [*]; done)), H', ⟨Nat.le_refl _⟩, ⟨by (with_reducible repeat first|apply bn_|apply bd_|apply ba_); exact BK121.out⟩, ⟨ue_ HB.out⟩⟩
   case round =>
    clear H'
    try clear c1
    try clear c2
    try clear p2
    try clear c4
    try clear c4b0
    try clear c4b1
    try clear c7
    try clear c9
    try clear c14
    try clear hcz11_0
    try clear hcz11_1
    try clear hcz11_2
    try clear hcz11_3
    try clear hcz12_0
    try clear hcz12_1
    try clear hcz12_2
    try clear hcz12_3
    try clear hcz13_0
    try clear hcz13_1
    try clear hcz13_2
    try clear hcz13_3
    try clear hcz5_0
    try clear hcz5_1
    try clear hcz5_2
    try clear hcz5_3
    try clear hfz11_0
    try clear hfz11_1
    try clear hfz11_2
    try clear hfz11_3
    try clear hfz12_0
    try clear hfz12_1
    try clear hfz12_2
    try clear hfz12_3
    try clear hfz13_0
    try clear hfz13_1
    try clear hfz13_2
    try clear hfz13_3
    try clear hfz5_0
    try clear hfz5_1
    try clear hfz5_2
    try clear hfz5_3
    try clear p2
    obtain ⟨x3_2, rfl, HA, HK2, BK121, HB⟩ := hrel
    cases gk with
    | zero => exact absurd HA.out (by simp [spec_ShardOk.l0])
    | succ k2 =>
     have H := HA.out
     clear HA
     simp only [spec_ShardOk.l0] at H
     by_cases c15 : x3_2 < (l0_0.length : Int)
     ·
      rw [if_pos c15] at H
      have c15b0 : decide (x3_2 < (l0_0.length : Int)) = true := decide_eq_true c15
      clear c15
      by_cases c16 : 0 ≤ x3_2
      ·
       rw [if_pos c16] at H
       have c16b0 : decide (0 ≤ x3_2) = true := decide_eq_true c16
       clear c16
       replace H := Option.bind_eq_some_iff.mp H
       obtain ⟨t126, A170, H⟩ := H
       replace H : (if t126 = true then (if x3_2 > 0 then (if 0 ≤ (wrap64 (x3_2 - 1)) then (if (wrap64 (x3_2 - 1)) < (l0_0.length : Int) then ((spec_l05Ahead.f ((rd_T62 l0_0 (wrap64 (x3_2 - 1))).f0) ((rd_T62 l0_0 (wrap64 (x3_2 - 1))).f1) ((rd_T62 l0_0 (wrap64 (x3_2 - 1))).f2) ((rd_T62 l0_0 (wrap64 (x3_2 - 1))).f3) ((rd_T62 l0_0 (wrap64 (x3_2 - 1))).f4) ((rd_T62 l0_0 (wrap64 (x3_2 - 1))).f5) ((rd_T62 l0_0 x3_2).f0) ((rd_T62 l0_0 x3_2).f1) ((rd_T62 l0_0 x3_2).f2) ((rd_T62 l0_0 x3_2).f3) ((rd_T62 l0_0 x3_2).f4) ((rd_T62 l0_0 x3_2).f5)).bind fun t129 => (if t129 = true then (spec_ShardOk.l0 k2 (wrap64 (x3_2 + 1)) l0_0 a0_1 a0_2 a0_3) else (some false))) else (none)) else (none)) else (spec_ShardOk.l0 k2 (wrap64 (x3_2 + 1)) l0_0 a0_1 a0_2 a0_3)) else (some false)) = some r := H
       have A17 := Aside0.mk A170
       clear A170
       by_cases c18 : t126 = true
       ·
        subst c18
        have H1 : (if x3_2 > 0 then (if 0 ≤ (wrap64 (x3_2 - 1)) then (if (wrap64 (x3_2 - 1)) < (l0_0.length : Int) then ((spec_l05Ahead.f ((rd_T62 l0_0 (wrap64 (x3_2 - 1))).f0) ((rd_T62 l0_0 (wrap64 (x3_2 - 1))).f1) ((rd_T62 l0_0 (wrap64 (x3_2 - 1))).f2) ((rd_T62 l0_0 (wrap64 (x3_2 - 1))).f3) ((rd_T62 l0_0 (wrap64 (x3_2 - 1))).f4) ((rd_T62 l0_0 (wrap64 (x3_2 - 1))).f5) ((rd_T62 l0_0 x3_2).f0) ((rd_T62 l0_0 x3_2).f1) ((rd_T62 l0_0 x3_2).f2) ((rd_T62 l0_0 x3_2).f3) ((rd_T62 l0_0 x3_2).f4) ((rd_T62 l0_0 x3_2).f5)).bind fun t129 => (if t129 = true then (spec_ShardOk.l0 k2 (wrap64 (x3_2 + 1)) l0_0 a0_1 a0_2 a0_3) else (some false))) else (none)) else (none)) else (spec_ShardOk.l0 k2 (wrap64 (x3_2 + 1)) l0_0 a0_1 a0_2 a0_3)) = some r := by rw [if_pos rfl] at H; exact H
        clear H
        have H := H1
        clear H1
        by_cases c19 : x3_2 > 0
        ·
         rw [if_pos c19] at H
         have c19b0 : decide (0 < x3_2) = true := decide_eq_true c19
         clear c19
         obtain ⟨ji20, hji20⟩ : ∃ j_ : Int, (wrap64 (x3_2 - 1)) = j_ := ⟨_, rfl⟩
         replace H : (if 0 ≤ (ji20) then (if (ji20) < (l0_0.length : Int) then ((spec_l05Ahead.f ((rd_T62 l0_0 (ji20)).f0) ((rd_T62 l0_0 (ji20)).f1) ((rd_T62 l0_0 (ji20)).f2) ((rd_T62 l0_0 (ji20)).f3) ((rd_T62 l0_0 (ji20)).f4) ((rd_T62 l0_0 (ji20)).f5) ((rd_T62 l0_0 x3_2).f0) ((rd_T62 l0_0 x3_2).f1) ((rd_T62 l0_0 x3_2).f2) ((rd_T62 l0_0 x3_2).f3) ((rd_T62 l0_0 x3_2).f4) ((rd_T62 l0_0 x3_2).f5)).bind fun t129 => (if t129 = true then (spec_ShardOk.l0 k2 (wrap64 (x3_2 + 1)) l0_0 a0_1 a0_2 a0_3) else (some false))) else (none)) else (none)) = some r := by first | (rw [hji20] at H; exact H) | (simp only [hji20] at H ⊢; exact H)
         (try rw [hji20] at A17)
         have hji20w : (IntKind.i64.wrap (x3_2 - 1)) = ji20 := (i64_w _).trans hji20
         by_cases c21 : 0 ≤ (ji20)
         ·
          rw [if_pos c21] at H
          have c21b0 : decide (0 ≤ (ji20)) = true := decide_eq_true c21
          clear c21
          by_cases c22 : (ji20) < (l0_0.length : Int)
          ·
           rw [if_pos c22] at H
           have c22b0 : decide ((ji20) < (l0_0.length : Int)) = true := decide_eq_true c22
           clear c22
           replace H := Option.bind_eq_some_iff.mp H
           obtain ⟨t129, A230, H⟩ := H
           replace H : (if t129 = true then (spec_ShardOk.l0 k2 (wrap64 (x3_2 + 1)) l0_0 a0_1 a0_2 a0_3) else (some false)) = some r := H
           have A23 := Aside0.mk A230
           clear A230
           by_cases c24 : t129 = true
           ·
            subst c24
            have H1 : (spec_ShardOk.l0 k2 (wrap64 (x3_2 + 1)) l0_0 a0_1 a0_2 a0_3) = some r := by rw [if_pos rfl] at H; exact H
            clear H
            have H := H1
            clear H1
            have H' := Aside0.mk H
            clear H
            obtain ⟨hcz25_0, hcz25_1, hcz25_2, hcz25_3⟩ := cbz4_ BK121.out
            obtain ⟨hfz25_0, hfz25_1, hfz25_2, hfz25_3⟩ := bfz4_ BK121.out
            try go_wp2
            replace BK121 := am_ (blk_drew BK121.out)
            replace HB := am_ (below_drew1 HB.out)
            have p125 : 0 ≤ (x3_2 : Int) := of_decide_eq_true ua_
            have q125 : x3_2 < (l0_0.length : Int) := of_decide_eq_true ua_
            obtain ⟨ad125, e125, hx125_0, hx125_1, hx125_2, hx125_3, hx125_4, hx125_5⟩ := at_T62 HR0_0.out x3_2 p125 q125
            have hw125_5 := hx125_5
            have hw125_4 := hx125_4
            have hw125_3 := hx125_3
            have hw125_2 := hx125_2
            have hw125_1 := hx125_1
            have hw125_0 := hx125_0
            cases e125
            replace hx125_0 := bc_ HB.out hx125_0
            replace hx125_1 := bc_ HB.out hx125_1
            replace hx125_2 := bc_ HB.out hx125_2
            replace hx125_3 := bc_ HB.out hx125_3
            replace hx125_4 := bc_ HB.out hx125_4
            replace hx125_5 := bc_ HB.out hx125_5
            replace p125 := eq_true p125
            replace q125 := eq_true q125
            have p127 : 0 ≤ ((ji20) : Int) := of_decide_eq_true ua_
            have q127 : (ji20) < (l0_0.length : Int) := of_decide_eq_true ua_
            obtain ⟨ad127, e127, hx127_0, hx127_1, hx127_2, hx127_3, hx127_4, hx127_5⟩ := at_T62 HR0_0.out (ji20) p127 q127
            have hw127_5 := hx127_5
            have hw127_4 := hx127_4
            have hw127_3 := hx127_3
            have hw127_2 := hx127_2
            have hw127_1 := hx127_1
            have hw127_0 := hx127_0
            obtain rfl : ad125 = ad127 := (by injection e127)
            replace hx127_0 := bc_ HB.out hx127_0
            replace hx127_1 := bc_ HB.out hx127_1
            replace hx127_2 := bc_ HB.out hx127_2
            replace hx127_3 := bc_ HB.out hx127_3
            replace hx127_4 := bc_ HB.out hx127_4
            replace hx127_5 := bc_ HB.out hx127_5
            replace p127 := eq_true p127
            replace q127 := eq_true q127
            have p128 : 0 ≤ (x3_2 : Int) := of_decide_eq_true ua_
            have q128 : x3_2 < (l0_0.length : Int) := of_decide_eq_true ua_
            obtain ⟨ad128, e128, hx128_0, hx128_1, hx128_2, hx128_3, hx128_4, hx128_5⟩ := at_T62 HR0_0.out x3_2 p128 q128
            have hw128_5 := hx128_5
            have hw128_4 := hx128_4
            have hw128_3 := hx128_3
            have hw128_2 := hx128_2
            have hw128_1 := hx128_1
            have hw128_0 := hx128_0
            obtain rfl : ad125 = ad128 := (by injection e128)
            replace hx128_0 := bc_ HB.out hx128_0
            replace hx128_1 := bc_ HB.out hx128_1
            replace hx128_2 := bc_ HB.out hx128_2
            replace hx128_3 := bc_ HB.out hx128_3
            replace hx128_4 := bc_ HB.out hx128_4
            replace hx128_5 := bc_ HB.out hx128_5
            replace p128 := eq_true p128
            replace q128 := eq_true q128
            refine start_ (n := 26) (S := fun w' => w'.cell? ⟨gb121, 0, none⟩ = some (.slice (some ad125) l0_0.length c0_0) ∧ w'.cell? ⟨gb121, 1, none⟩ = some (.int .i64 a0_1) ∧ w'.cell? ⟨gb121, 2, none⟩ = some (.int .i64 a0_2) ∧ w'.cell? ⟨gb121, 3, none⟩ = some (.int .i64 a0_3) ∧ w'.cell? (ad125.add ((x3_2).toNat * 6)) = some (.int .i64 ((rd_T62 l0_0 x3_2).f0)) ∧ w'.cell? ⟨(ad125.add ((x3_2).toNat * 6)).block, (ad125.add ((x3_2).toNat * 6)).off + 1, none⟩ = some (.int .i64 ((rd_T62 l0_0 x3_2).f1)) ∧ w'.cell? ⟨(ad125.add ((x3_2).toNat * 6)).block, (ad125.add ((x3_2).toNat * 6)).off + 2, none⟩ = some (.int .i64 ((rd_T62 l0_0 x3_2).f2)) ∧ w'.cell? ⟨(ad125.add ((x3_2).toNat * 6)).block, (ad125.add ((x3_2).toNat * 6)).off + 3, none⟩ = some (.int .i64 ((rd_T62 l0_0 x3_2).f3)) ∧ w'.cell? ⟨(ad125.add ((x3_2).toNat * 6)).block, (ad125.add ((x3_2).toNat * 6)).off + 4, none⟩ = some (.int .i64 ((rd_T62 l0_0 x3_2).f4)) ∧ w'.cell? ⟨(ad125.add ((x3_2).toNat * 6)).block, (ad125.add ((x3_2).toNat * 6)).off + 5, none⟩ = some (.int .i64 ((rd_T62 l0_0 x3_2).f5)) ∧ w'.cell? (ad125.add (((ji20)).toNat * 6)) = some (.int .i64 ((rd_T62 l0_0 (ji20)).f0)) ∧ w'.cell? ⟨(ad125.add (((ji20)).toNat * 6)).block, (ad125.add (((ji20)).toNat * 6)).off + 1, none⟩ = some (.int .i64 ((rd_T62 l0_0 (ji20)).f1)) ∧ w'.cell? ⟨(ad125.add (((ji20)).toNat * 6)).block, (ad125.add (((ji20)).toNat * 6)).off + 2, none⟩ = some (.int .i64 ((rd_T62 l0_0 (ji20)).f2)) ∧ w'.cell? ⟨(ad125.add (((ji20)).toNat * 6)).block, (ad125.add (((ji20)).toNat * 6)).off + 3, none⟩ = some (.int .i64 ((rd_T62 l0_0 (ji20)).f3)) ∧ w'.cell? ⟨(ad125.add (((ji20)).toNat * 6)).block, (ad125.add (((ji20)).toNat * 6)).off + 4, none⟩ = some (.int .i64 ((rd_T62 l0_0 (ji20)).f4)) ∧ w'.cell? ⟨(ad125.add (((ji20)).toNat * 6)).block, (ad125.add (((ji20)).toNat * 6)).off + 5, none⟩ = some (.int .i64 ((rd_T62 l0_0 (ji20)).f5)) ∧ w'.cell? (ad125.add ((x3_2).toNat * 6)) = some (.int .i64 ((rd_T62 l0_0 x3_2).f0)) ∧ w'.cell? ⟨(ad125.add ((x3_2).toNat * 6)).block, (ad125.add ((x3_2).toNat * 6)).off + 1, none⟩ = some (.int .i64 ((rd_T62 l0_0 x3_2).f1)) ∧ w'.cell? ⟨(ad125.add ((x3_2).toNat * 6)).block, (ad125.add ((x3_2).toNat * 6)).off + 2, none⟩ = some (.int .i64 ((rd_T62 l0_0 x3_2).f2)) ∧ w'.cell? ⟨(ad125.add ((x3_2).toNat * 6)).block, (ad125.add ((x3_2).toNat * 6)).off + 3, none⟩ = some (.int .i64 ((rd_T62 l0_0 x3_2).f3)) ∧ w'.cell? ⟨(ad125.add ((x3_2).toNat * 6)).block, (ad125.add ((x3_2).toNat * 6)).off + 4, none⟩ = some (.int .i64 ((rd_T62 l0_0 x3_2).f4)) ∧ w'.cell? ⟨(ad125.add ((x3_2).toNat * 6)).block, (ad125.add ((x3_2).toNat * 6)).off + 5, none⟩ = some (.int .i64 ((rd_T62 l0_0 x3_2).f5))) (ds := []) #[false, false, false, false, false, false, false, false, false, false, false, false, false, false, false, false, false, false, false, false, false, false, false, false, false, false] (by kernel_rfl) rfl rfl ⟨cb_ BK121.out 0 rfl, cb_ BK121.out 1 rfl, cb_ BK121.out 2 rfl, cb_ BK121.out 3 rfl, bc_ HB.out hw125_0, bc_ HB.out hw125_1, bc_ HB.out hw125_2, bc_ HB.out hw125_3, bc_ HB.out hw125_4, bc_ HB.out hw125_5, bc_ HB.out hw127_0, bc_ HB.out hw127_1, bc_ HB.out hw127_2, bc_ HB.out hw127_3, bc_ HB.out hw127_4, bc_ HB.out hw127_5, bc_ HB.out hw128_0, bc_ HB.out hw128_1, bc_ HB.out hw128_2, bc_ HB.out hw128_3, bc_ HB.out hw128_4, bc_ HB.out hw128_5⟩ (fun hHeld => ?_); refine with_tabW spec_ShardOk.tab6 spec_ShardOk.bits6 (fun HT_ HW_ => ?_)
            generalize wr.drew = w26 at BK121 HB hx125_0 hx125_1 hx125_2 hx125_3 hx125_4 hx125_5 hx127_0 hx127_1 hx127_2 hx127_3 hx127_4 hx127_5 hx128_0 hx128_1 hx128_2 hx128_3 hx128_4 hx128_5 hHeld ⊢
            refine pu_ (i := 0) (N := some 33) #[true, false, false, false, false, false, false, false, false, false, false, false, false, false, false, false, false, false, false, false, false, false, false, false, false, false] HT_ ?_
            refine pu_ (i := 2) (N := some 35) #[true, false, true, false, false, false, false, false, false, false, false, false, false, false, false, false, false, false, false, false, false, false, false, false, false, false] HT_ ?_
            refine tk_ (i := 1) (N := some 34) #[true, true, true, false, false, false, false, false, false, false, false, false, false, false, false, false, false, false, false, false, false, false, false, false, false, false] HT_ HW_ hHeld ?_
            refine pu_ (i := 3) (N := some 36) #[true, true, true, true, false, false, false, false, false, false, false, false, false, false, false, false, false, false, false, false, false, false, false, false, false, false] HT_ ?_
            refine tk_ (i := 4) (N := some 37) #[true, true, true, true, true, false, false, false, false, false, false, false, false, false, false, false, false, false, false, false, false, false, false, false, false, false] HT_ HW_ hHeld ?_
            refine one_ (i := 5) (N := some 38) #[true, true, true, true, true, true, false, false, false, false, false, false, false, false, false, false, false, false, false, false, false, false, false, false, false, false] rfl rfl (one_of HT_.out (by kernel_rfl)) (by decide) (fun K hK => ?_)
            refine goes_ Try.func60 (by kernel_rfl) rfl #[.agg #[.int .i64 ((rd_T62 l0_0 x3_2).f0), .int .i64 ((rd_T62 l0_0 x3_2).f1), .int .i64 ((rd_T62 l0_0 x3_2).f2), .int .i64 ((rd_T62 l0_0 x3_2).f3), .int .i64 ((rd_T62 l0_0 x3_2).f4), .int .i64 ((rd_T62 l0_0 x3_2).f5)]] (by rfl) rfl rfl ul_ ?_
            with_reducible refine (spec_AggOk.calls ((rd_T62 l0_0 x3_2).f0) ((rd_T62 l0_0 x3_2).f1) ((rd_T62 l0_0 x3_2).f2) ((rd_T62 l0_0 x3_2).f3) ((rd_T62 l0_0 x3_2).f4) ((rd_T62 l0_0 x3_2).f5) true _ A17.out).mono ?_
            rintro e w27 ⟨rfl, hb⟩
            refine ⟨_, rfl, ?_⟩
            replace BK121 := bs_ BK121 hb
            replace HB := hs_ HB hb
            (try clear hb)
            (try clear hb2)
            (try clear hk)
            (try clear hi)
            refine hK.out _ _ ⟨cb_ BK121.out 0 rfl, cb_ BK121.out 1 rfl, cb_ BK121.out 2 rfl, cb_ BK121.out 3 rfl, bc_ HB.out hw125_0, bc_ HB.out hw125_1, bc_ HB.out hw125_2, bc_ HB.out hw125_3, bc_ HB.out hw125_4, bc_ HB.out hw125_5, bc_ HB.out hw127_0, bc_ HB.out hw127_1, bc_ HB.out hw127_2, bc_ HB.out hw127_3, bc_ HB.out hw127_4, bc_ HB.out hw127_5, bc_ HB.out hw128_0, bc_ HB.out hw128_1, bc_ HB.out hw128_2, bc_ HB.out hw128_3, bc_ HB.out hw128_4, bc_ HB.out hw128_5⟩ (fun hHeld => ?_)
            clear hK K
            refine norm_ (a' := ?_) ?_ ?_
            rotate_left
            ·
             show Act.put _ (some 38) _ = _
             simp only [Act.put, List.setIfInBounds_toArray, List.set_cons_zero, List.set_cons_succ, i64_w, i32_w]
             rfl
            refine pu_ (i := 6) (N := some 39) #[true, true, true, true, true, true, true, false, false, false, false, false, false, false, false, false, false, false, false, false, false, false, false, false, false, false] HT_ ?_
            refine pu_ (i := 7) (N := some 40) #[true, true, true, true, true, true, true, true, false, false, false, false, false, false, false, false, false, false, false, false, false, false, false, false, false, false] HT_ ?_
            refine pu_ (i := 8) (N := some 41) #[true, true, true, true, true, true, true, true, true, false, false, false, false, false, false, false, false, false, false, false, false, false, false, false, false, false] HT_ ?_
            refine pu_ (i := 9) (N := some 42) #[true, true, true, true, true, true, true, true, true, true, false, false, false, false, false, false, false, false, false, false, false, false, false, false, false, false] HT_ ?_
            refine pu_ (i := 10) (N := some 43) #[true, true, true, true, true, true, true, true, true, true, true, false, false, false, false, false, false, false, false, false, false, false, false, false, false, false] HT_ ?_
            refine pu_ (i := 11) (N := some 44) #[true, true, true, true, true, true, true, true, true, true, true, true, false, false, false, false, false, false, false, false, false, false, false, false, false, false] HT_ ?_
            refine pu_ (i := 13) (N := some 46) #[true, true, true, true, true, true, true, true, true, true, true, true, false, true, false, false, false, false, false, false, false, false, false, false, false, false] HT_ ?_
            refine pu_ (i := 14) (N := some 47) #[true, true, true, true, true, true, true, true, true, true, true, true, false, true, true, false, false, false, false, false, false, false, false, false, false, false] HT_ ?_
            refine pu_ (i := 17) (N := some 50) #[true, true, true, true, true, true, true, true, true, true, true, true, false, true, true, false, false, true, false, false, false, false, false, false, false, false] HT_ ?_
            refine pu_ (i := 19) (N := some 52) #[true, true, true, true, true, true, true, true, true, true, true, true, false, true, true, false, false, true, false, true, false, false, false, false, false, false] HT_ ?_
            refine tk_ (i := 12) (N := some 45) #[true, true, true, true, true, true, true, true, true, true, true, true, true, true, true, false, false, true, false, true, false, false, false, false, false, false] HT_ HW_ hHeld ?_
            refine pu_ (i := 15) (N := some 48) #[true, true, true, true, true, true, true, true, true, true, true, true, true, true, true, true, false, true, false, true, false, false, false, false, false, false] HT_ ?_
            refine tk_ (i := 16) (N := some 49) #[true, true, true, true, true, true, true, true, true, true, true, true, true, true, true, true, true, true, false, true, false, false, false, false, false, false] HT_ HW_ hHeld ?_
            refine tk_ (i := 18) (N := some 51) #[true, true, true, true, true, true, true, true, true, true, true, true, true, true, true, true, true, true, true, true, false, false, false, false, false, false] HT_ HW_ hHeld ?_
            refine pu_ (i := 20) (N := some 53) #[true, true, true, true, true, true, true, true, true, true, true, true, true, true, true, true, true, true, true, true, true, false, false, false, false, false] HT_ ?_
            refine tk_ (i := 21) (N := some 54) #[true, true, true, true, true, true, true, true, true, true, true, true, true, true, true, true, true, true, true, true, true, true, false, false, false, false] HT_ HW_ hHeld ?_
            refine one_ (i := 22) (N := some 55) #[true, true, true, true, true, true, true, true, true, true, true, true, true, true, true, true, true, true, true, true, true, true, true, false, false, false] rfl rfl (one_of HT_.out (by kernel_rfl)) (by decide) (fun K hK => ?_)
            refine goes_ Try.func31 (by kernel_rfl) rfl #[.agg #[.int .i64 ((rd_T62 l0_0 (ji20)).f0), .int .i64 ((rd_T62 l0_0 (ji20)).f1), .int .i64 ((rd_T62 l0_0 (ji20)).f2), .int .i64 ((rd_T62 l0_0 (ji20)).f3), .int .i64 ((rd_T62 l0_0 (ji20)).f4), .int .i64 ((rd_T62 l0_0 (ji20)).f5)], .agg #[.int .i64 ((rd_T62 l0_0 x3_2).f0), .int .i64 ((rd_T62 l0_0 x3_2).f1), .int .i64 ((rd_T62 l0_0 x3_2).f2), .int .i64 ((rd_T62 l0_0 x3_2).f3), .int .i64 ((rd_T62 l0_0 x3_2).f4), .int .i64 ((rd_T62 l0_0 x3_2).f5)]] (by rfl) rfl rfl (by (try simp only [List.map_toArray, List.map_cons, List.map_nil]); first | done | (simp only [hji20]; rfl) | rfl | (simp only [List.length_drop, List.length_take]; rfl)) ?_
            with_reducible refine (spec_l05Ahead.calls ((rd_T62 l0_0 (ji20)).f0) ((rd_T62 l0_0 (ji20)).f1) ((rd_T62 l0_0 (ji20)).f2) ((rd_T62 l0_0 (ji20)).f3) ((rd_T62 l0_0 (ji20)).f4) ((rd_T62 l0_0 (ji20)).f5) ((rd_T62 l0_0 x3_2).f0) ((rd_T62 l0_0 x3_2).f1) ((rd_T62 l0_0 x3_2).f2) ((rd_T62 l0_0 x3_2).f3) ((rd_T62 l0_0 x3_2).f4) ((rd_T62 l0_0 x3_2).f5) true _ A23.out).mono ?_
            rintro e w28 ⟨rfl, hb⟩
            refine ⟨_, rfl, ?_⟩
            replace BK121 := bs_ BK121 hb
            replace HB := hs_ HB hb
            (try clear hb)
            (try clear hb2)
            (try clear hk)
            (try clear hi)
            refine hK.out _ _ ⟨cb_ BK121.out 0 rfl, cb_ BK121.out 1 rfl, cb_ BK121.out 2 rfl, cb_ BK121.out 3 rfl, bc_ HB.out hw125_0, bc_ HB.out hw125_1, bc_ HB.out hw125_2, bc_ HB.out hw125_3, bc_ HB.out hw125_4, bc_ HB.out hw125_5, bc_ HB.out hw127_0, bc_ HB.out hw127_1, bc_ HB.out hw127_2, bc_ HB.out hw127_3, bc_ HB.out hw127_4, bc_ HB.out hw127_5, bc_ HB.out hw128_0, bc_ HB.out hw128_1, bc_ HB.out hw128_2, bc_ HB.out hw128_3, bc_ HB.out hw128_4, bc_ HB.out hw128_5⟩ (fun hHeld => ?_)
            clear hK K
            refine norm_ (a' := ?_) ?_ ?_
            rotate_left
            ·
             show Act.put _ (some 55) _ = _
             simp only [Act.put, List.setIfInBounds_toArray, List.set_cons_zero, List.set_cons_succ, i64_w, i32_w]
             rfl
            refine pu_ (i := 23) (N := some 56) #[true, true, true, true, true, true, true, true, true, true, true, true, true, true, true, true, true, true, true, true, true, true, true, true, false, false] HT_ ?_
            refine pu_ (i := 24) (N := some 57) #[true, true, true, true, true, true, true, true, true, true, true, true, true, true, true, true, true, true, true, true, true, true, true, true, true, false] HT_ ?_
            refine pu_ (i := 25) (N := some 58) #[true, true, true, true, true, true, true, true, true, true, true, true, true, true, true, true, true, true, true, true, true, true, true, true, true, true] HT_ ?_
            refine done_ (done_of HT_.out (by kernel_rfl)) ?_
            try go_wp2
            go_roundg k2
            case measure => have := HJ1.out; have := HK2.out; omega
            case rel => exact ⟨(wrap64 (x3_2 + 1)), (by first | rfl | (simp; done) | (simp [*]; done)), H', ⟨by have := HJ1.out; have := HK2.out; omega⟩, ⟨by (with_reducible repeat first|apply bn_|apply bd_|apply ba_); exact BK121.out⟩, ⟨ue_ HB.out⟩⟩
           replace c24 := Bool.eq_false_iff.mpr c24
           subst c24
           have H1 : (some false) = some r := by rw [if_neg (show ¬ (false = true) by decide)] at H; exact H
           clear H
           have H := H1
           clear H1
           obtain rfl := Option.some.inj H
           obtain ⟨hcz29_0, hcz29_1, hcz29_2, hcz29_3⟩ := cbz4_ BK121.out
           obtain ⟨hfz29_0, hfz29_1, hfz29_2, hfz29_3⟩ := bfz4_ BK121.out
           try go_wp2
           replace BK121 := am_ (blk_drew BK121.out)
           replace HB := am_ (below_drew1 HB.out)
           have p125 : 0 ≤ (x3_2 : Int) := of_decide_eq_true ua_
           have q125 : x3_2 < (l0_0.length : Int) := of_decide_eq_true ua_
           obtain ⟨ad125, e125, hx125_0, hx125_1, hx125_2, hx125_3, hx125_4, hx125_5⟩ := at_T62 HR0_0.out x3_2 p125 q125
           have hw125_5 := hx125_5
           have hw125_4 := hx125_4
           have hw125_3 := hx125_3
           have hw125_2 := hx125_2
           have hw125_1 := hx125_1
           have hw125_0 := hx125_0
           cases e125
           replace hx125_0 := bc_ HB.out hx125_0
           replace hx125_1 := bc_ HB.out hx125_1
           replace hx125_2 := bc_ HB.out hx125_2
           replace hx125_3 := bc_ HB.out hx125_3
           replace hx125_4 := bc_ HB.out hx125_4
           replace hx125_5 := bc_ HB.out hx125_5
           replace p125 := eq_true p125
           replace q125 := eq_true q125
           have p127 : 0 ≤ ((ji20) : Int) := of_decide_eq_true ua_
           have q127 : (ji20) < (l0_0.length : Int) := of_decide_eq_true ua_
           obtain ⟨ad127, e127, hx127_0, hx127_1, hx127_2, hx127_3, hx127_4, hx127_5⟩ := at_T62 HR0_0.out (ji20) p127 q127
           have hw127_5 := hx127_5
           have hw127_4 := hx127_4
           have hw127_3 := hx127_3
           have hw127_2 := hx127_2
           have hw127_1 := hx127_1
           have hw127_0 := hx127_0
           obtain rfl : ad125 = ad127 := (by injection e127)
           replace hx127_0 := bc_ HB.out hx127_0
           replace hx127_1 := bc_ HB.out hx127_1
           replace hx127_2 := bc_ HB.out hx127_2
           replace hx127_3 := bc_ HB.out hx127_3
           replace hx127_4 := bc_ HB.out hx127_4
           replace hx127_5 := bc_ HB.out hx127_5
           replace p127 := eq_true p127
           replace q127 := eq_true q127
           have p128 : 0 ≤ (x3_2 : Int) := of_decide_eq_true ua_
           have q128 : x3_2 < (l0_0.length : Int) := of_decide_eq_true ua_
           obtain ⟨ad128, e128, hx128_0, hx128_1, hx128_2, hx128_3, hx128_4, hx128_5⟩ := at_T62 HR0_0.out x3_2 p128 q128
           have hw128_5 := hx128_5
           have hw128_4 := hx128_4
           have hw128_3 := hx128_3
           have hw128_2 := hx128_2
           have hw128_1 := hx128_1
           have hw128_0 := hx128_0
           obtain rfl : ad125 = ad128 := (by injection e128)
           replace hx128_0 := bc_ HB.out hx128_0
           replace hx128_1 := bc_ HB.out hx128_1
           replace hx128_2 := bc_ HB.out hx128_2
           replace hx128_3 := bc_ HB.out hx128_3
           replace hx128_4 := bc_ HB.out hx128_4
           replace hx128_5 := bc_ HB.out hx128_5
           replace p128 := eq_true p128
           replace q128 := eq_true q128
           refine start_ (n := 26) (S := fun w' => w'.cell? ⟨gb121, 0, none⟩ = some (.slice (some ad125) l0_0.length c0_0) ∧ w'.cell? ⟨gb121, 1, none⟩ = some (.int .i64 a0_1) ∧ w'.cell? ⟨gb121, 2, none⟩ = some (.int .i64 a0_2) ∧ w'.cell? ⟨gb121, 3, none⟩ = some (.int .i64 a0_3) ∧ w'.cell? (ad125.add ((x3_2).toNat * 6)) = some (.int .i64 ((rd_T62 l0_0 x3_2).f0)) ∧ w'.cell? ⟨(ad125.add ((x3_2).toNat * 6)).block, (ad125.add ((x3_2).toNat * 6)).off + 1, none⟩ = some (.int .i64 ((rd_T62 l0_0 x3_2).f1)) ∧ w'.cell? ⟨(ad125.add ((x3_2).toNat * 6)).block, (ad125.add ((x3_2).toNat * 6)).off + 2, none⟩ = some (.int .i64 ((rd_T62 l0_0 x3_2).f2)) ∧ w'.cell? ⟨(ad125.add ((x3_2).toNat * 6)).block, (ad125.add ((x3_2).toNat * 6)).off + 3, none⟩ = some (.int .i64 ((rd_T62 l0_0 x3_2).f3)) ∧ w'.cell? ⟨(ad125.add ((x3_2).toNat * 6)).block, (ad125.add ((x3_2).toNat * 6)).off + 4, none⟩ = some (.int .i64 ((rd_T62 l0_0 x3_2).f4)) ∧ w'.cell? ⟨(ad125.add ((x3_2).toNat * 6)).block, (ad125.add ((x3_2).toNat * 6)).off + 5, none⟩ = some (.int .i64 ((rd_T62 l0_0 x3_2).f5)) ∧ w'.cell? (ad125.add (((ji20)).toNat * 6)) = some (.int .i64 ((rd_T62 l0_0 (ji20)).f0)) ∧ w'.cell? ⟨(ad125.add (((ji20)).toNat * 6)).block, (ad125.add (((ji20)).toNat * 6)).off + 1, none⟩ = some (.int .i64 ((rd_T62 l0_0 (ji20)).f1)) ∧ w'.cell? ⟨(ad125.add (((ji20)).toNat * 6)).block, (ad125.add (((ji20)).toNat * 6)).off + 2, none⟩ = some (.int .i64 ((rd_T62 l0_0 (ji20)).f2)) ∧ w'.cell? ⟨(ad125.add (((ji20)).toNat * 6)).block, (ad125.add (((ji20)).toNat * 6)).off + 3, none⟩ = some (.int .i64 ((rd_T62 l0_0 (ji20)).f3)) ∧ w'.cell? ⟨(ad125.add (((ji20)).toNat * 6)).block, (ad125.add (((ji20)).toNat * 6)).off + 4, none⟩ = some (.int .i64 ((rd_T62 l0_0 (ji20)).f4)) ∧ w'.cell? ⟨(ad125.add (((ji20)).toNat * 6)).block, (ad125.add (((ji20)).toNat * 6)).off + 5, none⟩ = some (.int .i64 ((rd_T62 l0_0 (ji20)).f5)) ∧ w'.cell? (ad125.add ((x3_2).toNat * 6)) = some (.int .i64 ((rd_T62 l0_0 x3_2).f0)) ∧ w'.cell? ⟨(ad125.add ((x3_2).toNat * 6)).block, (ad125.add ((x3_2).toNat * 6)).off + 1, none⟩ = some (.int .i64 ((rd_T62 l0_0 x3_2).f1)) ∧ w'.cell? ⟨(ad125.add ((x3_2).toNat * 6)).block, (ad125.add ((x3_2).toNat * 6)).off + 2, none⟩ = some (.int .i64 ((rd_T62 l0_0 x3_2).f2)) ∧ w'.cell? ⟨(ad125.add ((x3_2).toNat * 6)).block, (ad125.add ((x3_2).toNat * 6)).off + 3, none⟩ = some (.int .i64 ((rd_T62 l0_0 x3_2).f3)) ∧ w'.cell? ⟨(ad125.add ((x3_2).toNat * 6)).block, (ad125.add ((x3_2).toNat * 6)).off + 4, none⟩ = some (.int .i64 ((rd_T62 l0_0 x3_2).f4)) ∧ w'.cell? ⟨(ad125.add ((x3_2).toNat * 6)).block, (ad125.add ((x3_2).toNat * 6)).off + 5, none⟩ = some (.int .i64 ((rd_T62 l0_0 x3_2).f5))) (ds := []) #[false, false, false, false, false, false, false, false, false, false, false, false, false, false, false, false, false, false, false, false, false, false, false, false, false, false] (by kernel_rfl) rfl rfl ⟨cb_ BK121.out 0 rfl, cb_ BK121.out 1 rfl, cb_ BK121.out 2 rfl, cb_ BK121.out 3 rfl, bc_ HB.out hw125_0, bc_ HB.out hw125_1, bc_ HB.out hw125_2, bc_ HB.out hw125_3, bc_ HB.out hw125_4, bc_ HB.out hw125_5, bc_ HB.out hw127_0, bc_ HB.out hw127_1, bc_ HB.out hw127_2, bc_ HB.out hw127_3, bc_ HB.out hw127_4, bc_ HB.out hw127_5, bc_ HB.out hw128_0, bc_ HB.out hw128_1, bc_ HB.out hw128_2, bc_ HB.out hw128_3, bc_ HB.out hw128_4, bc_ HB.out hw128_5⟩ (fun hHeld => ?_); refine with_tabW spec_ShardOk.tab6 spec_ShardOk.bits6 (fun HT_ HW_ => ?_)
           generalize wr.drew = w30 at BK121 HB hx125_0 hx125_1 hx125_2 hx125_3 hx125_4 hx125_5 hx127_0 hx127_1 hx127_2 hx127_3 hx127_4 hx127_5 hx128_0 hx128_1 hx128_2 hx128_3 hx128_4 hx128_5 hHeld ⊢
           refine pu_ (i := 0) (N := some 33) #[true, false, false, false, false, false, false, false, false, false, false, false, false, false, false, false, false, false, false, false, false, false, false, false, false, false] HT_ ?_
           refine pu_ (i := 2) (N := some 35) #[true, false, true, false, false, false, false, false, false, false, false, false, false, false, false, false, false, false, false, false, false, false, false, false, false, false] HT_ ?_
           refine tk_ (i := 1) (N := some 34) #[true, true, true, false, false, false, false, false, false, false, false, false, false, false, false, false, false, false, false, false, false, false, false, false, false, false] HT_ HW_ hHeld ?_
           refine pu_ (i := 3) (N := some 36) #[true, true, true, true, false, false, false, false, false, false, false, false, false, false, false, false, false, false, false, false, false, false, false, false, false, false] HT_ ?_
           refine tk_ (i := 4) (N := some 37) #[true, true, true, true, true, false, false, false, false, false, false, false, false, false, false, false, false, false, false, false, false, false, false, false, false, false] HT_ HW_ hHeld ?_
           refine one_ (i := 5) (N := some 38) #[true, true, true, true, true, true, false, false, false, false, false, false, false, false, false, false, false, false, false, false, false, false, false, false, false, false] rfl rfl (one_of HT_.out (by kernel_rfl)) (by decide) (fun K hK => ?_)
           refine goes_ Try.func60 (by kernel_rfl) rfl #[.agg #[.int .i64 ((rd_T62 l0_0 x3_2).f0), .int .i64 ((rd_T62 l0_0 x3_2).f1), .int .i64 ((rd_T62 l0_0 x3_2).f2), .int .i64 ((rd_T62 l0_0 x3_2).f3), .int .i64 ((rd_T62 l0_0 x3_2).f4), .int .i64 ((rd_T62 l0_0 x3_2).f5)]] (by rfl) rfl rfl ul_ ?_
           with_reducible refine (spec_AggOk.calls ((rd_T62 l0_0 x3_2).f0) ((rd_T62 l0_0 x3_2).f1) ((rd_T62 l0_0 x3_2).f2) ((rd_T62 l0_0 x3_2).f3) ((rd_T62 l0_0 x3_2).f4) ((rd_T62 l0_0 x3_2).f5) true _ A17.out).mono ?_
           rintro e w31 ⟨rfl, hb⟩
           refine ⟨_, rfl, ?_⟩
           replace BK121 := bs_ BK121 hb
           replace HB := hs_ HB hb
           (try clear hb)
           (try clear hb2)
           (try clear hk)
           (try clear hi)
           refine hK.out _ _ ⟨cb_ BK121.out 0 rfl, cb_ BK121.out 1 rfl, cb_ BK121.out 2 rfl, cb_ BK121.out 3 rfl, bc_ HB.out hw125_0, bc_ HB.out hw125_1, bc_ HB.out hw125_2, bc_ HB.out hw125_3, bc_ HB.out hw125_4, bc_ HB.out hw125_5, bc_ HB.out hw127_0, bc_ HB.out hw127_1, bc_ HB.out hw127_2, bc_ HB.out hw127_3, bc_ HB.out hw127_4, bc_ HB.out hw127_5, bc_ HB.out hw128_0, bc_ HB.out hw128_1, bc_ HB.out hw128_2, bc_ HB.out hw128_3, bc_ HB.out hw128_4, bc_ HB.out hw128_5⟩ (fun hHeld => ?_)
           clear hK K
           refine norm_ (a' := ?_) ?_ ?_
           rotate_left
           ·
            show Act.put _ (some 38) _ = _
            simp only [Act.put, List.setIfInBounds_toArray, List.set_cons_zero, List.set_cons_succ, i64_w, i32_w]
            rfl
           refine pu_ (i := 6) (N := some 39) #[true, true, true, true, true, true, true, false, false, false, false, false, false, false, false, false, false, false, false, false, false, false, false, false, false, false] HT_ ?_
           refine pu_ (i := 7) (N := some 40) #[true, true, true, true, true, true, true, true, false, false, false, false, false, false, false, false, false, false, false, false, false, false, false, false, false, false] HT_ ?_
           refine pu_ (i := 8) (N := some 41) #[true, true, true, true, true, true, true, true, true, false, false, false, false, false, false, false, false, false, false, false, false, false, false, false, false, false] HT_ ?_
           refine pu_ (i := 9) (N := some 42) #[true, true, true, true, true, true, true, true, true, true, false, false, false, false, false, false, false, false, false, false, false, false, false, false, false, false] HT_ ?_
           refine pu_ (i := 10) (N := some 43) #[true, true, true, true, true, true, true, true, true, true, true, false, false, false, false, false, false, false, false, false, false, false, false, false, false, false] HT_ ?_
           refine pu_ (i := 11) (N := some 44) #[true, true, true, true, true, true, true, true, true, true, true, true, false, false, false, false, false, false, false, false, false, false, false, false, false, false] HT_ ?_
           refine pu_ (i := 13) (N := some 46) #[true, true, true, true, true, true, true, true, true, true, true, true, false, true, false, false, false, false, false, false, false, false, false, false, false, false] HT_ ?_
           refine pu_ (i := 14) (N := some 47) #[true, true, true, true, true, true, true, true, true, true, true, true, false, true, true, false, false, false, false, false, false, false, false, false, false, false] HT_ ?_
           refine pu_ (i := 17) (N := some 50) #[true, true, true, true, true, true, true, true, true, true, true, true, false, true, true, false, false, true, false, false, false, false, false, false, false, false] HT_ ?_
           refine pu_ (i := 19) (N := some 52) #[true, true, true, true, true, true, true, true, true, true, true, true, false, true, true, false, false, true, false, true, false, false, false, false, false, false] HT_ ?_
           refine tk_ (i := 12) (N := some 45) #[true, true, true, true, true, true, true, true, true, true, true, true, true, true, true, false, false, true, false, true, false, false, false, false, false, false] HT_ HW_ hHeld ?_
           refine pu_ (i := 15) (N := some 48) #[true, true, true, true, true, true, true, true, true, true, true, true, true, true, true, true, false, true, false, true, false, false, false, false, false, false] HT_ ?_
           refine tk_ (i := 16) (N := some 49) #[true, true, true, true, true, true, true, true, true, true, true, true, true, true, true, true, true, true, false, true, false, false, false, false, false, false] HT_ HW_ hHeld ?_
           refine tk_ (i := 18) (N := some 51) #[true, true, true, true, true, true, true, true, true, true, true, true, true, true, true, true, true, true, true, true, false, false, false, false, false, false] HT_ HW_ hHeld ?_
           refine pu_ (i := 20) (N := some 53) #[true, true, true, true, true, true, true, true, true, true, true, true, true, true, true, true, true, true, true, true, true, false, false, false, false, false] HT_ ?_
           refine tk_ (i := 21) (N := some 54) #[true, true, true, true, true, true, true, true, true, true, true, true, true, true, true, true, true, true, true, true, true, true, false, false, false, false] HT_ HW_ hHeld ?_
           refine one_ (i := 22) (N := some 55) #[true, true, true, true, true, true, true, true, true, true, true, true, true, true, true, true, true, true, true, true, true, true, true, false, false, false] rfl rfl (one_of HT_.out (by kernel_rfl)) (by decide) (fun K hK => ?_)
           refine goes_ Try.func31 (by kernel_rfl) rfl #[.agg #[.int .i64 ((rd_T62 l0_0 (ji20)).f0), .int .i64 ((rd_T62 l0_0 (ji20)).f1), .int .i64 ((rd_T62 l0_0 (ji20)).f2), .int .i64 ((rd_T62 l0_0 (ji20)).f3), .int .i64 ((rd_T62 l0_0 (ji20)).f4), .int .i64 ((rd_T62 l0_0 (ji20)).f5)], .agg #[.int .i64 ((rd_T62 l0_0 x3_2).f0), .int .i64 ((rd_T62 l0_0 x3_2).f1), .int .i64 ((rd_T62 l0_0 x3_2).f2), .int .i64 ((rd_T62 l0_0 x3_2).f3), .int .i64 ((rd_T62 l0_0 x3_2).f4), .int .i64 ((rd_T62 l0_0 x3_2).f5)]] (by rfl) rfl rfl (by (try simp only [List.map_toArray, List.map_cons, List.map_nil]); first | done | (simp only [hji20]; rfl) | rfl | (simp only [List.length_drop, List.length_take]; rfl)) ?_
           with_reducible refine (spec_l05Ahead.calls ((rd_T62 l0_0 (ji20)).f0) ((rd_T62 l0_0 (ji20)).f1) ((rd_T62 l0_0 (ji20)).f2) ((rd_T62 l0_0 (ji20)).f3) ((rd_T62 l0_0 (ji20)).f4) ((rd_T62 l0_0 (ji20)).f5) ((rd_T62 l0_0 x3_2).f0) ((rd_T62 l0_0 x3_2).f1) ((rd_T62 l0_0 x3_2).f2) ((rd_T62 l0_0 x3_2).f3) ((rd_T62 l0_0 x3_2).f4) ((rd_T62 l0_0 x3_2).f5) false _ A23.out).mono ?_
           rintro e w32 ⟨rfl, hb⟩
           refine ⟨_, rfl, ?_⟩
           replace BK121 := bs_ BK121 hb
           replace HB := hs_ HB hb
           (try clear hb)
           (try clear hb2)
           (try clear hk)
           (try clear hi)
           refine hK.out _ _ ⟨cb_ BK121.out 0 rfl, cb_ BK121.out 1 rfl, cb_ BK121.out 2 rfl, cb_ BK121.out 3 rfl, bc_ HB.out hw125_0, bc_ HB.out hw125_1, bc_ HB.out hw125_2, bc_ HB.out hw125_3, bc_ HB.out hw125_4, bc_ HB.out hw125_5, bc_ HB.out hw127_0, bc_ HB.out hw127_1, bc_ HB.out hw127_2, bc_ HB.out hw127_3, bc_ HB.out hw127_4, bc_ HB.out hw127_5, bc_ HB.out hw128_0, bc_ HB.out hw128_1, bc_ HB.out hw128_2, bc_ HB.out hw128_3, bc_ HB.out hw128_4, bc_ HB.out hw128_5⟩ (fun hHeld => ?_)
           clear hK K
           refine norm_ (a' := ?_) ?_ ?_
           rotate_left
           ·
            show Act.put _ (some 55) _ = _
            simp only [Act.put, List.setIfInBounds_toArray, List.set_cons_zero, List.set_cons_succ, i64_w, i32_w]
            rfl
           refine pu_ (i := 23) (N := some 56) #[true, true, true, true, true, true, true, true, true, true, true, true, true, true, true, true, true, true, true, true, true, true, true, true, false, false] HT_ ?_
           refine pu_ (i := 24) (N := some 57) #[true, true, true, true, true, true, true, true, true, true, true, true, true, true, true, true, true, true, true, true, true, true, true, true, true, false] HT_ ?_
           refine pu_ (i := 25) (N := some 58) #[true, true, true, true, true, true, true, true, true, true, true, true, true, true, true, true, true, true, true, true, true, true, true, true, true, true] HT_ ?_
           refine done_ (done_of HT_.out (by kernel_rfl)) ?_
           try go_wp2
           go_ret
           exact ⟨by first | rfl | (simp [errW_none, errW_some] <;> rfl) | (simp only [← hji20]; first | rfl | (simp [errW_none, errW_some] <;> rfl)) | (simp [*, errW_none, errW_some] <;> rfl), ue_ HB.out⟩
          rw [if_neg c22] at H
          exact absurd H (by simp)
         rw [if_neg c21] at H
         exact absurd H (by simp)
        rw [if_neg c19] at H
        have c19b0 : decide (0 < x3_2) = false := decide_eq_false c19
        clear c19
        have H' := Aside0.mk H
        clear H
        obtain ⟨hcz33_0, hcz33_1, hcz33_2, hcz33_3⟩ := cbz4_ BK121.out
        obtain ⟨hfz33_0, hfz33_1, hfz33_2, hfz33_3⟩ := bfz4_ BK121.out
        try go_wp2
        replace BK121 := am_ (blk_drew BK121.out)
        replace HB := am_ (below_drew1 HB.out)
        have p125 : 0 ≤ (x3_2 : Int) := of_decide_eq_true ua_
        have q125 : x3_2 < (l0_0.length : Int) := of_decide_eq_true ua_
        obtain ⟨ad125, e125, hx125_0, hx125_1, hx125_2, hx125_3, hx125_4, hx125_5⟩ := at_T62 HR0_0.out x3_2 p125 q125
        have hw125_5 := hx125_5
        have hw125_4 := hx125_4
        have hw125_3 := hx125_3
        have hw125_2 := hx125_2
        have hw125_1 := hx125_1
        have hw125_0 := hx125_0
        cases e125
        replace hx125_0 := bc_ HB.out hx125_0
        replace hx125_1 := bc_ HB.out hx125_1
        replace hx125_2 := bc_ HB.out hx125_2
        replace hx125_3 := bc_ HB.out hx125_3
        replace hx125_4 := bc_ HB.out hx125_4
        replace hx125_5 := bc_ HB.out hx125_5
        replace p125 := eq_true p125
        replace q125 := eq_true q125
        refine start_ (n := 26) (S := fun w' => w'.cell? ⟨gb121, 0, none⟩ = some (.slice (some ad125) l0_0.length c0_0) ∧ w'.cell? ⟨gb121, 1, none⟩ = some (.int .i64 a0_1) ∧ w'.cell? ⟨gb121, 2, none⟩ = some (.int .i64 a0_2) ∧ w'.cell? ⟨gb121, 3, none⟩ = some (.int .i64 a0_3) ∧ w'.cell? (ad125.add ((x3_2).toNat * 6)) = some (.int .i64 ((rd_T62 l0_0 x3_2).f0)) ∧ w'.cell? ⟨(ad125.add ((x3_2).toNat * 6)).block, (ad125.add ((x3_2).toNat * 6)).off + 1, none⟩ = some (.int .i64 ((rd_T62 l0_0 x3_2).f1)) ∧ w'.cell? ⟨(ad125.add ((x3_2).toNat * 6)).block, (ad125.add ((x3_2).toNat * 6)).off + 2, none⟩ = some (.int .i64 ((rd_T62 l0_0 x3_2).f2)) ∧ w'.cell? ⟨(ad125.add ((x3_2).toNat * 6)).block, (ad125.add ((x3_2).toNat * 6)).off + 3, none⟩ = some (.int .i64 ((rd_T62 l0_0 x3_2).f3)) ∧ w'.cell? ⟨(ad125.add ((x3_2).toNat * 6)).block, (ad125.add ((x3_2).toNat * 6)).off + 4, none⟩ = some (.int .i64 ((rd_T62 l0_0 x3_2).f4)) ∧ w'.cell? ⟨(ad125.add ((x3_2).toNat * 6)).block, (ad125.add ((x3_2).toNat * 6)).off + 5, none⟩ = some (.int .i64 ((rd_T62 l0_0 x3_2).f5))) (ds := []) #[false, false, false, false, false, false, false, false, false, false, false, false, false, false, false, false, false, false, false, false, false, false, false, false, false, false] (by kernel_rfl) rfl rfl ⟨cb_ BK121.out 0 rfl, cb_ BK121.out 1 rfl, cb_ BK121.out 2 rfl, cb_ BK121.out 3 rfl, bc_ HB.out hw125_0, bc_ HB.out hw125_1, bc_ HB.out hw125_2, bc_ HB.out hw125_3, bc_ HB.out hw125_4, bc_ HB.out hw125_5⟩ (fun hHeld => ?_); refine with_tabW spec_ShardOk.tab6 spec_ShardOk.bits6 (fun HT_ HW_ => ?_)
        generalize wr.drew = w34 at BK121 HB hx125_0 hx125_1 hx125_2 hx125_3 hx125_4 hx125_5 hHeld ⊢
        refine pu_ (i := 0) (N := some 33) #[true, false, false, false, false, false, false, false, false, false, false, false, false, false, false, false, false, false, false, false, false, false, false, false, false, false] HT_ ?_
        refine pu_ (i := 2) (N := some 35) #[true, false, true, false, false, false, false, false, false, false, false, false, false, false, false, false, false, false, false, false, false, false, false, false, false, false] HT_ ?_
        refine tk_ (i := 1) (N := some 34) #[true, true, true, false, false, false, false, false, false, false, false, false, false, false, false, false, false, false, false, false, false, false, false, false, false, false] HT_ HW_ hHeld ?_
        refine pu_ (i := 3) (N := some 36) #[true, true, true, true, false, false, false, false, false, false, false, false, false, false, false, false, false, false, false, false, false, false, false, false, false, false] HT_ ?_
        refine tk_ (i := 4) (N := some 37) #[true, true, true, true, true, false, false, false, false, false, false, false, false, false, false, false, false, false, false, false, false, false, false, false, false, false] HT_ HW_ hHeld ?_
        refine one_ (i := 5) (N := some 38) #[true, true, true, true, true, true, false, false, false, false, false, false, false, false, false, false, false, false, false, false, false, false, false, false, false, false] rfl rfl (one_of HT_.out (by kernel_rfl)) (by decide) (fun K hK => ?_)
        refine goes_ Try.func60 (by kernel_rfl) rfl #[.agg #[.int .i64 ((rd_T62 l0_0 x3_2).f0), .int .i64 ((rd_T62 l0_0 x3_2).f1), .int .i64 ((rd_T62 l0_0 x3_2).f2), .int .i64 ((rd_T62 l0_0 x3_2).f3), .int .i64 ((rd_T62 l0_0 x3_2).f4), .int .i64 ((rd_T62 l0_0 x3_2).f5)]] (by rfl) rfl rfl ul_ ?_
        with_reducible refine (spec_AggOk.calls ((rd_T62 l0_0 x3_2).f0) ((rd_T62 l0_0 x3_2).f1) ((rd_T62 l0_0 x3_2).f2) ((rd_T62 l0_0 x3_2).f3) ((rd_T62 l0_0 x3_2).f4) ((rd_T62 l0_0 x3_2).f5) true _ A17.out).mono ?_
        rintro e w35 ⟨rfl, hb⟩
        refine ⟨_, rfl, ?_⟩
        replace BK121 := bs_ BK121 hb
        replace HB := hs_ HB hb
        (try clear hb)
        (try clear hb2)
        (try clear hk)
        (try clear hi)
        refine hK.out _ _ ⟨cb_ BK121.out 0 rfl, cb_ BK121.out 1 rfl, cb_ BK121.out 2 rfl, cb_ BK121.out 3 rfl, bc_ HB.out hw125_0, bc_ HB.out hw125_1, bc_ HB.out hw125_2, bc_ HB.out hw125_3, bc_ HB.out hw125_4, bc_ HB.out hw125_5⟩ (fun hHeld => ?_)
        clear hK K
        refine norm_ (a' := ?_) ?_ ?_
        rotate_left
        ·
         show Act.put _ (some 38) _ = _
         simp only [Act.put, List.setIfInBounds_toArray, List.set_cons_zero, List.set_cons_succ, i64_w, i32_w]
         rfl
        refine pu_ (i := 6) (N := some 39) #[true, true, true, true, true, true, true, false, false, false, false, false, false, false, false, false, false, false, false, false, false, false, false, false, false, false] HT_ ?_
        refine pu_ (i := 7) (N := some 40) #[true, true, true, true, true, true, true, true, false, false, false, false, false, false, false, false, false, false, false, false, false, false, false, false, false, false] HT_ ?_
        refine pu_ (i := 8) (N := some 41) #[true, true, true, true, true, true, true, true, true, false, false, false, false, false, false, false, false, false, false, false, false, false, false, false, false, false] HT_ ?_
        refine pu_ (i := 9) (N := some 42) #[true, true, true, true, true, true, true, true, true, true, false, false, false, false, false, false, false, false, false, false, false, false, false, false, false, false] HT_ ?_
        refine pu_ (i := 10) (N := some 43) #[true, true, true, true, true, true, true, true, true, true, true, false, false, false, false, false, false, false, false, false, false, false, false, false, false, false] HT_ ?_
        refine pn_ (i := 11) (N := some 44) #[true, true, true, true, true, true, true, true, true, true, true, true, false, false, false, false, false, false, false, false, false, false, false, false, false, false] HT_ ?_
        refine pn_ (i := 12) (N := some 45) #[true, true, true, true, true, true, true, true, true, true, true, true, true, false, false, false, false, false, false, false, false, false, false, false, false, false] HT_ ?_
        refine pn_ (i := 13) (N := some 46) #[true, true, true, true, true, true, true, true, true, true, true, true, true, true, false, false, false, false, false, false, false, false, false, false, false, false] HT_ ?_
        refine pn_ (i := 14) (N := some 47) #[true, true, true, true, true, true, true, true, true, true, true, true, true, true, true, false, false, false, false, false, false, false, false, false, false, false] HT_ ?_
        refine pn_ (i := 15) (N := some 48) #[true, true, true, true, true, true, true, true, true, true, true, true, true, true, true, true, false, false, false, false, false, false, false, false, false, false] HT_ ?_
        refine pn_ (i := 16) (N := some 49) #[true, true, true, true, true, true, true, true, true, true, true, true, true, true, true, true, true, false, false, false, false, false, false, false, false, false] HT_ ?_
        refine pn_ (i := 17) (N := some 50) #[true, true, true, true, true, true, true, true, true, true, true, true, true, true, true, true, true, true, false, false, false, false, false, false, false, false] HT_ ?_
        refine pn_ (i := 18) (N := some 51) #[true, true, true, true, true, true, true, true, true, true, true, true, true, true, true, true, true, true, true, false, false, false, false, false, false, false] HT_ ?_
        refine pn_ (i := 19) (N := some 52) #[true, true, true, true, true, true, true, true, true, true, true, true, true, true, true, true, true, true, true, true, false, false, false, false, false, false] HT_ ?_
        refine pn_ (i := 20) (N := some 53) #[true, true, true, true, true, true, true, true, true, true, true, true, true, true, true, true, true, true, true, true, true, false, false, false, false, false] HT_ ?_
        refine pn_ (i := 21) (N := some 54) #[true, true, true, true, true, true, true, true, true, true, true, true, true, true, true, true, true, true, true, true, true, true, false, false, false, false] HT_ ?_
        refine pn_ (i := 22) (N := some 55) #[true, true, true, true, true, true, true, true, true, true, true, true, true, true, true, true, true, true, true, true, true, true, true, false, false, false] HT_ ?_
        refine pn_ (i := 23) (N := some 56) #[true, true, true, true, true, true, true, true, true, true, true, true, true, true, true, true, true, true, true, true, true, true, true, true, false, false] HT_ ?_
        refine pu_ (i := 24) (N := some 57) #[true, true, true, true, true, true, true, true, true, true, true, true, true, true, true, true, true, true, true, true, true, true, true, true, true, false] HT_ ?_
        refine pu_ (i := 25) (N := some 58) #[true, true, true, true, true, true, true, true, true, true, true, true, true, true, true, true, true, true, true, true, true, true, true, true, true, true] HT_ ?_
        refine done_ (done_of HT_.out (by kernel_rfl)) ?_
        try go_wp2
        go_roundg k2
        case measure => have := HJ1.out; have := HK2.out; omega
        case rel => exact ⟨(wrap64 (x3_2 + 1)), (by first | rfl | (simp; done) | (simp [*]; done)), H', ⟨by have := HJ1.out; have := HK2.out; omega⟩, ⟨by (with_reducible repeat first|apply bn_|apply bd_|apply ba_); exact BK121.out⟩, ⟨ue_ HB.out⟩⟩
       replace c18 := Bool.eq_false_iff.mpr c18
       subst c18
       have H1 : (some false) = some r := by rw [if_neg (show ¬ (false = true) by decide)] at H; exact H
       clear H
       have H := H1
       clear H1
       obtain rfl := Option.some.inj H
       obtain ⟨hcz36_0, hcz36_1, hcz36_2, hcz36_3⟩ := cbz4_ BK121.out
       obtain ⟨hfz36_0, hfz36_1, hfz36_2, hfz36_3⟩ := bfz4_ BK121.out
       try go_wp2
       replace BK121 := am_ (blk_drew BK121.out)
       replace HB := am_ (below_drew1 HB.out)
       have p125 : 0 ≤ (x3_2 : Int) := of_decide_eq_true ua_
       have q125 : x3_2 < (l0_0.length : Int) := of_decide_eq_true ua_
       obtain ⟨ad125, e125, hx125_0, hx125_1, hx125_2, hx125_3, hx125_4, hx125_5⟩ := at_T62 HR0_0.out x3_2 p125 q125
       have hw125_5 := hx125_5
       have hw125_4 := hx125_4
       have hw125_3 := hx125_3
       have hw125_2 := hx125_2
       have hw125_1 := hx125_1
       have hw125_0 := hx125_0
       cases e125
       replace hx125_0 := bc_ HB.out hx125_0
       replace hx125_1 := bc_ HB.out hx125_1
       replace hx125_2 := bc_ HB.out hx125_2
       replace hx125_3 := bc_ HB.out hx125_3
       replace hx125_4 := bc_ HB.out hx125_4
       replace hx125_5 := bc_ HB.out hx125_5
       replace p125 := eq_true p125
       replace q125 := eq_true q125
       refine start_ (n := 26) (S := fun w' => w'.cell? ⟨gb121, 0, none⟩ = some (.slice (some ad125) l0_0.length c0_0) ∧ w'.cell? ⟨gb121, 1, none⟩ = some (.int .i64 a0_1) ∧ w'.cell? ⟨gb121, 2, none⟩ = some (.int .i64 a0_2) ∧ w'.cell? ⟨gb121, 3, none⟩ = some (.int .i64 a0_3) ∧ w'.cell? (ad125.add ((x3_2).toNat * 6)) = some (.int .i64 ((rd_T62 l0_0 x3_2).f0)) ∧ w'.cell? ⟨(ad125.add ((x3_2).toNat * 6)).block, (ad125.add ((x3_2).toNat * 6)).off + 1, none⟩ = some (.int .i64 ((rd_T62 l0_0 x3_2).f1)) ∧ w'.cell? ⟨(ad125.add ((x3_2).toNat * 6)).block, (ad125.add ((x3_2).toNat * 6)).off + 2, none⟩ = some (.int .i64 ((rd_T62 l0_0 x3_2).f2)) ∧ w'.cell? ⟨(ad125.add ((x3_2).toNat * 6)).block, (ad125.add ((x3_2).toNat * 6)).off + 3, none⟩ = some (.int .i64 ((rd_T62 l0_0 x3_2).f3)) ∧ w'.cell? ⟨(ad125.add ((x3_2).toNat * 6)).block, (ad125.add ((x3_2).toNat * 6)).off + 4, none⟩ = some (.int .i64 ((rd_T62 l0_0 x3_2).f4)) ∧ w'.cell? ⟨(ad125.add ((x3_2).toNat * 6)).block, (ad125.add ((x3_2).toNat * 6)).off + 5, none⟩ = some (.int .i64 ((rd_T62 l0_0 x3_2).f5))) (ds := []) #[false, false, false, false, false, false, false, false, false, false, false, false, false, false, false, false, false, false, false, false, false, false, false, false, false, false] (by kernel_rfl) rfl rfl ⟨cb_ BK121.out 0 rfl, cb_ BK121.out 1 rfl, cb_ BK121.out 2 rfl, cb_ BK121.out 3 rfl, bc_ HB.out hw125_0, bc_ HB.out hw125_1, bc_ HB.out hw125_2, bc_ HB.out hw125_3, bc_ HB.out hw125_4, bc_ HB.out hw125_5⟩ (fun hHeld => ?_); refine with_tabW spec_ShardOk.tab6 spec_ShardOk.bits6 (fun HT_ HW_ => ?_)
       generalize wr.drew = w37 at BK121 HB hx125_0 hx125_1 hx125_2 hx125_3 hx125_4 hx125_5 hHeld ⊢
       refine pu_ (i := 0) (N := some 33) #[true, false, false, false, false, false, false, false, false, false, false, false, false, false, false, false, false, false, false, false, false, false, false, false, false, false] HT_ ?_
       refine pu_ (i := 2) (N := some 35) #[true, false, true, false, false, false, false, false, false, false, false, false, false, false, false, false, false, false, false, false, false, false, false, false, false, false] HT_ ?_
       refine tk_ (i := 1) (N := some 34) #[true, true, true, false, false, false, false, false, false, false, false, false, false, false, false, false, false, false, false, false, false, false, false, false, false, false] HT_ HW_ hHeld ?_
       refine pu_ (i := 3) (N := some 36) #[true, true, true, true, false, false, false, false, false, false, false, false, false, false, false, false, false, false, false, false, false, false, false, false, false, false] HT_ ?_
       refine tk_ (i := 4) (N := some 37) #[true, true, true, true, true, false, false, false, false, false, false, false, false, false, false, false, false, false, false, false, false, false, false, false, false, false] HT_ HW_ hHeld ?_
       refine one_ (i := 5) (N := some 38) #[true, true, true, true, true, true, false, false, false, false, false, false, false, false, false, false, false, false, false, false, false, false, false, false, false, false] rfl rfl (one_of HT_.out (by kernel_rfl)) (by decide) (fun K hK => ?_)
       refine goes_ Try.func60 (by kernel_rfl) rfl #[.agg #[.int .i64 ((rd_T62 l0_0 x3_2).f0), .int .i64 ((rd_T62 l0_0 x3_2).f1), .int .i64 ((rd_T62 l0_0 x3_2).f2), .int .i64 ((rd_T62 l0_0 x3_2).f3), .int .i64 ((rd_T62 l0_0 x3_2).f4), .int .i64 ((rd_T62 l0_0 x3_2).f5)]] (by rfl) rfl rfl ul_ ?_
       with_reducible refine (spec_AggOk.calls ((rd_T62 l0_0 x3_2).f0) ((rd_T62 l0_0 x3_2).f1) ((rd_T62 l0_0 x3_2).f2) ((rd_T62 l0_0 x3_2).f3) ((rd_T62 l0_0 x3_2).f4) ((rd_T62 l0_0 x3_2).f5) false _ A17.out).mono ?_
       rintro e w38 ⟨rfl, hb⟩
       refine ⟨_, rfl, ?_⟩
       replace BK121 := bs_ BK121 hb
       replace HB := hs_ HB hb
       (try clear hb)
       (try clear hb2)
       (try clear hk)
       (try clear hi)
       refine hK.out _ _ ⟨cb_ BK121.out 0 rfl, cb_ BK121.out 1 rfl, cb_ BK121.out 2 rfl, cb_ BK121.out 3 rfl, bc_ HB.out hw125_0, bc_ HB.out hw125_1, bc_ HB.out hw125_2, bc_ HB.out hw125_3, bc_ HB.out hw125_4, bc_ HB.out hw125_5⟩ (fun hHeld => ?_)
       clear hK K
       refine norm_ (a' := ?_) ?_ ?_
       rotate_left
       ·
        show Act.put _ (some 38) _ = _
        simp only [Act.put, List.setIfInBounds_toArray, List.set_cons_zero, List.set_cons_succ, i64_w, i32_w]
        rfl
       refine pu_ (i := 6) (N := some 39) #[true, true, true, true, true, true, true, false, false, false, false, false, false, false, false, false, false, false, false, false, false, false, false, false, false, false] HT_ ?_
       refine pu_ (i := 7) (N := some 40) #[true, true, true, true, true, true, true, true, false, false, false, false, false, false, false, false, false, false, false, false, false, false, false, false, false, false] HT_ ?_
       refine pn_ (i := 8) (N := some 41) #[true, true, true, true, true, true, true, true, true, false, false, false, false, false, false, false, false, false, false, false, false, false, false, false, false, false] HT_ ?_
       refine pn_ (i := 9) (N := some 42) #[true, true, true, true, true, true, true, true, true, true, false, false, false, false, false, false, false, false, false, false, false, false, false, false, false, false] HT_ ?_
       refine pn_ (i := 10) (N := some 43) #[true, true, true, true, true, true, true, true, true, true, true, false, false, false, false, false, false, false, false, false, false, false, false, false, false, false] HT_ ?_
       refine pn_ (i := 11) (N := some 44) #[true, true, true, true, true, true, true, true, true, true, true, true, false, false, false, false, false, false, false, false, false, false, false, false, false, false] HT_ ?_
       refine pn_ (i := 12) (N := some 45) #[true, true, true, true, true, true, true, true, true, true, true, true, true, false, false, false, false, false, false, false, false, false, false, false, false, false] HT_ ?_
       refine pn_ (i := 13) (N := some 46) #[true, true, true, true, true, true, true, true, true, true, true, true, true, true, false, false, false, false, false, false, false, false, false, false, false, false] HT_ ?_
       refine pn_ (i := 14) (N := some 47) #[true, true, true, true, true, true, true, true, true, true, true, true, true, true, true, false, false, false, false, false, false, false, false, false, false, false] HT_ ?_
       refine pn_ (i := 15) (N := some 48) #[true, true, true, true, true, true, true, true, true, true, true, true, true, true, true, true, false, false, false, false, false, false, false, false, false, false] HT_ ?_
       refine pn_ (i := 16) (N := some 49) #[true, true, true, true, true, true, true, true, true, true, true, true, true, true, true, true, true, false, false, false, false, false, false, false, false, false] HT_ ?_
       refine pn_ (i := 17) (N := some 50) #[true, true, true, true, true, true, true, true, true, true, true, true, true, true, true, true, true, true, false, false, false, false, false, false, false, false] HT_ ?_
       refine pn_ (i := 18) (N := some 51) #[true, true, true, true, true, true, true, true, true, true, true, true, true, true, true, true, true, true, true, false, false, false, false, false, false, false] HT_ ?_
       refine pn_ (i := 19) (N := some 52) #[true, true, true, true, true, true, true, true, true, true, true, true, true, true, true, true, true, true, true, true, false, false, false, false, false, false] HT_ ?_
       refine pn_ (i := 20) (N := some 53) #[true, true, true, true, true, true, true, true, true, true, true, true, true, true, true, true, true, true, true, true, true, false, false, false, false, false] HT_ ?_
       refine pn_ (i := 21) (N := some 54) #[true, true, true, true, true, true, true, true, true, true, true, true, true, true, true, true, true, true, true, true, true, true, false, false, false, false] HT_ ?_
       refine pn_ (i := 22) (N := some 55) #[true, true, true, true, true, true, true, true, true, true, true, true, true, true, true, true, true, true, true, true, true, true, true, false, false, false] HT_ ?_
       refine pn_ (i := 23) (N := some 56) #[true, true, true, true, true, true, true, true, true, true, true, true, true, true, true, true, true, true, true, true, true, true, true, true, false, false] HT_ ?_
       refine pn_ (i := 24) (N := some 57) #[true, true, true, true, true, true, true, true, true, true, true, true, true, true, true, true, true, true, true, true, true, true, true, true, true, false] HT_ ?_
       refine pu_ (i := 25) (N := some 58) #[true, true, true, true, true, true, true, true, true, true, true, true, true, true, true, true, true, true, true, true, true, true, true, true, true, true] HT_ ?_
       refine done_ (done_of HT_.out (by kernel_rfl)) ?_
       try go_wp2
       go_ret
       exact ⟨ew_, ue_ HB.out⟩
      rw [if_neg c16] at H
      exact absurd H (by simp)
     rw [if_neg c15] at H
     have c15b0 : decide (x3_2 < (l0_0.length : Int)) = false := decide_eq_false c15
     clear c15
     obtain rfl := Option.some.inj H
     obtain ⟨hcz39_0, hcz39_1, hcz39_2, hcz39_3⟩ := cbz4_ BK121.out
     obtain ⟨hfz39_0, hfz39_1, hfz39_2, hfz39_3⟩ := bfz4_ BK121.out
     go_wp2
     go_ret
     exact ⟨ew_, ue_ HB.out⟩

end Go.Proofs.Ytaofcalmgodgjaa.QFnExactAddEvent
