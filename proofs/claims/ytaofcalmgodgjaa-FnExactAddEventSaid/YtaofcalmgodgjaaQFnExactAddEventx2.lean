/- The machine side of a law: Lean functions with the Go functions' answers and the walks that show it. No condition. -/
import Derived.Test.YtaofcalmgodgjaaQFnExactAddEventx0
namespace Go.Proofs.Ytaofcalmgodgjaa.QFnExactAddEvent
open Go.RowKit Go.Proofs.YtaofcalmgodgjaaW.PrintWords Go.Proofs.YtaofcalmgodgjaaW.PrintLast Go.Proofs.YtaofcalmgodgjaaW.PrintMore
attribute [local go_sem] max2_int min2_int max_two min_two max_three min_three max_four min_four   -- for this text's walks alone
set_option linter.unusedVariables false
set_option linter.unusedSimpArgs false

/-! ### laws_szAggS: function 22 -/
def laws_szAggS.f (l0 : List (S86)) (a1 : Int) : Option (Int) := if (wrap64 (a1 - (l0.length : Int))) < 0 then (some (-1)) else (some (wrap64 (a1 - (l0.length : Int))))
set_option maxHeartbeats 8000000 in
set_option maxRecDepth 100000 in
theorem laws_szAggS.calls (A0 : Option Addr) (c0 : Nat) (l0 : List (S86)) (a1 : Int) (r : Int) (w : World) (hr0 : Kd.C k86 w A0 l0.length l0) (hc0 : l0.length ≤ c0) (h : laws_szAggS.f l0 a1 = some r) :
  Calls Try.prog 22 #[.slice A0 l0.length c0, .int .i64 a1] w fun e w' => e = .returned (.int .i64 r) ∧ Drawn0 w w' := by
 have HR0 := Aside0.mk hr0
 have HC0 := Aside0.mk hc0
 clear hr0 hc0
 have H : (if (wrap64 (a1 - (l0.length : Int))) < 0 then (some (-1)) else (some (wrap64 (a1 - (l0.length : Int))))) = some r := h
 clear h
 by_cases c3 : (wrap64 (a1 - (l0.length : Int))) < 0
 ·
  rw [if_pos c3] at H
  have c3b0 : decide ((wrap64 (a1 - (l0.length : Int))) < 0) = true := decide_eq_true c3
  clear c3
  obtain rfl := Option.some.inj H
  go_enter Try.func22, Try.ntmps22
  go_wp2
  go_ret
  exact ⟨by first | rfl | (simp; done) | (simp [*]; done), by repeat (first | exact Drawn0.refl _ | apply Drawn0.step)⟩
 rw [if_neg c3] at H
 have c3b0 : decide ((wrap64 (a1 - (l0.length : Int))) < 0) = false := decide_eq_false c3
 clear c3
 obtain rfl := Option.some.inj H
 go_enter Try.func22, Try.ntmps22
 go_wp2
 go_ret
 exact ⟨by first | rfl | (simp; done) | (simp [*]; done), by repeat (first | exact Drawn0.refl _ | apply Drawn0.step)⟩

/-! ### laws_szShard: function 5 -/
def laws_szShard.f (l0_0 : List (S86)) (a0_1 : Int) (a0_2 : Int) (a0_3 : Int) (a1 : Int) : Option (Int) := (laws_szAggS.f l0_0 a1).bind fun t102 => (if t102 < 0 then (some (-1)) else (some t102))
set_option maxHeartbeats 8000000 in
set_option maxRecDepth 100000 in
theorem laws_szShard.calls (A0_0 : Option Addr) (c0_0 : Nat) (l0_0 : List (S86)) (a0_1 : Int) (a0_2 : Int) (a0_3 : Int) (a1 : Int) (r : Int) (w : World) (hr0_0 : Kd.C k86 w A0_0 l0_0.length l0_0) (hc0_0 : l0_0.length ≤ c0_0) (h : laws_szShard.f l0_0 a0_1 a0_2 a0_3 a1 = some r) :
  Calls Try.prog 5 #[.agg #[.slice A0_0 l0_0.length c0_0, .int .i64 a0_1, .int .i64 a0_2, .int .i64 a0_3], .int .i64 a1] w fun e w' => e = .returned (.int .i64 r) ∧ Below w.heap.size w w' := by
 have hu24 := Try.underlying24
 have HR0_0 := Aside0.mk hr0_0
 have HC0_0 := Aside0.mk hc0_0
 clear hr0_0 hc0_0
 have HB := am_ (Below.refl w.heap.size w)
 have H : ((laws_szAggS.f l0_0 a1).bind fun t102 => (if t102 < 0 then (some (-1)) else (some t102))) = some r := h
 clear h
 replace H := Option.bind_eq_some_iff.mp H
 obtain ⟨t102, A30, H⟩ := H
 replace H : (if t102 < 0 then (some (-1)) else (some t102)) = some r := H
 have A3 := Aside0.mk A30
 clear A30
 by_cases c4 : t102 < 0
 ·
  rw [if_pos c4] at H
  have c4b0 : decide (t102 < 0) = true := decide_eq_true c4
  clear c4
  obtain rfl := Option.some.inj H
  go_enter Try.func5, Try.ntmps5
  go_wp2_with (first | ((with_reducible refine gate_dst (N := 2) rfl ?_); refine bx_ (N := 2) (cs := #[.slice A0_0 l0_0.length c0_0, .int .i64 a0_1, .int .i64 a0_2, .int .i64 a0_3]) (t := 24) ?_; intro gb101 hg w5 hbox hb; have BK101 := am_ (hbox); have GW101 := gs_ hg HB.out; have GE101 := gs_ hg HB.out; replace HB := hs_ HB hb; clear hb hbox hg; obtain ⟨hcz6_0, hcz6_1, hcz6_2, hcz6_3⟩ := cb4_ BK101.out; obtain ⟨hfz6_0, hfz6_1, hfz6_2⟩ := bf3_ BK101.out; have hfz6_3 := blk_frozen BK101.out 3) | ((with_reducible refine gate_callee (f := 22) rfl ?_); refine goesL_ (some 8) rfl rfl Try.func22 (by kernel_rfl) rfl #[.slice A0_0 l0_0.length c0_0, .int .i64 a1] rfl ul_ ?_; (with_reducible refine (laws_szAggS.calls _ _ l0_0 a1 t102 _ ?side1 ?side2 A3.out).mono ?_); (case side1 => repeat (first | exact (Kd.C_below HR0_0.out HB.out) | (with_reducible refine Kd.C_alloc ?_ _) | (with_reducible refine Kd.C_drewN ?_ _) | (with_reducible refine Kd.C_drew ?_))); (case side2 => exact HC0_0.out); rintro e w' ⟨rfl, ⟨nd, rfl⟩⟩; refine ⟨_, rfl, ?_⟩))
  go_ret
  exact ⟨ew_, ue_ HB.out⟩
 rw [if_neg c4] at H
 have c4b0 : decide (t102 < 0) = false := decide_eq_false c4
 clear c4
 obtain rfl := Option.some.inj H
 go_enter Try.func5, Try.ntmps5
 go_wp2_with (first | ((with_reducible refine gate_dst (N := 2) rfl ?_); refine bx_ (N := 2) (cs := #[.slice A0_0 l0_0.length c0_0, .int .i64 a0_1, .int .i64 a0_2, .int .i64 a0_3]) (t := 24) ?_; intro gb101 hg w7 hbox hb; have BK101 := am_ (hbox); have GW101 := gs_ hg HB.out; have GE101 := gs_ hg HB.out; replace HB := hs_ HB hb; clear hb hbox hg; obtain ⟨hcz8_0, hcz8_1, hcz8_2, hcz8_3⟩ := cb4_ BK101.out; obtain ⟨hfz8_0, hfz8_1, hfz8_2⟩ := bf3_ BK101.out; have hfz8_3 := blk_frozen BK101.out 3) | ((with_reducible refine gate_callee (f := 22) rfl ?_); refine goesL_ (some 8) rfl rfl Try.func22 (by kernel_rfl) rfl #[.slice A0_0 l0_0.length c0_0, .int .i64 a1] rfl ul_ ?_; (with_reducible refine (laws_szAggS.calls _ _ l0_0 a1 t102 _ ?side1 ?side2 A3.out).mono ?_); (case side1 => repeat (first | exact (Kd.C_below HR0_0.out HB.out) | (with_reducible refine Kd.C_alloc ?_ _) | (with_reducible refine Kd.C_drewN ?_ _) | (with_reducible refine Kd.C_drew ?_))); (case side2 => exact HC0_0.out); rintro e w' ⟨rfl, ⟨nd, rfl⟩⟩; refine ⟨_, rfl, ?_⟩))
 go_ret
 exact ⟨ew_, ue_ HB.out⟩

/-! ### spec_l05Copy: function 23 -/
def spec_l05Copy.l0 : Nat → Int → List (S62) → Int → Int → Int → List (S62) → Int → Int → Int → Option ((List (S62)) × Int × Int × Int)
 | 0, _, _, _, _, _, _, _, _, _ => none
 | k + 1, x4, x104000, x104001, x104002, x104003, x106000, x106001, x106002, x106003 => if x4 < (x104000.length : Int) then (if 0 ≤ x4 then (if x106000.length < 2932031007402 then (spec_l05Copy.l0 k (wrap64 (x4 + 1)) x104000 x104001 x104002 x104003 (x106000 ++ [(⟨(rd_T62 x104000 x4).f0, (rd_T62 x104000 x4).f1, (rd_T62 x104000 x4).f2, (rd_T62 x104000 x4).f3, (rd_T62 x104000 x4).f4, (rd_T62 x104000 x4).f5⟩ : S62)]) x106001 x106002 x106003) else (none)) else (none)) else (some (x106000, x106001, x106002, x106003))
def spec_l05Copy.f (k : Nat) (l0_0 : List (S62)) (a0_1 : Int) (a0_2 : Int) (a0_3 : Int) : Option ((List (S62)) × Int × Int × Int) := spec_l05Copy.l0 k 0 l0_0 a0_1 a0_2 a0_3 ([] : List (S62)) a0_1 a0_2 a0_3
theorem spec_l05Copy.mono_l : ∀ k, (∀ y0 y1 y2 y3 y4 y5 y6 y7 y8, LeO (spec_l05Copy.l0 k y0 y1 y2 y3 y4 y5 y6 y7 y8) (spec_l05Copy.l0 (k + 1) y0 y1 y2 y3 y4 y5 y6 y7 y8))
 | 0 => fun _ _ _ _ _ _ _ _ _ r h => by simp [spec_l05Copy.l0] at h
 | k + 1 => by
  have ih0 := spec_l05Copy.mono_l k
  intro y0 y1 y2 y3 y4 y5 y6 y7 y8
  unfold spec_l05Copy.l0
  repeat' first
  | (with_reducible exact ih0 _ _ _ _ _ _ _ _ _)
  | (with_reducible exact LeO.refl _)
  | (with_reducible exact LeO.none _)
  | (with_reducible refine LeO.ite ?_ ?_)
  | (with_reducible refine LeO.bind ?_ (fun _ => ?_))
  | exact ih0 _ _ _ _ _ _ _ _ _
  | exact LeO.none _
  | refine LeO.ite ?_ ?_
  | refine LeO.bind ?_ (fun _ => ?_)
theorem spec_l05Copy.mono : ∀ a0 a1 a2 a3 k, LeO (spec_l05Copy.f k a0 a1 a2 a3) (spec_l05Copy.f (k + 1) a0 a1 a2 a3) := by
 intro a0 a1 a2 a3 k
 have ih0 := spec_l05Copy.mono_l k
 unfold spec_l05Copy.f
 repeat' first
   | (with_reducible exact ih0 _ _ _ _ _ _ _ _ _)
   | (with_reducible exact LeO.refl _)
   | (with_reducible exact LeO.none _)
   | (with_reducible refine LeO.ite ?_ ?_)
   | (with_reducible refine LeO.bind ?_ (fun _ => ?_))
   | exact ih0 _ _ _ _ _ _ _ _ _
   | exact LeO.none _
   | refine LeO.ite ?_ ?_
   | refine LeO.bind ?_ (fun _ => ?_)
def spec_l05Copy.T5 : Bool × List (List Nat × List Nat) := (true, [([], []), ([0], [0]), ([], []), ([2], [2]), ([], []), ([3, 4], [3, 4]), ([5], [5]), ([6], [6]), ([1, 7], [1, 7]), ([0, 1, 2, 3, 4, 5, 6, 7, 8], []), ([9, 8, 8, 0, 1, 2, 3, 4, 5, 6, 7, 8], [8, 9])])
def spec_l05Copy.B5 : List Nat := [0, 1, 0, 4, 0, 28, 60, 124, 255, 511, 1023]
theorem spec_l05Copy.tab5 : rtab .any (opsOf Try.f23 5) = spec_l05Copy.T5 := by kernel_rfl
theorem spec_l05Copy.bits5 : waitsOk spec_l05Copy.T5.2 spec_l05Copy.B5 = true := by kernel_rfl
set_option maxHeartbeats 8000000 in
set_option maxRecDepth 100000 in
theorem spec_l05Copy.calls (k : Nat) (A0_0 : Option Addr) (c0_0 : Nat) (l0_0 : List (S62)) (a0_1 : Int) (a0_2 : Int) (a0_3 : Int) (r1 : List (S62)) (r2 : Int) (r3 : Int) (r4 : Int) (w : World) (hr0_0 : Kd.C k62 w A0_0 l0_0.length l0_0) (hc0_0 : l0_0.length ≤ c0_0) (h : spec_l05Copy.f k l0_0 a0_1 a0_2 a0_3 = some (r1, r2, r3, r4)) :
  Calls Try.prog 23 #[.agg #[.slice A0_0 l0_0.length c0_0, .int .i64 a0_1, .int .i64 a0_2, .int .i64 a0_3]] w fun e w' => ∃ v0_ : Value, e = .returned (.agg #[v0_, .int .i64 r2, .int .i64 r3, .int .i64 r4]) ∧ Kd.R k62 62 w' w.heap.size (fun _ => True) v0_ r1 ∧ Below w.heap.size w w' := by
 have hu30 := Try.underlying30
 have hu62 := Try.underlying62
 have HR0_0 := Aside0.mk hr0_0
 have HC0_0 := Aside0.mk hc0_0
 clear hr0_0 hc0_0
 have HB := am_ (Below.refl w.heap.size w)
 have H : (spec_l05Copy.l0 k 0 l0_0 a0_1 a0_2 a0_3 ([] : List (S62)) a0_1 a0_2 a0_3) = some (r1, r2, r3, r4) := h
 clear h
 have H' := Aside0.mk H
 clear H
 go_enter Try.func23, Try.ntmps23
 go_wp2_with (first | ((with_reducible refine gate_dst (N := 1) rfl ?_); refine bx_ (N := 1) (cs := #[.slice A0_0 l0_0.length c0_0, .int .i64 a0_1, .int .i64 a0_2, .int .i64 a0_3]) (t := 30) ?_; intro gb103 hg w2 hbox hb; have BK103 := am_ (hbox); have GW103 := gs_ hg HB.out; have GE103 := gs_ hg HB.out; replace HB := hs_ HB hb; clear hb hbox hg) | ((with_reducible refine gate_dst (N := 2) rfl ?_); refine bx_ (N := 2) (cs := #[.slice none 0 0, .int .i64 0, .int .i64 0, .int .i64 0]) (t := 30) ?_; intro gb104 hg w3 hbox hb; have BK104 := am_ (hbox); have GW104 := gs_ hg HB.out; have GE104 := gs_ hg HB.out; replace HB := hs_ HB hb; have NB103_104 := nl_ hg BK103.out; have NB104_103 := ng_ hg BK103.out; replace BK103 := bs_ BK103 hb; clear hb hbox hg; have hnb4 := NB103_104.out; have hnc4 := NB104_103.out; obtain ⟨hcz5_0, hcz5_1, hcz5_2, hcz5_3⟩ := cb4_ BK103.out; obtain ⟨hfz5_0, hfz5_1, hfz5_2⟩ := bf3_ BK103.out; have hfz5_3 := blk_frozen BK103.out 3) | ((with_reducible refine gate_dst (N := 3) rfl ?_); refine bx_ (N := 3) (cs := #[.slice none 0 0, .int .i64 0, .int .i64 0, .int .i64 0]) (t := 30) ?_; intro gb105 hg w6 hbox hb; have BK105 := am_ (hbox); have GW105 := gs_ hg HB.out; have GE105 := gs_ hg HB.out; replace HB := hs_ HB hb; have NB103_105 := nl_ hg BK103.out; have NB105_103 := ng_ hg BK103.out; replace BK103 := bs_ BK103 hb; have NB104_105 := nl_ hg BK104.out; have NB105_104 := ng_ hg BK104.out; replace BK104 := bs_ BK104 hb; clear hb hbox hg; have hnb7 := NB105_103.out; have hnc7 := NB103_105.out; have hnb8 := NB105_104.out; have hnc8 := NB104_105.out; obtain ⟨hcz9_0, hcz9_1, hcz9_2, hcz9_3⟩ := cb4_ BK105.out; obtain ⟨hfz9_0, hfz9_1, hfz9_2⟩ := bf3_ BK105.out; have hfz9_3 := blk_frozen BK105.out 3) | ((with_reducible refine gate_store (t := 30) (p := 3) rfl ?_); refine st_ (w1 := ((((w6.setCell ⟨gb105, 0, none⟩ (.slice none 0 0)).setCell ⟨gb105, 1, none⟩ (.int .i64 a0_1)).setCell ⟨gb105, 2, none⟩ (.int .i64 a0_2)).setCell ⟨gb105, 3, none⟩ (.int .i64 a0_3))) ?_; intro w10 hw; replace BK103 := uk_ hw BK103.out; replace BK104 := uk_ hw BK104.out; replace BK105 : Aside0 (w10.heap[gb105]? = some (.cells #[.slice none 0 0, .int .i64 a0_1, .int .i64 a0_2, .int .i64 a0_3] 30 (0, 0))) := ⟨(by rw [hw]; exact (by (with_reducible repeat first|apply bn_|apply bd_|apply ba_); apply bp4_; (with_reducible repeat first|apply bn_|apply bd_|apply ba_); exact BK105.out))⟩; replace HB := uh_ hw HB.out; clear hw))
 (try simp only [Act.put, List.setIfInBounds_toArray, List.set_cons_zero, List.set_cons_succ])
 go_loopg [4] k (fun kq v4 w' => ∃ (x4_1 : Int) (x106000_1 : List (S62)) (u106000 : Value), v4 = .int .i64 x4_1 ∧ Aside0 (spec_l05Copy.l0 kq x4_1 l0_0 a0_1 a0_2 a0_3 x106000_1 a0_1 a0_2 a0_3 = some (r1, r2, r3, r4)) ∧ Aside0 (kq ≤ k) ∧ Aside0 (Kd.R k62 62 w' w.heap.size (fun _ => True) u106000 x106000_1) ∧ Aside0 (w'.heap[gb103]? = some (.cells #[(.slice A0_0 l0_0.length c0_0), .int .i64 a0_1, .int .i64 a0_2, .int .i64 a0_3] 30 (0, 0))) ∧ Aside0 (w'.heap[gb104]? = some (.cells #[(.slice none 0 0), .int .i64 0, .int .i64 0, .int .i64 0] 30 (0, 0))) ∧ Aside0 (w'.heap[gb105]? = some (.cells #[u106000, .int .i64 a0_1, .int .i64 a0_2, .int .i64 a0_3] 30 (0, 0))) ∧ Aside0 (Below w.heap.size w w'))
 case atStart => exact ⟨(0), (([] : List (S62))), (.slice none 0 0), (by first | rfl | (simp; done) | (simp [*]; done)), H', ⟨Nat.le_refl _⟩, ⟨by first | exact Kd.R_nil _ _ _ _ _ | exact Kd.N_nil _ _ _ _ _ | exact Kd.V_nil _ _ _ _ _ | exact Kd.Q_nil _ _ _ _ _ | exact Kd.S_nil _ _ _ _ _⟩, ⟨by (with_reducible repeat first|apply bn_|apply bd_|apply ba_); exact BK103.out⟩, ⟨by (with_reducible repeat first|apply bn_|apply bd_|apply ba_); exact BK104.out⟩, ⟨by (with_reducible repeat first|apply bn_|apply bd_|apply ba_); exact BK105.out⟩, ⟨ue_ HB.out⟩⟩
 case round =>
  clear H'
  try clear c2
  try clear p2
  try clear c4
  try clear c7
  try clear c8
  try clear hcz5_0
  try clear hcz5_1
  try clear hcz5_2
  try clear hcz5_3
  try clear hcz9_0
  try clear hcz9_1
  try clear hcz9_2
  try clear hcz9_3
  try clear hfz5_0
  try clear hfz5_1
  try clear hfz5_2
  try clear hfz5_3
  try clear hfz9_0
  try clear hfz9_1
  try clear hfz9_2
  try clear hfz9_3
  obtain ⟨x4_1, x106000_1, u106000, rfl, HA, HK1, HO_106000, BK103, BK104, BK105, HB⟩ := hrel
  cases gk with
  | zero => exact absurd HA.out (by simp [spec_l05Copy.l0])
  | succ k1 =>
   have H := HA.out
   clear HA
   simp only [spec_l05Copy.l0] at H
   by_cases c11 : x4_1 < (l0_0.length : Int)
   ·
    rw [if_pos c11] at H
    have c11b0 : decide (x4_1 < (l0_0.length : Int)) = true := decide_eq_true c11
    clear c11
    by_cases c12 : 0 ≤ x4_1
    ·
     rw [if_pos c12] at H
     have c12b0 : decide (0 ≤ x4_1) = true := decide_eq_true c12
     clear c12
     by_cases c13 : x106000_1.length < 2932031007402
     ·
      rw [if_pos c13] at H
      have LMc13 := Aside0.mk c13
      clear c13
      obtain ⟨y107, hy107⟩ : ∃ y_ : List (S62), y_ = (x106000_1 ++ [(⟨(rd_T62 l0_0 x4_1).f0, (rd_T62 l0_0 x4_1).f1, (rd_T62 l0_0 x4_1).f2, (rd_T62 l0_0 x4_1).f3, (rd_T62 l0_0 x4_1).f4, (rd_T62 l0_0 x4_1).f5⟩ : S62)]) := ⟨_, rfl⟩
      replace H : (spec_l05Copy.l0 k1 (wrap64 (x4_1 + 1)) l0_0 a0_1 a0_2 a0_3 y107 a0_1 a0_2 a0_3) = some (r1, r2, r3, r4) := by first | (rw [hy107]; with_reducible exact H) | (have H2_ := (Option.bind_some _ _).symm.trans H; rw [hy107]; with_reducible exact H2_) | (have H2_ := (Option.bind_some _ _).symm.trans H; with_reducible exact H2_) | with_reducible exact H | (rw [hy107]; exact H) | exact H
      have Ny107 := Aside0.mk hy107
      clear hy107
      have H' := Aside0.mk H
      clear H
      have hnb14 := NB103_104.out
      have hnc14 := NB104_103.out
      have hnb15 := NB103_105.out
      have hnc15 := NB105_103.out
      obtain ⟨hcz16_0, hcz16_1, hcz16_2, hcz16_3⟩ := cbz4_ BK103.out
      obtain ⟨hfz16_0, hfz16_1, hfz16_2, hfz16_3⟩ := bfz4_ BK103.out
      try go_wp2
      replace HO_106000 := am_ (Kd.R_drew HO_106000.out)
      replace BK103 := am_ (blk_drew BK103.out)
      replace BK104 := am_ (blk_drew BK104.out)
      replace BK105 := am_ (blk_drew BK105.out)
      replace HB := am_ (below_drew1 HB.out)
      have p106 : 0 ≤ (x4_1 : Int) := of_decide_eq_true ua_
      have q106 : x4_1 < (l0_0.length : Int) := of_decide_eq_true ua_
      obtain ⟨ad106, e106, hx106_0, hx106_1, hx106_2, hx106_3, hx106_4, hx106_5⟩ := at_T62 HR0_0.out x4_1 p106 q106
      have hw106_5 := hx106_5
      have hw106_4 := hx106_4
      have hw106_3 := hx106_3
      have hw106_2 := hx106_2
      have hw106_1 := hx106_1
      have hw106_0 := hx106_0
      cases e106
      replace hx106_0 := bc_ HB.out hx106_0
      replace hx106_1 := bc_ HB.out hx106_1
      replace hx106_2 := bc_ HB.out hx106_2
      replace hx106_3 := bc_ HB.out hx106_3
      replace hx106_4 := bc_ HB.out hx106_4
      replace hx106_5 := bc_ HB.out hx106_5
      replace p106 := eq_true p106
      replace q106 := eq_true q106
      refine start_ (n := 11) (S := fun w' => w'.cell? ⟨gb105, 0, none⟩ = some (u106000) ∧ w'.cell? ⟨gb105, 1, none⟩ = some (.int .i64 a0_1) ∧ w'.cell? ⟨gb105, 2, none⟩ = some (.int .i64 a0_2) ∧ w'.cell? ⟨gb105, 3, none⟩ = some (.int .i64 a0_3) ∧ w'.cell? ⟨gb103, 0, none⟩ = some (.slice (some ad106) l0_0.length c0_0) ∧ w'.cell? ⟨gb103, 1, none⟩ = some (.int .i64 a0_1) ∧ w'.cell? ⟨gb103, 2, none⟩ = some (.int .i64 a0_2) ∧ w'.cell? ⟨gb103, 3, none⟩ = some (.int .i64 a0_3) ∧ w'.cell? (ad106.add ((x4_1).toNat * 6)) = some (.int .i64 ((rd_T62 l0_0 x4_1).f0)) ∧ w'.cell? ⟨(ad106.add ((x4_1).toNat * 6)).block, (ad106.add ((x4_1).toNat * 6)).off + 1, none⟩ = some (.int .i64 ((rd_T62 l0_0 x4_1).f1)) ∧ w'.cell? ⟨(ad106.add ((x4_1).toNat * 6)).block, (ad106.add ((x4_1).toNat * 6)).off + 2, none⟩ = some (.int .i64 ((rd_T62 l0_0 x4_1).f2)) ∧ w'.cell? ⟨(ad106.add ((x4_1).toNat * 6)).block, (ad106.add ((x4_1).toNat * 6)).off + 3, none⟩ = some (.int .i64 ((rd_T62 l0_0 x4_1).f3)) ∧ w'.cell? ⟨(ad106.add ((x4_1).toNat * 6)).block, (ad106.add ((x4_1).toNat * 6)).off + 4, none⟩ = some (.int .i64 ((rd_T62 l0_0 x4_1).f4)) ∧ w'.cell? ⟨(ad106.add ((x4_1).toNat * 6)).block, (ad106.add ((x4_1).toNat * 6)).off + 5, none⟩ = some (.int .i64 ((rd_T62 l0_0 x4_1).f5))) (ds := [10]) #[false, false, false, false, false, false, false, false, false, false, false] (by kernel_rfl) rfl rfl ⟨cb_ BK105.out 0 rfl, cb_ BK105.out 1 rfl, cb_ BK105.out 2 rfl, cb_ BK105.out 3 rfl, cb_ BK103.out 0 rfl, cb_ BK103.out 1 rfl, cb_ BK103.out 2 rfl, cb_ BK103.out 3 rfl, bc_ HB.out hw106_0, bc_ HB.out hw106_1, bc_ HB.out hw106_2, bc_ HB.out hw106_3, bc_ HB.out hw106_4, bc_ HB.out hw106_5⟩ (fun hHeld => ?_); refine with_tabW spec_l05Copy.tab5 spec_l05Copy.bits5 (fun HT_ HW_ => ?_)
      generalize wr.drew = w17 at HO_106000 BK103 BK104 BK105 HB hx106_0 hx106_1 hx106_2 hx106_3 hx106_4 hx106_5 hHeld ⊢
      refine pu_ (i := 0) (N := some 19) #[true, false, false, false, false, false, false, false, false, false, false] HT_ ?_
      refine pu_ (i := 2) (N := some 21) #[true, false, true, false, false, false, false, false, false, false, false] HT_ ?_
      refine pu_ (i := 4) (N := some 23) #[true, false, true, false, true, false, false, false, false, false, false] HT_ ?_
      refine tk_ (i := 1) (N := some 20) #[true, true, true, false, true, false, false, false, false, false, false] HT_ HW_ hHeld ?_
      refine tk_ (i := 3) (N := some 22) #[true, true, true, true, true, false, false, false, false, false, false] HT_ HW_ hHeld ?_
      refine pu_ (i := 5) (N := some 24) #[true, true, true, true, true, true, false, false, false, false, false] HT_ ?_
      refine tk_ (i := 6) (N := some 25) #[true, true, true, true, true, true, true, false, false, false, false] HT_ HW_ hHeld ?_
      refine one_ (i := 7) (N := some 26) #[true, true, true, true, true, true, true, true, false, false, false] rfl rfl (one_of HT_.out (by kernel_rfl)) (by decide) (fun K hK => ?_)
      refine value_ (w1 := ?_) (v := ?_) (by rfl) rfl ?_ ?_
      rotate_left 2
      ·
       go_simp
       constructor
       ·
        rfl
       rfl
      refine hK.out _ _ ⟨(blk_cell (blk_alloc BK105.out _) 0).trans rfl, (blk_cell (blk_alloc BK105.out _) 1).trans rfl, (blk_cell (blk_alloc BK105.out _) 2).trans rfl, (blk_cell (blk_alloc BK105.out _) 3).trans rfl, (blk_cell (blk_alloc BK103.out _) 0).trans rfl, (blk_cell (blk_alloc BK103.out _) 1).trans rfl, (blk_cell (blk_alloc BK103.out _) 2).trans rfl, (blk_cell (blk_alloc BK103.out _) 3).trans rfl, (World.cell?_alloc_lt _ _ _ (World.block_lt_of_cell? _ _ (bc_ HB.out hw106_0))).trans (bc_ HB.out hw106_0), (World.cell?_alloc_lt _ _ _ (World.block_lt_of_cell? _ _ (bc_ HB.out hw106_1))).trans (bc_ HB.out hw106_1), (World.cell?_alloc_lt _ _ _ (World.block_lt_of_cell? _ _ (bc_ HB.out hw106_2))).trans (bc_ HB.out hw106_2), (World.cell?_alloc_lt _ _ _ (World.block_lt_of_cell? _ _ (bc_ HB.out hw106_3))).trans (bc_ HB.out hw106_3), (World.cell?_alloc_lt _ _ _ (World.block_lt_of_cell? _ _ (bc_ HB.out hw106_4))).trans (bc_ HB.out hw106_4), (World.cell?_alloc_lt _ _ _ (World.block_lt_of_cell? _ _ (bc_ HB.out hw106_5))).trans (bc_ HB.out hw106_5)⟩ (fun hHeld => ?_)
      clear hK K
      refine norm_ (a' := ?_) ?_ ?_
      rotate_left
      ·
       show Act.put _ (some 26) _ = _
       simp only [Act.put, List.setIfInBounds_toArray, List.set_cons_zero, List.set_cons_succ, i64_w, i32_w]
       rfl
      refine one_ (i := 8) (N := some 27) #[true, true, true, true, true, true, true, true, true, false, false] rfl rfl (one_of HT_.out (by kernel_rfl)) (by decide) (fun K hK => ?_)
      refine Kd.R_append_step k62 (w0 := w) w.heap.size (by rfl) (.tmp 20) (.tmp 26) 28 62 (.agg #[(.int .i64 0), (.int .i64 0), (.int .i64 0), (.int .i64 0), (.int .i64 0), (.int .i64 0)]) 48 rfl Try.underlying28 info62 rfl (by decide) (by omega) u106000 x106000_1 (⟨(rd_T62 l0_0 x4_1).f0, (rd_T62 l0_0 x4_1).f1, (rd_T62 l0_0 x4_1).f2, (rd_T62 l0_0 x4_1).f3, (rd_T62 l0_0 x4_1).f4, (rd_T62 l0_0 x4_1).f5⟩ : S62) [.int .i64 ((rd_T62 l0_0 x4_1).f0), .int .i64 ((rd_T62 l0_0 x4_1).f1), .int .i64 ((rd_T62 l0_0 x4_1).f2), .int .i64 ((rd_T62 l0_0 x4_1).f3), .int .i64 ((rd_T62 l0_0 x4_1).f4), .int .i64 ((rd_T62 l0_0 x4_1).f5)] (fun _ => True) (fun _ => False) rfl rfl ?aP (fun _ hk => hk.elim) ?aF ?aO ?aB ?aS ?aL ?_
      (case aP => exact k62_mkM _ _ _ (⟨(rd_T62 l0_0 x4_1).f0, (rd_T62 l0_0 x4_1).f1, (rd_T62 l0_0 x4_1).f2, (rd_T62 l0_0 x4_1).f3, (rd_T62 l0_0 x4_1).f4, (rd_T62 l0_0 x4_1).f5⟩ : S62))
      (case aB => exact (ue_ HB.out))
      (case aF => exact (fun _ _ => trivial))
      (case aO => exact (ur_ HO_106000.out))
      (case aS => exact (below_size (ue_ HB.out)))
      (case aL => have := LMc13.out; omega)
      intro v108 w18 ho hb hg hat
      rw [← Ny107.out] at ho
      replace BK103 := am_ (blk_grown (g := gb103) (o := .cells #[.slice (some ad106) l0_0.length c0_0, .int .i64 a0_1, .int .i64 a0_2, .int .i64 a0_3] 30 (0, 0)) (ub_ BK103.out) hg (Kd.R_ne HO_106000.out BK103.out (by decide)))
      replace BK104 := am_ (blk_grown (g := gb104) (o := .cells #[.slice none 0 0, .int .i64 0, .int .i64 0, .int .i64 0] 30 (0, 0)) (ub_ BK104.out) hg (Kd.R_ne HO_106000.out BK104.out (by decide)))
      replace BK105 := am_ (blk_grown (g := gb105) (o := .cells #[u106000, .int .i64 a0_1, .int .i64 a0_2, .int .i64 a0_3] 30 (0, 0)) (ub_ BK105.out) hg (Kd.R_ne HO_106000.out BK105.out (by decide)))
      replace HB := am_ (hb)
      have HO109 := am_ (ho)
      clear HO_106000
      clear ho hb hg hat
      obtain ⟨Ao19, co19, eo19⟩ := Kd.R_slice HO109.out
      (first | subst eo19 | (injection eo19 with f1_ f2_ f3_; have f4_ := f1_.symm; have f5_ := f3_.symm; clear f1_ f2_ f3_; subst f4_; subst f5_))
      refine hK.out _ _ ⟨cb_ BK105.out 0 rfl, cb_ BK105.out 1 rfl, cb_ BK105.out 2 rfl, cb_ BK105.out 3 rfl, cb_ BK103.out 0 rfl, cb_ BK103.out 1 rfl, cb_ BK103.out 2 rfl, cb_ BK103.out 3 rfl, bc_ HB.out hw106_0, bc_ HB.out hw106_1, bc_ HB.out hw106_2, bc_ HB.out hw106_3, bc_ HB.out hw106_4, bc_ HB.out hw106_5⟩ (fun hHeld => ?_)
      clear hK K
      refine norm_ (a' := ?_) ?_ ?_
      rotate_left
      ·
       show Act.put _ (some 27) _ = _
       simp only [Act.put, List.setIfInBounds_toArray, List.set_cons_zero, List.set_cons_succ, i64_w, i32_w]
       rfl
      refine pu_ (i := 9) (N := some 28) #[true, true, true, true, true, true, true, true, true, true, false] HT_ ?_
      refine last_ (i := 10) (N := none) #[true, true, true, true, true, true, true, true, true, true, true] rfl rfl (one_of HT_.out (by kernel_rfl)) (by decide) (fun K hK => ?_)
      have hs20 := cb_ BK105.out 0 rfl
      have hfs20 := blk_frozen BK105.out 0
      have hns20_0 := NB103_105.out
      have hns20_1 := NB104_105.out
      have hms20_0 := NB105_103.out
      have hms20_1 := NB105_104.out
      refine skip_ (w1 := ?_) (by rfl) rfl ?_ ?_
      rotate_left
      ·
       go_simp
       rfl
      refine hK.out _ _ ?_
      clear hK K
      refine done_ (done_of HT_.out (by kernel_rfl)) ?_
      try go_wp2
      go_roundg k1
      case measure => have := HK1.out; omega
      case rel => exact ⟨(wrap64 (x4_1 + 1)), (y107), (.slice Ao19 y107.length co19), (by first | rfl | (simp; done) | (simp [*]; done)), H', ⟨by have := HK1.out; omega⟩, ⟨by (with_reducible repeat (first | apply Kd.R_alloc | apply Kd.R_drewN | apply Kd.R_drew)); exact Kd.R_mono (Kd.R_far (p := ⟨gb105, 0, none⟩) (Kd.R_types HO109.out BK105.out (by decide)) h2_ (.slice Ao19 y107.length co19)) (fun _ hk => trivial)⟩, ⟨by (with_reducible repeat first|apply bn_|apply bd_|apply ba_); refine blk_far ?_ NB103_105.out _; (with_reducible repeat first|apply bn_|apply bd_|apply ba_); exact BK103.out⟩, ⟨by (with_reducible repeat first|apply bn_|apply bd_|apply ba_); refine blk_far ?_ NB104_105.out _; (with_reducible repeat first|apply bn_|apply bd_|apply ba_); exact BK104.out⟩, ⟨by (with_reducible repeat first|apply bn_|apply bd_|apply ba_); refine blk_put (cs := #[u106000, .int .i64 a0_1, .int .i64 a0_2, .int .i64 a0_3]) ?_ 0 _ rfl; (with_reducible repeat first|apply bn_|apply bd_|apply ba_); exact BK105.out⟩, ⟨ue_ HB.out⟩⟩
     rw [if_neg c13] at H
     exact absurd H (by simp)
    rw [if_neg c12] at H
    exact absurd H (by simp)
   rw [if_neg c11] at H
   have c11b0 : decide (x4_1 < (l0_0.length : Int)) = false := decide_eq_false c11
   clear c11
   simp only [Option.some.injEq, Prod.mk.injEq] at H
   obtain ⟨rfl, rfl, rfl, rfl⟩ := H
   have hnb21 := NB103_104.out
   have hnc21 := NB104_103.out
   have hnb22 := NB103_105.out
   have hnc22 := NB105_103.out
   obtain ⟨hcz23_0, hcz23_1, hcz23_2, hcz23_3⟩ := cbz4_ BK103.out
   obtain ⟨hfz23_0, hfz23_1, hfz23_2, hfz23_3⟩ := bfz4_ BK103.out
   have hnb24 := NB105_104.out
   have hnc24 := NB104_105.out
   obtain ⟨hcz25_0, hcz25_1, hcz25_2, hcz25_3⟩ := cbz4_ BK105.out
   obtain ⟨hfz25_0, hfz25_1, hfz25_2, hfz25_3⟩ := bfz4_ BK105.out
   obtain ⟨Ao26, co26, eo26⟩ := Kd.R_slice HO_106000.out
   subst eo26
   obtain ⟨hcz27_0, hcz27_1, hcz27_2, hcz27_3⟩ := cbz4_ BK104.out
   obtain ⟨hfz27_0, hfz27_1, hfz27_2, hfz27_3⟩ := bfz4_ BK104.out
   go_wp2_with (first | ((with_reducible refine gate_store (t := 30) (p := 2) rfl ?_); refine st_ (w1 := ((((wr.setCell ⟨gb104, 0, none⟩ (.slice Ao26 x106000_1.length co26)).setCell ⟨gb104, 1, none⟩ (.int .i64 a0_1)).setCell ⟨gb104, 2, none⟩ (.int .i64 a0_2)).setCell ⟨gb104, 3, none⟩ (.int .i64 a0_3))) ?_; intro w28 hw; replace HO_106000 : Aside0 (Kd.R k62 62 w28 w.heap.size (fun _ => True) (.slice Ao26 x106000_1.length co26) x106000_1) := ⟨(by rw [hw]; exact (by (with_reducible repeat (first | apply Kd.R_alloc | apply Kd.R_drewN | apply Kd.R_drew)); exact Kd.R_mono (Rf4_ (g := gb104) (Kd.R_types HO_106000.out BK104.out (by decide))) (fun _ hk => trivial)))⟩; replace BK103 := uk_ hw BK103.out; replace BK104 : Aside0 (w28.heap[gb104]? = some (.cells #[.slice Ao26 x106000_1.length co26, .int .i64 a0_1, .int .i64 a0_2, .int .i64 a0_3] 30 (0, 0))) := ⟨(by rw [hw]; exact (by (with_reducible repeat first|apply bn_|apply bd_|apply ba_); apply bp4_; (with_reducible repeat first|apply bn_|apply bd_|apply ba_); exact BK104.out))⟩; replace BK105 := uk_ hw BK105.out; replace HB := uh_ hw HB.out; clear hw))
   refine bodyPost_ret (results_cell_row rfl _ _ gb104 30 #[.slice Ao26 x106000_1.length co26, .int .i64 a0_1, .int .i64 a0_2, .int .i64 a0_3] (0, 0) _ rfl (ub_ BK104.out) Try.underlying30 rfl (by kernel_rfl)) rfl ?_
   exact ⟨_, ew_, by (with_reducible repeat (first | apply Kd.R_alloc | apply Kd.R_drewN | apply Kd.R_drew)); exact HO_106000.out, ue_ HB.out⟩

/-! ### spec_l01In: function 25 -/
def spec_l01In.f (a0 : Int) (a1 : Int) (a2 : Int) : Option (Bool) := if a1 ≤ a0 then (some (decide (a0 ≤ a2))) else (some false)
set_option maxHeartbeats 8000000 in
set_option maxRecDepth 100000 in
theorem spec_l01In.calls (a0 : Int) (a1 : Int) (a2 : Int) (r : Bool) (w : World) (h : spec_l01In.f a0 a1 a2 = some r) :
  Calls Try.prog 25 #[.int .i64 a0, .int .i64 a1, .int .i64 a2] w fun e w' => e = .returned (.bool r) ∧ Drawn0 w w' := by
 have H : (if a1 ≤ a0 then (some (decide (a0 ≤ a2))) else (some false)) = some r := h
 clear h
 by_cases c4 : a1 ≤ a0
 ·
  rw [if_pos c4] at H
  have c4b0 : decide (a1 ≤ a0) = true := decide_eq_true c4
  clear c4
  obtain rfl := Option.some.inj H
  go_enter Try.func25, Try.ntmps25
  go_wp2
  go_ret
  exact ⟨by first | rfl | (simp; done) | (simp [*]; done), by repeat (first | exact Drawn0.refl _ | apply Drawn0.step)⟩
 rw [if_neg c4] at H
 have c4b0 : decide (a1 ≤ a0) = false := decide_eq_false c4
 clear c4
 obtain rfl := Option.some.inj H
 go_enter Try.func25, Try.ntmps25
 go_wp2
 go_ret
 exact ⟨by first | rfl | (simp; done) | (simp [*]; done), by repeat (first | exact Drawn0.refl _ | apply Drawn0.step)⟩

/-! ### spec_l05Ahead: function 31 -/
def spec_l05Ahead.f (a0_0 : Int) (a0_1 : Int) (a0_2 : Int) (a0_3 : Int) (a0_4 : Int) (a0_5 : Int) (a1_0 : Int) (a1_1 : Int) (a1_2 : Int) (a1_3 : Int) (a1_4 : Int) (a1_5 : Int) : Option (Bool) := if a0_0 < a1_0 then (some true) else (if a0_0 = a1_0 then (some (decide (a0_1 < a1_1))) else (some false))
set_option maxHeartbeats 8000000 in
set_option maxRecDepth 100000 in
theorem spec_l05Ahead.calls (a0_0 : Int) (a0_1 : Int) (a0_2 : Int) (a0_3 : Int) (a0_4 : Int) (a0_5 : Int) (a1_0 : Int) (a1_1 : Int) (a1_2 : Int) (a1_3 : Int) (a1_4 : Int) (a1_5 : Int) (r : Bool) (w : World) (h : spec_l05Ahead.f a0_0 a0_1 a0_2 a0_3 a0_4 a0_5 a1_0 a1_1 a1_2 a1_3 a1_4 a1_5 = some r) :
  Calls Try.prog 31 #[.agg #[.int .i64 a0_0, .int .i64 a0_1, .int .i64 a0_2, .int .i64 a0_3, .int .i64 a0_4, .int .i64 a0_5], .agg #[.int .i64 a1_0, .int .i64 a1_1, .int .i64 a1_2, .int .i64 a1_3, .int .i64 a1_4, .int .i64 a1_5]] w fun e w' => e = .returned (.bool r) ∧ Below w.heap.size w w' := by
 have hu62 := Try.underlying62
 have HB := am_ (Below.refl w.heap.size w)
 have H : (if a0_0 < a1_0 then (some true) else (if a0_0 = a1_0 then (some (decide (a0_1 < a1_1))) else (some false))) = some r := h
 clear h
 by_cases c3 : a0_0 < a1_0
 ·
  rw [if_pos c3] at H
  have c3b0 : decide (a0_0 < a1_0) = true := decide_eq_true c3
  clear c3
  obtain rfl := Option.some.inj H
  go_enter Try.func31, Try.ntmps31
  go_wp2_with (first | ((with_reducible refine gate_dst (N := 2) rfl ?_); refine bx_ (N := 2) (cs := #[.int .i64 a0_0, .int .i64 a0_1, .int .i64 a0_2, .int .i64 a0_3, .int .i64 a0_4, .int .i64 a0_5]) (t := 62) ?_; intro gb110 hg w4 hbox hb; have BK110 := am_ (hbox); have GW110 := gs_ hg HB.out; have GE110 := gs_ hg HB.out; replace HB := hs_ HB hb; clear hb hbox hg) | ((with_reducible refine gate_dst (N := 3) rfl ?_); refine bx_ (N := 3) (cs := #[.int .i64 a1_0, .int .i64 a1_1, .int .i64 a1_2, .int .i64 a1_3, .int .i64 a1_4, .int .i64 a1_5]) (t := 62) ?_; intro gb111 hg w5 hbox hb; have BK111 := am_ (hbox); have GW111 := gs_ hg HB.out; have GE111 := gs_ hg HB.out; replace HB := hs_ HB hb; have NB110_111 := nl_ hg BK110.out; have NB111_110 := ng_ hg BK110.out; replace BK110 := bs_ BK110 hb; clear hb hbox hg; have hnb6 := NB110_111.out; have hnc6 := NB111_110.out; obtain ⟨hcz7_0, hcz7_1, hcz7_2, hcz7_3, hcz7_4, hcz7_5⟩ := cb6_ BK110.out; obtain ⟨hfz7_0, hfz7_1, hfz7_2, hfz7_3, hfz7_4, hfz7_5⟩ := bf6_ BK110.out; obtain ⟨hcz8_0, hcz8_1, hcz8_2, hcz8_3, hcz8_4, hcz8_5⟩ := cb6_ BK111.out; obtain ⟨hfz8_0, hfz8_1, hfz8_2, hfz8_3, hfz8_4⟩ := bf5_ BK111.out; have hfz8_5 := blk_frozen BK111.out 5))
  go_ret
  exact ⟨ew_, ue_ HB.out⟩
 rw [if_neg c3] at H
 have c3b0 : decide (a0_0 < a1_0) = false := decide_eq_false c3
 clear c3
 by_cases c9 : a0_0 = a1_0
 ·
  rw [if_pos c9] at H
  have c9b0 : (a0_0 == a1_0) = true := beq_iff_eq.mpr c9
  have c9b1 : (a0_0 != a1_0) = false := bne_eq_false_iff_eq.mpr c9
  clear c9
  obtain rfl := Option.some.inj H
  go_enter Try.func31, Try.ntmps31
  go_wp2_with (first | ((with_reducible refine gate_dst (N := 2) rfl ?_); refine bx_ (N := 2) (cs := #[.int .i64 a0_0, .int .i64 a0_1, .int .i64 a0_2, .int .i64 a0_3, .int .i64 a0_4, .int .i64 a0_5]) (t := 62) ?_; intro gb110 hg w10 hbox hb; have BK110 := am_ (hbox); have GW110 := gs_ hg HB.out; have GE110 := gs_ hg HB.out; replace HB := hs_ HB hb; clear hb hbox hg) | ((with_reducible refine gate_dst (N := 3) rfl ?_); refine bx_ (N := 3) (cs := #[.int .i64 a1_0, .int .i64 a1_1, .int .i64 a1_2, .int .i64 a1_3, .int .i64 a1_4, .int .i64 a1_5]) (t := 62) ?_; intro gb111 hg w11 hbox hb; have BK111 := am_ (hbox); have GW111 := gs_ hg HB.out; have GE111 := gs_ hg HB.out; replace HB := hs_ HB hb; have NB110_111 := nl_ hg BK110.out; have NB111_110 := ng_ hg BK110.out; replace BK110 := bs_ BK110 hb; clear hb hbox hg; have hnb12 := NB110_111.out; have hnc12 := NB111_110.out; obtain ⟨hcz13_0, hcz13_1, hcz13_2, hcz13_3, hcz13_4, hcz13_5⟩ := cb6_ BK110.out; obtain ⟨hfz13_0, hfz13_1, hfz13_2, hfz13_3, hfz13_4, hfz13_5⟩ := bf6_ BK110.out; obtain ⟨hcz14_0, hcz14_1, hcz14_2, hcz14_3, hcz14_4, hcz14_5⟩ := cb6_ BK111.out; obtain ⟨hfz14_0, hfz14_1, hfz14_2, hfz14_3, hfz14_4⟩ := bf5_ BK111.out; have hfz14_5 := blk_frozen BK111.out 5))
  go_ret
  exact ⟨ew_, ue_ HB.out⟩
 rw [if_neg c9] at H
 have c9b0 : (a0_0 == a1_0) = false := beq_eq_false_iff_ne.mpr c9
 have c9b1 : (a0_0 != a1_0) = true := bne_iff_ne.mpr c9
 obtain rfl := Option.some.inj H
 go_enter Try.func31, Try.ntmps31
 go_wp2_with (first | ((with_reducible refine gate_dst (N := 2) rfl ?_); refine bx_ (N := 2) (cs := #[.int .i64 a0_0, .int .i64 a0_1, .int .i64 a0_2, .int .i64 a0_3, .int .i64 a0_4, .int .i64 a0_5]) (t := 62) ?_; intro gb110 hg w15 hbox hb; have BK110 := am_ (hbox); have GW110 := gs_ hg HB.out; have GE110 := gs_ hg HB.out; replace HB := hs_ HB hb; clear hb hbox hg) | ((with_reducible refine gate_dst (N := 3) rfl ?_); refine bx_ (N := 3) (cs := #[.int .i64 a1_0, .int .i64 a1_1, .int .i64 a1_2, .int .i64 a1_3, .int .i64 a1_4, .int .i64 a1_5]) (t := 62) ?_; intro gb111 hg w16 hbox hb; have BK111 := am_ (hbox); have GW111 := gs_ hg HB.out; have GE111 := gs_ hg HB.out; replace HB := hs_ HB hb; have NB110_111 := nl_ hg BK110.out; have NB111_110 := ng_ hg BK110.out; replace BK110 := bs_ BK110 hb; clear hb hbox hg; have hnb17 := NB110_111.out; have hnc17 := NB111_110.out; obtain ⟨hcz18_0, hcz18_1, hcz18_2, hcz18_3, hcz18_4, hcz18_5⟩ := cb6_ BK110.out; obtain ⟨hfz18_0, hfz18_1, hfz18_2, hfz18_3, hfz18_4, hfz18_5⟩ := bf6_ BK110.out; obtain ⟨hcz19_0, hcz19_1, hcz19_2, hcz19_3, hcz19_4, hcz19_5⟩ := cb6_ BK111.out; obtain ⟨hfz19_0, hfz19_1, hfz19_2, hfz19_3, hfz19_4⟩ := bf5_ BK111.out; have hfz19_5 := blk_frozen BK111.out 5))
 go_ret
 exact ⟨ew_, ue_ HB.out⟩

/-! ### spec_l04Mark: function 59 -/
def spec_l04Mark.f (a0 : Int) : Option (Bool) := (spec_l01In.f a0 (-1) 1000000).bind fun t112 => (some t112)
set_option maxHeartbeats 8000000 in
set_option maxRecDepth 100000 in
theorem spec_l04Mark.calls (a0 : Int) (r : Bool) (w : World) (h : spec_l04Mark.f a0 = some r) :
  Calls Try.prog 59 #[.int .i64 a0] w fun e w' => e = .returned (.bool r) ∧ Drawn0 w w' := by
 have H : ((spec_l01In.f a0 (-1) 1000000).bind fun t112 => (some t112)) = some r := h
 clear h
 replace H := Option.bind_eq_some_iff.mp H
 obtain ⟨t112, A20, H⟩ := H
 replace H : (some t112) = some r := H
 have A2 := Aside0.mk A20
 clear A20
 obtain rfl := Option.some.inj H
 go_enter Try.func59, Try.ntmps59
 go_wp2_with (first | ((with_reducible refine gate_callee (f := 25) rfl ?_); refine goesL_ (some 4) rfl rfl Try.func25 (by kernel_rfl) rfl #[.int .i64 a0, .int .i64 (-1), .int .i64 1000000] rfl ul_ ?_; (with_reducible refine (spec_l01In.calls a0 (-1) 1000000 t112 _ A2.out).mono ?_); rintro e w' ⟨rfl, ⟨nd, rfl⟩⟩; refine ⟨_, rfl, ?_⟩))
 go_ret
 exact ⟨by first | rfl | (simp; done) | (simp [*]; done), by repeat (first | exact Drawn0.refl _ | apply Drawn0.step)⟩

/-! ### spec_l05Value: function 85 -/
def spec_l05Value.f (a0 : Int) : Option (Bool) := (spec_l01In.f a0 (-1000000) 1000000).bind fun t113 => (some t113)
set_option maxHeartbeats 8000000 in
set_option maxRecDepth 100000 in
theorem spec_l05Value.calls (a0 : Int) (r : Bool) (w : World) (h : spec_l05Value.f a0 = some r) :
  Calls Try.prog 85 #[.int .i64 a0] w fun e w' => e = .returned (.bool r) ∧ Drawn0 w w' := by
 have H : ((spec_l01In.f a0 (-1000000) 1000000).bind fun t113 => (some t113)) = some r := h
 clear h
 replace H := Option.bind_eq_some_iff.mp H
 obtain ⟨t113, A20, H⟩ := H
 replace H : (some t113) = some r := H
 have A2 := Aside0.mk A20
 clear A20
 obtain rfl := Option.some.inj H
 go_enter Try.func85, Try.ntmps85
 go_wp2_with (first | ((with_reducible refine gate_callee (f := 25) rfl ?_); refine goesL_ (some 4) rfl rfl Try.func25 (by kernel_rfl) rfl #[.int .i64 a0, .int .i64 (-1000000), .int .i64 1000000] rfl ul_ ?_; (with_reducible refine (spec_l01In.calls a0 (-1000000) 1000000 t113 _ A2.out).mono ?_); rintro e w' ⟨rfl, ⟨nd, rfl⟩⟩; refine ⟨_, rfl, ?_⟩))
 go_ret
 exact ⟨by first | rfl | (simp; done) | (simp [*]; done), by repeat (first | exact Drawn0.refl _ | apply Drawn0.step)⟩

/-! ### spec_AggOk: function 60 -/
def spec_AggOk.f (a0_0 : Int) (a0_1 : Int) (a0_2 : Int) (a0_3 : Int) (a0_4 : Int) (a0_5 : Int) : Option (Bool) := (spec_l01In.f a0_0 0 1000000).bind fun t115 => (if t115 = true then ((spec_l01In.f a0_1 0 65535).bind fun t116 => (if t116 = true then ((spec_l01In.f a0_2 1 1000000000).bind fun t117 => (if t117 = true then ((spec_l01In.f a0_3 (-1000000000) 1000000000).bind fun t118 => (if t118 = true then ((spec_l05Value.f a0_4).bind fun t119 => (if t119 = true then ((spec_l05Value.f a0_5).bind fun t120 => (if t120 = true then (some (decide (a0_4 ≤ a0_5))) else (some false))) else (some false))) else (some false))) else (some false))) else (some false))) else (some false))
set_option maxHeartbeats 8000000 in
set_option maxRecDepth 100000 in
theorem spec_AggOk.calls (a0_0 : Int) (a0_1 : Int) (a0_2 : Int) (a0_3 : Int) (a0_4 : Int) (a0_5 : Int) (r : Bool) (w : World) (h : spec_AggOk.f a0_0 a0_1 a0_2 a0_3 a0_4 a0_5 = some r) :
  Calls Try.prog 60 #[.agg #[.int .i64 a0_0, .int .i64 a0_1, .int .i64 a0_2, .int .i64 a0_3, .int .i64 a0_4, .int .i64 a0_5]] w fun e w' => e = .returned (.bool r) ∧ Below w.heap.size w w' := by
 have hu62 := Try.underlying62
 have HB := am_ (Below.refl w.heap.size w)
 have H : ((spec_l01In.f a0_0 0 1000000).bind fun t115 => (if t115 = true then ((spec_l01In.f a0_1 0 65535).bind fun t116 => (if t116 = true then ((spec_l01In.f a0_2 1 1000000000).bind fun t117 => (if t117 = true then ((spec_l01In.f a0_3 (-1000000000) 1000000000).bind fun t118 => (if t118 = true then ((spec_l05Value.f a0_4).bind fun t119 => (if t119 = true then ((spec_l05Value.f a0_5).bind fun t120 => (if t120 = true then (some (decide (a0_4 ≤ a0_5))) else (some false))) else (some false))) else (some false))) else (some false))) else (some false))) else (some false))) = some r := h
 clear h
 replace H := Option.bind_eq_some_iff.mp H
 obtain ⟨t115, A20, H⟩ := H
 replace H : (if t115 = true then ((spec_l01In.f a0_1 0 65535).bind fun t116 => (if t116 = true then ((spec_l01In.f a0_2 1 1000000000).bind fun t117 => (if t117 = true then ((spec_l01In.f a0_3 (-1000000000) 1000000000).bind fun t118 => (if t118 = true then ((spec_l05Value.f a0_4).bind fun t119 => (if t119 = true then ((spec_l05Value.f a0_5).bind fun t120 => (if t120 = true then (some (decide (a0_4 ≤ a0_5))) else (some false))) else (some false))) else (some false))) else (some false))) else (some false))) else (some false)) = some r := H
 have A2 := Aside0.mk A20
 clear A20
 by_cases c3 : t115 = true
 ·
  subst c3
  have H1 : ((spec_l01In.f a0_1 0 65535).bind fun t116 => (if t116 = true then ((spec_l01In.f a0_2 1 1000000000).bind fun t117 => (if t117 = true then ((spec_l01In.f a0_3 (-1000000000) 1000000000).bind fun t118 => (if t118 = true then ((spec_l05Value.f a0_4).bind fun t119 => (if t119 = true then ((spec_l05Value.f a0_5).bind fun t120 => (if t120 = true then (some (decide (a0_4 ≤ a0_5))) else (some false))) else (some false))) else (some false))) else (some false))) else (some false))) = some r := by rw [if_pos rfl] at H; exact H
  clear H
  have H := H1
  clear H1
  replace H := Option.bind_eq_some_iff.mp H
  obtain ⟨t116, A40, H⟩ := H
  replace H : (if t116 = true then ((spec_l01In.f a0_2 1 1000000000).bind fun t117 => (if t117 = true then ((spec_l01In.f a0_3 (-1000000000) 1000000000).bind fun t118 => (if t118 = true then ((spec_l05Value.f a0_4).bind fun t119 => (if t119 = true then ((spec_l05Value.f a0_5).bind fun t120 => (if t120 = true then (some (decide (a0_4 ≤ a0_5))) else (some false))) else (some false))) else (some false))) else (some false))) else (some false)) = some r := H
  have A4 := Aside0.mk A40
  clear A40
  by_cases c5 : t116 = true
  ·
   subst c5
   have H1 : ((spec_l01In.f a0_2 1 1000000000).bind fun t117 => (if t117 = true then ((spec_l01In.f a0_3 (-1000000000) 1000000000).bind fun t118 => (if t118 = true then ((spec_l05Value.f a0_4).bind fun t119 => (if t119 = true then ((spec_l05Value.f a0_5).bind fun t120 => (if t120 = true then (some (decide (a0_4 ≤ a0_5))) else (some false))) else (some false))) else (some false))) else (some false))) = some r := by rw [if_pos rfl] at H; exact H
   clear H
   have H := H1
   clear H1
   replace H := Option.bind_eq_some_iff.mp H
   obtain ⟨t117, A60, H⟩ := H
   replace H : (if t117 = true then ((spec_l01In.f a0_3 (-1000000000) 1000000000).bind fun t118 => (if t118 = true then ((spec_l05Value.f a0_4).bind fun t119 => (if t119 = true then ((spec_l05Value.f a0_5).bind fun t120 => (if t120 = true then (some (decide (a0_4 ≤ a0_5))) else (some false))) else (some false))) else (some false))) else (some false)) = some r := H
   have A6 := Aside0.mk A60
   clear A60
   by_cases c7 : t117 = true
   ·
    subst c7
    have H1 : ((spec_l01In.f a0_3 (-1000000000) 1000000000).bind fun t118 => (if t118 = true then ((spec_l05Value.f a0_4).bind fun t119 => (if t119 = true then ((spec_l05Value.f a0_5).bind fun t120 => (if t120 = true then (some (decide (a0_4 ≤ a0_5))) else (some false))) else (some false))) else (some false))) = some r := by rw [if_pos rfl] at H; exact H
    clear H
    have H := H1
    clear H1
    replace H := Option.bind_eq_some_iff.mp H
    obtain ⟨t118, A80, H⟩ := H
    replace H : (if t118 = true then ((spec_l05Value.f a0_4).bind fun t119 => (if t119 = true then ((spec_l05Value.f a0_5).bind fun t120 => (if t120 = true then (some (decide (a0_4 ≤ a0_5))) else (some false))) else (some false))) else (some false)) = some r := H
    have A8 := Aside0.mk A80
    clear A80
    by_cases c9 : t118 = true
    ·
     subst c9
     have H1 : ((spec_l05Value.f a0_4).bind fun t119 => (if t119 = true then ((spec_l05Value.f a0_5).bind fun t120 => (if t120 = true then (some (decide (a0_4 ≤ a0_5))) else (some false))) else (some false))) = some r := by rw [if_pos rfl] at H; exact H
     clear H
     have H := H1
     clear H1
     replace H := Option.bind_eq_some_iff.mp H
     obtain ⟨t119, A100, H⟩ := H
     replace H : (if t119 = true then ((spec_l05Value.f a0_5).bind fun t120 => (if t120 = true then (some (decide (a0_4 ≤ a0_5))) else (some false))) else (some false)) = some r := H
     have A10 := Aside0.mk A100
     clear A100
     by_cases c11 : t119 = true
     ·
      subst c11
      have H1 : ((spec_l05Value.f a0_5).bind fun t120 => (if t120 = true then (some (decide (a0_4 ≤ a0_5))) else (some false))) = some r := by rw [if_pos rfl] at H; exact H
      clear H
      have H := H1
      clear H1
      replace H := Option.bind_eq_some_iff.mp H
      obtain ⟨t120, A120, H⟩ := H
      replace H : (if t120 = true then (some (decide (a0_4 ≤ a0_5))) else (some false)) = some r := H
      have A12 := Aside0.mk A120
      clear A120
      by_cases c13 : t120 = true
      ·
       subst c13
       have H1 : (some (decide (a0_4 ≤ a0_5))) = some r := by rw [if_pos rfl] at H; exact H
       clear H
       have H := H1
       clear H1
       obtain rfl := Option.some.inj H
       go_enter Try.func60, Try.ntmps60
       go_wp2_with (first | ((with_reducible refine gate_dst (N := 1) rfl ?_); refine bx_ (N := 1) (cs := #[.int .i64 a0_0, .int .i64 a0_1, .int .i64 a0_2, .int .i64 a0_3, .int .i64 a0_4, .int .i64 a0_5]) (t := 62) ?_; intro gb114 hg w14 hbox hb; have BK114 := am_ (hbox); have GW114 := gs_ hg HB.out; have GE114 := gs_ hg HB.out; replace HB := hs_ HB hb; clear hb hbox hg; obtain ⟨hcz15_0, hcz15_1, hcz15_2, hcz15_3, hcz15_4, hcz15_5⟩ := cb6_ BK114.out; obtain ⟨hfz15_0, hfz15_1, hfz15_2, hfz15_3, hfz15_4⟩ := bf5_ BK114.out; have hfz15_5 := blk_frozen BK114.out 5) | ((with_reducible refine gate_callee (f := 25) rfl ?_); refine goesL_ (some 5) rfl rfl Try.func25 (by kernel_rfl) rfl #[.int .i64 a0_0, .int .i64 0, .int .i64 1000000] rfl ul_ ?_; (with_reducible refine (spec_l01In.calls a0_0 0 1000000 true _ A2.out).mono ?_); rintro e w' ⟨rfl, ⟨nd, rfl⟩⟩; refine ⟨_, rfl, ?_⟩) | (go_at_call 25; (with_reducible refine (spec_l01In.calls a0_1 0 65535 true _ A4.out).mono ?_); rintro e w' ⟨rfl, ⟨nd, rfl⟩⟩) | (go_at_call 25; (with_reducible refine (spec_l01In.calls a0_2 1 1000000000 true _ A6.out).mono ?_); rintro e w' ⟨rfl, ⟨nd, rfl⟩⟩) | (go_at_call 25; (with_reducible refine (spec_l01In.calls a0_3 (-1000000000) 1000000000 true _ A8.out).mono ?_); rintro e w' ⟨rfl, ⟨nd, rfl⟩⟩) | (go_at_call 85; (with_reducible refine (spec_l05Value.calls a0_4 true _ A10.out).mono ?_); rintro e w' ⟨rfl, ⟨nd, rfl⟩⟩) | (go_at_call 85; (with_reducible refine (spec_l05Value.calls a0_5 true _ A12.out).mono ?_); rintro e w' ⟨rfl, ⟨nd, rfl⟩⟩))
       go_ret
       exact ⟨ew_, ue_ HB.out⟩
      replace c13 := Bool.eq_false_iff.mpr c13
      subst c13
      have H1 : (some false) = some r := by rw [if_neg (show ¬ (false = true) by decide)] at H; exact H
      clear H
      have H := H1
      clear H1
      obtain rfl := Option.some.inj H
      go_enter Try.func60, Try.ntmps60
      go_wp2_with (first | ((with_reducible refine gate_dst (N := 1) rfl ?_); refine bx_ (N := 1) (cs := #[.int .i64 a0_0, .int .i64 a0_1, .int .i64 a0_2, .int .i64 a0_3, .int .i64 a0_4, .int .i64 a0_5]) (t := 62) ?_; intro gb114 hg w16 hbox hb; have BK114 := am_ (hbox); have GW114 := gs_ hg HB.out; have GE114 := gs_ hg HB.out; replace HB := hs_ HB hb; clear hb hbox hg; obtain ⟨hcz17_0, hcz17_1, hcz17_2, hcz17_3, hcz17_4, hcz17_5⟩ := cb6_ BK114.out; obtain ⟨hfz17_0, hfz17_1, hfz17_2, hfz17_3, hfz17_4⟩ := bf5_ BK114.out; have hfz17_5 := blk_frozen BK114.out 5) | ((with_reducible refine gate_callee (f := 25) rfl ?_); refine goesL_ (some 5) rfl rfl Try.func25 (by kernel_rfl) rfl #[.int .i64 a0_0, .int .i64 0, .int .i64 1000000] rfl ul_ ?_; (with_reducible refine (spec_l01In.calls a0_0 0 1000000 true _ A2.out).mono ?_); rintro e w' ⟨rfl, ⟨nd, rfl⟩⟩; refine ⟨_, rfl, ?_⟩) | (go_at_call 25; (with_reducible refine (spec_l01In.calls a0_1 0 65535 true _ A4.out).mono ?_); rintro e w' ⟨rfl, ⟨nd, rfl⟩⟩) | (go_at_call 25; (with_reducible refine (spec_l01In.calls a0_2 1 1000000000 true _ A6.out).mono ?_); rintro e w' ⟨rfl, ⟨nd, rfl⟩⟩) | (go_at_call 25; (with_reducible refine (spec_l01In.calls a0_3 (-1000000000) 1000000000 true _ A8.out).mono ?_); rintro e w' ⟨rfl, ⟨nd, rfl⟩⟩) | (go_at_call 85; (with_reducible refine (spec_l05Value.calls a0_4 true _ A10.out).mono ?_); rintro e w' ⟨rfl, ⟨nd, rfl⟩⟩) | (go_at_call 85; (with_reducible refine (spec_l05Value.calls a0_5 false _ A12.out).mono ?_); rintro e w' ⟨rfl, ⟨nd, rfl⟩⟩))
      go_ret
      exact ⟨ew_, ue_ HB.out⟩
     replace c11 := Bool.eq_false_iff.mpr c11
     subst c11
     have H1 : (some false) = some r := by rw [if_neg (show ¬ (false = true) by decide)] at H; exact H
     clear H
     have H := H1
     clear H1
     obtain rfl := Option.some.inj H
     go_enter Try.func60, Try.ntmps60
     go_wp2_with (first | ((with_reducible refine gate_dst (N := 1) rfl ?_); refine bx_ (N := 1) (cs := #[.int .i64 a0_0, .int .i64 a0_1, .int .i64 a0_2, .int .i64 a0_3, .int .i64 a0_4, .int .i64 a0_5]) (t := 62) ?_; intro gb114 hg w18 hbox hb; have BK114 := am_ (hbox); have GW114 := gs_ hg HB.out; have GE114 := gs_ hg HB.out; replace HB := hs_ HB hb; clear hb hbox hg; obtain ⟨hcz19_0, hcz19_1, hcz19_2, hcz19_3, hcz19_4, hcz19_5⟩ := cb6_ BK114.out; obtain ⟨hfz19_0, hfz19_1, hfz19_2, hfz19_3, hfz19_4⟩ := bf5_ BK114.out; have hfz19_5 := blk_frozen BK114.out 5) | ((with_reducible refine gate_callee (f := 25) rfl ?_); refine goesL_ (some 5) rfl rfl Try.func25 (by kernel_rfl) rfl #[.int .i64 a0_0, .int .i64 0, .int .i64 1000000] rfl ul_ ?_; (with_reducible refine (spec_l01In.calls a0_0 0 1000000 true _ A2.out).mono ?_); rintro e w' ⟨rfl, ⟨nd, rfl⟩⟩; refine ⟨_, rfl, ?_⟩) | (go_at_call 25; (with_reducible refine (spec_l01In.calls a0_1 0 65535 true _ A4.out).mono ?_); rintro e w' ⟨rfl, ⟨nd, rfl⟩⟩) | (go_at_call 25; (with_reducible refine (spec_l01In.calls a0_2 1 1000000000 true _ A6.out).mono ?_); rintro e w' ⟨rfl, ⟨nd, rfl⟩⟩) | (go_at_call 25; (with_reducible refine (spec_l01In.calls a0_3 (-1000000000) 1000000000 true _ A8.out).mono ?_); rintro e w' ⟨rfl, ⟨nd, rfl⟩⟩) | (go_at_call 85; (with_reducible refine (spec_l05Value.calls a0_4 false _ A10.out).mono ?_); rintro e w' ⟨rfl, ⟨nd, rfl⟩⟩))
     go_ret
     exact ⟨ew_, ue_ HB.out⟩
    replace c9 := Bool.eq_false_iff.mpr c9
    subst c9
    have H1 : (some false) = some r := by rw [if_neg (show ¬ (false = true) by decide)] at H; exact H
    clear H
    have H := H1
    clear H1
    obtain rfl := Option.some.inj H
    go_enter Try.func60, Try.ntmps60
    go_wp2_with (first | ((with_reducible refine gate_dst (N := 1) rfl ?_); refine bx_ (N := 1) (cs := #[.int .i64 a0_0, .int .i64 a0_1, .int .i64 a0_2, .int .i64 a0_3, .int .i64 a0_4, .int .i64 a0_5]) (t := 62) ?_; intro gb114 hg w20 hbox hb; have BK114 := am_ (hbox); have GW114 := gs_ hg HB.out; have GE114 := gs_ hg HB.out; replace HB := hs_ HB hb; clear hb hbox hg; obtain ⟨hcz21_0, hcz21_1, hcz21_2, hcz21_3, hcz21_4, hcz21_5⟩ := cb6_ BK114.out; obtain ⟨hfz21_0, hfz21_1, hfz21_2, hfz21_3, hfz21_4⟩ := bf5_ BK114.out; have hfz21_5 := blk_frozen BK114.out 5) | ((with_reducible refine gate_callee (f := 25) rfl ?_); refine goesL_ (some 5) rfl rfl Try.func25 (by kernel_rfl) rfl #[.int .i64 a0_0, .int .i64 0, .int .i64 1000000] rfl ul_ ?_; (with_reducible refine (spec_l01In.calls a0_0 0 1000000 true _ A2.out).mono ?_); rintro e w' ⟨rfl, ⟨nd, rfl⟩⟩; refine ⟨_, rfl, ?_⟩) | (go_at_call 25; (with_reducible refine (spec_l01In.calls a0_1 0 65535 true _ A4.out).mono ?_); rintro e w' ⟨rfl, ⟨nd, rfl⟩⟩) | (go_at_call 25; (with_reducible refine (spec_l01In.calls a0_2 1 1000000000 true _ A6.out).mono ?_); rintro e w' ⟨rfl, ⟨nd, rfl⟩⟩) | (go_at_call 25; (with_reducible refine (spec_l01In.calls a0_3 (-1000000000) 1000000000 false _ A8.out).mono ?_); rintro e w' ⟨rfl, ⟨nd, rfl⟩⟩))
    go_ret
    exact ⟨ew_, ue_ HB.out⟩
   replace c7 := Bool.eq_false_iff.mpr c7
   subst c7
   have H1 : (some false) = some r := by rw [if_neg (show ¬ (false = true) by decide)] at H; exact H
   clear H
   have H := H1
   clear H1
   obtain rfl := Option.some.inj H
   go_enter Try.func60, Try.ntmps60
   go_wp2_with (first | ((with_reducible refine gate_dst (N := 1) rfl ?_); refine bx_ (N := 1) (cs := #[.int .i64 a0_0, .int .i64 a0_1, .int .i64 a0_2, .int .i64 a0_3, .int .i64 a0_4, .int .i64 a0_5]) (t := 62) ?_; intro gb114 hg w22 hbox hb; have BK114 := am_ (hbox); have GW114 := gs_ hg HB.out; have GE114 := gs_ hg HB.out; replace HB := hs_ HB hb; clear hb hbox hg; obtain ⟨hcz23_0, hcz23_1, hcz23_2, hcz23_3, hcz23_4, hcz23_5⟩ := cb6_ BK114.out; obtain ⟨hfz23_0, hfz23_1, hfz23_2, hfz23_3, hfz23_4⟩ := bf5_ BK114.out; have hfz23_5 := blk_frozen BK114.out 5) | ((with_reducible refine gate_callee (f := 25) rfl ?_); refine goesL_ (some 5) rfl rfl Try.func25 (by kernel_rfl) rfl #[.int .i64 a0_0, .int .i64 0, .int .i64 1000000] rfl ul_ ?_; (with_reducible refine (spec_l01In.calls a0_0 0 1000000 true _ A2.out).mono ?_); rintro e w' ⟨rfl, ⟨nd, rfl⟩⟩; refine ⟨_, rfl, ?_⟩) | (go_at_call 25; (with_reducible refine (spec_l01In.calls a0_1 0 65535 true _ A4.out).mono ?_); rintro e w' ⟨rfl, ⟨nd, rfl⟩⟩) | (go_at_call 25; (with_reducible refine (spec_l01In.calls a0_2 1 1000000000 false _ A6.out).mono ?_); rintro e w' ⟨rfl, ⟨nd, rfl⟩⟩))
   go_ret
   exact ⟨ew_, ue_ HB.out⟩
  replace c5 := Bool.eq_false_iff.mpr c5
  subst c5
  have H1 : (some false) = some r := by rw [if_neg (show ¬ (false = true) by decide)] at H; exact H
  clear H
  have H := H1
  clear H1
  obtain rfl := Option.some.inj H
  go_enter Try.func60, Try.ntmps60
  go_wp2_with (first | ((with_reducible refine gate_dst (N := 1) rfl ?_); refine bx_ (N := 1) (cs := #[.int .i64 a0_0, .int .i64 a0_1, .int .i64 a0_2, .int .i64 a0_3, .int .i64 a0_4, .int .i64 a0_5]) (t := 62) ?_; intro gb114 hg w24 hbox hb; have BK114 := am_ (hbox); have GW114 := gs_ hg HB.out; have GE114 := gs_ hg HB.out; replace HB := hs_ HB hb; clear hb hbox hg; obtain ⟨hcz25_0, hcz25_1, hcz25_2, hcz25_3, hcz25_4, hcz25_5⟩ := cb6_ BK114.out; obtain ⟨hfz25_0, hfz25_1, hfz25_2, hfz25_3, hfz25_4⟩ := bf5_ BK114.out; have hfz25_5 := blk_frozen BK114.out 5) | ((with_reducible refine gate_callee (f := 25) rfl ?_); refine goesL_ (some 5) rfl rfl Try.func25 (by kernel_rfl) rfl #[.int .i64 a0_0, .int .i64 0, .int .i64 1000000] rfl ul_ ?_; (with_reducible refine (spec_l01In.calls a0_0 0 1000000 true _ A2.out).mono ?_); rintro e w' ⟨rfl, ⟨nd, rfl⟩⟩; refine ⟨_, rfl, ?_⟩) | (go_at_call 25; (with_reducible refine (spec_l01In.calls a0_1 0 65535 false _ A4.out).mono ?_); rintro e w' ⟨rfl, ⟨nd, rfl⟩⟩))
  go_ret
  exact ⟨ew_, ue_ HB.out⟩
 replace c3 := Bool.eq_false_iff.mpr c3
 subst c3
 have H1 : (some false) = some r := by rw [if_neg (show ¬ (false = true) by decide)] at H; exact H
 clear H
 have H := H1
 clear H1
 obtain rfl := Option.some.inj H
 go_enter Try.func60, Try.ntmps60
 go_wp2_with (first | ((with_reducible refine gate_dst (N := 1) rfl ?_); refine bx_ (N := 1) (cs := #[.int .i64 a0_0, .int .i64 a0_1, .int .i64 a0_2, .int .i64 a0_3, .int .i64 a0_4, .int .i64 a0_5]) (t := 62) ?_; intro gb114 hg w26 hbox hb; have BK114 := am_ (hbox); have GW114 := gs_ hg HB.out; have GE114 := gs_ hg HB.out; replace HB := hs_ HB hb; clear hb hbox hg; obtain ⟨hcz27_0, hcz27_1, hcz27_2, hcz27_3, hcz27_4, hcz27_5⟩ := cb6_ BK114.out; obtain ⟨hfz27_0, hfz27_1, hfz27_2, hfz27_3, hfz27_4⟩ := bf5_ BK114.out; have hfz27_5 := blk_frozen BK114.out 5) | ((with_reducible refine gate_callee (f := 25) rfl ?_); refine goesL_ (some 5) rfl rfl Try.func25 (by kernel_rfl) rfl #[.int .i64 a0_0, .int .i64 0, .int .i64 1000000] rfl ul_ ?_; (with_reducible refine (spec_l01In.calls a0_0 0 1000000 false _ A2.out).mono ?_); rintro e w' ⟨rfl, ⟨nd, rfl⟩⟩; refine ⟨_, rfl, ?_⟩))
 go_ret
 exact ⟨ew_, ue_ HB.out⟩

end Go.Proofs.Ytaofcalmgodgjaa.QFnExactAddEvent
