/- The machine side of a law: Lean functions with the Go functions' answers and the walks that show it. No condition. -/
import Derived.Test.YtcflalomjehiiaaQFnExactTakeNextx0
import Derived.Test.YtcflalomjehiiaaQFnExactTakeNextx10
namespace Go.Proofs.Ytcflalomjehiiaa.QFnExactTakeNext
open Go.RowKit Go.Proofs.YtcflalomjehiiaaW.PrintWords Go.Proofs.YtcflalomjehiiaaW.PrintLast Go.Proofs.YtcflalomjehiiaaW.PrintMore
attribute [local go_sem] max2_int min2_int max_two min_two max_three min_three max_four min_four   -- for this text's walks alone
set_option linter.unusedVariables false
set_option linter.unusedSimpArgs false

/-! ### impl_TakeNext: function 78 -/
def impl_TakeNext.j0 : Nat → Bool → List Int → Bool → Option (List Int × Bool × Int × Int × Int × Int × Int)
 | 0, _, _, _ => none
 | k + 1, x13, x378000, x378001 => if x13 = true then ((impl_ownDecoder.f x378000 x378001).bind fun bt381 => (some (bt381.1, bt381.2, 0, 0, 0, 0, 2))) else ((impl_TakeFrame.f k x378000).bind fun bt385 => (if bt385.2.2.2.2 = (-1) then (some (([] : List Int), true, 0, 0, 0, 0, 2)) else (if bt385.2.2.2.2 = 0 then ((impl_ownDecoder.f x378000 x378001).bind fun bt391 => (some (bt391.1, bt391.2, 0, 0, 0, 0, 1))) else (if 0 ≤ bt385.2.2.2.2 then (if bt385.2.2.2.2 ≤ (x378000.length : Int) then ((slices_Clone_byte_byte.f (x378000.drop (bt385.2.2.2.2 : Int).toNat)).bind fun t396 => (some (t396, false, bt385.1, bt385.2.1, bt385.2.2.1, bt385.2.2.2.1, 0))) else (none)) else (none)))))
def impl_TakeNext.f (k : Nat) (l0_0 : List Int) (a0_1 : Bool) : Option (List Int × Bool × Int × Int × Int × Int × Int) := (impl_DecoderOk.f l0_0 a0_1).bind fun t380 => (if t380 = true then (impl_TakeNext.j0 k a0_1 l0_0 a0_1) else (impl_TakeNext.j0 k true l0_0 a0_1))
theorem impl_TakeNext.mono_l : ∀ k, (∀ y0 y1 y2, LeO (impl_TakeNext.j0 k y0 y1 y2) (impl_TakeNext.j0 (k + 1) y0 y1 y2))
 | 0 => fun _ _ _ r h => by simp [impl_TakeNext.j0] at h
 | k + 1 => by
  have ih0 := impl_TakeNext.mono_l k
  ·
   intro y0 y1 y2
   unfold impl_TakeNext.j0
   repeat' first
   | (with_reducible exact ih0 _ _ _)
   | (with_reducible exact impl_TakeFrame.mono _ _)
   | (with_reducible exact LeO.refl _)
   | (with_reducible exact LeO.none _)
   | (with_reducible refine LeO.ite ?_ ?_)
   | (with_reducible refine LeO.bind ?_ (fun _ => ?_))
   | exact ih0 _ _ _
   | exact impl_TakeFrame.mono _ _
   | exact LeO.none _
   | refine LeO.ite ?_ ?_
   | refine LeO.bind ?_ (fun _ => ?_)
theorem impl_TakeNext.mono : ∀ a0 a1 k, LeO (impl_TakeNext.f k a0 a1) (impl_TakeNext.f (k + 1) a0 a1) := by
 intro a0 a1 k
 have ih0 := impl_TakeNext.mono_l k
 unfold impl_TakeNext.f
 repeat' first
   | (with_reducible exact ih0 _ _ _)
   | (with_reducible exact impl_TakeFrame.mono _ _)
   | (with_reducible exact LeO.refl _)
   | (with_reducible exact LeO.none _)
   | (with_reducible refine LeO.ite ?_ ?_)
   | (with_reducible refine LeO.bind ?_ (fun _ => ?_))
   | exact ih0 _ _ _
   | exact impl_TakeFrame.mono _ _
   | exact LeO.none _
   | refine LeO.ite ?_ ?_
   | refine LeO.bind ?_ (fun _ => ?_)
def impl_TakeNext.T9 : Bool × List (List Nat × List Nat) := (true, [([], []), ([0], [0]), ([], []), ([1, 2], [1, 2]), ([3], [3]), ([4], [4]), ([], []), ([5, 4, 0, 1, 2, 3, 4, 5], [5]), ([6, 7, 0, 1, 2, 3, 4, 5, 6, 7], [6]), ([8, 0, 1, 2, 3, 4, 5, 6, 7, 8], [])])
def impl_TakeNext.B9 : List Nat := [0, 1, 0, 7, 15, 31, 0, 63, 255, 511]
theorem impl_TakeNext.tab9 : rtab .any (opsOf Try.f78 9) = impl_TakeNext.T9 := by kernel_rfl
theorem impl_TakeNext.bits9 : waitsOk impl_TakeNext.T9.2 impl_TakeNext.B9 = true := by kernel_rfl
set_option maxHeartbeats 8000000 in
set_option maxRecDepth 100000 in
theorem impl_TakeNext.calls (k : Nat) (A0_0 : Option Addr) (c0_0 : Nat) (l0_0 : List Int) (a0_1 : Bool) (r1 : List Int) (r2 : Bool) (r3 : Int) (r4 : Int) (r5 : Int) (r6 : Int) (r7 : Int) (w : World) (hr0_0 : Kd.C (Kd.int .u8) w A0_0 l0_0.length l0_0) (hc0_0 : l0_0.length ≤ c0_0) (h : impl_TakeNext.f k l0_0 a0_1 = some (r1, r2, r3, r4, r5, r6, r7)) :
  Calls Try.prog 78 #[.agg #[.slice A0_0 l0_0.length c0_0, .bool a0_1]] w fun e w' => ∃ v0_ : Value, e = .returned (.tuple #[.agg #[v0_, .bool r2], .agg #[.int .i64 r3, .int .i64 r4, .int .i64 r5, .int .i64 r6], .int .i64 r7]) ∧ Kd.R (Kd.int .u8) 5 w' w.heap.size (fun _ => True) v0_ r1 ∧ Below w.heap.size w w' := by
 have hu102 := Try.underlying102
 have hu61 := Try.underlying61
 have HR0_0 := Aside0.mk hr0_0
 have HC0_0 := Aside0.mk hc0_0
 clear hr0_0 hc0_0
 have HB := am_ (Below.refl w.heap.size w)
 have H : ((impl_DecoderOk.f l0_0 a0_1).bind fun t380 => (if t380 = true then (impl_TakeNext.j0 k a0_1 l0_0 a0_1) else (impl_TakeNext.j0 k true l0_0 a0_1))) = some (r1, r2, r3, r4, r5, r6, r7) := h
 clear h
 have HC2 := Aside0.mk H
 clear H
 go_enter Try.func78, Try.ntmps78
 go_upto_region 1 with (first | ((with_reducible refine gate_dst (N := 1) rfl ?_); refine box_event ?hg (N := 1) ?hd (cs := #[.slice A0_0 l0_0.length c0_0, .bool a0_1]) (t := 102) ?hr ?_; (case hd => rfl); (case hg => rfl); (case hr => first | (go_simp; done) | (go_simp; rfl)); intro gb377 hg w3 hbox hb; have n0_ := am_ (below_step (ue_ HB.out) hb); have n1_ := am_ (hbox); have n2_ := am_ ((by rw [hg]; exact (below_size (ue_ HB.out)) : w.heap.size ≤ gb377)); have n3_ := am_ ((by rw [hg]; exact (below_size (ue_ HB.out)) : w.heap.size ≤ gb377)); clear HB; have HB := n0_; have BK377 := n1_; have GW377 := n2_; have GE377 := n3_; clear n0_ n1_ n2_ n3_; clear hb hbox hg) | ((with_reducible refine gate_dst (N := 2) rfl ?_); refine box_event ?hg (N := 2) ?hd (cs := #[.slice none 0 0, .bool false]) (t := 102) ?hr ?_; (case hd => rfl); (case hg => rfl); (case hr => first | (go_simp; done) | (go_simp; rfl)); intro gb378 hg w4 hbox hb; have n0_ := am_ (bb_ BK377.out hb); have n1_ := am_ (below_step (ue_ HB.out) hb); have n2_ := am_ (hbox); have n3_ := am_ ((by rw [hg]; exact (below_size (ue_ HB.out)) : w.heap.size ≤ gb378)); have n4_ := am_ ((by rw [hg]; exact (below_size (ue_ HB.out)) : w.heap.size ≤ gb378)); have n5_ := am_ ((by rw [hg]; exact Nat.ne_of_lt (bl_ BK377.out) : gb377 ≠ gb378)); have n6_ := am_ ((by rw [hg]; exact Nat.ne_of_gt (bl_ BK377.out) : gb378 ≠ gb377)); clear BK377 HB; have BK377 := n0_; have HB := n1_; have BK378 := n2_; have GW378 := n3_; have GE378 := n4_; have NB377_378 := n5_; have NB378_377 := n6_; clear n0_ n1_ n2_ n3_ n4_ n5_ n6_; clear hb hbox hg) | ((with_reducible refine gate_dst (N := 3) rfl ?_); refine box_event ?hg (N := 3) ?hd (cs := #[.int .i64 0, .int .i64 0, .int .i64 0, .int .i64 0]) (t := 61) ?hr ?_; (case hd => rfl); (case hg => rfl); (case hr => first | (go_simp; done) | (go_simp; rfl)); intro gb379 hg w5 hbox hb; have n0_ := am_ (bb_ BK377.out hb); have n1_ := am_ (bb_ BK378.out hb); have n2_ := am_ (below_step (ue_ HB.out) hb); have n3_ := am_ (hbox); have n4_ := am_ ((by rw [hg]; exact (below_size (ue_ HB.out)) : w.heap.size ≤ gb379)); have n5_ := am_ ((by rw [hg]; exact (below_size (ue_ HB.out)) : w.heap.size ≤ gb379)); have n6_ := am_ ((by rw [hg]; exact Nat.ne_of_lt (bl_ BK377.out) : gb377 ≠ gb379)); have n7_ := am_ ((by rw [hg]; exact Nat.ne_of_gt (bl_ BK377.out) : gb379 ≠ gb377)); have n8_ := am_ ((by rw [hg]; exact Nat.ne_of_lt (bl_ BK378.out) : gb378 ≠ gb379)); have n9_ := am_ ((by rw [hg]; exact Nat.ne_of_gt (bl_ BK378.out) : gb379 ≠ gb378)); clear BK377 BK378 HB; have BK377 := n0_; have BK378 := n1_; have HB := n2_; have BK379 := n3_; have GW379 := n4_; have GE379 := n5_; have NB377_379 := n6_; have NB379_377 := n7_; have NB378_379 := n8_; have NB379_378 := n9_; clear n0_ n1_ n2_ n3_ n4_ n5_ n6_ n7_ n8_ n9_; clear hb hbox hg))
 (try simp only [Act.put, List.setIfInBounds_toArray, List.set_cons_zero, List.set_cons_succ])
 go_cut [13] (fun v13 wc => ∃ (kq : Nat) (x13_1 : Bool), v13 = .bool x13_1 ∧ Aside0 (impl_TakeNext.j0 kq x13_1 l0_0 a0_1 = some (r1, r2, r3, r4, r5, r6, r7)) ∧ Aside0 (kq ≤ k) ∧ Aside0 (wc.heap[gb377]? = some (.cells #[(.slice A0_0 l0_0.length c0_0), .bool a0_1] 102 (0, 0))) ∧ Aside0 (wc.heap[gb378]? = some (.cells #[(.slice none 0 0), .bool false] 102 (0, 0))) ∧ Aside0 (wc.heap[gb379]? = some (.cells #[.int .i64 0, .int .i64 0, .int .i64 0, .int .i64 0] 61 (0, 0))) ∧ Aside0 (Below w.heap.size w wc))
 case first =>
  have H := HC2.out
  clear HC2
  replace H := Option.bind_eq_some_iff.mp H
  obtain ⟨t380, A60, H⟩ := H
  replace H : (if t380 = true then (impl_TakeNext.j0 k a0_1 l0_0 a0_1) else (impl_TakeNext.j0 k true l0_0 a0_1)) = some (r1, r2, r3, r4, r5, r6, r7) := H
  have A6 := Aside0.mk A60
  clear A60
  by_cases c7 : t380 = true
  ·
   subst c7
   have H1 : (impl_TakeNext.j0 k a0_1 l0_0 a0_1) = some (r1, r2, r3, r4, r5, r6, r7) := by rw [if_pos rfl] at H; exact H
   clear H
   have H := H1
   clear H1
   have H' := Aside0.mk H
   clear H
   have hnb8 := NB377_378.out
   have hnc8 := NB378_377.out
   have hnb9 := NB377_379.out
   have hnc9 := NB379_377.out
   have hcz10_0 := cb_ BK377.out 0 rfl
   have hcz10_1 := cb_ BK377.out 1 rfl
   have hfz10_0 := blk_frozen BK377.out 0
   have hfz10_1 := blk_frozen BK377.out 1
   go_wp2_with (first | ((with_reducible refine gate_callee (f := 152) rfl ?_); refine goesL_ (some 8) rfl rfl Try.func152 (by kernel_rfl) rfl #[.agg #[.slice A0_0 l0_0.length c0_0, .bool a0_1]] rfl ul_ ?_; (with_reducible refine (impl_DecoderOk.calls _ _ l0_0 a0_1 true _ ?side1 ?side2 A6.out).mono ?_); (case side1 => repeat (first | exact (Kd.C_below HR0_0.out HB.out) | (with_reducible refine Kd.C_alloc ?_ _) | (with_reducible refine Kd.C_drewN ?_ _) | (with_reducible refine Kd.C_drew ?_))); (case side2 => exact HC0_0.out); rintro e w11 ⟨rfl, hb⟩; refine ⟨_, rfl, ?_⟩; have n0_ := am_ (bb_ BK377.out hb); have n1_ := am_ (bb_ BK378.out hb); have n2_ := am_ (bb_ BK379.out hb); have n3_ := am_ (below_step (ue_ HB.out) hb); clear BK377 BK378 BK379 HB; have BK377 := n0_; have BK378 := n1_; have BK379 := n2_; have HB := n3_; clear n0_ n1_ n2_ n3_; (try clear hb); (try clear hb2); (try clear hk); (try clear hi); obtain ⟨hcz12_0, hcz12_1⟩ := cb2_ BK377.out; have hfz12_0 := blk_frozen BK377.out 0; have hfz12_1 := blk_frozen BK377.out 1))
   go_meet
   case rel => exact ⟨_, (a0_1), (by first | rfl | (simp; done) | (simp [*]; done)), H', ⟨by first | omega | exact Nat.le_refl _⟩, ⟨by (with_reducible repeat first|apply bn_|apply bd_|apply ba_); exact BK377.out⟩, ⟨by (with_reducible repeat first|apply bn_|apply bd_|apply ba_); exact BK378.out⟩, ⟨by (with_reducible repeat first|apply bn_|apply bd_|apply ba_); exact BK379.out⟩, ⟨ue_ HB.out⟩⟩
  ·
   replace c7 := Bool.eq_false_iff.mpr c7
   subst c7
   have H1 : (impl_TakeNext.j0 k true l0_0 a0_1) = some (r1, r2, r3, r4, r5, r6, r7) := by rw [if_neg (show ¬ (false = true) by decide)] at H; exact H
   clear H
   have H := H1
   clear H1
   have H' := Aside0.mk H
   clear H
   have hnb13 := NB377_378.out
   have hnc13 := NB378_377.out
   have hnb14 := NB377_379.out
   have hnc14 := NB379_377.out
   have hcz15_0 := cb_ BK377.out 0 rfl
   have hcz15_1 := cb_ BK377.out 1 rfl
   have hfz15_0 := blk_frozen BK377.out 0
   have hfz15_1 := blk_frozen BK377.out 1
   go_wp2_with (first | ((with_reducible refine gate_callee (f := 152) rfl ?_); refine goesL_ (some 8) rfl rfl Try.func152 (by kernel_rfl) rfl #[.agg #[.slice A0_0 l0_0.length c0_0, .bool a0_1]] rfl ul_ ?_; (with_reducible refine (impl_DecoderOk.calls _ _ l0_0 a0_1 false _ ?side1 ?side2 A6.out).mono ?_); (case side1 => repeat (first | exact (Kd.C_below HR0_0.out HB.out) | (with_reducible refine Kd.C_alloc ?_ _) | (with_reducible refine Kd.C_drewN ?_ _) | (with_reducible refine Kd.C_drew ?_))); (case side2 => exact HC0_0.out); rintro e w16 ⟨rfl, hb⟩; refine ⟨_, rfl, ?_⟩; have n0_ := am_ (bb_ BK377.out hb); have n1_ := am_ (bb_ BK378.out hb); have n2_ := am_ (bb_ BK379.out hb); have n3_ := am_ (below_step (ue_ HB.out) hb); clear BK377 BK378 BK379 HB; have BK377 := n0_; have BK378 := n1_; have BK379 := n2_; have HB := n3_; clear n0_ n1_ n2_ n3_; (try clear hb); (try clear hb2); (try clear hk); (try clear hi)))
   go_meet
   case rel => exact ⟨_, (true), (by first | rfl | (simp; done) | (simp [*]; done)), H', ⟨by first | omega | exact Nat.le_refl _⟩, ⟨by (with_reducible repeat first|apply bn_|apply bd_|apply ba_); exact BK377.out⟩, ⟨by (with_reducible repeat first|apply bn_|apply bd_|apply ba_); exact BK378.out⟩, ⟨by (with_reducible repeat first|apply bn_|apply bd_|apply ba_); exact BK379.out⟩, ⟨ue_ HB.out⟩⟩
 case rest =>
  clear HC2
  try clear c1
  try clear p2
  try clear c7
  try clear c8
  try clear c9
  try clear c13
  try clear c14
  try clear c15
  try clear hcz10_0
  try clear hcz10_1
  try clear hcz12_0
  try clear hcz12_1
  try clear hcz15_0
  try clear hcz15_1
  try clear hfz10_0
  try clear hfz10_1
  try clear hfz12_0
  try clear hfz12_1
  try clear hfz15_0
  try clear hfz15_1
  obtain ⟨kq, x13_1, rfl, HA, HJ1, BK377, BK378, BK379, HB⟩ := hcut
  cases kq with
  | zero => exact absurd HA.out (by simp [impl_TakeNext.j0])
  | succ kj1 =>
   have H := HA.out
   clear HA
   simp only [impl_TakeNext.j0] at H
   by_cases c17 : x13_1 = true
   ·
    subst c17
    have H1 : ((impl_ownDecoder.f l0_0 a0_1).bind fun bt381 => (some (bt381.1, bt381.2, 0, 0, 0, 0, 2))) = some (r1, r2, r3, r4, r5, r6, r7) := by rw [if_pos rfl] at H; exact H
    clear H
    have H := H1
    clear H1
    replace H := Option.bind_eq_some_iff.mp H
    obtain ⟨⟨t381, t384⟩, A180, H⟩ := H
    replace H : (some (t381, t384, 0, 0, 0, 0, 2)) = some (r1, r2, r3, r4, r5, r6, r7) := H
    have A18 := Aside0.mk A180
    clear A180
    simp only [Option.some.injEq, Prod.mk.injEq] at H
    obtain ⟨rfl, rfl, rfl, rfl, rfl, rfl, rfl⟩ := H
    have hnb19 := NB377_378.out
    have hnc19 := NB378_377.out
    have hnb20 := NB377_379.out
    have hnc20 := NB379_377.out
    have hcz21_0 := cb_ BK377.out 0 rfl
    have hcz21_1 := cb_ BK377.out 1 rfl
    have hfz21_0 := blk_frozen BK377.out 0
    have hfz21_1 := blk_frozen BK377.out 1
    go_wp2_with (first | ((with_reducible refine gate_callee (f := 153) rfl ?_); refine goesL_ (some 15) rfl rfl Try.func153 (by kernel_rfl) rfl #[.agg #[.slice A0_0 l0_0.length c0_0, .bool a0_1]] rfl ul_ ?_; (with_reducible refine (impl_ownDecoder.calls _ _ l0_0 a0_1 t381 t384 _ ?side1 ?side2 A18.out).mono ?_); (case side1 => repeat (first | exact (Kd.C_below HR0_0.out HB.out) | (with_reducible refine Kd.C_alloc ?_ _) | (with_reducible refine Kd.C_drewN ?_ _) | (with_reducible refine Kd.C_drew ?_))); (case side2 => exact HC0_0.out); rintro e w22 ⟨v382, rfl, ho0, hb⟩; refine ⟨_, rfl, ?_⟩; have n0_ := am_ (Kd.R_lower ho0 (below_size (ue_ HB.out))); have n1_ := am_ (bb_ BK377.out hb); have n2_ := am_ (bb_ BK378.out hb); have n3_ := am_ (bb_ BK379.out hb); have n4_ := am_ (below_step (ue_ HB.out) hb); clear BK377 BK378 BK379 HB; have HO383 := n0_; have BK377 := n1_; have BK378 := n2_; have BK379 := n3_; have HB := n4_; clear n0_ n1_ n2_ n3_ n4_; (try clear hb); (try clear hb2); (try clear hk); (try clear hi); (try clear ho0); obtain ⟨Ao23, co23, eo23⟩ := Kd.R_slice HO383.out; subst eo23; have hnb24 := NB378_379.out; have hnc24 := NB379_378.out; obtain ⟨hcz25_0, hcz25_1⟩ := cb2_ BK378.out; have hfz25_0 := blk_frozen BK378.out 0; have hfz25_1 := blk_frozen BK378.out 1) | ((with_reducible refine gate_store (t := 102) (p := 2) rfl ?_); refine store_event (t := 102) (p := 2) (v := ?vo_w26) (w1 := ((w22.setCell ⟨gb378, 0, none⟩ (.slice Ao23 t381.length co23)).setCell ⟨gb378, 1, none⟩ (.bool t384))) ?hg ?ho ?hn ?hr ?_; (case ho => rfl); (case hg => rfl); (case hn => rfl); (case hr => first | (go_simp; done) | (go_simp; rfl)); intro w26 hw; have n0_ : Aside0 (Kd.R (Kd.int .u8) 5 w26 w.heap.size (fun _ => True) (.slice Ao23 t381.length co23) t381) := ⟨(by rw [hw]; exact (by (with_reducible repeat (first | apply Kd.R_alloc | apply Kd.R_drewN | apply Kd.R_drew)); exact Kd.R_mono (Kd.R_far (p := ⟨gb378, 1, none⟩) (Kd.R_far (p := ⟨gb378, 0, none⟩) (Kd.R_types HO383.out BK378.out (by decide)) (fun _ hk => by first | exact hk.2 | grind) (.slice Ao23 t381.length co23)) (fun _ hk => by first | exact hk.2 | grind) (.bool t384)) (fun _ hk => trivial)))⟩; have n1_ : Aside0 (w26.heap[gb377]? = some (.cells #[.slice A0_0 l0_0.length c0_0, .bool a0_1] 102 (0, 0))) := ⟨(by rw [hw]; exact (uf_ BK377.out))⟩; have n2_ : Aside0 (w26.heap[gb378]? = some (.cells #[.slice Ao23 t381.length co23, .bool t384] 102 (0, 0))) := ⟨(by rw [hw]; exact (by (with_reducible repeat first|apply bn_|apply bd_|apply ba_); refine blk_put (cs := #[.slice Ao23 t381.length co23, .bool false]) ?_ 1 _ rfl; refine blk_put (cs := #[.slice none 0 0, .bool false]) ?_ 0 _ rfl; (with_reducible repeat first|apply bn_|apply bd_|apply ba_); exact BK378.out))⟩; have n3_ : Aside0 (w26.heap[gb379]? = some (.cells #[.int .i64 0, .int .i64 0, .int .i64 0, .int .i64 0] 61 (0, 0))) := ⟨(by rw [hw]; exact (uf_ BK379.out))⟩; have n4_ : Aside0 (Below w.heap.size w w26) := ⟨(by rw [hw]; exact (ue_ HB.out))⟩; clear hw HO383 BK377 BK378 BK379 HB; have HO383 := n0_; have BK377 := n1_; have BK378 := n2_; have BK379 := n3_; have HB := n4_; clear n0_ n1_ n2_ n3_ n4_; obtain ⟨hcz27_0, hcz27_1, hcz27_2, hcz27_3⟩ := cb4_ BK379.out; obtain ⟨hfz27_0, hfz27_1, hfz27_2⟩ := bf3_ BK379.out; have hfz27_3 := blk_frozen BK379.out 3) | ((with_reducible refine gate_store (t := 61) (p := 3) rfl ?_); refine store_event (t := 61) (p := 3) (v := ?vo_w28) (w1 := ((((w26.setCell ⟨gb379, 0, none⟩ (.int .i64 0)).setCell ⟨gb379, 1, none⟩ (.int .i64 0)).setCell ⟨gb379, 2, none⟩ (.int .i64 0)).setCell ⟨gb379, 3, none⟩ (.int .i64 0))) ?hg ?ho ?hn ?hr ?_; (case ho => rfl); (case hg => rfl); (case hn => rfl); (case hr => first | (go_simp; done) | (go_simp; rfl)); intro w28 hw; have n0_ : Aside0 (Kd.R (Kd.int .u8) 5 w28 w.heap.size (fun _ => True) (.slice Ao23 t381.length co23) t381) := ⟨(by rw [hw]; exact (by (with_reducible repeat (first | apply Kd.R_alloc | apply Kd.R_drewN | apply Kd.R_drew)); exact Kd.R_mono (Kd.R_far (p := ⟨gb379, 3, none⟩) (Kd.R_far (p := ⟨gb379, 2, none⟩) (Kd.R_far (p := ⟨gb379, 1, none⟩) (Kd.R_far (p := ⟨gb379, 0, none⟩) (Kd.R_types HO383.out BK379.out (by decide)) (fun _ hk => by first | exact hk.2 | grind) (.int .i64 0)) (fun _ hk => by first | exact hk.2 | grind) (.int .i64 0)) (fun _ hk => by first | exact hk.2 | grind) (.int .i64 0)) (fun _ hk => by first | exact hk.2 | grind) (.int .i64 0)) (fun _ hk => trivial)))⟩; have n1_ : Aside0 (w28.heap[gb377]? = some (.cells #[.slice A0_0 l0_0.length c0_0, .bool a0_1] 102 (0, 0))) := ⟨(by rw [hw]; exact (uf_ BK377.out))⟩; have n2_ : Aside0 (w28.heap[gb378]? = some (.cells #[.slice Ao23 t381.length co23, .bool t384] 102 (0, 0))) := ⟨(by rw [hw]; exact (uf_ BK378.out))⟩; have n3_ : Aside0 (w28.heap[gb379]? = some (.cells #[.int .i64 0, .int .i64 0, .int .i64 0, .int .i64 0] 61 (0, 0))) := ⟨(by rw [hw]; exact (by (with_reducible repeat first|apply bn_|apply bd_|apply ba_); refine blk_put (cs := #[.int .i64 0, .int .i64 0, .int .i64 0, .int .i64 0]) ?_ 3 _ rfl; refine blk_put (cs := #[.int .i64 0, .int .i64 0, .int .i64 0, .int .i64 0]) ?_ 2 _ rfl; refine blk_put (cs := #[.int .i64 0, .int .i64 0, .int .i64 0, .int .i64 0]) ?_ 1 _ rfl; refine blk_put (cs := #[.int .i64 0, .int .i64 0, .int .i64 0, .int .i64 0]) ?_ 0 _ rfl; (with_reducible repeat first|apply bn_|apply bd_|apply ba_); exact BK379.out))⟩; have n4_ : Aside0 (Below w.heap.size w w28) := ⟨(by rw [hw]; exact (ue_ HB.out))⟩; clear hw HO383 BK377 BK378 BK379 HB; have HO383 := n0_; have BK377 := n1_; have BK378 := n2_; have BK379 := n3_; have HB := n4_; clear n0_ n1_ n2_ n3_ n4_))
    refine bodyPost_ret (results_list (rs := [.cell 2 102, .cell 3 61, .tmp 4]) rfl (by simp) (.cell gb378 102 #[.slice Ao23 t381.length co23, .bool t384] (0, 0) _ rfl (ub_ BK378.out) Try.underlying102 rfl (by kernel_rfl) (.cell gb379 61 #[.int .i64 0, .int .i64 0, .int .i64 0, .int .i64 0] (0, 0) _ rfl (ub_ BK379.out) Try.underlying61 rfl (by kernel_rfl) (.tmp .nil)))) rfl ?_
    exact ⟨_, ew_, by (with_reducible repeat (first | apply Kd.R_alloc | apply Kd.R_drewN | apply Kd.R_drew)); exact HO383.out, ue_ HB.out⟩
   ·
    replace c17 := Bool.eq_false_iff.mpr c17
    subst c17
    have H1 : ((impl_TakeFrame.f kj1 l0_0).bind fun bt385 => (if bt385.2.2.2.2 = (-1) then (some (([] : List Int), true, 0, 0, 0, 0, 2)) else (if bt385.2.2.2.2 = 0 then ((impl_ownDecoder.f l0_0 a0_1).bind fun bt391 => (some (bt391.1, bt391.2, 0, 0, 0, 0, 1))) else (if 0 ≤ bt385.2.2.2.2 then (if bt385.2.2.2.2 ≤ (l0_0.length : Int) then ((slices_Clone_byte_byte.f (l0_0.drop (bt385.2.2.2.2 : Int).toNat)).bind fun t396 => (some (t396, false, bt385.1, bt385.2.1, bt385.2.2.1, bt385.2.2.2.1, 0))) else (none)) else (none))))) = some (r1, r2, r3, r4, r5, r6, r7) := by rw [if_neg (show ¬ (false = true) by decide)] at H; exact H
    clear H
    have H := H1
    clear H1
    replace H := Option.bind_eq_some_iff.mp H
    obtain ⟨⟨t385, t386, t387, t388, t389⟩, A290, H⟩ := H
    replace H : (if t389 = (-1) then (some (([] : List Int), true, 0, 0, 0, 0, 2)) else (if t389 = 0 then ((impl_ownDecoder.f l0_0 a0_1).bind fun bt391 => (some (bt391.1, bt391.2, 0, 0, 0, 0, 1))) else (if 0 ≤ t389 then (if t389 ≤ (l0_0.length : Int) then ((slices_Clone_byte_byte.f (l0_0.drop (t389 : Int).toNat)).bind fun t396 => (some (t396, false, t385, t386, t387, t388, 0))) else (none)) else (none)))) = some (r1, r2, r3, r4, r5, r6, r7) := H
    have A29 := Aside0.mk A290
    clear A290
    by_cases c30 : t389 = (-1)
    ·
     rw [if_pos c30] at H
     have c30b0 : (t389 == (-1)) = true := beq_iff_eq.mpr c30
     have c30b1 : (t389 != (-1)) = false := bne_eq_false_iff_eq.mpr c30
     clear c30
     simp only [Option.some.injEq, Prod.mk.injEq] at H
     obtain ⟨rfl, rfl, rfl, rfl, rfl, rfl, rfl⟩ := H
     have hnb31 := NB377_378.out
     have hnc31 := NB378_377.out
     have hnb32 := NB377_379.out
     have hnc32 := NB379_377.out
     have hcz33_0 := cb_ BK377.out 0 rfl
     have hcz33_1 := cb_ BK377.out 1 rfl
     have hfz33_0 := blk_frozen BK377.out 0
     have hfz33_1 := blk_frozen BK377.out 1
     go_wp2_with (first | ((with_reducible refine gate_callee (f := 48) rfl ?_); refine goesL_ (some 20) rfl rfl Try.func48 (by kernel_rfl) rfl #[.slice A0_0 l0_0.length c0_0] rfl ul_ ?_; (with_reducible refine (impl_TakeFrame.calls kj1 (fun k_ => k_ < w.heap.size) _ _ l0_0 t385 t386 t387 t388 t389 _ ?side1 A29.out).mono ?_); (case side1 => exact Kd.V_mk HC0_0.out (Kd.F_below (Kd.C_F (Kd.heap_int .u8) HR0_0.out) (ue_ HB.out))); rintro e w34 ⟨rfl, hb⟩; refine ⟨_, rfl, ?_⟩; have n0_ := am_ (bb_ BK377.out hb); have n1_ := am_ (bb_ BK378.out hb); have n2_ := am_ (bb_ BK379.out hb); have n3_ := am_ (below_step (ue_ HB.out) hb); clear BK377 BK378 BK379 HB; have BK377 := n0_; have BK378 := n1_; have BK379 := n2_; have HB := n3_; clear n0_ n1_ n2_ n3_; (try clear hb); (try clear hb2); (try clear hk); (try clear hi)) | ((with_reducible refine gate_dst (N := 5) rfl ?_); refine box_event ?hg (N := 5) ?hd (cs := #[.int .i64 0, .int .i64 0, .int .i64 0, .int .i64 0]) (t := 61) ?hr ?_; (case hd => rfl); (case hg => rfl); (case hr => first | (go_simp; done) | (go_simp; rfl)); intro gb390 hg w35 hbox hb; have n0_ := am_ (bb_ BK377.out hb); have n1_ := am_ (bb_ BK378.out hb); have n2_ := am_ (bb_ BK379.out hb); have n3_ := am_ (below_step (ue_ HB.out) hb); have n4_ := am_ (hbox); have n5_ := am_ ((by rw [hg]; exact (below_size (ue_ HB.out)) : w.heap.size ≤ gb390)); have n6_ := am_ ((by rw [hg]; exact (below_size (ue_ HB.out)) : w.heap.size ≤ gb390)); have n7_ := am_ ((by rw [hg]; exact Nat.ne_of_lt (bl_ BK377.out) : gb377 ≠ gb390)); have n8_ := am_ ((by rw [hg]; exact Nat.ne_of_gt (bl_ BK377.out) : gb390 ≠ gb377)); have n9_ := am_ ((by rw [hg]; exact Nat.ne_of_lt (bl_ BK378.out) : gb378 ≠ gb390)); have n10_ := am_ ((by rw [hg]; exact Nat.ne_of_gt (bl_ BK378.out) : gb390 ≠ gb378)); have n11_ := am_ ((by rw [hg]; exact Nat.ne_of_lt (bl_ BK379.out) : gb379 ≠ gb390)); have n12_ := am_ ((by rw [hg]; exact Nat.ne_of_gt (bl_ BK379.out) : gb390 ≠ gb379)); clear BK377 BK378 BK379 HB; have BK377 := n0_; have BK378 := n1_; have BK379 := n2_; have HB := n3_; have BK390 := n4_; have GW390 := n5_; have GE390 := n6_; have NB377_390 := n7_; have NB390_377 := n8_; have NB378_390 := n9_; have NB390_378 := n10_; have NB379_390 := n11_; have NB390_379 := n12_; clear n0_ n1_ n2_ n3_ n4_ n5_ n6_ n7_ n8_ n9_ n10_ n11_ n12_; clear hb hbox hg; have hnb36 := NB390_377.out; have hnc36 := NB377_390.out; have hnb37 := NB390_378.out; have hnc37 := NB378_390.out; have hnb38 := NB390_379.out; have hnc38 := NB379_390.out; obtain ⟨hcz39_0, hcz39_1, hcz39_2, hcz39_3⟩ := cb4_ BK390.out; obtain ⟨hfz39_0, hfz39_1, hfz39_2⟩ := bf3_ BK390.out; have hfz39_3 := blk_frozen BK390.out 3) | ((with_reducible refine gate_store (t := 61) (p := 5) rfl ?_); refine store_event (t := 61) (p := 5) (v := ?vo_w40) (w1 := ((((w35.setCell ⟨gb390, 0, none⟩ (.int .i64 t385)).setCell ⟨gb390, 1, none⟩ (.int .i64 t386)).setCell ⟨gb390, 2, none⟩ (.int .i64 t387)).setCell ⟨gb390, 3, none⟩ (.int .i64 t388))) ?hg ?ho ?hn ?hr ?_; (case ho => rfl); (case hg => rfl); (case hn => rfl); (case hr => first | (go_simp; done) | (go_simp; rfl)); intro w40 hw; have n0_ : Aside0 (w40.heap[gb377]? = some (.cells #[.slice A0_0 l0_0.length c0_0, .bool a0_1] 102 (0, 0))) := ⟨(by rw [hw]; exact (uf_ BK377.out))⟩; have n1_ : Aside0 (w40.heap[gb378]? = some (.cells #[.slice none 0 0, .bool false] 102 (0, 0))) := ⟨(by rw [hw]; exact (uf_ BK378.out))⟩; have n2_ : Aside0 (w40.heap[gb379]? = some (.cells #[.int .i64 0, .int .i64 0, .int .i64 0, .int .i64 0] 61 (0, 0))) := ⟨(by rw [hw]; exact (uf_ BK379.out))⟩; have n3_ : Aside0 (w40.heap[gb390]? = some (.cells #[.int .i64 t385, .int .i64 t386, .int .i64 t387, .int .i64 t388] 61 (0, 0))) := ⟨(by rw [hw]; exact (by (with_reducible repeat first|apply bn_|apply bd_|apply ba_); refine blk_put (cs := #[.int .i64 t385, .int .i64 t386, .int .i64 t387, .int .i64 0]) ?_ 3 _ rfl; refine blk_put (cs := #[.int .i64 t385, .int .i64 t386, .int .i64 0, .int .i64 0]) ?_ 2 _ rfl; refine blk_put (cs := #[.int .i64 t385, .int .i64 0, .int .i64 0, .int .i64 0]) ?_ 1 _ rfl; refine blk_put (cs := #[.int .i64 0, .int .i64 0, .int .i64 0, .int .i64 0]) ?_ 0 _ rfl; (with_reducible repeat first|apply bn_|apply bd_|apply ba_); exact BK390.out))⟩; have n4_ : Aside0 (Below w.heap.size w w40) := ⟨(by rw [hw]; exact (ue_ HB.out))⟩; clear hw BK377 BK378 BK379 BK390 HB; have BK377 := n0_; have BK378 := n1_; have BK379 := n2_; have BK390 := n3_; have HB := n4_; clear n0_ n1_ n2_ n3_ n4_; have hnb41 := NB378_379.out; have hnc41 := NB379_378.out; obtain ⟨hcz42_0, hcz42_1⟩ := cb2_ BK378.out; have hfz42_0 := blk_frozen BK378.out 0; have hfz42_1 := blk_frozen BK378.out 1) | ((with_reducible refine gate_store (t := 102) (p := 2) rfl ?_); refine store_event (t := 102) (p := 2) (v := ?vo_w43) (w1 := ((w40.setCell ⟨gb378, 0, none⟩ (.slice none 0 0)).setCell ⟨gb378, 1, none⟩ (.bool true))) ?hg ?ho ?hn ?hr ?_; (case ho => rfl); (case hg => rfl); (case hn => rfl); (case hr => first | (go_simp; done) | (go_simp; rfl)); intro w43 hw; have n0_ : Aside0 (w43.heap[gb377]? = some (.cells #[.slice A0_0 l0_0.length c0_0, .bool a0_1] 102 (0, 0))) := ⟨(by rw [hw]; exact (uf_ BK377.out))⟩; have n1_ : Aside0 (w43.heap[gb378]? = some (.cells #[.slice none 0 0, .bool true] 102 (0, 0))) := ⟨(by rw [hw]; exact (by (with_reducible repeat first|apply bn_|apply bd_|apply ba_); refine blk_put (cs := #[.slice none 0 0, .bool false]) ?_ 1 _ rfl; refine blk_put (cs := #[.slice none 0 0, .bool false]) ?_ 0 _ rfl; (with_reducible repeat first|apply bn_|apply bd_|apply ba_); exact BK378.out))⟩; have n2_ : Aside0 (w43.heap[gb379]? = some (.cells #[.int .i64 0, .int .i64 0, .int .i64 0, .int .i64 0] 61 (0, 0))) := ⟨(by rw [hw]; exact (uf_ BK379.out))⟩; have n3_ : Aside0 (w43.heap[gb390]? = some (.cells #[.int .i64 t385, .int .i64 t386, .int .i64 t387, .int .i64 t388] 61 (0, 0))) := ⟨(by rw [hw]; exact (uf_ BK390.out))⟩; have n4_ : Aside0 (Below w.heap.size w w43) := ⟨(by rw [hw]; exact (ue_ HB.out))⟩; clear hw BK377 BK378 BK379 BK390 HB; have BK377 := n0_; have BK378 := n1_; have BK379 := n2_; have BK390 := n3_; have HB := n4_; clear n0_ n1_ n2_ n3_ n4_; obtain ⟨hcz44_0, hcz44_1, hcz44_2, hcz44_3⟩ := cb4_ BK379.out; obtain ⟨hfz44_0, hfz44_1, hfz44_2⟩ := bf3_ BK379.out; have hfz44_3 := blk_frozen BK379.out 3) | ((with_reducible refine gate_store (t := 61) (p := 3) rfl ?_); refine store_event (t := 61) (p := 3) (v := ?vo_w45) (w1 := ((((w43.setCell ⟨gb379, 0, none⟩ (.int .i64 0)).setCell ⟨gb379, 1, none⟩ (.int .i64 0)).setCell ⟨gb379, 2, none⟩ (.int .i64 0)).setCell ⟨gb379, 3, none⟩ (.int .i64 0))) ?hg ?ho ?hn ?hr ?_; (case ho => rfl); (case hg => rfl); (case hn => rfl); (case hr => first | (go_simp; done) | (go_simp; rfl)); intro w45 hw; have n0_ : Aside0 (w45.heap[gb377]? = some (.cells #[.slice A0_0 l0_0.length c0_0, .bool a0_1] 102 (0, 0))) := ⟨(by rw [hw]; exact (uf_ BK377.out))⟩; have n1_ : Aside0 (w45.heap[gb378]? = some (.cells #[.slice none 0 0, .bool true] 102 (0, 0))) := ⟨(by rw [hw]; exact (uf_ BK378.out))⟩; have n2_ : Aside0 (w45.heap[gb379]? = some (.cells #[.int .i64 0, .int .i64 0, .int .i64 0, .int .i64 0] 61 (0, 0))) := ⟨(by rw [hw]; exact (by (with_reducible repeat first|apply bn_|apply bd_|apply ba_); refine blk_put (cs := #[.int .i64 0, .int .i64 0, .int .i64 0, .int .i64 0]) ?_ 3 _ rfl; refine blk_put (cs := #[.int .i64 0, .int .i64 0, .int .i64 0, .int .i64 0]) ?_ 2 _ rfl; refine blk_put (cs := #[.int .i64 0, .int .i64 0, .int .i64 0, .int .i64 0]) ?_ 1 _ rfl; refine blk_put (cs := #[.int .i64 0, .int .i64 0, .int .i64 0, .int .i64 0]) ?_ 0 _ rfl; (with_reducible repeat first|apply bn_|apply bd_|apply ba_); exact BK379.out))⟩; have n3_ : Aside0 (w45.heap[gb390]? = some (.cells #[.int .i64 t385, .int .i64 t386, .int .i64 t387, .int .i64 t388] 61 (0, 0))) := ⟨(by rw [hw]; exact (uf_ BK390.out))⟩; have n4_ : Aside0 (Below w.heap.size w w45) := ⟨(by rw [hw]; exact (ue_ HB.out))⟩; clear hw BK377 BK378 BK379 BK390 HB; have BK377 := n0_; have BK378 := n1_; have BK379 := n2_; have BK390 := n3_; have HB := n4_; clear n0_ n1_ n2_ n3_ n4_))
     refine bodyPost_ret (results_list (rs := [.cell 2 102, .cell 3 61, .tmp 4]) rfl (by simp) (.cell gb378 102 #[.slice none 0 0, .bool true] (0, 0) _ rfl (ub_ BK378.out) Try.underlying102 rfl (by kernel_rfl) (.cell gb379 61 #[.int .i64 0, .int .i64 0, .int .i64 0, .int .i64 0] (0, 0) _ rfl (ub_ BK379.out) Try.underlying61 rfl (by kernel_rfl) (.tmp .nil)))) rfl ?_
     exact ⟨_, ew_, by first | exact Kd.R_nil _ _ _ _ _ | exact Kd.N_nil _ _ _ _ _ | exact Kd.V_nil _ _ _ _ _ | exact Kd.Q_nil _ _ _ _ _ | exact Kd.S_nil _ _ _ _ _, ue_ HB.out⟩
    ·
     rw [if_neg c30] at H
     have c30b0 : (t389 == (-1)) = false := beq_eq_false_iff_ne.mpr c30
     have c30b1 : (t389 != (-1)) = true := bne_iff_ne.mpr c30
     by_cases c46 : t389 = 0
     ·
      rw [if_pos c46] at H
      have c46b0 : (t389 == 0) = true := beq_iff_eq.mpr c46
      have c46b1 : (t389 != 0) = false := bne_eq_false_iff_eq.mpr c46
      clear c46
      replace H := Option.bind_eq_some_iff.mp H
      obtain ⟨⟨t391, t394⟩, A470, H⟩ := H
      replace H : (some (t391, t394, 0, 0, 0, 0, 1)) = some (r1, r2, r3, r4, r5, r6, r7) := H
      have A47 := Aside0.mk A470
      clear A470
      simp only [Option.some.injEq, Prod.mk.injEq] at H
      obtain ⟨rfl, rfl, rfl, rfl, rfl, rfl, rfl⟩ := H
      have hnb48 := NB377_378.out
      have hnc48 := NB378_377.out
      have hnb49 := NB377_379.out
      have hnc49 := NB379_377.out
      have hcz50_0 := cb_ BK377.out 0 rfl
      have hcz50_1 := cb_ BK377.out 1 rfl
      have hfz50_0 := blk_frozen BK377.out 0
      have hfz50_1 := blk_frozen BK377.out 1
      go_wp2_with (first | ((with_reducible refine gate_callee (f := 48) rfl ?_); refine goesL_ (some 20) rfl rfl Try.func48 (by kernel_rfl) rfl #[.slice A0_0 l0_0.length c0_0] rfl ul_ ?_; (with_reducible refine (impl_TakeFrame.calls kj1 (fun k_ => k_ < w.heap.size) _ _ l0_0 t385 t386 t387 t388 t389 _ ?side1 A29.out).mono ?_); (case side1 => exact Kd.V_mk HC0_0.out (Kd.F_below (Kd.C_F (Kd.heap_int .u8) HR0_0.out) (ue_ HB.out))); rintro e w51 ⟨rfl, hb⟩; refine ⟨_, rfl, ?_⟩; have n0_ := am_ (bb_ BK377.out hb); have n1_ := am_ (bb_ BK378.out hb); have n2_ := am_ (bb_ BK379.out hb); have n3_ := am_ (below_step (ue_ HB.out) hb); clear BK377 BK378 BK379 HB; have BK377 := n0_; have BK378 := n1_; have BK379 := n2_; have HB := n3_; clear n0_ n1_ n2_ n3_; (try clear hb); (try clear hb2); (try clear hk); (try clear hi)) | ((with_reducible refine gate_dst (N := 5) rfl ?_); refine box_event ?hg (N := 5) ?hd (cs := #[.int .i64 0, .int .i64 0, .int .i64 0, .int .i64 0]) (t := 61) ?hr ?_; (case hd => rfl); (case hg => rfl); (case hr => first | (go_simp; done) | (go_simp; rfl)); intro gb390 hg w52 hbox hb; have n0_ := am_ (bb_ BK377.out hb); have n1_ := am_ (bb_ BK378.out hb); have n2_ := am_ (bb_ BK379.out hb); have n3_ := am_ (below_step (ue_ HB.out) hb); have n4_ := am_ (hbox); have n5_ := am_ ((by rw [hg]; exact (below_size (ue_ HB.out)) : w.heap.size ≤ gb390)); have n6_ := am_ ((by rw [hg]; exact (below_size (ue_ HB.out)) : w.heap.size ≤ gb390)); have n7_ := am_ ((by rw [hg]; exact Nat.ne_of_lt (bl_ BK377.out) : gb377 ≠ gb390)); have n8_ := am_ ((by rw [hg]; exact Nat.ne_of_gt (bl_ BK377.out) : gb390 ≠ gb377)); have n9_ := am_ ((by rw [hg]; exact Nat.ne_of_lt (bl_ BK378.out) : gb378 ≠ gb390)); have n10_ := am_ ((by rw [hg]; exact Nat.ne_of_gt (bl_ BK378.out) : gb390 ≠ gb378)); have n11_ := am_ ((by rw [hg]; exact Nat.ne_of_lt (bl_ BK379.out) : gb379 ≠ gb390)); have n12_ := am_ ((by rw [hg]; exact Nat.ne_of_gt (bl_ BK379.out) : gb390 ≠ gb379)); clear BK377 BK378 BK379 HB; have BK377 := n0_; have BK378 := n1_; have BK379 := n2_; have HB := n3_; have BK390 := n4_; have GW390 := n5_; have GE390 := n6_; have NB377_390 := n7_; have NB390_377 := n8_; have NB378_390 := n9_; have NB390_378 := n10_; have NB379_390 := n11_; have NB390_379 := n12_; clear n0_ n1_ n2_ n3_ n4_ n5_ n6_ n7_ n8_ n9_ n10_ n11_ n12_; clear hb hbox hg; have hnb53 := NB390_377.out; have hnc53 := NB377_390.out; have hnb54 := NB390_378.out; have hnc54 := NB378_390.out; have hnb55 := NB390_379.out; have hnc55 := NB379_390.out; obtain ⟨hcz56_0, hcz56_1, hcz56_2, hcz56_3⟩ := cb4_ BK390.out; obtain ⟨hfz56_0, hfz56_1, hfz56_2⟩ := bf3_ BK390.out; have hfz56_3 := blk_frozen BK390.out 3) | ((with_reducible refine gate_store (t := 61) (p := 5) rfl ?_); refine store_event (t := 61) (p := 5) (v := ?vo_w57) (w1 := ((((w52.setCell ⟨gb390, 0, none⟩ (.int .i64 t385)).setCell ⟨gb390, 1, none⟩ (.int .i64 t386)).setCell ⟨gb390, 2, none⟩ (.int .i64 t387)).setCell ⟨gb390, 3, none⟩ (.int .i64 t388))) ?hg ?ho ?hn ?hr ?_; (case ho => rfl); (case hg => rfl); (case hn => rfl); (case hr => first | (go_simp; done) | (go_simp; rfl)); intro w57 hw; have n0_ : Aside0 (w57.heap[gb377]? = some (.cells #[.slice A0_0 l0_0.length c0_0, .bool a0_1] 102 (0, 0))) := ⟨(by rw [hw]; exact (uf_ BK377.out))⟩; have n1_ : Aside0 (w57.heap[gb378]? = some (.cells #[.slice none 0 0, .bool false] 102 (0, 0))) := ⟨(by rw [hw]; exact (uf_ BK378.out))⟩; have n2_ : Aside0 (w57.heap[gb379]? = some (.cells #[.int .i64 0, .int .i64 0, .int .i64 0, .int .i64 0] 61 (0, 0))) := ⟨(by rw [hw]; exact (uf_ BK379.out))⟩; have n3_ : Aside0 (w57.heap[gb390]? = some (.cells #[.int .i64 t385, .int .i64 t386, .int .i64 t387, .int .i64 t388] 61 (0, 0))) := ⟨(by rw [hw]; exact (by (with_reducible repeat first|apply bn_|apply bd_|apply ba_); refine blk_put (cs := #[.int .i64 t385, .int .i64 t386, .int .i64 t387, .int .i64 0]) ?_ 3 _ rfl; refine blk_put (cs := #[.int .i64 t385, .int .i64 t386, .int .i64 0, .int .i64 0]) ?_ 2 _ rfl; refine blk_put (cs := #[.int .i64 t385, .int .i64 0, .int .i64 0, .int .i64 0]) ?_ 1 _ rfl; refine blk_put (cs := #[.int .i64 0, .int .i64 0, .int .i64 0, .int .i64 0]) ?_ 0 _ rfl; (with_reducible repeat first|apply bn_|apply bd_|apply ba_); exact BK390.out))⟩; have n4_ : Aside0 (Below w.heap.size w w57) := ⟨(by rw [hw]; exact (ue_ HB.out))⟩; clear hw BK377 BK378 BK379 BK390 HB; have BK377 := n0_; have BK378 := n1_; have BK379 := n2_; have BK390 := n3_; have HB := n4_; clear n0_ n1_ n2_ n3_ n4_; obtain ⟨hcz58_0, hcz58_1⟩ := cb2_ BK377.out; have hfz58_0 := blk_frozen BK377.out 0; have hfz58_1 := blk_frozen BK377.out 1) | ((with_reducible refine gate_callee (f := 153) rfl ?_); refine goesL_ (some 31) rfl rfl Try.func153 (by kernel_rfl) rfl #[.agg #[.slice A0_0 l0_0.length c0_0, .bool a0_1]] rfl ul_ ?_; (with_reducible refine (impl_ownDecoder.calls _ _ l0_0 a0_1 t391 t394 _ ?side1 ?side2 A47.out).mono ?_); (case side1 => repeat (first | exact (Kd.C_below HR0_0.out HB.out) | (with_reducible refine Kd.C_alloc ?_ _) | (with_reducible refine Kd.C_drewN ?_ _) | (with_reducible refine Kd.C_drew ?_))); (case side2 => exact HC0_0.out); rintro e w59 ⟨v392, rfl, ho0, hb⟩; refine ⟨_, rfl, ?_⟩; have n0_ := am_ (Kd.R_lower ho0 (below_size (ue_ HB.out))); have n1_ := am_ (bb_ BK377.out hb); have n2_ := am_ (bb_ BK378.out hb); have n3_ := am_ (bb_ BK379.out hb); have n4_ := am_ (bb_ BK390.out hb); have n5_ := am_ (below_step (ue_ HB.out) hb); clear BK377 BK378 BK379 BK390 HB; have HO393 := n0_; have BK377 := n1_; have BK378 := n2_; have BK379 := n3_; have BK390 := n4_; have HB := n5_; clear n0_ n1_ n2_ n3_ n4_ n5_; (try clear hb); (try clear hb2); (try clear hk); (try clear hi); (try clear ho0); obtain ⟨Ao60, co60, eo60⟩ := Kd.R_slice HO393.out; subst eo60; have hnb61 := NB378_379.out; have hnc61 := NB379_378.out; obtain ⟨hcz62_0, hcz62_1⟩ := cb2_ BK378.out; have hfz62_0 := blk_frozen BK378.out 0; have hfz62_1 := blk_frozen BK378.out 1) | ((with_reducible refine gate_store (t := 102) (p := 2) rfl ?_); refine store_event (t := 102) (p := 2) (v := ?vo_w63) (w1 := ((w59.setCell ⟨gb378, 0, none⟩ (.slice Ao60 t391.length co60)).setCell ⟨gb378, 1, none⟩ (.bool t394))) ?hg ?ho ?hn ?hr ?_; (case ho => rfl); (case hg => rfl); (case hn => rfl); (case hr => first | (go_simp; done) | (go_simp; rfl)); intro w63 hw; have n0_ : Aside0 (Kd.R (Kd.int .u8) 5 w63 w.heap.size (fun _ => True) (.slice Ao60 t391.length co60) t391) := ⟨(by rw [hw]; exact (by (with_reducible repeat (first | apply Kd.R_alloc | apply Kd.R_drewN | apply Kd.R_drew)); exact Kd.R_mono (Kd.R_far (p := ⟨gb378, 1, none⟩) (Kd.R_far (p := ⟨gb378, 0, none⟩) (Kd.R_types HO393.out BK378.out (by decide)) (fun _ hk => by first | exact hk.2 | grind) (.slice Ao60 t391.length co60)) (fun _ hk => by first | exact hk.2 | grind) (.bool t394)) (fun _ hk => trivial)))⟩; have n1_ : Aside0 (w63.heap[gb377]? = some (.cells #[.slice A0_0 l0_0.length c0_0, .bool a0_1] 102 (0, 0))) := ⟨(by rw [hw]; exact (uf_ BK377.out))⟩; have n2_ : Aside0 (w63.heap[gb378]? = some (.cells #[.slice Ao60 t391.length co60, .bool t394] 102 (0, 0))) := ⟨(by rw [hw]; exact (by (with_reducible repeat first|apply bn_|apply bd_|apply ba_); refine blk_put (cs := #[.slice Ao60 t391.length co60, .bool false]) ?_ 1 _ rfl; refine blk_put (cs := #[.slice none 0 0, .bool false]) ?_ 0 _ rfl; (with_reducible repeat first|apply bn_|apply bd_|apply ba_); exact BK378.out))⟩; have n3_ : Aside0 (w63.heap[gb379]? = some (.cells #[.int .i64 0, .int .i64 0, .int .i64 0, .int .i64 0] 61 (0, 0))) := ⟨(by rw [hw]; exact (uf_ BK379.out))⟩; have n4_ : Aside0 (w63.heap[gb390]? = some (.cells #[.int .i64 t385, .int .i64 t386, .int .i64 t387, .int .i64 t388] 61 (0, 0))) := ⟨(by rw [hw]; exact (uf_ BK390.out))⟩; have n5_ : Aside0 (Below w.heap.size w w63) := ⟨(by rw [hw]; exact (ue_ HB.out))⟩; clear hw HO393 BK377 BK378 BK379 BK390 HB; have HO393 := n0_; have BK377 := n1_; have BK378 := n2_; have BK379 := n3_; have BK390 := n4_; have HB := n5_; clear n0_ n1_ n2_ n3_ n4_ n5_; obtain ⟨hcz64_0, hcz64_1, hcz64_2, hcz64_3⟩ := cb4_ BK379.out; obtain ⟨hfz64_0, hfz64_1, hfz64_2⟩ := bf3_ BK379.out; have hfz64_3 := blk_frozen BK379.out 3) | ((with_reducible refine gate_store (t := 61) (p := 3) rfl ?_); refine store_event (t := 61) (p := 3) (v := ?vo_w65) (w1 := ((((w63.setCell ⟨gb379, 0, none⟩ (.int .i64 0)).setCell ⟨gb379, 1, none⟩ (.int .i64 0)).setCell ⟨gb379, 2, none⟩ (.int .i64 0)).setCell ⟨gb379, 3, none⟩ (.int .i64 0))) ?hg ?ho ?hn ?hr ?_; (case ho => rfl); (case hg => rfl); (case hn => rfl); (case hr => first | (go_simp; done) | (go_simp; rfl)); intro w65 hw; have n0_ : Aside0 (Kd.R (Kd.int .u8) 5 w65 w.heap.size (fun _ => True) (.slice Ao60 t391.length co60) t391) := ⟨(by rw [hw]; exact (by (with_reducible repeat (first | apply Kd.R_alloc | apply Kd.R_drewN | apply Kd.R_drew)); exact Kd.R_mono (Kd.R_far (p := ⟨gb379, 3, none⟩) (Kd.R_far (p := ⟨gb379, 2, none⟩) (Kd.R_far (p := ⟨gb379, 1, none⟩) (Kd.R_far (p := ⟨gb379, 0, none⟩) (Kd.R_types HO393.out BK379.out (by decide)) (fun _ hk => by first | exact hk.2 | grind) (.int .i64 0)) (fun _ hk => by first | exact hk.2 | grind) (.int .i64 0)) (fun _ hk => by first | exact hk.2 | grind) (.int .i64 0)) (fun _ hk => by first | exact hk.2 | grind) (.int .i64 0)) (fun _ hk => trivial)))⟩; have n1_ : Aside0 (w65.heap[gb377]? = some (.cells #[.slice A0_0 l0_0.length c0_0, .bool a0_1] 102 (0, 0))) := ⟨(by rw [hw]; exact (uf_ BK377.out))⟩; have n2_ : Aside0 (w65.heap[gb378]? = some (.cells #[.slice Ao60 t391.length co60, .bool t394] 102 (0, 0))) := ⟨(by rw [hw]; exact (uf_ BK378.out))⟩; have n3_ : Aside0 (w65.heap[gb379]? = some (.cells #[.int .i64 0, .int .i64 0, .int .i64 0, .int .i64 0] 61 (0, 0))) := ⟨(by rw [hw]; exact (by (with_reducible repeat first|apply bn_|apply bd_|apply ba_); refine blk_put (cs := #[.int .i64 0, .int .i64 0, .int .i64 0, .int .i64 0]) ?_ 3 _ rfl; refine blk_put (cs := #[.int .i64 0, .int .i64 0, .int .i64 0, .int .i64 0]) ?_ 2 _ rfl; refine blk_put (cs := #[.int .i64 0, .int .i64 0, .int .i64 0, .int .i64 0]) ?_ 1 _ rfl; refine blk_put (cs := #[.int .i64 0, .int .i64 0, .int .i64 0, .int .i64 0]) ?_ 0 _ rfl; (with_reducible repeat first|apply bn_|apply bd_|apply ba_); exact BK379.out))⟩; have n4_ : Aside0 (w65.heap[gb390]? = some (.cells #[.int .i64 t385, .int .i64 t386, .int .i64 t387, .int .i64 t388] 61 (0, 0))) := ⟨(by rw [hw]; exact (uf_ BK390.out))⟩; have n5_ : Aside0 (Below w.heap.size w w65) := ⟨(by rw [hw]; exact (ue_ HB.out))⟩; clear hw HO393 BK377 BK378 BK379 BK390 HB; have HO393 := n0_; have BK377 := n1_; have BK378 := n2_; have BK379 := n3_; have BK390 := n4_; have HB := n5_; clear n0_ n1_ n2_ n3_ n4_ n5_))
      refine bodyPost_ret (results_list (rs := [.cell 2 102, .cell 3 61, .tmp 4]) rfl (by simp) (.cell gb378 102 #[.slice Ao60 t391.length co60, .bool t394] (0, 0) _ rfl (ub_ BK378.out) Try.underlying102 rfl (by kernel_rfl) (.cell gb379 61 #[.int .i64 0, .int .i64 0, .int .i64 0, .int .i64 0] (0, 0) _ rfl (ub_ BK379.out) Try.underlying61 rfl (by kernel_rfl) (.tmp .nil)))) rfl ?_
      exact ⟨_, ew_, by (with_reducible repeat (first | apply Kd.R_alloc | apply Kd.R_drewN | apply Kd.R_drew)); exact HO393.out, ue_ HB.out⟩
     ·
      rw [if_neg c46] at H
      have c46b0 : (t389 == 0) = false := beq_eq_false_iff_ne.mpr c46
      have c46b1 : (t389 != 0) = true := bne_iff_ne.mpr c46
      by_cases c66 : 0 ≤ t389
      ·
       rw [if_pos c66] at H
       have c66b0 := eq_true c66
       have c66b1 : decide (0 ≤ t389) = true := decide_eq_true c66
       clear c66
       by_cases c67 : t389 ≤ (l0_0.length : Int)
       ·
        rw [if_pos c67] at H
        have c67b0 := eq_true c67
        have c67b1 : decide (t389 ≤ (l0_0.length : Int)) = true := decide_eq_true c67
        clear c67
        replace H := Option.bind_eq_some_iff.mp H
        obtain ⟨t396, A680, H⟩ := H
        replace H : (some (t396, false, t385, t386, t387, t388, 0)) = some (r1, r2, r3, r4, r5, r6, r7) := H
        have A68 := Aside0.mk A680
        clear A680
        simp only [Option.some.injEq, Prod.mk.injEq] at H
        obtain ⟨rfl, rfl, rfl, rfl, rfl, rfl, rfl⟩ := H
        have hnb69 := NB377_378.out
        have hnc69 := NB378_377.out
        have hnb70 := NB377_379.out
        have hnc70 := NB379_377.out
        have hcz71_0 := cb_ BK377.out 0 rfl
        have hcz71_1 := cb_ BK377.out 1 rfl
        have hfz71_0 := blk_frozen BK377.out 0
        have hfz71_1 := blk_frozen BK377.out 1
        try go_wp2_with (first | ((with_reducible refine gate_callee (f := 48) rfl ?_); refine goesL_ (some 20) rfl rfl Try.func48 (by kernel_rfl) rfl #[.slice A0_0 l0_0.length c0_0] rfl ul_ ?_; (with_reducible refine (impl_TakeFrame.calls kj1 (fun k_ => k_ < w.heap.size) _ _ l0_0 t385 t386 t387 t388 t389 _ ?side1 A29.out).mono ?_); (case side1 => exact Kd.V_mk HC0_0.out (Kd.F_below (Kd.C_F (Kd.heap_int .u8) HR0_0.out) (ue_ HB.out))); rintro e w72 ⟨rfl, hb⟩; refine ⟨_, rfl, ?_⟩; have n0_ := am_ (bb_ BK377.out hb); have n1_ := am_ (bb_ BK378.out hb); have n2_ := am_ (bb_ BK379.out hb); have n3_ := am_ (below_step (ue_ HB.out) hb); clear BK377 BK378 BK379 HB; have BK377 := n0_; have BK378 := n1_; have BK379 := n2_; have HB := n3_; clear n0_ n1_ n2_ n3_; (try clear hb); (try clear hb2); (try clear hk); (try clear hi)) | ((with_reducible refine gate_dst (N := 5) rfl ?_); refine box_event ?hg (N := 5) ?hd (cs := #[.int .i64 0, .int .i64 0, .int .i64 0, .int .i64 0]) (t := 61) ?hr ?_; (case hd => rfl); (case hg => rfl); (case hr => first | (go_simp; done) | (go_simp; rfl)); intro gb390 hg w73 hbox hb; have n0_ := am_ (bb_ BK377.out hb); have n1_ := am_ (bb_ BK378.out hb); have n2_ := am_ (bb_ BK379.out hb); have n3_ := am_ (below_step (ue_ HB.out) hb); have n4_ := am_ (hbox); have n5_ := am_ ((by rw [hg]; exact (below_size (ue_ HB.out)) : w.heap.size ≤ gb390)); have n6_ := am_ ((by rw [hg]; exact (below_size (ue_ HB.out)) : w.heap.size ≤ gb390)); have n7_ := am_ ((by rw [hg]; exact Nat.ne_of_lt (bl_ BK377.out) : gb377 ≠ gb390)); have n8_ := am_ ((by rw [hg]; exact Nat.ne_of_gt (bl_ BK377.out) : gb390 ≠ gb377)); have n9_ := am_ ((by rw [hg]; exact Nat.ne_of_lt (bl_ BK378.out) : gb378 ≠ gb390)); have n10_ := am_ ((by rw [hg]; exact Nat.ne_of_gt (bl_ BK378.out) : gb390 ≠ gb378)); have n11_ := am_ ((by rw [hg]; exact Nat.ne_of_lt (bl_ BK379.out) : gb379 ≠ gb390)); have n12_ := am_ ((by rw [hg]; exact Nat.ne_of_gt (bl_ BK379.out) : gb390 ≠ gb379)); clear BK377 BK378 BK379 HB; have BK377 := n0_; have BK378 := n1_; have BK379 := n2_; have HB := n3_; have BK390 := n4_; have GW390 := n5_; have GE390 := n6_; have NB377_390 := n7_; have NB390_377 := n8_; have NB378_390 := n9_; have NB390_378 := n10_; have NB379_390 := n11_; have NB390_379 := n12_; clear n0_ n1_ n2_ n3_ n4_ n5_ n6_ n7_ n8_ n9_ n10_ n11_ n12_; clear hb hbox hg; have hnb74 := NB390_377.out; have hnc74 := NB377_390.out; have hnb75 := NB390_378.out; have hnc75 := NB378_390.out; have hnb76 := NB390_379.out; have hnc76 := NB379_390.out; obtain ⟨hcz77_0, hcz77_1, hcz77_2, hcz77_3⟩ := cb4_ BK390.out; obtain ⟨hfz77_0, hfz77_1, hfz77_2⟩ := bf3_ BK390.out; have hfz77_3 := blk_frozen BK390.out 3) | ((with_reducible refine gate_store (t := 61) (p := 5) rfl ?_); refine store_event (t := 61) (p := 5) (v := ?vo_w78) (w1 := ((((w73.setCell ⟨gb390, 0, none⟩ (.int .i64 t385)).setCell ⟨gb390, 1, none⟩ (.int .i64 t386)).setCell ⟨gb390, 2, none⟩ (.int .i64 t387)).setCell ⟨gb390, 3, none⟩ (.int .i64 t388))) ?hg ?ho ?hn ?hr ?_; (case ho => rfl); (case hg => rfl); (case hn => rfl); (case hr => first | (go_simp; done) | (go_simp; rfl)); intro w78 hw; have n0_ : Aside0 (w78.heap[gb377]? = some (.cells #[.slice A0_0 l0_0.length c0_0, .bool a0_1] 102 (0, 0))) := ⟨(by rw [hw]; exact (uf_ BK377.out))⟩; have n1_ : Aside0 (w78.heap[gb378]? = some (.cells #[.slice none 0 0, .bool false] 102 (0, 0))) := ⟨(by rw [hw]; exact (uf_ BK378.out))⟩; have n2_ : Aside0 (w78.heap[gb379]? = some (.cells #[.int .i64 0, .int .i64 0, .int .i64 0, .int .i64 0] 61 (0, 0))) := ⟨(by rw [hw]; exact (uf_ BK379.out))⟩; have n3_ : Aside0 (w78.heap[gb390]? = some (.cells #[.int .i64 t385, .int .i64 t386, .int .i64 t387, .int .i64 t388] 61 (0, 0))) := ⟨(by rw [hw]; exact (by (with_reducible repeat first|apply bn_|apply bd_|apply ba_); refine blk_put (cs := #[.int .i64 t385, .int .i64 t386, .int .i64 t387, .int .i64 0]) ?_ 3 _ rfl; refine blk_put (cs := #[.int .i64 t385, .int .i64 t386, .int .i64 0, .int .i64 0]) ?_ 2 _ rfl; refine blk_put (cs := #[.int .i64 t385, .int .i64 0, .int .i64 0, .int .i64 0]) ?_ 1 _ rfl; refine blk_put (cs := #[.int .i64 0, .int .i64 0, .int .i64 0, .int .i64 0]) ?_ 0 _ rfl; (with_reducible repeat first|apply bn_|apply bd_|apply ba_); exact BK390.out))⟩; have n4_ : Aside0 (Below w.heap.size w w78) := ⟨(by rw [hw]; exact (ue_ HB.out))⟩; clear hw BK377 BK378 BK379 BK390 HB; have BK377 := n0_; have BK378 := n1_; have BK379 := n2_; have BK390 := n3_; have HB := n4_; clear n0_ n1_ n2_ n3_ n4_))
        have n0_ := am_ (blk_drew BK377.out)
        have n1_ := am_ (blk_drew BK378.out)
        have n2_ := am_ (blk_drew BK379.out)
        have n3_ := am_ (blk_drew BK390.out)
        have n4_ := am_ (below_drew1 HB.out)
        clear BK377
        clear BK378
        clear BK379
        clear BK390
        clear HB
        have BK377 := n0_
        have BK378 := n1_
        have BK379 := n2_
        have BK390 := n3_
        have HB := n4_
        clear n0_ n1_ n2_ n3_ n4_
        obtain ⟨i080, hi080, _, hsz80, _⟩ := info_parts info5
        obtain ⟨A80, hcut80, hA80, hC80⟩ := print_drop_of (P := Try.prog) (Value.int .u8) 0 49 5 .i64 Try.underlying49 hi080 hsz80 A0_0 c0_0 l0_0 t389 (of_decide_eq_true ua_) (of_decide_eq_true ua_) HC0_0.out
        have HR395 := am_ (Kd.C_of_reads (h1 := fun _ => rfl) (hA80 _ (Kd.reads_of_C HR0_0.out)))
        have HC395 := Aside0.mk hC80
        clear hA80 hC80 hi080 hsz80
        refine start_ (n := 10) (S := fun w' => w'.cell? ⟨gb377, 0, none⟩ = some (.slice A0_0 l0_0.length c0_0) ∧ w'.cell? ⟨gb377, 1, none⟩ = some (.bool a0_1) ∧ w'.cell? ⟨gb390, 0, none⟩ = some (.int .i64 t385) ∧ w'.cell? ⟨gb390, 1, none⟩ = some (.int .i64 t386) ∧ w'.cell? ⟨gb390, 2, none⟩ = some (.int .i64 t387) ∧ w'.cell? ⟨gb390, 3, none⟩ = some (.int .i64 t388)) (ds := []) #[false, false, false, false, false, false, false, false, false, false] (by kernel_rfl) rfl rfl ⟨(blk_cell BK377.out 0).trans rfl, (blk_cell BK377.out 1).trans rfl, (blk_cell BK390.out 0).trans rfl, (blk_cell BK390.out 1).trans rfl, (blk_cell BK390.out 2).trans rfl, (blk_cell BK390.out 3).trans rfl⟩ (fun hHeld => ?_); refine with_tabW impl_TakeNext.tab9 impl_TakeNext.bits9 (fun HT_ HW_ => ?_)
        generalize w78.drew = w79 at BK377 BK378 BK379 BK390 HB HR395 hHeld ⊢
        refine pure_ (i := 0) (N := some 33) (v := ?_) (a' := ?_) #[true, false, false, false, false, false, false, false, false, false] rfl rfl (any_of HT_.out (by kernel_rfl)) (fun _ _ _ h => h) (Or.inl ⟨by rfl, ?_⟩) ?_ ?_
        rotate_left
        ·
         intro w'
         go_simp
         with_reducible rfl
        rotate_left
        ·
         simp only [Act.put, List.setIfInBounds_toArray, List.set_cons_zero, List.set_cons_succ, i64_w, i32_w]
         rfl
        refine pure_ (i := 2) (N := some 35) (v := ?_) (a' := ?_) #[true, false, true, false, false, false, false, false, false, false] rfl rfl (any_of HT_.out (by kernel_rfl)) (fun _ _ _ h => h) (Or.inl ⟨by rfl, ?_⟩) ?_ ?_
        rotate_left
        ·
         intro w'
         go_simp
         with_reducible rfl
        rotate_left
        ·
         simp only [Act.put, List.setIfInBounds_toArray, List.set_cons_zero, List.set_cons_succ, i64_w, i32_w]
         rfl
        refine take_ (i := 1) (N := some 34) (v := ?_) (a' := ?_) #[true, true, true, false, false, false, false, false, false, false] rfl rfl (take_ofW HT_.out HW_.out (by kernel_rfl)) (fun _ _ _ h => h) (Or.inl ⟨by rfl, ?_⟩) hHeld ?_ ?_
        rotate_left
        ·
         rintro w' ⟨s0, s1, s2, s3, s4, s5⟩
         go_simp
         with_reducible rfl
        rotate_left
        ·
         simp only [Act.put, List.setIfInBounds_toArray, List.set_cons_zero, List.set_cons_succ, i64_w, i32_w]
         rfl
        refine pure_ (i := 3) (N := some 36) (v := ?_) (a' := ?_) #[true, true, true, true, false, false, false, false, false, false] rfl rfl (any_of HT_.out (by kernel_rfl)) (fun _ _ _ h => h) (Or.inl ⟨by rfl, ?_⟩) ?_ ?_
        rotate_left
        ·
         intro w'
         go_simp
         with_reducible rfl
        rotate_left
        ·
         simp only [Act.put, List.setIfInBounds_toArray, List.set_cons_zero, List.set_cons_succ, i64_w, i32_w]
         rfl
        refine take_ (i := 6) (N := some 39) (v := ?_) (a' := ?_) #[true, true, true, true, false, false, true, false, false, false] rfl rfl (take_ofW HT_.out HW_.out (by kernel_rfl)) (fun _ _ _ h => h) (Or.inl ⟨by rfl, ?_⟩) hHeld ?_ ?_
        rotate_left
        ·
         rintro w' ⟨s0, s1, s2, s3, s4, s5⟩
         go_simp
         with_reducible rfl
        rotate_left
        ·
         simp only [Act.put, List.setIfInBounds_toArray, List.set_cons_zero, List.set_cons_succ, i64_w, i32_w]
         rfl
        refine one_ (i := 4) (N := some 37) #[true, true, true, true, true, false, true, false, false, false] rfl rfl (one_of HT_.out (by kernel_rfl)) (by decide) (fun K hK => ?_)
        refine goes_ Try.func154 (by kernel_rfl) rfl #[.slice A80 (l0_0.drop (t389 : Int).toNat).length (c0_0 - t389.toNat)] (by rfl) rfl rfl (by (try simp only [List.map_toArray, List.map_cons, List.map_nil]); first | done | (rw [show (l0_0.drop (t389 : Int).toNat).length = (l0_0.length - t389.toNat) from List.length_drop] <;> rfl) | rfl | (simp only [List.length_drop, List.length_take]; rfl)) ?_
        with_reducible refine (slices_Clone_byte_byte.calls _ _ (l0_0.drop (t389 : Int).toNat) t396 _ ?side1 ?side2 A68.out).mono ?_
        (case side1 => repeat (first | exact (Kd.C_below HR395.out HB.out) | (with_reducible refine Kd.C_alloc ?_ _) | (with_reducible refine Kd.C_drewN ?_ _) | (with_reducible refine Kd.C_drew ?_)))
        (case side2 => exact HC395.out)
        rintro e w81 ⟨v397, rfl, ho0, hb⟩
        refine ⟨_, rfl, ?_⟩
        have n0_ := am_ (Kd.R_lower ho0 (below_size (ue_ HB.out)))
        have n1_ := am_ (bb_ BK377.out hb)
        have n2_ := am_ (bb_ BK378.out hb)
        have n3_ := am_ (bb_ BK379.out hb)
        have n4_ := am_ (bb_ BK390.out hb)
        have n5_ := am_ (below_step (ue_ HB.out) hb)
        clear BK377
        clear BK378
        clear BK379
        clear BK390
        clear HB
        have HO398 := n0_
        have BK377 := n1_
        have BK378 := n2_
        have BK379 := n3_
        have BK390 := n4_
        have HB := n5_
        clear n0_ n1_ n2_ n3_ n4_ n5_
        (try clear hb)
        (try clear hb2)
        (try clear hk)
        (try clear hi)
        (try clear ho0)
        obtain ⟨Ao82, co82, eo82⟩ := Kd.R_slice HO398.out
        (first | subst eo82 | (injection eo82 with f1_ f2_ f3_; have f4_ := f1_.symm; have f5_ := f3_.symm; clear f1_ f2_ f3_; subst f4_; subst f5_))
        refine hK.out _ _ ⟨(blk_cell BK377.out 0).trans rfl, (blk_cell BK377.out 1).trans rfl, (blk_cell BK390.out 0).trans rfl, (blk_cell BK390.out 1).trans rfl, (blk_cell BK390.out 2).trans rfl, (blk_cell BK390.out 3).trans rfl⟩ (fun hHeld => ?_)
        clear hK K
        refine norm_ (a' := ?_) ?_ ?_
        rotate_left
        ·
         show Act.put _ (some 37) _ = _
         simp only [Act.put, List.setIfInBounds_toArray, List.set_cons_zero, List.set_cons_succ, i64_w, i32_w]
         rfl
        refine pure_ (i := 5) (N := some 38) (v := ?_) (a' := ?_) #[true, true, true, true, true, true, true, false, false, false] rfl rfl (any_of HT_.out (by kernel_rfl)) (fun _ _ _ h => h) (Or.inl ⟨by rfl, ?_⟩) ?_ ?_
        rotate_left
        ·
         intro w'
         go_simp
         with_reducible rfl
        rotate_left
        ·
         simp only [Act.put, List.setIfInBounds_toArray, List.set_cons_zero, List.set_cons_succ, i64_w, i32_w]
         rfl
        refine one_ (i := 7) (N := none) #[true, true, true, true, true, true, true, true, false, false] rfl rfl (one_of HT_.out (by kernel_rfl)) (by decide) (fun K hK => ?_)
        have hs83 := cb_ BK378.out 0 rfl
        have hfs83 := blk_frozen BK378.out 0
        have hns83_0 := NB377_378.out
        have hns83_2 := NB379_378.out
        have hns83_3 := NB390_378.out
        have hms83_0 := NB378_377.out
        have hms83_2 := NB378_379.out
        have hms83_3 := NB378_390.out
        have hs84 := cb_ BK378.out 1 rfl
        have hfs84 := blk_frozen BK378.out 1
        have hns84_0 := NB377_378.out
        have hns84_2 := NB379_378.out
        have hns84_3 := NB390_378.out
        have hms84_0 := NB378_377.out
        have hms84_2 := NB378_379.out
        have hms84_3 := NB378_390.out
        refine skip_ (w1 := ?_) (by rfl) rfl ?_ ?_
        rotate_left
        ·
         go_simp
         rfl
        refine hK.out _ _ ⟨((cell_far (p := ⟨gb378, _, none⟩) NB377_378.out _).trans (((cell_far (p := ⟨gb378, _, none⟩) NB377_378.out _).trans (hHeld.1)))), ((cell_far (p := ⟨gb378, _, none⟩) NB377_378.out _).trans (((cell_far (p := ⟨gb378, _, none⟩) NB377_378.out _).trans (hHeld.2.1)))), ((cell_far (p := ⟨gb378, _, none⟩) NB390_378.out _).trans (((cell_far (p := ⟨gb378, _, none⟩) NB390_378.out _).trans (hHeld.2.2.1)))), ((cell_far (p := ⟨gb378, _, none⟩) NB390_378.out _).trans (((cell_far (p := ⟨gb378, _, none⟩) NB390_378.out _).trans (hHeld.2.2.2.1)))), ((cell_far (p := ⟨gb378, _, none⟩) NB390_378.out _).trans (((cell_far (p := ⟨gb378, _, none⟩) NB390_378.out _).trans (hHeld.2.2.2.2.1)))), ((cell_far (p := ⟨gb378, _, none⟩) NB390_378.out _).trans (((cell_far (p := ⟨gb378, _, none⟩) NB390_378.out _).trans (hHeld.2.2.2.2.2))))⟩ (fun hHeld => ?_)
        clear hK K
        refine one_ (i := 8) (N := none) #[true, true, true, true, true, true, true, true, true, false] rfl rfl (one_of HT_.out (by kernel_rfl)) (by decide) (fun K hK => ?_)
        have hs85 := cb_ BK379.out 0 rfl
        have hfs85 := blk_frozen BK379.out 0
        have hns85_0 := NB377_379.out
        have hns85_1 := NB378_379.out
        have hns85_3 := NB390_379.out
        have hms85_0 := NB379_377.out
        have hms85_1 := NB379_378.out
        have hms85_3 := NB379_390.out
        have hs86 := cb_ BK379.out 1 rfl
        have hfs86 := blk_frozen BK379.out 1
        have hns86_0 := NB377_379.out
        have hns86_1 := NB378_379.out
        have hns86_3 := NB390_379.out
        have hms86_0 := NB379_377.out
        have hms86_1 := NB379_378.out
        have hms86_3 := NB379_390.out
        have hs87 := cb_ BK379.out 2 rfl
        have hfs87 := blk_frozen BK379.out 2
        have hns87_0 := NB377_379.out
        have hns87_1 := NB378_379.out
        have hns87_3 := NB390_379.out
        have hms87_0 := NB379_377.out
        have hms87_1 := NB379_378.out
        have hms87_3 := NB379_390.out
        have hs88 := cb_ BK379.out 3 rfl
        have hfs88 := blk_frozen BK379.out 3
        have hns88_0 := NB377_379.out
        have hns88_1 := NB378_379.out
        have hns88_3 := NB390_379.out
        have hms88_0 := NB379_377.out
        have hms88_1 := NB379_378.out
        have hms88_3 := NB379_390.out
        refine skip_ (w1 := ?_) (by rfl) rfl ?_ ?_
        rotate_left
        ·
         go_simp
         rfl
        refine hK.out _ _ ⟨((cell_far (p := ⟨gb379, _, none⟩) NB377_379.out _).trans (((cell_far (p := ⟨gb379, _, none⟩) NB377_379.out _).trans (((cell_far (p := ⟨gb379, _, none⟩) NB377_379.out _).trans (((cell_far (p := ⟨gb379, _, none⟩) NB377_379.out _).trans (hHeld.1)))))))), ((cell_far (p := ⟨gb379, _, none⟩) NB377_379.out _).trans (((cell_far (p := ⟨gb379, _, none⟩) NB377_379.out _).trans (((cell_far (p := ⟨gb379, _, none⟩) NB377_379.out _).trans (((cell_far (p := ⟨gb379, _, none⟩) NB377_379.out _).trans (hHeld.2.1)))))))), ((cell_far (p := ⟨gb379, _, none⟩) NB390_379.out _).trans (((cell_far (p := ⟨gb379, _, none⟩) NB390_379.out _).trans (((cell_far (p := ⟨gb379, _, none⟩) NB390_379.out _).trans (((cell_far (p := ⟨gb379, _, none⟩) NB390_379.out _).trans (hHeld.2.2.1)))))))), ((cell_far (p := ⟨gb379, _, none⟩) NB390_379.out _).trans (((cell_far (p := ⟨gb379, _, none⟩) NB390_379.out _).trans (((cell_far (p := ⟨gb379, _, none⟩) NB390_379.out _).trans (((cell_far (p := ⟨gb379, _, none⟩) NB390_379.out _).trans (hHeld.2.2.2.1)))))))), ((cell_far (p := ⟨gb379, _, none⟩) NB390_379.out _).trans (((cell_far (p := ⟨gb379, _, none⟩) NB390_379.out _).trans (((cell_far (p := ⟨gb379, _, none⟩) NB390_379.out _).trans (((cell_far (p := ⟨gb379, _, none⟩) NB390_379.out _).trans (hHeld.2.2.2.2.1)))))))), ((cell_far (p := ⟨gb379, _, none⟩) NB390_379.out _).trans (((cell_far (p := ⟨gb379, _, none⟩) NB390_379.out _).trans (((cell_far (p := ⟨gb379, _, none⟩) NB390_379.out _).trans (((cell_far (p := ⟨gb379, _, none⟩) NB390_379.out _).trans (hHeld.2.2.2.2.2))))))))⟩ (fun hHeld => ?_)
        clear hK K
        refine pure_ (i := 9) (N := some 4) (v := ?_) (a' := ?_) #[true, true, true, true, true, true, true, true, true, true] rfl rfl (any_of HT_.out (by kernel_rfl)) (fun _ _ _ h => h) (Or.inl ⟨by rfl, ?_⟩) ?_ ?_
        rotate_left
        ·
         intro w'
         go_simp
         with_reducible rfl
        rotate_left
        ·
         simp only [Act.put, List.setIfInBounds_toArray, List.set_cons_zero, List.set_cons_succ, i64_w, i32_w]
         rfl
        refine done_ (done_of HT_.out (by kernel_rfl)) ?_
        try go_wp2
        refine bodyPost_ret (results_list (rs := [.cell 2 102, .cell 3 61, .tmp 4]) rfl (by simp) (.cell gb378 102 #[.slice Ao82 t396.length co82, .bool false] (0, 0) _ rfl (by (with_reducible repeat first|apply bn_|apply bd_|apply ba_); refine blk_far ?_ NB378_379.out _; refine blk_far ?_ NB378_379.out _; refine blk_far ?_ NB378_379.out _; refine blk_far ?_ NB378_379.out _; refine blk_put (cs := #[.slice Ao82 t396.length co82, .bool false]) ?_ 1 _ rfl; refine blk_put (cs := #[.slice none 0 0, .bool false]) ?_ 0 _ rfl; (with_reducible repeat first|apply bn_|apply bd_|apply ba_); exact BK378.out) Try.underlying102 rfl (by kernel_rfl) (.cell gb379 61 #[.int .i64 t385, .int .i64 t386, .int .i64 t387, .int .i64 t388] (0, 0) _ rfl (by (with_reducible repeat first|apply bn_|apply bd_|apply ba_); refine blk_put (cs := #[.int .i64 t385, .int .i64 t386, .int .i64 t387, .int .i64 0]) ?_ 3 _ rfl; refine blk_put (cs := #[.int .i64 t385, .int .i64 t386, .int .i64 0, .int .i64 0]) ?_ 2 _ rfl; refine blk_put (cs := #[.int .i64 t385, .int .i64 0, .int .i64 0, .int .i64 0]) ?_ 1 _ rfl; refine blk_put (cs := #[.int .i64 0, .int .i64 0, .int .i64 0, .int .i64 0]) ?_ 0 _ rfl; refine blk_far ?_ NB379_378.out _; refine blk_far ?_ NB379_378.out _; (with_reducible repeat first|apply bn_|apply bd_|apply ba_); exact BK379.out) Try.underlying61 rfl (by kernel_rfl) (.tmp .nil)))) rfl ?_
        exact ⟨_, ew_, by (with_reducible repeat (first | apply Kd.R_alloc | apply Kd.R_drewN | apply Kd.R_drew)); exact Kd.R_mono (Kd.R_far (p := ⟨gb379, 3, none⟩) (Kd.R_far (p := ⟨gb379, 2, none⟩) (Kd.R_far (p := ⟨gb379, 1, none⟩) (Kd.R_far (p := ⟨gb379, 0, none⟩) (Kd.R_far (p := ⟨gb378, 1, none⟩) (Kd.R_far (p := ⟨gb378, 0, none⟩) (Kd.R_types (Kd.R_types HO398.out BK378.out (by decide)) BK379.out (by decide)) (fun _ hk => by first | exact hk.1.2 | grind) (.slice Ao82 t396.length co82)) (fun _ hk => by first | exact hk.1.2 | grind) (.bool false)) (fun _ hk => by first | exact hk.2 | grind) (.int .i64 t385)) (fun _ hk => by first | exact hk.2 | grind) (.int .i64 t386)) (fun _ hk => by first | exact hk.2 | grind) (.int .i64 t387)) (fun _ hk => by first | exact hk.2 | grind) (.int .i64 t388)) (fun _ hk => trivial), ue_ HB.out⟩
       ·
        rw [if_neg c67] at H
        exact absurd H (by simp)
      ·
       rw [if_neg c66] at H
       exact absurd H (by simp)

/-! ### laws_eqByteS: function 63 -/
def laws_eqByteS.l0 : Nat → List Int → List Int → Int → Option (Bool)
 | 0, _, _, _ => none
 | k + 1, x0, x1, x5 => if x5 < (x0.length : Int) then (if 0 ≤ x5 then (if x5 < (x1.length : Int) then (if (rd x0 x5) = (rd x1 x5) then (laws_eqByteS.l0 k x0 x1 (wrap64 (x5 + 1))) else (some false)) else (none)) else (none)) else (some true)
def laws_eqByteS.f (k : Nat) (l0 : List Int) (l1 : List Int) : Option (Bool) := if (l0.length : Int) = (l1.length : Int) then (laws_eqByteS.l0 k l0 l1 0) else (some false)
theorem laws_eqByteS.mono_l : ∀ k, (∀ y0 y1 y2, LeO (laws_eqByteS.l0 k y0 y1 y2) (laws_eqByteS.l0 (k + 1) y0 y1 y2))
 | 0 => fun _ _ _ r h => by simp [laws_eqByteS.l0] at h
 | k + 1 => by
  have ih0 := laws_eqByteS.mono_l k
  ·
   intro y0 y1 y2
   unfold laws_eqByteS.l0
   repeat' first
   | (with_reducible exact ih0 _ _ _)
   | (with_reducible exact LeO.refl _)
   | (with_reducible exact LeO.none _)
   | (with_reducible refine LeO.ite ?_ ?_)
   | (with_reducible refine LeO.bind ?_ (fun _ => ?_))
   | exact ih0 _ _ _
   | exact LeO.none _
   | refine LeO.ite ?_ ?_
   | refine LeO.bind ?_ (fun _ => ?_)
theorem laws_eqByteS.mono : ∀ a0 a1 k, LeO (laws_eqByteS.f k a0 a1) (laws_eqByteS.f (k + 1) a0 a1) := by
 intro a0 a1 k
 have ih0 := laws_eqByteS.mono_l k
 unfold laws_eqByteS.f
 repeat' first
   | (with_reducible exact ih0 _ _ _)
   | (with_reducible exact LeO.refl _)
   | (with_reducible exact LeO.none _)
   | (with_reducible refine LeO.ite ?_ ?_)
   | (with_reducible refine LeO.bind ?_ (fun _ => ?_))
   | exact ih0 _ _ _
   | exact LeO.none _
   | refine LeO.ite ?_ ?_
   | refine LeO.bind ?_ (fun _ => ?_)
set_option maxHeartbeats 8000000 in
set_option maxRecDepth 100000 in
theorem laws_eqByteS.calls (k : Nat) (A0 : Option Addr) (c0 : Nat) (l0 : List Int) (A1 : Option Addr) (c1 : Nat) (l1 : List Int) (r : Bool) (w : World) (hr0 : Kd.C (Kd.int .u8) w A0 l0.length l0) (hc0 : l0.length ≤ c0) (hr1 : Kd.C (Kd.int .u8) w A1 l1.length l1) (hc1 : l1.length ≤ c1) (h : laws_eqByteS.f k l0 l1 = some r) :
  Calls Try.prog 63 #[.slice A0 l0.length c0, .slice A1 l1.length c1] w fun e w' => e = .returned (.bool r) ∧ Drawn0 w w' := by
 have HR0 := Aside0.mk hr0
 have HC0 := Aside0.mk hc0
 clear hr0 hc0
 have HR1 := Aside0.mk hr1
 have HC1 := Aside0.mk hc1
 clear hr1 hc1
 have H : (if (l0.length : Int) = (l1.length : Int) then (laws_eqByteS.l0 k l0 l1 0) else (some false)) = some r := h
 clear h
 by_cases c3 : (l0.length : Int) = (l1.length : Int)
 ·
  rw [if_pos c3] at H
  have c3b0 : ((l0.length : Int) == (l1.length : Int)) = true := beq_iff_eq.mpr c3
  have c3b1 : ((l0.length : Int) != (l1.length : Int)) = false := bne_eq_false_iff_eq.mpr c3
  have c3b2 : (l0.length == l1.length) = true := by first | simpa using c3 | (simp at c3 ⊢; omega)
  clear c3
  have H' := Aside0.mk H
  clear H
  go_enter Try.func63, Try.ntmps63
  go_wp2
  repeat (go_quiet (fail); try go_wp2)
  go_loopg [5] k (fun kq v5 w' => ∃ (x5_1 : Int), v5 = .int .i64 x5_1 ∧ Aside0 (laws_eqByteS.l0 kq l0 l1 x5_1 = some r) ∧ Aside0 (kq ≤ k) ∧ Drawn0 w w')
  case atStart => exact ⟨(0), (by first | rfl | (simp; done) | (simp [*]; done)), H', ⟨Nat.le_refl _⟩, by repeat (first | exact Drawn0.refl _ | apply Drawn0.step)⟩
  case round =>
   clear H'
   try clear c1
   try clear p2
   try clear c3
   try clear c3b0
   try clear c3b1
   try clear c3b2
   obtain ⟨x5_1, rfl, HA, HK1, ⟨m1, rfl⟩⟩ := hrel
   cases gk with
   | zero => exact absurd HA.out (by simp [laws_eqByteS.l0])
   | succ k1 =>
    have H := HA.out
    clear HA
    simp only [laws_eqByteS.l0] at H
    by_cases c4 : x5_1 < (l0.length : Int)
    ·
     rw [if_pos c4] at H
     have c4b0 : decide (x5_1 < (l0.length : Int)) = true := decide_eq_true c4
     clear c4
     by_cases c5 : 0 ≤ x5_1
     ·
      rw [if_pos c5] at H
      have c5b0 : decide (0 ≤ x5_1) = true := decide_eq_true c5
      clear c5
      by_cases c6 : x5_1 < (l1.length : Int)
      ·
       rw [if_pos c6] at H
       have c6b0 : decide (x5_1 < (l1.length : Int)) = true := decide_eq_true c6
       clear c6
       by_cases c7 : (rd l0 x5_1) = (rd l1 x5_1)
       ·
        rw [if_pos c7] at H
        have c7b0 : ((rd l0 x5_1) == (rd l1 x5_1)) = true := beq_iff_eq.mpr c7
        have c7b1 : ((rd l0 x5_1) != (rd l1 x5_1)) = false := bne_eq_false_iff_eq.mpr c7
        clear c7
        have H' := Aside0.mk H
        clear H
        have p399 : 0 ≤ (x5_1 : Int) := of_decide_eq_true ua_
        have q399 : x5_1 < (l0.length : Int) := of_decide_eq_true ua_
        obtain ⟨ad399, e399, hx399_0⟩ := Kd.at_int HR0.out x5_1 p399 q399
        cases e399
        replace p399 := eq_true p399
        replace q399 := eq_true q399
        have p400 : 0 ≤ (x5_1 : Int) := of_decide_eq_true ua_
        have q400 : x5_1 < (l1.length : Int) := of_decide_eq_true ua_
        obtain ⟨ad400, e400, hx400_0⟩ := Kd.at_int HR1.out x5_1 p400 q400
        cases e400
        replace p400 := eq_true p400
        replace q400 := eq_true q400
        go_wp2
        repeat (go_quiet (fail); try go_wp2)
        go_roundg k1
        case measure => have := HK1.out; omega
        case rel => exact ⟨(wrap64 (x5_1 + 1)), (by first | rfl | (simp; done) | (simp [*]; done)), H', ⟨by have := HK1.out; omega⟩, by repeat (first | exact Drawn0.refl _ | apply Drawn0.step)⟩
       ·
        rw [if_neg c7] at H
        have c7b0 : ((rd l0 x5_1) == (rd l1 x5_1)) = false := beq_eq_false_iff_ne.mpr c7
        have c7b1 : ((rd l0 x5_1) != (rd l1 x5_1)) = true := bne_iff_ne.mpr c7
        obtain rfl := Option.some.inj H
        have p399 : 0 ≤ (x5_1 : Int) := of_decide_eq_true ua_
        have q399 : x5_1 < (l0.length : Int) := of_decide_eq_true ua_
        obtain ⟨ad399, e399, hx399_0⟩ := Kd.at_int HR0.out x5_1 p399 q399
        cases e399
        replace p399 := eq_true p399
        replace q399 := eq_true q399
        have p400 : 0 ≤ (x5_1 : Int) := of_decide_eq_true ua_
        have q400 : x5_1 < (l1.length : Int) := of_decide_eq_true ua_
        obtain ⟨ad400, e400, hx400_0⟩ := Kd.at_int HR1.out x5_1 p400 q400
        cases e400
        replace p400 := eq_true p400
        replace q400 := eq_true q400
        go_wp2
        repeat (go_quiet (fail); try go_wp2)
        go_ret
        exact ⟨by first | rfl | (simp; done) | (simp [*]; done), by repeat (first | exact Drawn0.refl _ | apply Drawn0.step)⟩
      ·
       rw [if_neg c6] at H
       exact absurd H (by simp)
     ·
      rw [if_neg c5] at H
      exact absurd H (by simp)
    ·
     rw [if_neg c4] at H
     have c4b0 : decide (x5_1 < (l0.length : Int)) = false := decide_eq_false c4
     clear c4
     obtain rfl := Option.some.inj H
     go_wp2
     repeat (go_quiet (fail); try go_wp2)
     go_ret
     exact ⟨by first | rfl | (simp; done) | (simp [*]; done), by repeat (first | exact Drawn0.refl _ | apply Drawn0.step)⟩
 ·
  rw [if_neg c3] at H
  have c3b0 : ((l0.length : Int) == (l1.length : Int)) = false := beq_eq_false_iff_ne.mpr c3
  have c3b1 : ((l0.length : Int) != (l1.length : Int)) = true := bne_iff_ne.mpr c3
  have c3b2 : (l0.length == l1.length) = false := by first | simpa using c3 | (simp at c3 ⊢; omega)
  obtain rfl := Option.some.inj H
  go_enter Try.func63, Try.ntmps63
  go_wp2
  repeat (go_quiet (fail); try go_wp2)
  go_ret
  exact ⟨by first | rfl | (simp; done) | (simp [*]; done), by repeat (first | exact Drawn0.refl _ | apply Drawn0.step)⟩

/-! ### laws_eqDecoder: function 79 -/
def laws_eqDecoder.f (k : Nat) (l0_0 : List Int) (a0_1 : Bool) (l1_0 : List Int) (a1_1 : Bool) : Option (Bool) := (laws_eqByteS.f k l0_0 l1_0).bind fun t403 => (if t403 = true then (if (a0_1 != a1_1) = true then (some false) else (some true)) else (some false))
theorem laws_eqDecoder.mono : ∀ a0 a1 a2 a3 k, LeO (laws_eqDecoder.f k a0 a1 a2 a3) (laws_eqDecoder.f (k + 1) a0 a1 a2 a3) := by
 intro a0 a1 a2 a3 k
 unfold laws_eqDecoder.f
 repeat' first
   | (with_reducible exact laws_eqByteS.mono _ _ _)
   | (with_reducible exact LeO.refl _)
   | (with_reducible exact LeO.none _)
   | (with_reducible refine LeO.ite ?_ ?_)
   | (with_reducible refine LeO.bind ?_ (fun _ => ?_))
   | exact laws_eqByteS.mono _ _ _
   | exact LeO.none _
   | refine LeO.ite ?_ ?_
   | refine LeO.bind ?_ (fun _ => ?_)
set_option maxHeartbeats 8000000 in
set_option maxRecDepth 100000 in
theorem laws_eqDecoder.calls (k : Nat) (A0_0 : Option Addr) (c0_0 : Nat) (l0_0 : List Int) (a0_1 : Bool) (A1_0 : Option Addr) (c1_0 : Nat) (l1_0 : List Int) (a1_1 : Bool) (r : Bool) (w : World) (hr0_0 : Kd.C (Kd.int .u8) w A0_0 l0_0.length l0_0) (hc0_0 : l0_0.length ≤ c0_0) (hr1_0 : Kd.C (Kd.int .u8) w A1_0 l1_0.length l1_0) (hc1_0 : l1_0.length ≤ c1_0) (h : laws_eqDecoder.f k l0_0 a0_1 l1_0 a1_1 = some r) :
  Calls Try.prog 79 #[.agg #[.slice A0_0 l0_0.length c0_0, .bool a0_1], .agg #[.slice A1_0 l1_0.length c1_0, .bool a1_1]] w fun e w' => e = .returned (.bool r) ∧ Below w.heap.size w w' := by
 have hu102 := Try.underlying102
 have HR0_0 := Aside0.mk hr0_0
 have HC0_0 := Aside0.mk hc0_0
 clear hr0_0 hc0_0
 have HR1_0 := Aside0.mk hr1_0
 have HC1_0 := Aside0.mk hc1_0
 clear hr1_0 hc1_0
 have HB := am_ (Below.refl w.heap.size w)
 have H : ((laws_eqByteS.f k l0_0 l1_0).bind fun t403 => (if t403 = true then (if (a0_1 != a1_1) = true then (some false) else (some true)) else (some false))) = some r := h
 clear h
 replace H := Option.bind_eq_some_iff.mp H
 obtain ⟨t403, A30, H⟩ := H
 replace H : (if t403 = true then (if (a0_1 != a1_1) = true then (some false) else (some true)) else (some false)) = some r := H
 have A3 := Aside0.mk A30
 clear A30
 by_cases c4 : t403 = true
 ·
  subst c4
  have H1 : (if (a0_1 != a1_1) = true then (some false) else (some true)) = some r := by rw [if_pos rfl] at H; exact H
  clear H
  have H := H1
  clear H1
  by_cases c5 : (a0_1 != a1_1) = true
  ·
   rw [if_pos c5] at H
   have c5b0 : (a0_1 != a1_1) = true := c5
   (try (have c5b1 : decide (a0_1 = a1_1) = false := by simpa using c5))
   (try (have c5b2 : (a0_1 == a1_1) = false := by simpa using c5))
   (try (have c5b3 : ¬ (a0_1 = a1_1) := by simpa using c5))
   clear c5
   obtain rfl := Option.some.inj H
   go_enter Try.func79, Try.ntmps79
   go_wp2_with (first | ((with_reducible refine gate_dst (N := 2) rfl ?_); refine box_event ?hg (N := 2) ?hd (cs := #[.slice A0_0 l0_0.length c0_0, .bool a0_1]) (t := 102) ?hr ?_; (case hd => rfl); (case hg => rfl); (case hr => first | (go_simp; done) | (go_simp; rfl)); intro gb401 hg w6 hbox hb; have n0_ := am_ (below_step (ue_ HB.out) hb); have n1_ := am_ (hbox); have n2_ := am_ ((by rw [hg]; exact (below_size (ue_ HB.out)) : w.heap.size ≤ gb401)); have n3_ := am_ ((by rw [hg]; exact (below_size (ue_ HB.out)) : w.heap.size ≤ gb401)); clear HB; have HB := n0_; have BK401 := n1_; have GW401 := n2_; have GE401 := n3_; clear n0_ n1_ n2_ n3_; clear hb hbox hg) | ((with_reducible refine gate_dst (N := 3) rfl ?_); refine box_event ?hg (N := 3) ?hd (cs := #[.slice A1_0 l1_0.length c1_0, .bool a1_1]) (t := 102) ?hr ?_; (case hd => rfl); (case hg => rfl); (case hr => first | (go_simp; done) | (go_simp; rfl)); intro gb402 hg w7 hbox hb; have n0_ := am_ (bb_ BK401.out hb); have n1_ := am_ (below_step (ue_ HB.out) hb); have n2_ := am_ (hbox); have n3_ := am_ ((by rw [hg]; exact (below_size (ue_ HB.out)) : w.heap.size ≤ gb402)); have n4_ := am_ ((by rw [hg]; exact (below_size (ue_ HB.out)) : w.heap.size ≤ gb402)); have n5_ := am_ ((by rw [hg]; exact Nat.ne_of_lt (bl_ BK401.out) : gb401 ≠ gb402)); have n6_ := am_ ((by rw [hg]; exact Nat.ne_of_gt (bl_ BK401.out) : gb402 ≠ gb401)); clear BK401 HB; have BK401 := n0_; have HB := n1_; have BK402 := n2_; have GW402 := n3_; have GE402 := n4_; have NB401_402 := n5_; have NB402_401 := n6_; clear n0_ n1_ n2_ n3_ n4_ n5_ n6_; clear hb hbox hg; have hnb8 := NB401_402.out; have hnc8 := NB402_401.out; obtain ⟨hcz9_0, hcz9_1⟩ := cb2_ BK401.out; obtain ⟨hfz9_0, hfz9_1⟩ := bf2_ BK401.out; obtain ⟨hcz10_0, hcz10_1⟩ := cb2_ BK402.out; have hfz10_0 := blk_frozen BK402.out 0; have hfz10_1 := blk_frozen BK402.out 1) | ((with_reducible refine gate_callee (f := 63) rfl ?_); refine goesL_ (some 9) rfl rfl Try.func63 (by kernel_rfl) rfl #[.slice A0_0 l0_0.length c0_0, .slice A1_0 l1_0.length c1_0] rfl ul_ ?_; (with_reducible refine (laws_eqByteS.calls k _ _ l0_0 _ _ l1_0 true _ ?side1 ?side2 ?side3 ?side4 A3.out).mono ?_); (case side1 => repeat (first | exact (Kd.C_below HR0_0.out HB.out) | (with_reducible refine Kd.C_alloc ?_ _) | (with_reducible refine Kd.C_drewN ?_ _) | (with_reducible refine Kd.C_drew ?_))); (case side2 => exact HC0_0.out); (case side3 => repeat (first | exact (Kd.C_below HR1_0.out HB.out) | (with_reducible refine Kd.C_alloc ?_ _) | (with_reducible refine Kd.C_drewN ?_ _) | (with_reducible refine Kd.C_drew ?_))); (case side4 => exact HC1_0.out); rintro e w' ⟨rfl, ⟨nd, rfl⟩⟩; refine ⟨_, rfl, ?_⟩))
   go_ret
   exact ⟨ew_, ue_ HB.out⟩
  ·
   rw [if_neg c5] at H
   have c5b0 : (a0_1 != a1_1) = false := by simpa using c5
   (try (have c5b1 : decide (a0_1 = a1_1) = true := by simpa using c5))
   (try (have c5b2 : (a0_1 == a1_1) = true := by simpa using c5))
   clear c5
   obtain rfl := Option.some.inj H
   go_enter Try.func79, Try.ntmps79
   go_wp2_with (first | ((with_reducible refine gate_dst (N := 2) rfl ?_); refine box_event ?hg (N := 2) ?hd (cs := #[.slice A0_0 l0_0.length c0_0, .bool a0_1]) (t := 102) ?hr ?_; (case hd => rfl); (case hg => rfl); (case hr => first | (go_simp; done) | (go_simp; rfl)); intro gb401 hg w11 hbox hb; have n0_ := am_ (below_step (ue_ HB.out) hb); have n1_ := am_ (hbox); have n2_ := am_ ((by rw [hg]; exact (below_size (ue_ HB.out)) : w.heap.size ≤ gb401)); have n3_ := am_ ((by rw [hg]; exact (below_size (ue_ HB.out)) : w.heap.size ≤ gb401)); clear HB; have HB := n0_; have BK401 := n1_; have GW401 := n2_; have GE401 := n3_; clear n0_ n1_ n2_ n3_; clear hb hbox hg) | ((with_reducible refine gate_dst (N := 3) rfl ?_); refine box_event ?hg (N := 3) ?hd (cs := #[.slice A1_0 l1_0.length c1_0, .bool a1_1]) (t := 102) ?hr ?_; (case hd => rfl); (case hg => rfl); (case hr => first | (go_simp; done) | (go_simp; rfl)); intro gb402 hg w12 hbox hb; have n0_ := am_ (bb_ BK401.out hb); have n1_ := am_ (below_step (ue_ HB.out) hb); have n2_ := am_ (hbox); have n3_ := am_ ((by rw [hg]; exact (below_size (ue_ HB.out)) : w.heap.size ≤ gb402)); have n4_ := am_ ((by rw [hg]; exact (below_size (ue_ HB.out)) : w.heap.size ≤ gb402)); have n5_ := am_ ((by rw [hg]; exact Nat.ne_of_lt (bl_ BK401.out) : gb401 ≠ gb402)); have n6_ := am_ ((by rw [hg]; exact Nat.ne_of_gt (bl_ BK401.out) : gb402 ≠ gb401)); clear BK401 HB; have BK401 := n0_; have HB := n1_; have BK402 := n2_; have GW402 := n3_; have GE402 := n4_; have NB401_402 := n5_; have NB402_401 := n6_; clear n0_ n1_ n2_ n3_ n4_ n5_ n6_; clear hb hbox hg; have hnb13 := NB401_402.out; have hnc13 := NB402_401.out; obtain ⟨hcz14_0, hcz14_1⟩ := cb2_ BK401.out; obtain ⟨hfz14_0, hfz14_1⟩ := bf2_ BK401.out; obtain ⟨hcz15_0, hcz15_1⟩ := cb2_ BK402.out; have hfz15_0 := blk_frozen BK402.out 0; have hfz15_1 := blk_frozen BK402.out 1) | ((with_reducible refine gate_callee (f := 63) rfl ?_); refine goesL_ (some 9) rfl rfl Try.func63 (by kernel_rfl) rfl #[.slice A0_0 l0_0.length c0_0, .slice A1_0 l1_0.length c1_0] rfl ul_ ?_; (with_reducible refine (laws_eqByteS.calls k _ _ l0_0 _ _ l1_0 true _ ?side1 ?side2 ?side3 ?side4 A3.out).mono ?_); (case side1 => repeat (first | exact (Kd.C_below HR0_0.out HB.out) | (with_reducible refine Kd.C_alloc ?_ _) | (with_reducible refine Kd.C_drewN ?_ _) | (with_reducible refine Kd.C_drew ?_))); (case side2 => exact HC0_0.out); (case side3 => repeat (first | exact (Kd.C_below HR1_0.out HB.out) | (with_reducible refine Kd.C_alloc ?_ _) | (with_reducible refine Kd.C_drewN ?_ _) | (with_reducible refine Kd.C_drew ?_))); (case side4 => exact HC1_0.out); rintro e w' ⟨rfl, ⟨nd, rfl⟩⟩; refine ⟨_, rfl, ?_⟩))
   go_ret
   exact ⟨ew_, ue_ HB.out⟩
 ·
  replace c4 := Bool.eq_false_iff.mpr c4
  subst c4
  have H1 : (some false) = some r := by rw [if_neg (show ¬ (false = true) by decide)] at H; exact H
  clear H
  have H := H1
  clear H1
  obtain rfl := Option.some.inj H
  go_enter Try.func79, Try.ntmps79
  go_wp2_with (first | ((with_reducible refine gate_dst (N := 2) rfl ?_); refine box_event ?hg (N := 2) ?hd (cs := #[.slice A0_0 l0_0.length c0_0, .bool a0_1]) (t := 102) ?hr ?_; (case hd => rfl); (case hg => rfl); (case hr => first | (go_simp; done) | (go_simp; rfl)); intro gb401 hg w16 hbox hb; have n0_ := am_ (below_step (ue_ HB.out) hb); have n1_ := am_ (hbox); have n2_ := am_ ((by rw [hg]; exact (below_size (ue_ HB.out)) : w.heap.size ≤ gb401)); have n3_ := am_ ((by rw [hg]; exact (below_size (ue_ HB.out)) : w.heap.size ≤ gb401)); clear HB; have HB := n0_; have BK401 := n1_; have GW401 := n2_; have GE401 := n3_; clear n0_ n1_ n2_ n3_; clear hb hbox hg) | ((with_reducible refine gate_dst (N := 3) rfl ?_); refine box_event ?hg (N := 3) ?hd (cs := #[.slice A1_0 l1_0.length c1_0, .bool a1_1]) (t := 102) ?hr ?_; (case hd => rfl); (case hg => rfl); (case hr => first | (go_simp; done) | (go_simp; rfl)); intro gb402 hg w17 hbox hb; have n0_ := am_ (bb_ BK401.out hb); have n1_ := am_ (below_step (ue_ HB.out) hb); have n2_ := am_ (hbox); have n3_ := am_ ((by rw [hg]; exact (below_size (ue_ HB.out)) : w.heap.size ≤ gb402)); have n4_ := am_ ((by rw [hg]; exact (below_size (ue_ HB.out)) : w.heap.size ≤ gb402)); have n5_ := am_ ((by rw [hg]; exact Nat.ne_of_lt (bl_ BK401.out) : gb401 ≠ gb402)); have n6_ := am_ ((by rw [hg]; exact Nat.ne_of_gt (bl_ BK401.out) : gb402 ≠ gb401)); clear BK401 HB; have BK401 := n0_; have HB := n1_; have BK402 := n2_; have GW402 := n3_; have GE402 := n4_; have NB401_402 := n5_; have NB402_401 := n6_; clear n0_ n1_ n2_ n3_ n4_ n5_ n6_; clear hb hbox hg; have hnb18 := NB401_402.out; have hnc18 := NB402_401.out; obtain ⟨hcz19_0, hcz19_1⟩ := cb2_ BK401.out; obtain ⟨hfz19_0, hfz19_1⟩ := bf2_ BK401.out; obtain ⟨hcz20_0, hcz20_1⟩ := cb2_ BK402.out; have hfz20_0 := blk_frozen BK402.out 0; have hfz20_1 := blk_frozen BK402.out 1) | ((with_reducible refine gate_callee (f := 63) rfl ?_); refine goesL_ (some 9) rfl rfl Try.func63 (by kernel_rfl) rfl #[.slice A0_0 l0_0.length c0_0, .slice A1_0 l1_0.length c1_0] rfl ul_ ?_; (with_reducible refine (laws_eqByteS.calls k _ _ l0_0 _ _ l1_0 false _ ?side1 ?side2 ?side3 ?side4 A3.out).mono ?_); (case side1 => repeat (first | exact (Kd.C_below HR0_0.out HB.out) | (with_reducible refine Kd.C_alloc ?_ _) | (with_reducible refine Kd.C_drewN ?_ _) | (with_reducible refine Kd.C_drew ?_))); (case side2 => exact HC0_0.out); (case side3 => repeat (first | exact (Kd.C_below HR1_0.out HB.out) | (with_reducible refine Kd.C_alloc ?_ _) | (with_reducible refine Kd.C_drewN ?_ _) | (with_reducible refine Kd.C_drew ?_))); (case side4 => exact HC1_0.out); rintro e w' ⟨rfl, ⟨nd, rfl⟩⟩; refine ⟨_, rfl, ?_⟩))
  go_ret
  exact ⟨ew_, ue_ HB.out⟩

/-! ### laws_markByteS: function 72 -/
def laws_markByteS.l0 : Nat → List Int → Int → Int → Option (Int × List Int)
 | 0, _, _, _ => none
 | k + 1, x0, x1, x5 => if x5 < (x0.length : Int) then (if 0 ≤ x5 then (laws_markByteS.l0 k (x0.set (x5 : Int).toNat ((x1) % 256)) (wrap64 (x1 + 1)) (wrap64 (x5 + 1))) else (none)) else (some (x1, x0))
def laws_markByteS.f (k : Nat) (l0 : List Int) (a1 : Int) : Option (Int × List Int) := laws_markByteS.l0 k l0 a1 0
theorem laws_markByteS.mono_l : ∀ k, (∀ y0 y1 y2, LeO (laws_markByteS.l0 k y0 y1 y2) (laws_markByteS.l0 (k + 1) y0 y1 y2))
 | 0 => fun _ _ _ r h => by simp [laws_markByteS.l0] at h
 | k + 1 => by
  have ih0 := laws_markByteS.mono_l k
  ·
   intro y0 y1 y2
   unfold laws_markByteS.l0
   repeat' first
   | (with_reducible exact ih0 _ _ _)
   | (with_reducible exact LeO.refl _)
   | (with_reducible exact LeO.none _)
   | (with_reducible refine LeO.ite ?_ ?_)
   | (with_reducible refine LeO.bind ?_ (fun _ => ?_))
   | exact ih0 _ _ _
   | exact LeO.none _
   | refine LeO.ite ?_ ?_
   | refine LeO.bind ?_ (fun _ => ?_)
theorem laws_markByteS.mono : ∀ a0 a1 k, LeO (laws_markByteS.f k a0 a1) (laws_markByteS.f (k + 1) a0 a1) := by
 intro a0 a1 k
 have ih0 := laws_markByteS.mono_l k
 unfold laws_markByteS.f
 repeat' first
   | (with_reducible exact ih0 _ _ _)
   | (with_reducible exact LeO.refl _)
   | (with_reducible exact LeO.none _)
   | (with_reducible refine LeO.ite ?_ ?_)
   | (with_reducible refine LeO.bind ?_ (fun _ => ?_))
   | exact ih0 _ _ _
   | exact LeO.none _
   | refine LeO.ite ?_ ?_
   | refine LeO.bind ?_ (fun _ => ?_)
set_option maxHeartbeats 8000000 in
set_option maxRecDepth 100000 in
theorem laws_markByteS.calls (k : Nat) (P0_ : Nat → Prop) (u9000_ : Value) (l0 : List Int) (a1 : Int) (r1 : Int) (r2 : List Int) (w0 w : World) (hB : Below w0.heap.size w0 w) (ho0 : Kd.R (Kd.int .u8) 5 w w0.heap.size P0_ u9000_ l0) (h : laws_markByteS.f k l0 a1 = some (r1, r2)) :
  Calls Try.prog 72 #[u9000_, .int .i64 a1] w fun e w' => e = .returned (.int .i64 r1) ∧ Kd.R (Kd.int .u8) 5 w' w0.heap.size (fun k_ => (P0_ k_ ∨ w.heap.size ≤ k_)) u9000_ r2 ∧ Below w0.heap.size w0 w' ∧ Kept w w' (fun k_ => P0_ k_) := by
 have HO0 := am_ (show Kd.R (Kd.int .u8) 5 w w0.heap.size (fun k_ => (P0_ k_ ∨ w.heap.size ≤ k_)) u9000_ l0 from Kd.R_mono ho0 (fun k_ hk => (.inl hk)))
 have HK := am_ (Kept.refl w (fun k_ => P0_ k_))
 have HW0 := Aside0.mk hB.size
 have HB := Aside0.mk hB
 clear hB
 have H : (laws_markByteS.l0 k l0 a1 0) = some (r1, r2) := h
 clear h
 have H' := Aside0.mk H
 clear H
 go_enter Try.func72, Try.ntmps72
 go_wp2
 go_loopg [1, 5] k (fun kq v1 v5 w' => ∃ (x0_1 : List Int) (x1_1 : Int) (x5_1 : Int), v1 = .int .i64 x1_1 ∧ v5 = .int .i64 x5_1 ∧ Aside0 (laws_markByteS.l0 kq x0_1 x1_1 x5_1 = some (r1, r2)) ∧ Aside0 (kq ≤ k) ∧ Aside0 (Kd.R (Kd.int .u8) 5 w' w0.heap.size (fun k_ => (P0_ k_ ∨ w.heap.size ≤ k_)) u9000_ x0_1) ∧ Aside0 (Kept w w' (fun k_ => P0_ k_)) ∧ Aside0 (Below w0.heap.size w0 w'))
 case atStart => exact ⟨(l0), (a1), (0), (by first | rfl | (simp; done) | (simp [*]; done)), (by first | rfl | (simp; done) | (simp [*]; done)), H', ⟨Nat.le_refl _⟩, ⟨by (with_reducible repeat (first | apply Kd.R_alloc | apply Kd.R_drewN | apply Kd.R_drew)); exact HO0.out⟩, ⟨by repeat (first | (with_reducible first | exact HK.out | apply Kept.alloc | apply Kept.drewN | apply Kept.drew) | exact HK.out)⟩, ⟨ue_ HB.out⟩⟩
 case round =>
  clear H'
  try clear p2
  obtain ⟨x0_1, x1_1, x5_1, rfl, rfl, HA, HK1, HO_0, HK, HB⟩ := hrel
  cases gk with
  | zero => exact absurd HA.out (by simp [laws_markByteS.l0])
  | succ k1 =>
   have H := HA.out
   clear HA
   simp only [laws_markByteS.l0] at H
   by_cases c3 : x5_1 < (x0_1.length : Int)
   ·
    rw [if_pos c3] at H
    have c3b0 : decide (x5_1 < (x0_1.length : Int)) = true := decide_eq_true c3
    clear c3
    by_cases c4 : 0 ≤ x5_1
    ·
     rw [if_pos c4] at H
     have c4b0 : decide (0 ≤ x5_1) = true := decide_eq_true c4
     clear c4
     obtain ⟨y404, hy404⟩ : ∃ y_ : List Int, y_ = (x0_1.set (x5_1 : Int).toNat ((x1_1) % 256)) := ⟨_, rfl⟩
     replace H : (laws_markByteS.l0 k1 y404 (wrap64 (x1_1 + 1)) (wrap64 (x5_1 + 1))) = some (r1, r2) := by first | (rw [hy404]; with_reducible exact H) | (have H2_ := (Option.bind_some _ _).symm.trans H; rw [hy404]; with_reducible exact H2_) | (have H2_ := (Option.bind_some _ _).symm.trans H; with_reducible exact H2_) | with_reducible exact H | (rw [hy404]; exact H) | exact H
     have Ny404 := Aside0.mk hy404
     clear hy404
     have H' := Aside0.mk H
     clear H
     obtain ⟨Ao6, co6, eo6⟩ := Kd.R_slice HO_0.out
     subst eo6
     have p5 : 0 ≤ (x5_1 : Int) := of_decide_eq_true ua_
     have q5 : (x5_1 : Int) < ((x0_1.length : Int) : Int) := of_decide_eq_true ua_
     obtain ⟨go5, co5, eo5, gb5, gl5, cl5, HG5⟩ := Kd.R_form HO_0.out (by omega)
     (first | cases eo5 | (injection eo5 with ea_ en_ ec_; (first | subst ea_ | (injection ea_ with ea_; subst ea_)); subst ec_; clear en_))
     have GB5 := Aside0.mk gb5
     have GG5 := Aside0.mk HG5
     clear gb5 gl5 HG5
     have HMgo5 := am_ (show (P0_ go5 ∨ w.heap.size ≤ go5) from (HO_0.out.1 _ rfl))
     obtain ⟨hx5_0, hf5_0⟩ := Kd.R_celln 0 HO_0.out (x5_1 : Int) p5 q5
     replace p5 := eq_true p5
     replace q5 := eq_true q5
     have HP7 := Kd.R_putg HO_0.out (x5_1 : Int) ((x1_1) % 256)
     go_wp2_with (first | ((with_reducible refine gate_store (t := 5) (p := 16) rfl ?_); refine store_event (t := 5) (p := 16) (v := ?vo_w8) (w1 := (wr.setCell ⟨go5, (x5_1 : Int).toNat, none⟩ (.int .u8 ((x1_1) % 256)))) ?hg ?ho ?hn ?hr ?_; (case ho => rfl); (case hg => rfl); (case hn => rfl); (case hr => first | (go_simp; done) | (go_simp; rfl)); intro w8 hw; have hg : wr.grownBy w8 (some go5) := (by rw [hw]; exact HP7.2); have hp_ : Kd.R (Kd.int .u8) 5 w8 w0.heap.size (fun k_ => (P0_ k_ ∨ w.heap.size ≤ k_)) (.slice (some ⟨go5, 0, none⟩) x0_1.length co6) y404 := (by rw [hw, Ny404.out]; exact HP7.1); clear HP7; have n0_ := am_ (hp_); have n1_ := am_ ((by rw [hw]; exact below_set (HB.out) GB5.out : Below w0.heap.size w0 w8)); have n2_ := am_ (Kept.of_grown (S := (fun k_ => P0_ k_)) hg (by repeat (first | (with_reducible first | exact HK.out | apply Kept.alloc | apply Kept.drewN | apply Kept.drew) | exact HK.out)) (fun k_ e_ => (HO_0.out.1 k_ e_))); clear HO_0 HB HK; have HO_0 := n0_; have HB := n1_; have HK := n2_; clear n0_ n1_ n2_; clear hg hw hp_))
     go_roundg k1
     case measure => have := HK1.out; omega
     case rel => exact ⟨(y404), (wrap64 (x1_1 + 1)), (wrap64 (x5_1 + 1)), (by first | rfl | (simp; done) | (simp [*]; done)), (by first | rfl | (simp; done) | (simp [*]; done)), H', ⟨by have := HK1.out; omega⟩, ⟨by (with_reducible repeat (first | apply Kd.R_alloc | apply Kd.R_drewN | apply Kd.R_drew)); exact HO_0.out⟩, ⟨by repeat (first | (with_reducible first | exact HK.out | apply Kept.alloc | apply Kept.drewN | apply Kept.drew) | exact HK.out)⟩, ⟨ue_ HB.out⟩⟩
    ·
     rw [if_neg c4] at H
     exact absurd H (by simp)
   ·
    rw [if_neg c3] at H
    have c3b0 : decide (x5_1 < (x0_1.length : Int)) = false := decide_eq_false c3
    clear c3
    simp only [Option.some.injEq, Prod.mk.injEq] at H
    obtain ⟨rfl, rfl⟩ := H
    obtain ⟨Ao9, co9, eo9⟩ := Kd.R_slice HO_0.out
    subst eo9
    go_wp2
    go_ret
    exact ⟨ew_, by (with_reducible repeat (first | apply Kd.R_alloc | apply Kd.R_drewN | apply Kd.R_drew)); exact HO_0.out, ue_ HB.out, by repeat (first | (with_reducible first | exact HK.out | apply Kept.alloc | apply Kept.drewN | apply Kept.drew) | exact HK.out)⟩

/-! ### laws_markDecoder: function 80 -/
def laws_markDecoder.f (k : Nat) (l0_0 : List Int) (a0_1 : Bool) (a1 : Int) : Option (Int × List Int) := (laws_markByteS.f k l0_0 a1).bind fun bt406 => (some (bt406.1, bt406.2))
theorem laws_markDecoder.mono : ∀ a0 a1 a2 k, LeO (laws_markDecoder.f k a0 a1 a2) (laws_markDecoder.f (k + 1) a0 a1 a2) := by
 intro a0 a1 a2 k
 unfold laws_markDecoder.f
 repeat' first
   | (with_reducible exact laws_markByteS.mono _ _ _)
   | (with_reducible exact LeO.refl _)
   | (with_reducible exact LeO.none _)
   | (with_reducible refine LeO.ite ?_ ?_)
   | (with_reducible refine LeO.bind ?_ (fun _ => ?_))
   | exact laws_markByteS.mono _ _ _
   | exact LeO.none _
   | refine LeO.ite ?_ ?_
   | refine LeO.bind ?_ (fun _ => ?_)
set_option maxHeartbeats 8000000 in
set_option maxRecDepth 100000 in
theorem laws_markDecoder.calls (k : Nat) (P0_0_ : Nat → Prop) (u9000_ : Value) (l0_0 : List Int) (a0_1 : Bool) (a1 : Int) (r1 : Int) (r2 : List Int) (w0 w : World) (hB : Below w0.heap.size w0 w) (ho0_0 : Kd.R (Kd.int .u8) 5 w w0.heap.size P0_0_ u9000_ l0_0) (h : laws_markDecoder.f k l0_0 a0_1 a1 = some (r1, r2)) :
  Calls Try.prog 80 #[.agg #[u9000_, .bool a0_1], .int .i64 a1] w fun e w' => e = .returned (.int .i64 r1) ∧ Kd.R (Kd.int .u8) 5 w' w0.heap.size (fun k_ => (P0_0_ k_ ∨ w.heap.size ≤ k_)) u9000_ r2 ∧ Below w0.heap.size w0 w' ∧ Kept w w' (fun k_ => P0_0_ k_) := by
 have hu102 := Try.underlying102
 have HO0_0 := am_ (show Kd.R (Kd.int .u8) 5 w w0.heap.size (fun k_ => (P0_0_ k_ ∨ w.heap.size ≤ k_)) u9000_ l0_0 from Kd.R_mono ho0_0 (fun k_ hk => (.inl hk)))
 have HK := am_ (Kept.refl w (fun k_ => P0_0_ k_))
 have HW0 := Aside0.mk hB.size
 have HB := Aside0.mk hB
 clear hB
 have H : ((laws_markByteS.f k l0_0 a1).bind fun bt406 => (some (bt406.1, bt406.2))) = some (r1, r2) := h
 clear h
 replace H := Option.bind_eq_some_iff.mp H
 obtain ⟨⟨t406, t407⟩, A30, H⟩ := H
 replace H : (some (t406, t407)) = some (r1, r2) := H
 have A3 := Aside0.mk A30
 clear A30
 simp only [Option.some.injEq, Prod.mk.injEq] at H
 obtain ⟨rfl, rfl⟩ := H
 obtain ⟨Ao4, co4, eo4⟩ := Kd.R_slice HO0_0.out
 subst eo4
 go_enter Try.func80, Try.ntmps80
 go_wp2_with (first | ((with_reducible refine gate_dst (N := 2) rfl ?_); refine box_event ?hg (N := 2) ?hd (cs := #[.slice Ao4 l0_0.length co4, .bool a0_1]) (t := 102) ?hr ?_; (case hd => rfl); (case hg => rfl); (case hr => first | (go_simp; done) | (go_simp; rfl)); intro gb405 hg w5 hbox hb; have n0_ := am_ (Kd.R_below (ur_ HO0_0.out) hb); have n1_ := am_ (Kept.below (S := (fun k_ => P0_0_ k_)) (by repeat (first | (with_reducible first | exact HK.out | apply Kept.alloc | apply Kept.drewN | apply Kept.drew) | exact HK.out)) hb); have n2_ := am_ (below_step (ue_ HB.out) hb); have n3_ := am_ (hbox); have n4_ := am_ ((by rw [hg]; exact (by first | exact HK.out.1 | exact (show Kept w _ (fun k_ => P0_0_ k_) from by repeat (first | (with_reducible first | exact HK.out | apply Kept.alloc | apply Kept.drewN | apply Kept.drew) | exact HK.out)).1) : w.heap.size ≤ gb405)); have n5_ := am_ ((by rw [hg]; exact (below_size (ue_ HB.out)) : w0.heap.size ≤ gb405)); clear HO0_0 HK HB; have HO0_0 := n0_; have HK := n1_; have HB := n2_; have BK405 := n3_; have GW405 := n4_; have GE405 := n5_; clear n0_ n1_ n2_ n3_ n4_ n5_; clear hb hbox hg; obtain ⟨hcz6_0, hcz6_1⟩ := cb2_ BK405.out; have hfz6_0 := blk_frozen BK405.out 0; have hfz6_1 := blk_frozen BK405.out 1) | ((with_reducible refine gate_callee (f := 72) rfl ?_); refine goesL_ (some 8) rfl rfl Try.func72 (by kernel_rfl) rfl #[.slice Ao4 l0_0.length co4, .int .i64 a1] rfl ul_ ?_; (with_reducible refine (laws_markByteS.calls k (fun k_ => some k_ = (.slice Ao4 l0_0.length co4 : Value).ownBlock) (.slice Ao4 l0_0.length co4) l0_0 a1 t406 t407 w0 _ ?side1 ?side2 A3.out).mono ?_); (case side1 => repeat (first | (with_reducible first | exact HB.out | apply below_alloc | apply pw_below_drewN | apply below_drew1 | refine below_set ?_ GE405.out) | exact HB.out)); (case side2 => exact Kd.R_tight rfl HO0_0.out); rintro e w7 ⟨rfl, hy0, hb, hkp⟩; refine ⟨_, rfl, ?_⟩; have n0_ := am_ (Kd.R_reok rfl hy0 (fun k_ e_ => HO0_0.out.1 k_ e_)); have n1_ := am_ (blk_kept (g := gb405) (o := .cells #[.slice Ao4 l0_0.length co4, .bool a0_1] 102 (0, 0)) (ub_ BK405.out) hkp (fun hs_ => (fun e_ => (Kd.R_ne HO0_0.out BK405.out (by decide)) e_) hs_)); have n2_ := am_ (Kept.then_ (S := (fun k_ => P0_0_ k_)) (by repeat (first | (with_reducible first | exact HK.out | apply Kept.alloc | apply Kept.drewN | apply Kept.drew | refine Kept.setCell ?_ (.inr GW405.out) _) | exact HK.out)) hkp (fun k_ hs_ => (fun e_ => (HO0_0.out.1 k_ e_.symm)) hs_)); have n3_ := am_ (hb); clear HO0_0 BK405 HK HB; have HO0_0 := n0_; have BK405 := n1_; have HK := n2_; have HB := n3_; clear n0_ n1_ n2_ n3_; (try clear hb); (try clear hkp); (try clear hy0)))
 go_ret
 exact ⟨ew_, by (with_reducible repeat (first | apply Kd.R_alloc | apply Kd.R_drewN | apply Kd.R_drew)); exact HO0_0.out, ue_ HB.out, by repeat (first | (with_reducible first | exact HK.out | apply Kept.alloc | apply Kept.drewN | apply Kept.drew | refine Kept.setCell ?_ (.inr GW405.out) _) | exact HK.out)⟩

end Go.Proofs.Ytcflalomjehiiaa.QFnExactTakeNext
