/- The machine side of a law: Lean functions with the Go functions' answers and the walks that show it. No condition. -/
import Derived.Test.YtcflalomjehiiaaQFnExactTakeClosedx0
import Derived.Test.YtcflalomjehiiaaQFnExactTakeClosedx5
import Derived.Test.YtcflalomjehiiaaQFnExactTakeClosedx6
namespace Go.Proofs.Ytcflalomjehiiaa.QFnExactTakeClosed
open Go.RowKit Go.Proofs.YtcflalomjehiiaaW.PrintWords Go.Proofs.YtcflalomjehiiaaW.PrintLast Go.Proofs.YtcflalomjehiiaaW.PrintMore
attribute [local go_sem] max2_int min2_int max_two min_two max_three min_three max_four min_four   -- for this text's walks alone
set_option linter.unusedVariables false
set_option linter.unusedSimpArgs false

/-! ### impl_areSorted: function 161 -/
def impl_areSorted.l0 : Nat → List (S80) → Int → Option (Bool)
 | 0, _, _ => none
 | k + 1, x0, x3 => if x3 < (x0.length : Int) then (if 0 ≤ (wrap64 (x3 - 1)) then (if (wrap64 (x3 - 1)) < (x0.length : Int) then (if 0 ≤ x3 then ((impl_aggOrder.f k ((rd_T80 x0 (wrap64 (x3 - 1))).f0) ((rd_T80 x0 (wrap64 (x3 - 1))).f1) ((rd_T80 x0 (wrap64 (x3 - 1))).f2) ((rd_T80 x0 (wrap64 (x3 - 1))).f3) ((rd_T80 x0 (wrap64 (x3 - 1))).f4) ((rd_T80 x0 (wrap64 (x3 - 1))).f5) ((rd_T80 x0 x3).f0) ((rd_T80 x0 x3).f1) ((rd_T80 x0 x3).f2) ((rd_T80 x0 x3).f3) ((rd_T80 x0 x3).f4) ((rd_T80 x0 x3).f5)).bind fun t250 => (if t250 ≥ 0 then (some false) else (impl_areSorted.l0 k x0 (wrap64 (x3 + 1))))) else (none)) else (none)) else (none)) else (some true)
def impl_areSorted.f (k : Nat) (l0 : List (S80)) : Option (Bool) := impl_areSorted.l0 k l0 1
theorem impl_areSorted.mono_l : ∀ k, (∀ y0 y1, LeO (impl_areSorted.l0 k y0 y1) (impl_areSorted.l0 (k + 1) y0 y1))
 | 0 => fun _ _ r h => by simp [impl_areSorted.l0] at h
 | k + 1 => by
  have ih0 := impl_areSorted.mono_l k
  ·
   intro y0 y1
   unfold impl_areSorted.l0
   repeat' first
   | (with_reducible exact ih0 _ _)
   | (with_reducible exact impl_aggOrder.mono _ _ _ _ _ _ _ _ _ _ _ _ _)
   | (with_reducible exact LeO.refl _)
   | (with_reducible exact LeO.none _)
   | (with_reducible refine LeO.ite ?_ ?_)
   | (with_reducible refine LeO.bind ?_ (fun _ => ?_))
   | exact ih0 _ _
   | exact impl_aggOrder.mono _ _ _ _ _ _ _ _ _ _ _ _ _
   | exact LeO.none _
   | refine LeO.ite ?_ ?_
   | refine LeO.bind ?_ (fun _ => ?_)
theorem impl_areSorted.mono : ∀ a0 k, LeO (impl_areSorted.f k a0) (impl_areSorted.f (k + 1) a0) := by
 intro a0 k
 have ih0 := impl_areSorted.mono_l k
 unfold impl_areSorted.f
 repeat' first
   | (with_reducible exact ih0 _ _)
   | (with_reducible exact impl_aggOrder.mono _ _ _ _ _ _ _ _ _ _ _ _ _)
   | (with_reducible exact LeO.refl _)
   | (with_reducible exact LeO.none _)
   | (with_reducible refine LeO.ite ?_ ?_)
   | (with_reducible refine LeO.bind ?_ (fun _ => ?_))
   | exact ih0 _ _
   | exact impl_aggOrder.mono _ _ _ _ _ _ _ _ _ _ _ _ _
   | exact LeO.none _
   | refine LeO.ite ?_ ?_
   | refine LeO.bind ?_ (fun _ => ?_)
def impl_areSorted.T4 : Bool × List (List Nat × List Nat) := (true, [([], []), ([], []), ([1], [1]), ([0, 2], [0, 2]), ([3], [3]), ([], []), ([], []), ([5, 6], [5, 6]), ([7], [7]), ([4, 8], [4, 8]), ([9], [9])])
def impl_areSorted.B4 : List Nat := [0, 0, 2, 7, 15, 0, 0, 96, 224, 511, 1023]
theorem impl_areSorted.tab4 : rtab .any (opsOf Try.f161 4) = impl_areSorted.T4 := by kernel_rfl
theorem impl_areSorted.bits4 : waitsOk impl_areSorted.T4.2 impl_areSorted.B4 = true := by kernel_rfl
set_option maxHeartbeats 8000000 in
set_option maxRecDepth 100000 in
theorem impl_areSorted.calls (k : Nat) (A0 : Option Addr) (c0 : Nat) (l0 : List (S80)) (r : Bool) (w : World) (hr0 : Kd.C k80 w A0 l0.length l0) (hc0 : l0.length ≤ c0) (h : impl_areSorted.f k l0 = some r) :
  Calls Try.prog 161 #[.slice A0 l0.length c0] w fun e w' => e = .returned (.bool r) ∧ Below w.heap.size w w' := by
 have hu80 := Try.underlying80
 have HR0 := Aside0.mk hr0
 have HC0 := Aside0.mk hc0
 clear hr0 hc0
 have HB := am_ (Below.refl w.heap.size w)
 have H : (impl_areSorted.l0 k l0 1) = some r := h
 clear h
 have H' := Aside0.mk H
 clear H
 go_enter Try.func161, Try.ntmps161
 go_wp2
 (try simp only [Act.put, List.setIfInBounds_toArray, List.set_cons_zero, List.set_cons_succ])
 go_loopg [3] k (fun kq v3 w' => ∃ (x3_1 : Int), v3 = .int .i64 x3_1 ∧ Aside0 (impl_areSorted.l0 kq l0 x3_1 = some r) ∧ Aside0 (kq ≤ k) ∧ Aside0 (Below w.heap.size w w'))
 case atStart => exact ⟨(1), (by first | rfl | (simp; done) | (simp [*]; done)), H', ⟨Nat.le_refl _⟩, ⟨ue_ HB.out⟩⟩
 case round =>
  clear H'
  try clear c1
  obtain ⟨x3_1, rfl, HA, HK1, HB⟩ := hrel
  cases gk with
  | zero => exact absurd HA.out (by simp [impl_areSorted.l0])
  | succ k1 =>
   have H := HA.out
   clear HA
   simp only [impl_areSorted.l0] at H
   by_cases c2 : x3_1 < (l0.length : Int)
   ·
    rw [if_pos c2] at H
    have c2b0 : decide (x3_1 < (l0.length : Int)) = true := decide_eq_true c2
    clear c2
    obtain ⟨ji3, hji3⟩ : ∃ j_ : Int, (wrap64 (x3_1 - 1)) = j_ := ⟨_, rfl⟩
    replace H : (if 0 ≤ (ji3) then (if (ji3) < (l0.length : Int) then (if 0 ≤ x3_1 then ((impl_aggOrder.f k1 ((rd_T80 l0 (ji3)).f0) ((rd_T80 l0 (ji3)).f1) ((rd_T80 l0 (ji3)).f2) ((rd_T80 l0 (ji3)).f3) ((rd_T80 l0 (ji3)).f4) ((rd_T80 l0 (ji3)).f5) ((rd_T80 l0 x3_1).f0) ((rd_T80 l0 x3_1).f1) ((rd_T80 l0 x3_1).f2) ((rd_T80 l0 x3_1).f3) ((rd_T80 l0 x3_1).f4) ((rd_T80 l0 x3_1).f5)).bind fun t250 => (if t250 ≥ 0 then (some false) else (impl_areSorted.l0 k1 l0 (wrap64 (x3_1 + 1))))) else (none)) else (none)) else (none)) = some r := by first | (rw [hji3] at H; exact H) | (simp only [hji3] at H ⊢; exact H)
    have hji3w : (IntKind.i64.wrap (x3_1 - 1)) = ji3 := (i64_w _).trans hji3
    by_cases c4 : 0 ≤ (ji3)
    ·
     rw [if_pos c4] at H
     have c4b0 : decide (0 ≤ (ji3)) = true := decide_eq_true c4
     clear c4
     by_cases c5 : (ji3) < (l0.length : Int)
     ·
      rw [if_pos c5] at H
      have c5b0 : decide ((ji3) < (l0.length : Int)) = true := decide_eq_true c5
      clear c5
      by_cases c6 : 0 ≤ x3_1
      ·
       rw [if_pos c6] at H
       have c6b0 : decide (0 ≤ x3_1) = true := decide_eq_true c6
       clear c6
       replace H := Option.bind_eq_some_iff.mp H
       obtain ⟨t250, A70, H⟩ := H
       replace H : (if t250 ≥ 0 then (some false) else (impl_areSorted.l0 k1 l0 (wrap64 (x3_1 + 1)))) = some r := H
       have A7 := Aside0.mk A70
       clear A70
       by_cases c8 : t250 ≥ 0
       ·
        rw [if_pos c8] at H
        have c8b0 : decide (0 ≤ t250) = true := decide_eq_true c8
        clear c8
        obtain rfl := Option.some.inj H
        try go_wp2
        have n0_ := am_ (below_drew1 HB.out)
        clear HB
        have HB := n0_
        clear n0_
        have p248 : 0 ≤ ((ji3) : Int) := of_decide_eq_true ua_
        have q248 : (ji3) < (l0.length : Int) := of_decide_eq_true ua_
        obtain ⟨ad248, e248, hx248_0, hx248_1, hx248_2, hx248_3, hx248_4, hx248_5⟩ := at_T80 HR0.out (ji3) p248 q248
        have hw248_5 := hx248_5
        have hw248_4 := hx248_4
        have hw248_3 := hx248_3
        have hw248_2 := hx248_2
        have hw248_1 := hx248_1
        have hw248_0 := hx248_0
        cases e248
        replace hx248_0 := bc_ HB.out hx248_0
        replace hx248_1 := bc_ HB.out hx248_1
        replace hx248_2 := bc_ HB.out hx248_2
        replace hx248_3 := bc_ HB.out hx248_3
        replace hx248_4 := bc_ HB.out hx248_4
        replace hx248_5 := bc_ HB.out hx248_5
        replace p248 := eq_true p248
        replace q248 := eq_true q248
        have p249 : 0 ≤ (x3_1 : Int) := of_decide_eq_true ua_
        have q249 : x3_1 < (l0.length : Int) := of_decide_eq_true ua_
        obtain ⟨ad249, e249, hx249_0, hx249_1, hx249_2, hx249_3, hx249_4, hx249_5⟩ := at_T80 HR0.out x3_1 p249 q249
        have hw249_5 := hx249_5
        have hw249_4 := hx249_4
        have hw249_3 := hx249_3
        have hw249_2 := hx249_2
        have hw249_1 := hx249_1
        have hw249_0 := hx249_0
        obtain rfl : ad248 = ad249 := (by injection e249)
        replace hx249_0 := bc_ HB.out hx249_0
        replace hx249_1 := bc_ HB.out hx249_1
        replace hx249_2 := bc_ HB.out hx249_2
        replace hx249_3 := bc_ HB.out hx249_3
        replace hx249_4 := bc_ HB.out hx249_4
        replace hx249_5 := bc_ HB.out hx249_5
        replace p249 := eq_true p249
        replace q249 := eq_true q249
        refine start_ (n := 11) (S := fun w' => w'.cell? (ad248.add (((ji3)).toNat * 6)) = some (.int .i64 ((rd_T80 l0 (ji3)).f0)) ∧ w'.cell? ⟨(ad248.add (((ji3)).toNat * 6)).block, (ad248.add (((ji3)).toNat * 6)).off + 1, none⟩ = some (.int .i64 ((rd_T80 l0 (ji3)).f1)) ∧ w'.cell? ⟨(ad248.add (((ji3)).toNat * 6)).block, (ad248.add (((ji3)).toNat * 6)).off + 2, none⟩ = some (.int .i64 ((rd_T80 l0 (ji3)).f2)) ∧ w'.cell? ⟨(ad248.add (((ji3)).toNat * 6)).block, (ad248.add (((ji3)).toNat * 6)).off + 3, none⟩ = some (.int .i64 ((rd_T80 l0 (ji3)).f3)) ∧ w'.cell? ⟨(ad248.add (((ji3)).toNat * 6)).block, (ad248.add (((ji3)).toNat * 6)).off + 4, none⟩ = some (.int .i64 ((rd_T80 l0 (ji3)).f4)) ∧ w'.cell? ⟨(ad248.add (((ji3)).toNat * 6)).block, (ad248.add (((ji3)).toNat * 6)).off + 5, none⟩ = some (.int .i64 ((rd_T80 l0 (ji3)).f5)) ∧ w'.cell? (ad248.add ((x3_1).toNat * 6)) = some (.int .i64 ((rd_T80 l0 x3_1).f0)) ∧ w'.cell? ⟨(ad248.add ((x3_1).toNat * 6)).block, (ad248.add ((x3_1).toNat * 6)).off + 1, none⟩ = some (.int .i64 ((rd_T80 l0 x3_1).f1)) ∧ w'.cell? ⟨(ad248.add ((x3_1).toNat * 6)).block, (ad248.add ((x3_1).toNat * 6)).off + 2, none⟩ = some (.int .i64 ((rd_T80 l0 x3_1).f2)) ∧ w'.cell? ⟨(ad248.add ((x3_1).toNat * 6)).block, (ad248.add ((x3_1).toNat * 6)).off + 3, none⟩ = some (.int .i64 ((rd_T80 l0 x3_1).f3)) ∧ w'.cell? ⟨(ad248.add ((x3_1).toNat * 6)).block, (ad248.add ((x3_1).toNat * 6)).off + 4, none⟩ = some (.int .i64 ((rd_T80 l0 x3_1).f4)) ∧ w'.cell? ⟨(ad248.add ((x3_1).toNat * 6)).block, (ad248.add ((x3_1).toNat * 6)).off + 5, none⟩ = some (.int .i64 ((rd_T80 l0 x3_1).f5))) (ds := []) #[false, false, false, false, false, false, false, false, false, false, false] (by kernel_rfl) rfl rfl ⟨((HB.out.cell (World.block_lt_of_cell? w _ hw248_0)).trans hw248_0), ((HB.out.cell (World.block_lt_of_cell? w _ hw248_1)).trans hw248_1), ((HB.out.cell (World.block_lt_of_cell? w _ hw248_2)).trans hw248_2), ((HB.out.cell (World.block_lt_of_cell? w _ hw248_3)).trans hw248_3), ((HB.out.cell (World.block_lt_of_cell? w _ hw248_4)).trans hw248_4), ((HB.out.cell (World.block_lt_of_cell? w _ hw248_5)).trans hw248_5), ((HB.out.cell (World.block_lt_of_cell? w _ hw249_0)).trans hw249_0), ((HB.out.cell (World.block_lt_of_cell? w _ hw249_1)).trans hw249_1), ((HB.out.cell (World.block_lt_of_cell? w _ hw249_2)).trans hw249_2), ((HB.out.cell (World.block_lt_of_cell? w _ hw249_3)).trans hw249_3), ((HB.out.cell (World.block_lt_of_cell? w _ hw249_4)).trans hw249_4), ((HB.out.cell (World.block_lt_of_cell? w _ hw249_5)).trans hw249_5)⟩ (fun hHeld => ?_); refine with_tabW impl_areSorted.tab4 impl_areSorted.bits4 (fun HT_ HW_ => ?_)
        generalize wr.drew = w9 at HB hx248_0 hx248_1 hx248_2 hx248_3 hx248_4 hx248_5 hx249_0 hx249_1 hx249_2 hx249_3 hx249_4 hx249_5 hHeld ⊢
        refine pure_ (i := 0) (N := some 10) (v := ?_) (a' := ?_) #[true, false, false, false, false, false, false, false, false, false, false] rfl rfl (any_of HT_.out (by kernel_rfl)) (fun _ _ _ h => h) (Or.inl ⟨by rfl, ?_⟩) ?_ ?_
        rotate_left
        ·
         intro w'
         go_simp
         with_reducible rfl
        rotate_left
        ·
         simp only [Act.put, List.setIfInBounds_toArray, List.set_cons_zero, List.set_cons_succ, i64_w, i32_w]
         rfl
        refine pure_ (i := 1) (N := some 11) (v := ?_) (a' := ?_) #[true, true, false, false, false, false, false, false, false, false, false] rfl rfl (any_of HT_.out (by kernel_rfl)) (fun _ _ _ h => h) (Or.inl ⟨by rfl, ?_⟩) ?_ ?_
        rotate_left
        ·
         intro w'
         go_simp
         with_reducible rfl
        rotate_left
        ·
         simp only [Act.put, List.setIfInBounds_toArray, List.set_cons_zero, List.set_cons_succ, i64_w, i32_w]
         rfl
        refine pure_ (i := 2) (N := some 12) (v := ?_) (a' := ?_) #[true, true, true, false, false, false, false, false, false, false, false] rfl rfl (any_of HT_.out (by kernel_rfl)) (fun _ _ _ h => h) (Or.inl ⟨by rfl, ?_⟩) ?_ ?_
        rotate_left
        ·
         intro w'
         go_simp
         with_reducible rfl
        rotate_left
        ·
         simp only [Act.put, List.setIfInBounds_toArray, List.set_cons_zero, List.set_cons_succ, i64_w, i32_w]
         rfl
        refine pure_ (i := 3) (N := some 13) (v := ?_) (a' := ?_) #[true, true, true, true, false, false, false, false, false, false, false] rfl rfl (any_of HT_.out (by kernel_rfl)) (fun _ _ _ h => h) (Or.inl ⟨by rfl, ?_⟩) ?_ ?_
        rotate_left
        ·
         intro w'
         go_simp
         with_reducible rfl
        rotate_left
        ·
         simp only [Act.put, List.setIfInBounds_toArray, List.set_cons_zero, List.set_cons_succ, i64_w, i32_w]
         rfl
        refine pure_ (i := 5) (N := some 15) (v := ?_) (a' := ?_) #[true, true, true, true, false, true, false, false, false, false, false] rfl rfl (any_of HT_.out (by kernel_rfl)) (fun _ _ _ h => h) (Or.inl ⟨by rfl, ?_⟩) ?_ ?_
        rotate_left
        ·
         intro w'
         go_simp
         with_reducible rfl
        rotate_left
        ·
         simp only [Act.put, List.setIfInBounds_toArray, List.set_cons_zero, List.set_cons_succ, i64_w, i32_w]
         rfl
        refine pure_ (i := 6) (N := some 16) (v := ?_) (a' := ?_) #[true, true, true, true, false, true, true, false, false, false, false] rfl rfl (any_of HT_.out (by kernel_rfl)) (fun _ _ _ h => h) (Or.inl ⟨by rfl, ?_⟩) ?_ ?_
        rotate_left
        ·
         intro w'
         go_simp
         with_reducible rfl
        rotate_left
        ·
         simp only [Act.put, List.setIfInBounds_toArray, List.set_cons_zero, List.set_cons_succ, i64_w, i32_w]
         rfl
        refine pure_ (i := 7) (N := some 17) (v := ?_) (a' := ?_) #[true, true, true, true, false, true, true, true, false, false, false] rfl rfl (any_of HT_.out (by kernel_rfl)) (fun _ _ _ h => h) (Or.inl ⟨by rfl, ?_⟩) ?_ ?_
        rotate_left
        ·
         intro w'
         go_simp
         with_reducible rfl
        rotate_left
        ·
         simp only [Act.put, List.setIfInBounds_toArray, List.set_cons_zero, List.set_cons_succ, i64_w, i32_w]
         rfl
        refine take_ (i := 4) (N := some 14) (v := ?_) (a' := ?_) #[true, true, true, true, true, true, true, true, false, false, false] rfl rfl (take_ofW HT_.out HW_.out (by kernel_rfl)) (fun _ _ _ h => h) (Or.inl ⟨by rfl, ?_⟩) hHeld ?_ ?_
        rotate_left
        ·
         rintro w' ⟨s0, s1, s2, s3, s4, s5, s6, s7, s8, s9, s10, s11⟩
         go_simp
         with_reducible rfl
        rotate_left
        ·
         simp only [Act.put, List.setIfInBounds_toArray, List.set_cons_zero, List.set_cons_succ, i64_w, i32_w]
         rfl
        refine take_ (i := 8) (N := some 18) (v := ?_) (a' := ?_) #[true, true, true, true, true, true, true, true, true, false, false] rfl rfl (take_ofW HT_.out HW_.out (by kernel_rfl)) (fun _ _ _ h => h) (Or.inl ⟨by rfl, ?_⟩) hHeld ?_ ?_
        rotate_left
        ·
         rintro w' ⟨s0, s1, s2, s3, s4, s5, s6, s7, s8, s9, s10, s11⟩
         go_simp
         with_reducible rfl
        rotate_left
        ·
         simp only [Act.put, List.setIfInBounds_toArray, List.set_cons_zero, List.set_cons_succ, i64_w, i32_w]
         rfl
        refine one_ (i := 9) (N := some 19) #[true, true, true, true, true, true, true, true, true, true, false] rfl rfl (one_of HT_.out (by kernel_rfl)) (by decide) (fun K hK => ?_)
        refine goes_ Try.func187 (by kernel_rfl) rfl #[.agg #[.int .i64 ((rd_T80 l0 (ji3)).f0), .int .i64 ((rd_T80 l0 (ji3)).f1), .int .i64 ((rd_T80 l0 (ji3)).f2), .int .i64 ((rd_T80 l0 (ji3)).f3), .int .i64 ((rd_T80 l0 (ji3)).f4), .int .i64 ((rd_T80 l0 (ji3)).f5)], .agg #[.int .i64 ((rd_T80 l0 x3_1).f0), .int .i64 ((rd_T80 l0 x3_1).f1), .int .i64 ((rd_T80 l0 x3_1).f2), .int .i64 ((rd_T80 l0 x3_1).f3), .int .i64 ((rd_T80 l0 x3_1).f4), .int .i64 ((rd_T80 l0 x3_1).f5)]] (by rfl) rfl rfl (by (try simp only [List.map_toArray, List.map_cons, List.map_nil]); first | done | (simp only [hji3]; rfl) | rfl | (simp only [List.length_drop, List.length_take]; rfl)) ?_
        with_reducible refine (impl_aggOrder.calls k1 ((rd_T80 l0 (ji3)).f0) ((rd_T80 l0 (ji3)).f1) ((rd_T80 l0 (ji3)).f2) ((rd_T80 l0 (ji3)).f3) ((rd_T80 l0 (ji3)).f4) ((rd_T80 l0 (ji3)).f5) ((rd_T80 l0 x3_1).f0) ((rd_T80 l0 x3_1).f1) ((rd_T80 l0 x3_1).f2) ((rd_T80 l0 x3_1).f3) ((rd_T80 l0 x3_1).f4) ((rd_T80 l0 x3_1).f5) t250 _ A7.out).mono ?_
        rintro e w10 ⟨rfl, hb⟩
        refine ⟨_, rfl, ?_⟩
        have n0_ := am_ (below_step (ue_ HB.out) hb)
        clear HB
        have HB := n0_
        clear n0_
        (try clear hb)
        (try clear hb2)
        (try clear hk)
        (try clear hi)
        refine hK.out _ _ ⟨((HB.out.cell (World.block_lt_of_cell? w _ hw248_0)).trans hw248_0), ((HB.out.cell (World.block_lt_of_cell? w _ hw248_1)).trans hw248_1), ((HB.out.cell (World.block_lt_of_cell? w _ hw248_2)).trans hw248_2), ((HB.out.cell (World.block_lt_of_cell? w _ hw248_3)).trans hw248_3), ((HB.out.cell (World.block_lt_of_cell? w _ hw248_4)).trans hw248_4), ((HB.out.cell (World.block_lt_of_cell? w _ hw248_5)).trans hw248_5), ((HB.out.cell (World.block_lt_of_cell? w _ hw249_0)).trans hw249_0), ((HB.out.cell (World.block_lt_of_cell? w _ hw249_1)).trans hw249_1), ((HB.out.cell (World.block_lt_of_cell? w _ hw249_2)).trans hw249_2), ((HB.out.cell (World.block_lt_of_cell? w _ hw249_3)).trans hw249_3), ((HB.out.cell (World.block_lt_of_cell? w _ hw249_4)).trans hw249_4), ((HB.out.cell (World.block_lt_of_cell? w _ hw249_5)).trans hw249_5)⟩ (fun hHeld => ?_)
        clear hK K
        refine norm_ (a' := ?_) ?_ ?_
        rotate_left
        ·
         show Act.put _ (some 19) _ = _
         simp only [Act.put, List.setIfInBounds_toArray, List.set_cons_zero, List.set_cons_succ, i64_w, i32_w]
         rfl
        refine pure_ (i := 10) (N := some 20) (v := ?_) (a' := ?_) #[true, true, true, true, true, true, true, true, true, true, true] rfl rfl (any_of HT_.out (by kernel_rfl)) (fun _ _ _ h => h) (Or.inl ⟨by rfl, ?_⟩) ?_ ?_
        rotate_left
        ·
         intro w'
         go_simp
         with_reducible rfl
        rotate_left
        ·
         simp only [Act.put, List.setIfInBounds_toArray, List.set_cons_zero, List.set_cons_succ, i64_w, i32_w]
         rfl
        refine done_ (done_of HT_.out (by kernel_rfl)) ?_
        try go_wp2
        go_ret
        exact ⟨by first | rfl | (simp [errW_none, errW_some] <;> rfl) | (simp only [← hji3]; first | rfl | (simp [errW_none, errW_some] <;> rfl)) | (simp [*, errW_none, errW_some] <;> rfl), ue_ HB.out⟩
       ·
        rw [if_neg c8] at H
        have c8b0 : decide (0 ≤ t250) = false := decide_eq_false c8
        clear c8
        have H' := Aside0.mk H
        clear H
        try go_wp2
        have n0_ := am_ (below_drew1 HB.out)
        clear HB
        have HB := n0_
        clear n0_
        have p248 : 0 ≤ ((ji3) : Int) := of_decide_eq_true ua_
        have q248 : (ji3) < (l0.length : Int) := of_decide_eq_true ua_
        obtain ⟨ad248, e248, hx248_0, hx248_1, hx248_2, hx248_3, hx248_4, hx248_5⟩ := at_T80 HR0.out (ji3) p248 q248
        have hw248_5 := hx248_5
        have hw248_4 := hx248_4
        have hw248_3 := hx248_3
        have hw248_2 := hx248_2
        have hw248_1 := hx248_1
        have hw248_0 := hx248_0
        cases e248
        replace hx248_0 := bc_ HB.out hx248_0
        replace hx248_1 := bc_ HB.out hx248_1
        replace hx248_2 := bc_ HB.out hx248_2
        replace hx248_3 := bc_ HB.out hx248_3
        replace hx248_4 := bc_ HB.out hx248_4
        replace hx248_5 := bc_ HB.out hx248_5
        replace p248 := eq_true p248
        replace q248 := eq_true q248
        have p249 : 0 ≤ (x3_1 : Int) := of_decide_eq_true ua_
        have q249 : x3_1 < (l0.length : Int) := of_decide_eq_true ua_
        obtain ⟨ad249, e249, hx249_0, hx249_1, hx249_2, hx249_3, hx249_4, hx249_5⟩ := at_T80 HR0.out x3_1 p249 q249
        have hw249_5 := hx249_5
        have hw249_4 := hx249_4
        have hw249_3 := hx249_3
        have hw249_2 := hx249_2
        have hw249_1 := hx249_1
        have hw249_0 := hx249_0
        obtain rfl : ad248 = ad249 := (by injection e249)
        replace hx249_0 := bc_ HB.out hx249_0
        replace hx249_1 := bc_ HB.out hx249_1
        replace hx249_2 := bc_ HB.out hx249_2
        replace hx249_3 := bc_ HB.out hx249_3
        replace hx249_4 := bc_ HB.out hx249_4
        replace hx249_5 := bc_ HB.out hx249_5
        replace p249 := eq_true p249
        replace q249 := eq_true q249
        refine start_ (n := 11) (S := fun w' => w'.cell? (ad248.add (((ji3)).toNat * 6)) = some (.int .i64 ((rd_T80 l0 (ji3)).f0)) ∧ w'.cell? ⟨(ad248.add (((ji3)).toNat * 6)).block, (ad248.add (((ji3)).toNat * 6)).off + 1, none⟩ = some (.int .i64 ((rd_T80 l0 (ji3)).f1)) ∧ w'.cell? ⟨(ad248.add (((ji3)).toNat * 6)).block, (ad248.add (((ji3)).toNat * 6)).off + 2, none⟩ = some (.int .i64 ((rd_T80 l0 (ji3)).f2)) ∧ w'.cell? ⟨(ad248.add (((ji3)).toNat * 6)).block, (ad248.add (((ji3)).toNat * 6)).off + 3, none⟩ = some (.int .i64 ((rd_T80 l0 (ji3)).f3)) ∧ w'.cell? ⟨(ad248.add (((ji3)).toNat * 6)).block, (ad248.add (((ji3)).toNat * 6)).off + 4, none⟩ = some (.int .i64 ((rd_T80 l0 (ji3)).f4)) ∧ w'.cell? ⟨(ad248.add (((ji3)).toNat * 6)).block, (ad248.add (((ji3)).toNat * 6)).off + 5, none⟩ = some (.int .i64 ((rd_T80 l0 (ji3)).f5)) ∧ w'.cell? (ad248.add ((x3_1).toNat * 6)) = some (.int .i64 ((rd_T80 l0 x3_1).f0)) ∧ w'.cell? ⟨(ad248.add ((x3_1).toNat * 6)).block, (ad248.add ((x3_1).toNat * 6)).off + 1, none⟩ = some (.int .i64 ((rd_T80 l0 x3_1).f1)) ∧ w'.cell? ⟨(ad248.add ((x3_1).toNat * 6)).block, (ad248.add ((x3_1).toNat * 6)).off + 2, none⟩ = some (.int .i64 ((rd_T80 l0 x3_1).f2)) ∧ w'.cell? ⟨(ad248.add ((x3_1).toNat * 6)).block, (ad248.add ((x3_1).toNat * 6)).off + 3, none⟩ = some (.int .i64 ((rd_T80 l0 x3_1).f3)) ∧ w'.cell? ⟨(ad248.add ((x3_1).toNat * 6)).block, (ad248.add ((x3_1).toNat * 6)).off + 4, none⟩ = some (.int .i64 ((rd_T80 l0 x3_1).f4)) ∧ w'.cell? ⟨(ad248.add ((x3_1).toNat * 6)).block, (ad248.add ((x3_1).toNat * 6)).off + 5, none⟩ = some (.int .i64 ((rd_T80 l0 x3_1).f5))) (ds := []) #[false, false, false, false, false, false, false, false, false, false, false] (by kernel_rfl) rfl rfl ⟨((HB.out.cell (World.block_lt_of_cell? w _ hw248_0)).trans hw248_0), ((HB.out.cell (World.block_lt_of_cell? w _ hw248_1)).trans hw248_1), ((HB.out.cell (World.block_lt_of_cell? w _ hw248_2)).trans hw248_2), ((HB.out.cell (World.block_lt_of_cell? w _ hw248_3)).trans hw248_3), ((HB.out.cell (World.block_lt_of_cell? w _ hw248_4)).trans hw248_4), ((HB.out.cell (World.block_lt_of_cell? w _ hw248_5)).trans hw248_5), ((HB.out.cell (World.block_lt_of_cell? w _ hw249_0)).trans hw249_0), ((HB.out.cell (World.block_lt_of_cell? w _ hw249_1)).trans hw249_1), ((HB.out.cell (World.block_lt_of_cell? w _ hw249_2)).trans hw249_2), ((HB.out.cell (World.block_lt_of_cell? w _ hw249_3)).trans hw249_3), ((HB.out.cell (World.block_lt_of_cell? w _ hw249_4)).trans hw249_4), ((HB.out.cell (World.block_lt_of_cell? w _ hw249_5)).trans hw249_5)⟩ (fun hHeld => ?_); refine with_tabW impl_areSorted.tab4 impl_areSorted.bits4 (fun HT_ HW_ => ?_)
        generalize wr.drew = w11 at HB hx248_0 hx248_1 hx248_2 hx248_3 hx248_4 hx248_5 hx249_0 hx249_1 hx249_2 hx249_3 hx249_4 hx249_5 hHeld ⊢
        refine pure_ (i := 0) (N := some 10) (v := ?_) (a' := ?_) #[true, false, false, false, false, false, false, false, false, false, false] rfl rfl (any_of HT_.out (by kernel_rfl)) (fun _ _ _ h => h) (Or.inl ⟨by rfl, ?_⟩) ?_ ?_
        rotate_left
        ·
         intro w'
         go_simp
         with_reducible rfl
        rotate_left
        ·
         simp only [Act.put, List.setIfInBounds_toArray, List.set_cons_zero, List.set_cons_succ, i64_w, i32_w]
         rfl
        refine pure_ (i := 1) (N := some 11) (v := ?_) (a' := ?_) #[true, true, false, false, false, false, false, false, false, false, false] rfl rfl (any_of HT_.out (by kernel_rfl)) (fun _ _ _ h => h) (Or.inl ⟨by rfl, ?_⟩) ?_ ?_
        rotate_left
        ·
         intro w'
         go_simp
         with_reducible rfl
        rotate_left
        ·
         simp only [Act.put, List.setIfInBounds_toArray, List.set_cons_zero, List.set_cons_succ, i64_w, i32_w]
         rfl
        refine pure_ (i := 2) (N := some 12) (v := ?_) (a' := ?_) #[true, true, true, false, false, false, false, false, false, false, false] rfl rfl (any_of HT_.out (by kernel_rfl)) (fun _ _ _ h => h) (Or.inl ⟨by rfl, ?_⟩) ?_ ?_
        rotate_left
        ·
         intro w'
         go_simp
         with_reducible rfl
        rotate_left
        ·
         simp only [Act.put, List.setIfInBounds_toArray, List.set_cons_zero, List.set_cons_succ, i64_w, i32_w]
         rfl
        refine pure_ (i := 3) (N := some 13) (v := ?_) (a' := ?_) #[true, true, true, true, false, false, false, false, false, false, false] rfl rfl (any_of HT_.out (by kernel_rfl)) (fun _ _ _ h => h) (Or.inl ⟨by rfl, ?_⟩) ?_ ?_
        rotate_left
        ·
         intro w'
         go_simp
         with_reducible rfl
        rotate_left
        ·
         simp only [Act.put, List.setIfInBounds_toArray, List.set_cons_zero, List.set_cons_succ, i64_w, i32_w]
         rfl
        refine pure_ (i := 5) (N := some 15) (v := ?_) (a' := ?_) #[true, true, true, true, false, true, false, false, false, false, false] rfl rfl (any_of HT_.out (by kernel_rfl)) (fun _ _ _ h => h) (Or.inl ⟨by rfl, ?_⟩) ?_ ?_
        rotate_left
        ·
         intro w'
         go_simp
         with_reducible rfl
        rotate_left
        ·
         simp only [Act.put, List.setIfInBounds_toArray, List.set_cons_zero, List.set_cons_succ, i64_w, i32_w]
         rfl
        refine pure_ (i := 6) (N := some 16) (v := ?_) (a' := ?_) #[true, true, true, true, false, true, true, false, false, false, false] rfl rfl (any_of HT_.out (by kernel_rfl)) (fun _ _ _ h => h) (Or.inl ⟨by rfl, ?_⟩) ?_ ?_
        rotate_left
        ·
         intro w'
         go_simp
         with_reducible rfl
        rotate_left
        ·
         simp only [Act.put, List.setIfInBounds_toArray, List.set_cons_zero, List.set_cons_succ, i64_w, i32_w]
         rfl
        refine pure_ (i := 7) (N := some 17) (v := ?_) (a' := ?_) #[true, true, true, true, false, true, true, true, false, false, false] rfl rfl (any_of HT_.out (by kernel_rfl)) (fun _ _ _ h => h) (Or.inl ⟨by rfl, ?_⟩) ?_ ?_
        rotate_left
        ·
         intro w'
         go_simp
         with_reducible rfl
        rotate_left
        ·
         simp only [Act.put, List.setIfInBounds_toArray, List.set_cons_zero, List.set_cons_succ, i64_w, i32_w]
         rfl
        refine take_ (i := 4) (N := some 14) (v := ?_) (a' := ?_) #[true, true, true, true, true, true, true, true, false, false, false] rfl rfl (take_ofW HT_.out HW_.out (by kernel_rfl)) (fun _ _ _ h => h) (Or.inl ⟨by rfl, ?_⟩) hHeld ?_ ?_
        rotate_left
        ·
         rintro w' ⟨s0, s1, s2, s3, s4, s5, s6, s7, s8, s9, s10, s11⟩
         go_simp
         with_reducible rfl
        rotate_left
        ·
         simp only [Act.put, List.setIfInBounds_toArray, List.set_cons_zero, List.set_cons_succ, i64_w, i32_w]
         rfl
        refine take_ (i := 8) (N := some 18) (v := ?_) (a' := ?_) #[true, true, true, true, true, true, true, true, true, false, false] rfl rfl (take_ofW HT_.out HW_.out (by kernel_rfl)) (fun _ _ _ h => h) (Or.inl ⟨by rfl, ?_⟩) hHeld ?_ ?_
        rotate_left
        ·
         rintro w' ⟨s0, s1, s2, s3, s4, s5, s6, s7, s8, s9, s10, s11⟩
         go_simp
         with_reducible rfl
        rotate_left
        ·
         simp only [Act.put, List.setIfInBounds_toArray, List.set_cons_zero, List.set_cons_succ, i64_w, i32_w]
         rfl
        refine one_ (i := 9) (N := some 19) #[true, true, true, true, true, true, true, true, true, true, false] rfl rfl (one_of HT_.out (by kernel_rfl)) (by decide) (fun K hK => ?_)
        refine goes_ Try.func187 (by kernel_rfl) rfl #[.agg #[.int .i64 ((rd_T80 l0 (ji3)).f0), .int .i64 ((rd_T80 l0 (ji3)).f1), .int .i64 ((rd_T80 l0 (ji3)).f2), .int .i64 ((rd_T80 l0 (ji3)).f3), .int .i64 ((rd_T80 l0 (ji3)).f4), .int .i64 ((rd_T80 l0 (ji3)).f5)], .agg #[.int .i64 ((rd_T80 l0 x3_1).f0), .int .i64 ((rd_T80 l0 x3_1).f1), .int .i64 ((rd_T80 l0 x3_1).f2), .int .i64 ((rd_T80 l0 x3_1).f3), .int .i64 ((rd_T80 l0 x3_1).f4), .int .i64 ((rd_T80 l0 x3_1).f5)]] (by rfl) rfl rfl (by (try simp only [List.map_toArray, List.map_cons, List.map_nil]); first | done | (simp only [hji3]; rfl) | rfl | (simp only [List.length_drop, List.length_take]; rfl)) ?_
        with_reducible refine (impl_aggOrder.calls k1 ((rd_T80 l0 (ji3)).f0) ((rd_T80 l0 (ji3)).f1) ((rd_T80 l0 (ji3)).f2) ((rd_T80 l0 (ji3)).f3) ((rd_T80 l0 (ji3)).f4) ((rd_T80 l0 (ji3)).f5) ((rd_T80 l0 x3_1).f0) ((rd_T80 l0 x3_1).f1) ((rd_T80 l0 x3_1).f2) ((rd_T80 l0 x3_1).f3) ((rd_T80 l0 x3_1).f4) ((rd_T80 l0 x3_1).f5) t250 _ A7.out).mono ?_
        rintro e w12 ⟨rfl, hb⟩
        refine ⟨_, rfl, ?_⟩
        have n0_ := am_ (below_step (ue_ HB.out) hb)
        clear HB
        have HB := n0_
        clear n0_
        (try clear hb)
        (try clear hb2)
        (try clear hk)
        (try clear hi)
        refine hK.out _ _ ⟨((HB.out.cell (World.block_lt_of_cell? w _ hw248_0)).trans hw248_0), ((HB.out.cell (World.block_lt_of_cell? w _ hw248_1)).trans hw248_1), ((HB.out.cell (World.block_lt_of_cell? w _ hw248_2)).trans hw248_2), ((HB.out.cell (World.block_lt_of_cell? w _ hw248_3)).trans hw248_3), ((HB.out.cell (World.block_lt_of_cell? w _ hw248_4)).trans hw248_4), ((HB.out.cell (World.block_lt_of_cell? w _ hw248_5)).trans hw248_5), ((HB.out.cell (World.block_lt_of_cell? w _ hw249_0)).trans hw249_0), ((HB.out.cell (World.block_lt_of_cell? w _ hw249_1)).trans hw249_1), ((HB.out.cell (World.block_lt_of_cell? w _ hw249_2)).trans hw249_2), ((HB.out.cell (World.block_lt_of_cell? w _ hw249_3)).trans hw249_3), ((HB.out.cell (World.block_lt_of_cell? w _ hw249_4)).trans hw249_4), ((HB.out.cell (World.block_lt_of_cell? w _ hw249_5)).trans hw249_5)⟩ (fun hHeld => ?_)
        clear hK K
        refine norm_ (a' := ?_) ?_ ?_
        rotate_left
        ·
         show Act.put _ (some 19) _ = _
         simp only [Act.put, List.setIfInBounds_toArray, List.set_cons_zero, List.set_cons_succ, i64_w, i32_w]
         rfl
        refine pure_ (i := 10) (N := some 20) (v := ?_) (a' := ?_) #[true, true, true, true, true, true, true, true, true, true, true] rfl rfl (any_of HT_.out (by kernel_rfl)) (fun _ _ _ h => h) (Or.inl ⟨by rfl, ?_⟩) ?_ ?_
        rotate_left
        ·
         intro w'
         go_simp
         with_reducible rfl
        rotate_left
        ·
         simp only [Act.put, List.setIfInBounds_toArray, List.set_cons_zero, List.set_cons_succ, i64_w, i32_w]
         rfl
        refine done_ (done_of HT_.out (by kernel_rfl)) ?_
        try go_wp2
        go_roundg k1
        case measure => have := HK1.out; omega
        case rel => exact ⟨(wrap64 (x3_1 + 1)), (by first | rfl | (simp; done) | (simp [*]; done)), H', ⟨by have := HK1.out; omega⟩, ⟨ue_ HB.out⟩⟩
      ·
       rw [if_neg c6] at H
       exact absurd H (by simp)
     ·
      rw [if_neg c5] at H
      exact absurd H (by simp)
    ·
     rw [if_neg c4] at H
     exact absurd H (by simp)
   ·
    rw [if_neg c2] at H
    have c2b0 : decide (x3_1 < (l0.length : Int)) = false := decide_eq_false c2
    clear c2
    obtain rfl := Option.some.inj H
    go_wp2
    go_ret
    exact ⟨ew_, ue_ HB.out⟩

/-! ### impl_isMany: function 162 -/
def impl_isMany.f (a0 : Int) : Option (Bool) := (impl_within.f a0 0 1000000000).bind fun t251 => (some t251)
set_option maxHeartbeats 8000000 in
set_option maxRecDepth 100000 in
theorem impl_isMany.calls (a0 : Int) (r : Bool) (w : World) (h : impl_isMany.f a0 = some r) :
  Calls Try.prog 162 #[.int .i64 a0] w fun e w' => e = .returned (.bool r) ∧ Drawn0 w w' := by
 have H : ((impl_within.f a0 0 1000000000).bind fun t251 => (some t251)) = some r := h
 clear h
 replace H := Option.bind_eq_some_iff.mp H
 obtain ⟨t251, A20, H⟩ := H
 replace H : (some t251) = some r := H
 have A2 := Aside0.mk A20
 clear A20
 obtain rfl := Option.some.inj H
 go_enter Try.func162, Try.ntmps162
 go_wp2_with (first | ((with_reducible refine gate_callee (f := 106) rfl ?_); refine goesL_ (some 4) rfl rfl Try.func106 (by kernel_rfl) rfl #[.int .i64 a0, .int .i64 0, .int .i64 1000000000] rfl ul_ ?_; (with_reducible refine (impl_within.calls a0 0 1000000000 t251 _ A2.out).mono ?_); rintro e w' ⟨rfl, ⟨nd, rfl⟩⟩; refine ⟨_, rfl, ?_⟩))
 go_ret
 exact ⟨by first | rfl | (simp; done) | (simp [*]; done), by repeat (first | exact Drawn0.refl _ | apply Drawn0.step)⟩

/-! ### impl_ShardOk: function 98 -/
def impl_ShardOk.f (k : Nat) (l0_0 : List (S80)) (a0_1 : Int) (a0_2 : Int) (a0_3 : Int) : Option (Bool) := if (l0_0.length : Int) ≤ 40 then ((impl_areAggs.f l0_0).bind fun t253 => (if t253 = true then ((impl_areSorted.f k l0_0).bind fun t254 => (if t254 = true then ((impl_isMark.f a0_1).bind fun t255 => (if t255 = true then ((impl_isMany.f a0_2).bind fun t256 => (if t256 = true then ((impl_isMany.f a0_3).bind fun t257 => (some t257)) else (some false))) else (some false))) else (some false))) else (some false))) else (some false)
theorem impl_ShardOk.mono : ∀ a0 a1 a2 a3 k, LeO (impl_ShardOk.f k a0 a1 a2 a3) (impl_ShardOk.f (k + 1) a0 a1 a2 a3) := by
 intro a0 a1 a2 a3 k
 unfold impl_ShardOk.f
 repeat' first
   | (with_reducible exact impl_areSorted.mono _ _)
   | (with_reducible exact LeO.refl _)
   | (with_reducible exact LeO.none _)
   | (with_reducible refine LeO.ite ?_ ?_)
   | (with_reducible refine LeO.bind ?_ (fun _ => ?_))
   | exact impl_areSorted.mono _ _
   | exact LeO.none _
   | refine LeO.ite ?_ ?_
   | refine LeO.bind ?_ (fun _ => ?_)
set_option maxHeartbeats 8000000 in
set_option maxRecDepth 100000 in
theorem impl_ShardOk.calls (k : Nat) (A0_0 : Option Addr) (c0_0 : Nat) (l0_0 : List (S80)) (a0_1 : Int) (a0_2 : Int) (a0_3 : Int) (r : Bool) (w : World) (hr0_0 : Kd.C k80 w A0_0 l0_0.length l0_0) (hc0_0 : l0_0.length ≤ c0_0) (h : impl_ShardOk.f k l0_0 a0_1 a0_2 a0_3 = some r) :
  Calls Try.prog 98 #[.agg #[.slice A0_0 l0_0.length c0_0, .int .i64 a0_1, .int .i64 a0_2, .int .i64 a0_3]] w fun e w' => e = .returned (.bool r) ∧ Below w.heap.size w w' := by
 have hu42 := Try.underlying42
 have HR0_0 := Aside0.mk hr0_0
 have HC0_0 := Aside0.mk hc0_0
 clear hr0_0 hc0_0
 have HB := am_ (Below.refl w.heap.size w)
 have H : (if (l0_0.length : Int) ≤ 40 then ((impl_areAggs.f l0_0).bind fun t253 => (if t253 = true then ((impl_areSorted.f k l0_0).bind fun t254 => (if t254 = true then ((impl_isMark.f a0_1).bind fun t255 => (if t255 = true then ((impl_isMany.f a0_2).bind fun t256 => (if t256 = true then ((impl_isMany.f a0_3).bind fun t257 => (some t257)) else (some false))) else (some false))) else (some false))) else (some false))) else (some false)) = some r := h
 clear h
 by_cases c2 : (l0_0.length : Int) ≤ 40
 ·
  rw [if_pos c2] at H
  have c2b0 : decide ((l0_0.length : Int) ≤ 40) = true := decide_eq_true c2
  have c2b1 : decide (l0_0.length ≤ 40) = true := decide_eq_true (by omega)
  clear c2
  replace H := Option.bind_eq_some_iff.mp H
  obtain ⟨t253, A30, H⟩ := H
  replace H : (if t253 = true then ((impl_areSorted.f k l0_0).bind fun t254 => (if t254 = true then ((impl_isMark.f a0_1).bind fun t255 => (if t255 = true then ((impl_isMany.f a0_2).bind fun t256 => (if t256 = true then ((impl_isMany.f a0_3).bind fun t257 => (some t257)) else (some false))) else (some false))) else (some false))) else (some false)) = some r := H
  have A3 := Aside0.mk A30
  clear A30
  by_cases c4 : t253 = true
  ·
   subst c4
   have H1 : ((impl_areSorted.f k l0_0).bind fun t254 => (if t254 = true then ((impl_isMark.f a0_1).bind fun t255 => (if t255 = true then ((impl_isMany.f a0_2).bind fun t256 => (if t256 = true then ((impl_isMany.f a0_3).bind fun t257 => (some t257)) else (some false))) else (some false))) else (some false))) = some r := by rw [if_pos rfl] at H; exact H
   clear H
   have H := H1
   clear H1
   replace H := Option.bind_eq_some_iff.mp H
   obtain ⟨t254, A50, H⟩ := H
   replace H : (if t254 = true then ((impl_isMark.f a0_1).bind fun t255 => (if t255 = true then ((impl_isMany.f a0_2).bind fun t256 => (if t256 = true then ((impl_isMany.f a0_3).bind fun t257 => (some t257)) else (some false))) else (some false))) else (some false)) = some r := H
   have A5 := Aside0.mk A50
   clear A50
   by_cases c6 : t254 = true
   ·
    subst c6
    have H1 : ((impl_isMark.f a0_1).bind fun t255 => (if t255 = true then ((impl_isMany.f a0_2).bind fun t256 => (if t256 = true then ((impl_isMany.f a0_3).bind fun t257 => (some t257)) else (some false))) else (some false))) = some r := by rw [if_pos rfl] at H; exact H
    clear H
    have H := H1
    clear H1
    replace H := Option.bind_eq_some_iff.mp H
    obtain ⟨t255, A70, H⟩ := H
    replace H : (if t255 = true then ((impl_isMany.f a0_2).bind fun t256 => (if t256 = true then ((impl_isMany.f a0_3).bind fun t257 => (some t257)) else (some false))) else (some false)) = some r := H
    have A7 := Aside0.mk A70
    clear A70
    by_cases c8 : t255 = true
    ·
     subst c8
     have H1 : ((impl_isMany.f a0_2).bind fun t256 => (if t256 = true then ((impl_isMany.f a0_3).bind fun t257 => (some t257)) else (some false))) = some r := by rw [if_pos rfl] at H; exact H
     clear H
     have H := H1
     clear H1
     replace H := Option.bind_eq_some_iff.mp H
     obtain ⟨t256, A90, H⟩ := H
     replace H : (if t256 = true then ((impl_isMany.f a0_3).bind fun t257 => (some t257)) else (some false)) = some r := H
     have A9 := Aside0.mk A90
     clear A90
     by_cases c10 : t256 = true
     ·
      subst c10
      have H1 : ((impl_isMany.f a0_3).bind fun t257 => (some t257)) = some r := by rw [if_pos rfl] at H; exact H
      clear H
      have H := H1
      clear H1
      replace H := Option.bind_eq_some_iff.mp H
      obtain ⟨t257, A110, H⟩ := H
      replace H : (some t257) = some r := H
      have A11 := Aside0.mk A110
      clear A110
      obtain rfl := Option.some.inj H
      go_enter Try.func98, Try.ntmps98
      go_wp2_with (first | ((with_reducible refine gate_dst (N := 1) rfl ?_); refine box_event ?hg (N := 1) ?hd (cs := #[.slice A0_0 l0_0.length c0_0, .int .i64 a0_1, .int .i64 a0_2, .int .i64 a0_3]) (t := 42) ?hr ?_; (case hd => rfl); (case hg => rfl); (case hr => first | (go_simp; done) | (go_simp; rfl)); intro gb252 hg w12 hbox hb; have n0_ := am_ (below_step (ue_ HB.out) hb); have n1_ := am_ (hbox); have n2_ := am_ ((by rw [hg]; exact (below_size (ue_ HB.out)) : w.heap.size ≤ gb252)); have n3_ := am_ ((by rw [hg]; exact (below_size (ue_ HB.out)) : w.heap.size ≤ gb252)); clear HB; have HB := n0_; have BK252 := n1_; have GW252 := n2_; have GE252 := n3_; clear n0_ n1_ n2_ n3_; clear hb hbox hg; obtain ⟨hcz13_0, hcz13_1, hcz13_2, hcz13_3⟩ := cb4_ BK252.out; obtain ⟨hfz13_0, hfz13_1, hfz13_2⟩ := bf3_ BK252.out; have hfz13_3 := blk_frozen BK252.out 3) | (go_at_call 160; (with_reducible refine (impl_areAggs.calls _ _ l0_0 true _ ?side1 ?side2 A3.out).mono ?_); (case side1 => repeat (first | exact (Kd.C_below HR0_0.out HB.out) | (with_reducible refine Kd.C_alloc ?_ _) | (with_reducible refine Kd.C_drewN ?_ _) | (with_reducible refine Kd.C_drew ?_))); (case side2 => exact HC0_0.out); rintro e w14 ⟨rfl, hb⟩; have n0_ := am_ (bb_ BK252.out hb); have n1_ := am_ (below_step (ue_ HB.out) hb); clear BK252 HB; have BK252 := n0_; have HB := n1_; clear n0_ n1_; (try clear hb); (try clear hb2); (try clear hk); (try clear hi); obtain ⟨hcz15_0, hcz15_1, hcz15_2, hcz15_3⟩ := cb4_ BK252.out; obtain ⟨hfz15_0, hfz15_1, hfz15_2⟩ := bf3_ BK252.out; have hfz15_3 := blk_frozen BK252.out 3) | (go_at_call 161; (with_reducible refine (impl_areSorted.calls k _ _ l0_0 true _ ?side1 ?side2 A5.out).mono ?_); (case side1 => repeat (first | exact (Kd.C_below HR0_0.out HB.out) | (with_reducible refine Kd.C_alloc ?_ _) | (with_reducible refine Kd.C_drewN ?_ _) | (with_reducible refine Kd.C_drew ?_))); (case side2 => exact HC0_0.out); rintro e w16 ⟨rfl, hb⟩; have n0_ := am_ (bb_ BK252.out hb); have n1_ := am_ (below_step (ue_ HB.out) hb); clear BK252 HB; have BK252 := n0_; have HB := n1_; clear n0_ n1_; (try clear hb); (try clear hb2); (try clear hk); (try clear hi); obtain ⟨hcz17_0, hcz17_1, hcz17_2, hcz17_3⟩ := cb4_ BK252.out; obtain ⟨hfz17_0, hfz17_1, hfz17_2⟩ := bf3_ BK252.out; have hfz17_3 := blk_frozen BK252.out 3) | (go_at_call 99; (with_reducible refine (impl_isMark.calls a0_1 true _ A7.out).mono ?_); rintro e w' ⟨rfl, ⟨nd, rfl⟩⟩) | (go_at_call 162; (with_reducible refine (impl_isMany.calls a0_2 true _ A9.out).mono ?_); rintro e w' ⟨rfl, ⟨nd, rfl⟩⟩) | (go_at_call 162; (with_reducible refine (impl_isMany.calls a0_3 t257 _ A11.out).mono ?_); rintro e w' ⟨rfl, ⟨nd, rfl⟩⟩))
      go_ret
      exact ⟨ew_, ue_ HB.out⟩
     ·
      replace c10 := Bool.eq_false_iff.mpr c10
      subst c10
      have H1 : (some false) = some r := by rw [if_neg (show ¬ (false = true) by decide)] at H; exact H
      clear H
      have H := H1
      clear H1
      obtain rfl := Option.some.inj H
      go_enter Try.func98, Try.ntmps98
      go_wp2_with (first | ((with_reducible refine gate_dst (N := 1) rfl ?_); refine box_event ?hg (N := 1) ?hd (cs := #[.slice A0_0 l0_0.length c0_0, .int .i64 a0_1, .int .i64 a0_2, .int .i64 a0_3]) (t := 42) ?hr ?_; (case hd => rfl); (case hg => rfl); (case hr => first | (go_simp; done) | (go_simp; rfl)); intro gb252 hg w18 hbox hb; have n0_ := am_ (below_step (ue_ HB.out) hb); have n1_ := am_ (hbox); have n2_ := am_ ((by rw [hg]; exact (below_size (ue_ HB.out)) : w.heap.size ≤ gb252)); have n3_ := am_ ((by rw [hg]; exact (below_size (ue_ HB.out)) : w.heap.size ≤ gb252)); clear HB; have HB := n0_; have BK252 := n1_; have GW252 := n2_; have GE252 := n3_; clear n0_ n1_ n2_ n3_; clear hb hbox hg; obtain ⟨hcz19_0, hcz19_1, hcz19_2, hcz19_3⟩ := cb4_ BK252.out; obtain ⟨hfz19_0, hfz19_1, hfz19_2⟩ := bf3_ BK252.out; have hfz19_3 := blk_frozen BK252.out 3) | (go_at_call 160; (with_reducible refine (impl_areAggs.calls _ _ l0_0 true _ ?side1 ?side2 A3.out).mono ?_); (case side1 => repeat (first | exact (Kd.C_below HR0_0.out HB.out) | (with_reducible refine Kd.C_alloc ?_ _) | (with_reducible refine Kd.C_drewN ?_ _) | (with_reducible refine Kd.C_drew ?_))); (case side2 => exact HC0_0.out); rintro e w20 ⟨rfl, hb⟩; have n0_ := am_ (bb_ BK252.out hb); have n1_ := am_ (below_step (ue_ HB.out) hb); clear BK252 HB; have BK252 := n0_; have HB := n1_; clear n0_ n1_; (try clear hb); (try clear hb2); (try clear hk); (try clear hi); obtain ⟨hcz21_0, hcz21_1, hcz21_2, hcz21_3⟩ := cb4_ BK252.out; obtain ⟨hfz21_0, hfz21_1, hfz21_2⟩ := bf3_ BK252.out; have hfz21_3 := blk_frozen BK252.out 3) | (go_at_call 161; (with_reducible refine (impl_areSorted.calls k _ _ l0_0 true _ ?side1 ?side2 A5.out).mono ?_); (case side1 => repeat (first | exact (Kd.C_below HR0_0.out HB.out) | (with_reducible refine Kd.C_alloc ?_ _) | (with_reducible refine Kd.C_drewN ?_ _) | (with_reducible refine Kd.C_drew ?_))); (case side2 => exact HC0_0.out); rintro e w22 ⟨rfl, hb⟩; have n0_ := am_ (bb_ BK252.out hb); have n1_ := am_ (below_step (ue_ HB.out) hb); clear BK252 HB; have BK252 := n0_; have HB := n1_; clear n0_ n1_; (try clear hb); (try clear hb2); (try clear hk); (try clear hi); obtain ⟨hcz23_0, hcz23_1, hcz23_2, hcz23_3⟩ := cb4_ BK252.out; obtain ⟨hfz23_0, hfz23_1, hfz23_2⟩ := bf3_ BK252.out; have hfz23_3 := blk_frozen BK252.out 3) | (go_at_call 99; (with_reducible refine (impl_isMark.calls a0_1 true _ A7.out).mono ?_); rintro e w' ⟨rfl, ⟨nd, rfl⟩⟩) | (go_at_call 162; (with_reducible refine (impl_isMany.calls a0_2 false _ A9.out).mono ?_); rintro e w' ⟨rfl, ⟨nd, rfl⟩⟩))
      go_ret
      exact ⟨ew_, ue_ HB.out⟩
    ·
     replace c8 := Bool.eq_false_iff.mpr c8
     subst c8
     have H1 : (some false) = some r := by rw [if_neg (show ¬ (false = true) by decide)] at H; exact H
     clear H
     have H := H1
     clear H1
     obtain rfl := Option.some.inj H
     go_enter Try.func98, Try.ntmps98
     go_wp2_with (first | ((with_reducible refine gate_dst (N := 1) rfl ?_); refine box_event ?hg (N := 1) ?hd (cs := #[.slice A0_0 l0_0.length c0_0, .int .i64 a0_1, .int .i64 a0_2, .int .i64 a0_3]) (t := 42) ?hr ?_; (case hd => rfl); (case hg => rfl); (case hr => first | (go_simp; done) | (go_simp; rfl)); intro gb252 hg w24 hbox hb; have n0_ := am_ (below_step (ue_ HB.out) hb); have n1_ := am_ (hbox); have n2_ := am_ ((by rw [hg]; exact (below_size (ue_ HB.out)) : w.heap.size ≤ gb252)); have n3_ := am_ ((by rw [hg]; exact (below_size (ue_ HB.out)) : w.heap.size ≤ gb252)); clear HB; have HB := n0_; have BK252 := n1_; have GW252 := n2_; have GE252 := n3_; clear n0_ n1_ n2_ n3_; clear hb hbox hg; obtain ⟨hcz25_0, hcz25_1, hcz25_2, hcz25_3⟩ := cb4_ BK252.out; obtain ⟨hfz25_0, hfz25_1, hfz25_2⟩ := bf3_ BK252.out; have hfz25_3 := blk_frozen BK252.out 3) | (go_at_call 160; (with_reducible refine (impl_areAggs.calls _ _ l0_0 true _ ?side1 ?side2 A3.out).mono ?_); (case side1 => repeat (first | exact (Kd.C_below HR0_0.out HB.out) | (with_reducible refine Kd.C_alloc ?_ _) | (with_reducible refine Kd.C_drewN ?_ _) | (with_reducible refine Kd.C_drew ?_))); (case side2 => exact HC0_0.out); rintro e w26 ⟨rfl, hb⟩; have n0_ := am_ (bb_ BK252.out hb); have n1_ := am_ (below_step (ue_ HB.out) hb); clear BK252 HB; have BK252 := n0_; have HB := n1_; clear n0_ n1_; (try clear hb); (try clear hb2); (try clear hk); (try clear hi); obtain ⟨hcz27_0, hcz27_1, hcz27_2, hcz27_3⟩ := cb4_ BK252.out; obtain ⟨hfz27_0, hfz27_1, hfz27_2⟩ := bf3_ BK252.out; have hfz27_3 := blk_frozen BK252.out 3) | (go_at_call 161; (with_reducible refine (impl_areSorted.calls k _ _ l0_0 true _ ?side1 ?side2 A5.out).mono ?_); (case side1 => repeat (first | exact (Kd.C_below HR0_0.out HB.out) | (with_reducible refine Kd.C_alloc ?_ _) | (with_reducible refine Kd.C_drewN ?_ _) | (with_reducible refine Kd.C_drew ?_))); (case side2 => exact HC0_0.out); rintro e w28 ⟨rfl, hb⟩; have n0_ := am_ (bb_ BK252.out hb); have n1_ := am_ (below_step (ue_ HB.out) hb); clear BK252 HB; have BK252 := n0_; have HB := n1_; clear n0_ n1_; (try clear hb); (try clear hb2); (try clear hk); (try clear hi); obtain ⟨hcz29_0, hcz29_1, hcz29_2, hcz29_3⟩ := cb4_ BK252.out; obtain ⟨hfz29_0, hfz29_1, hfz29_2⟩ := bf3_ BK252.out; have hfz29_3 := blk_frozen BK252.out 3) | (go_at_call 99; (with_reducible refine (impl_isMark.calls a0_1 false _ A7.out).mono ?_); rintro e w' ⟨rfl, ⟨nd, rfl⟩⟩))
     go_ret
     exact ⟨ew_, ue_ HB.out⟩
   ·
    replace c6 := Bool.eq_false_iff.mpr c6
    subst c6
    have H1 : (some false) = some r := by rw [if_neg (show ¬ (false = true) by decide)] at H; exact H
    clear H
    have H := H1
    clear H1
    obtain rfl := Option.some.inj H
    go_enter Try.func98, Try.ntmps98
    go_wp2_with (first | ((with_reducible refine gate_dst (N := 1) rfl ?_); refine box_event ?hg (N := 1) ?hd (cs := #[.slice A0_0 l0_0.length c0_0, .int .i64 a0_1, .int .i64 a0_2, .int .i64 a0_3]) (t := 42) ?hr ?_; (case hd => rfl); (case hg => rfl); (case hr => first | (go_simp; done) | (go_simp; rfl)); intro gb252 hg w30 hbox hb; have n0_ := am_ (below_step (ue_ HB.out) hb); have n1_ := am_ (hbox); have n2_ := am_ ((by rw [hg]; exact (below_size (ue_ HB.out)) : w.heap.size ≤ gb252)); have n3_ := am_ ((by rw [hg]; exact (below_size (ue_ HB.out)) : w.heap.size ≤ gb252)); clear HB; have HB := n0_; have BK252 := n1_; have GW252 := n2_; have GE252 := n3_; clear n0_ n1_ n2_ n3_; clear hb hbox hg; obtain ⟨hcz31_0, hcz31_1, hcz31_2, hcz31_3⟩ := cb4_ BK252.out; obtain ⟨hfz31_0, hfz31_1, hfz31_2⟩ := bf3_ BK252.out; have hfz31_3 := blk_frozen BK252.out 3) | (go_at_call 160; (with_reducible refine (impl_areAggs.calls _ _ l0_0 true _ ?side1 ?side2 A3.out).mono ?_); (case side1 => repeat (first | exact (Kd.C_below HR0_0.out HB.out) | (with_reducible refine Kd.C_alloc ?_ _) | (with_reducible refine Kd.C_drewN ?_ _) | (with_reducible refine Kd.C_drew ?_))); (case side2 => exact HC0_0.out); rintro e w32 ⟨rfl, hb⟩; have n0_ := am_ (bb_ BK252.out hb); have n1_ := am_ (below_step (ue_ HB.out) hb); clear BK252 HB; have BK252 := n0_; have HB := n1_; clear n0_ n1_; (try clear hb); (try clear hb2); (try clear hk); (try clear hi); obtain ⟨hcz33_0, hcz33_1, hcz33_2, hcz33_3⟩ := cb4_ BK252.out; obtain ⟨hfz33_0, hfz33_1, hfz33_2⟩ := bf3_ BK252.out; have hfz33_3 := blk_frozen BK252.out 3) | (go_at_call 161; (with_reducible refine (impl_areSorted.calls k _ _ l0_0 false _ ?side1 ?side2 A5.out).mono ?_); (case side1 => repeat (first | exact (Kd.C_below HR0_0.out HB.out) | (with_reducible refine Kd.C_alloc ?_ _) | (with_reducible refine Kd.C_drewN ?_ _) | (with_reducible refine Kd.C_drew ?_))); (case side2 => exact HC0_0.out); rintro e w34 ⟨rfl, hb⟩; have n0_ := am_ (bb_ BK252.out hb); have n1_ := am_ (below_step (ue_ HB.out) hb); clear BK252 HB; have BK252 := n0_; have HB := n1_; clear n0_ n1_; (try clear hb); (try clear hb2); (try clear hk); (try clear hi)))
    go_ret
    exact ⟨ew_, ue_ HB.out⟩
  ·
   replace c4 := Bool.eq_false_iff.mpr c4
   subst c4
   have H1 : (some false) = some r := by rw [if_neg (show ¬ (false = true) by decide)] at H; exact H
   clear H
   have H := H1
   clear H1
   obtain rfl := Option.some.inj H
   go_enter Try.func98, Try.ntmps98
   go_wp2_with (first | ((with_reducible refine gate_dst (N := 1) rfl ?_); refine box_event ?hg (N := 1) ?hd (cs := #[.slice A0_0 l0_0.length c0_0, .int .i64 a0_1, .int .i64 a0_2, .int .i64 a0_3]) (t := 42) ?hr ?_; (case hd => rfl); (case hg => rfl); (case hr => first | (go_simp; done) | (go_simp; rfl)); intro gb252 hg w35 hbox hb; have n0_ := am_ (below_step (ue_ HB.out) hb); have n1_ := am_ (hbox); have n2_ := am_ ((by rw [hg]; exact (below_size (ue_ HB.out)) : w.heap.size ≤ gb252)); have n3_ := am_ ((by rw [hg]; exact (below_size (ue_ HB.out)) : w.heap.size ≤ gb252)); clear HB; have HB := n0_; have BK252 := n1_; have GW252 := n2_; have GE252 := n3_; clear n0_ n1_ n2_ n3_; clear hb hbox hg; obtain ⟨hcz36_0, hcz36_1, hcz36_2, hcz36_3⟩ := cb4_ BK252.out; obtain ⟨hfz36_0, hfz36_1, hfz36_2⟩ := bf3_ BK252.out; have hfz36_3 := blk_frozen BK252.out 3) | (go_at_call 160; (with_reducible refine (impl_areAggs.calls _ _ l0_0 false _ ?side1 ?side2 A3.out).mono ?_); (case side1 => repeat (first | exact (Kd.C_below HR0_0.out HB.out) | (with_reducible refine Kd.C_alloc ?_ _) | (with_reducible refine Kd.C_drewN ?_ _) | (with_reducible refine Kd.C_drew ?_))); (case side2 => exact HC0_0.out); rintro e w37 ⟨rfl, hb⟩; have n0_ := am_ (bb_ BK252.out hb); have n1_ := am_ (below_step (ue_ HB.out) hb); clear BK252 HB; have BK252 := n0_; have HB := n1_; clear n0_ n1_; (try clear hb); (try clear hb2); (try clear hk); (try clear hi)))
   go_ret
   exact ⟨ew_, ue_ HB.out⟩
 ·
  rw [if_neg c2] at H
  have c2b0 : decide ((l0_0.length : Int) ≤ 40) = false := decide_eq_false c2
  have c2b1 : decide (l0_0.length ≤ 40) = false := decide_eq_false (by omega)
  clear c2
  obtain rfl := Option.some.inj H
  go_enter Try.func98, Try.ntmps98
  go_wp2_with (first | ((with_reducible refine gate_dst (N := 1) rfl ?_); refine box_event ?hg (N := 1) ?hd (cs := #[.slice A0_0 l0_0.length c0_0, .int .i64 a0_1, .int .i64 a0_2, .int .i64 a0_3]) (t := 42) ?hr ?_; (case hd => rfl); (case hg => rfl); (case hr => first | (go_simp; done) | (go_simp; rfl)); intro gb252 hg w38 hbox hb; have n0_ := am_ (below_step (ue_ HB.out) hb); have n1_ := am_ (hbox); have n2_ := am_ ((by rw [hg]; exact (below_size (ue_ HB.out)) : w.heap.size ≤ gb252)); have n3_ := am_ ((by rw [hg]; exact (below_size (ue_ HB.out)) : w.heap.size ≤ gb252)); clear HB; have HB := n0_; have BK252 := n1_; have GW252 := n2_; have GE252 := n3_; clear n0_ n1_ n2_ n3_; clear hb hbox hg; obtain ⟨hcz39_0, hcz39_1, hcz39_2, hcz39_3⟩ := cb4_ BK252.out; obtain ⟨hfz39_0, hfz39_1, hfz39_2⟩ := bf3_ BK252.out; have hfz39_3 := blk_frozen BK252.out 3))
  go_ret
  exact ⟨ew_, ue_ HB.out⟩

/-! ### impl_isSize: function 113 -/
def impl_isSize.f (a0 : Int) : Option (Bool) := (impl_within.f a0 1 1000000).bind fun t258 => (some t258)
set_option maxHeartbeats 8000000 in
set_option maxRecDepth 100000 in
theorem impl_isSize.calls (a0 : Int) (r : Bool) (w : World) (h : impl_isSize.f a0 = some r) :
  Calls Try.prog 113 #[.int .i64 a0] w fun e w' => e = .returned (.bool r) ∧ Drawn0 w w' := by
 have H : ((impl_within.f a0 1 1000000).bind fun t258 => (some t258)) = some r := h
 clear h
 replace H := Option.bind_eq_some_iff.mp H
 obtain ⟨t258, A20, H⟩ := H
 replace H : (some t258) = some r := H
 have A2 := Aside0.mk A20
 clear A20
 obtain rfl := Option.some.inj H
 go_enter Try.func113, Try.ntmps113
 go_wp2_with (first | ((with_reducible refine gate_callee (f := 106) rfl ?_); refine goesL_ (some 4) rfl rfl Try.func106 (by kernel_rfl) rfl #[.int .i64 a0, .int .i64 1, .int .i64 1000000] rfl ul_ ?_; (with_reducible refine (impl_within.calls a0 1 1000000 t258 _ A2.out).mono ?_); rintro e w' ⟨rfl, ⟨nd, rfl⟩⟩; refine ⟨_, rfl, ?_⟩))
 go_ret
 exact ⟨by first | rfl | (simp; done) | (simp [*]; done), by repeat (first | exact Drawn0.refl _ | apply Drawn0.step)⟩

/-! ### impl_WindowEnd: function 165 -/
def impl_WindowEnd.f (a0 : Int) (a1 : Int) : Option (Int) := (impl_isTime.f a0).bind fun t259 => (if t259 = true then ((impl_isSize.f a1).bind fun t260 => (if t260 = true then (some (wrap64 ((wrap64 ((wrap64 (a0 + 1)) * a1)) - 1))) else (some (-1)))) else (some (-1)))
set_option maxHeartbeats 8000000 in
set_option maxRecDepth 100000 in
theorem impl_WindowEnd.calls (a0 : Int) (a1 : Int) (r : Int) (w : World) (h : impl_WindowEnd.f a0 a1 = some r) :
  Calls Try.prog 165 #[.int .i64 a0, .int .i64 a1] w fun e w' => e = .returned (.int .i64 r) ∧ Drawn0 w w' := by
 have H : ((impl_isTime.f a0).bind fun t259 => (if t259 = true then ((impl_isSize.f a1).bind fun t260 => (if t260 = true then (some (wrap64 ((wrap64 ((wrap64 (a0 + 1)) * a1)) - 1))) else (some (-1)))) else (some (-1)))) = some r := h
 clear h
 replace H := Option.bind_eq_some_iff.mp H
 obtain ⟨t259, A30, H⟩ := H
 replace H : (if t259 = true then ((impl_isSize.f a1).bind fun t260 => (if t260 = true then (some (wrap64 ((wrap64 ((wrap64 (a0 + 1)) * a1)) - 1))) else (some (-1)))) else (some (-1))) = some r := H
 have A3 := Aside0.mk A30
 clear A30
 by_cases c4 : t259 = true
 ·
  subst c4
  have H1 : ((impl_isSize.f a1).bind fun t260 => (if t260 = true then (some (wrap64 ((wrap64 ((wrap64 (a0 + 1)) * a1)) - 1))) else (some (-1)))) = some r := by rw [if_pos rfl] at H; exact H
  clear H
  have H := H1
  clear H1
  replace H := Option.bind_eq_some_iff.mp H
  obtain ⟨t260, A50, H⟩ := H
  replace H : (if t260 = true then (some (wrap64 ((wrap64 ((wrap64 (a0 + 1)) * a1)) - 1))) else (some (-1))) = some r := H
  have A5 := Aside0.mk A50
  clear A50
  by_cases c6 : t260 = true
  ·
   subst c6
   have H1 : (some (wrap64 ((wrap64 ((wrap64 (a0 + 1)) * a1)) - 1))) = some r := by rw [if_pos rfl] at H; exact H
   clear H
   have H := H1
   clear H1
   obtain rfl := Option.some.inj H
   go_enter Try.func165, Try.ntmps165
   go_wp2_with (first | ((with_reducible refine gate_callee (f := 168) rfl ?_); refine goesL_ (some 6) rfl rfl Try.func168 (by kernel_rfl) rfl #[.int .i64 a0] rfl ul_ ?_; (with_reducible refine (impl_isTime.calls a0 true _ A3.out).mono ?_); rintro e w' ⟨rfl, ⟨nd, rfl⟩⟩; refine ⟨_, rfl, ?_⟩) | (go_at_call 113; (with_reducible refine (impl_isSize.calls a1 true _ A5.out).mono ?_); rintro e w' ⟨rfl, ⟨nd, rfl⟩⟩))
   go_ret
   exact ⟨by first | rfl | (simp; done) | (simp [*]; done), by repeat (first | exact Drawn0.refl _ | apply Drawn0.step)⟩
  ·
   replace c6 := Bool.eq_false_iff.mpr c6
   subst c6
   have H1 : (some (-1)) = some r := by rw [if_neg (show ¬ (false = true) by decide)] at H; exact H
   clear H
   have H := H1
   clear H1
   obtain rfl := Option.some.inj H
   go_enter Try.func165, Try.ntmps165
   go_wp2_with (first | ((with_reducible refine gate_callee (f := 168) rfl ?_); refine goesL_ (some 6) rfl rfl Try.func168 (by kernel_rfl) rfl #[.int .i64 a0] rfl ul_ ?_; (with_reducible refine (impl_isTime.calls a0 true _ A3.out).mono ?_); rintro e w' ⟨rfl, ⟨nd, rfl⟩⟩; refine ⟨_, rfl, ?_⟩) | (go_at_call 113; (with_reducible refine (impl_isSize.calls a1 false _ A5.out).mono ?_); rintro e w' ⟨rfl, ⟨nd, rfl⟩⟩))
   go_ret
   exact ⟨by first | rfl | (simp; done) | (simp [*]; done), by repeat (first | exact Drawn0.refl _ | apply Drawn0.step)⟩
 ·
  replace c4 := Bool.eq_false_iff.mpr c4
  subst c4
  have H1 : (some (-1)) = some r := by rw [if_neg (show ¬ (false = true) by decide)] at H; exact H
  clear H
  have H := H1
  clear H1
  obtain rfl := Option.some.inj H
  go_enter Try.func165, Try.ntmps165
  go_wp2_with (first | ((with_reducible refine gate_callee (f := 168) rfl ?_); refine goesL_ (some 6) rfl rfl Try.func168 (by kernel_rfl) rfl #[.int .i64 a0] rfl ul_ ?_; (with_reducible refine (impl_isTime.calls a0 false _ A3.out).mono ?_); rintro e w' ⟨rfl, ⟨nd, rfl⟩⟩; refine ⟨_, rfl, ?_⟩))
  go_ret
  exact ⟨by first | rfl | (simp; done) | (simp [*]; done), by repeat (first | exact Drawn0.refl _ | apply Drawn0.step)⟩


set_option maxHeartbeats 2000000 in
set_option maxRecDepth 100000 in
theorem closedAt_calls (g : Nat) (v0 v2 v3 : Value) (mark : Int) (a0 a1 a2 a3 a4 a5 : Int) (size r : Int) (w : World) (hb : w.heap[g]? = some (.cells #[v0, .int .i64 mark, v2, v3] 42 (0, 0))) (h : impl_WindowEnd.f a0 size = some r) :
  Calls Try.prog 117 #[.pointer (some ⟨g, 0, none⟩), .agg #[.int .i64 a0, .int .i64 a1, .int .i64 a2, .int .i64 a3, .int .i64 a4, .int .i64 a5], .int .i64 size] w fun e w' => e = .returned (.bool (decide (r ≤ mark))) ∧ Below w.heap.size w w' := by
 have hc : w.cell? ⟨g, 1, none⟩ = some (.int .i64 mark) := (blk_cell hb 1).trans rfl
 have hg : g < w.heap.size := blk_lt hb
 have HC := am_ (fun W => impl_WindowEnd.calls a0 size r W h)
 clear h hb
 go_enter Try.func117, Try.ntmps117
 go_wp2
 go_quiet ((go_at_call 165; exact Calls.quiet_of ((HC.out _).mono fun _ _ ⟨he, hd⟩ => ⟨he, hd.out⟩)))
 go_wp2
 go_ret
 exact ⟨rfl, by repeat (first | exact Below.refl _ _ | apply below_alloc | apply pw_below_drewN | apply below_drew1)⟩

/-! ### impl_TakeClosed_1: function 141 -/
def impl_TakeClosed_1.f (all : Bool) (mark size : Int) (a0 a1 a2 a3 a4 a5 : Int) : Option Bool := if all = true then some true else (impl_WindowEnd.f a0 size).bind fun r => some (decide (r ≤ mark))
set_option maxHeartbeats 2000000 in
set_option maxRecDepth 100000 in
theorem impl_TakeClosed_1.calls (g1 g2 g3 : Nat) (all : Bool) (v0 v2 v3 : Value) (mark size : Int) (a0 a1 a2 a3 a4 a5 : Int) (r : Bool) (w : World) (h1 : w.heap[g1]? = some (.cells #[.bool all] 4 (0, 0))) (h2 : w.heap[g2]? = some (.cells #[v0, .int .i64 mark, v2, v3] 42 (0, 0)))
  (h3 : w.heap[g3]? = some (.cells #[.int .i64 size] 3 (0, 0))) (h : impl_TakeClosed_1.f all mark size a0 a1 a2 a3 a4 a5 = some r) :
  Calls Try.prog 141 #[.agg #[.int .i64 a0, .int .i64 a1, .int .i64 a2, .int .i64 a3, .int .i64 a4, .int .i64 a5], .pointer (some ⟨g1, 0, none⟩), .pointer (some ⟨g2, 0, none⟩), .pointer (some ⟨g3, 0, none⟩)] w fun e w' => e = .returned (.bool r) ∧ Below w.heap.size w w' := by
 have c1 : w.cell? ⟨g1, 0, none⟩ = some (.bool all) := (blk_cell h1 0).trans rfl
 have c3 : w.cell? ⟨g3, 0, none⟩ = some (.int .i64 size) := (blk_cell h3 0).trans rfl
 have l1 := blk_lt h1
 have l2 := blk_lt h2
 have l3 := blk_lt h3
 unfold impl_TakeClosed_1.f at h
 cases all with
 | true =>
  rw [if_pos rfl] at h
  obtain rfl := Option.some.inj h
  go_enter Try.func141, Try.ntmps141
  go_wp2
  go_ret
  exact ⟨rfl, below_alloc (Below.refl _ _) _⟩
 | false =>
  rw [if_neg (by simp)] at h
  obtain ⟨t, ht, h⟩ := Option.bind_eq_some_iff.mp h
  obtain rfl := Option.some.inj h
  have H2 := Aside0.mk h2
  have HT := Aside0.mk ht
  clear h h1 h2 h3 ht
  go_enter Try.func141, Try.ntmps141
  go_wp2_with (go_at_call 117; refine (closedAt_calls g2 v0 v2 v3 mark a0 a1 a2 a3 a4 a5 size t _ (blk_alloc H2.out _) HT.out).mono ?_; rintro e w' ⟨rfl, hb'⟩)
  go_ret
  exact ⟨rfl, below_step (below_alloc (Below.refl _ _) _) hb'⟩
theorem impl_TakeClosed_1.pays {g1 g2 g3 : Nat} {all : Bool} {v0 v2 v3 : Value} {mark size : Int} {w : World} (h1 : w.heap[g1]? = some (.cells #[.bool all] 4 (0, 0))) (h2 : w.heap[g2]? = some (.cells #[v0, .int .i64 mark, v2, v3] 42 (0, 0)))
  (h3 : w.heap[g3]? = some (.cells #[.int .i64 size] 3 (0, 0))) : Pays80 Try.prog (fun x => impl_TakeClosed_1.f all mark size x.f0 x.f1 x.f2 x.f3 x.f4 x.f5) 141 #[.pointer (some ⟨g1, 0, none⟩), .pointer (some ⟨g2, 0, none⟩), .pointer (some ⟨g3, 0, none⟩)] w :=
 ⟨fun args W => enters_ Try.func141 (by kernel_rfl) rfl args W, fun W x b hb h => impl_TakeClosed_1.calls g1 g2 g3 all v0 v2 v3 mark size x.f0 x.f1 x.f2 x.f3 x.f4 x.f5 b W (blk_below h1 hb) (blk_below h2 hb) (blk_below h3 hb) h⟩


theorem zeroCells_len (z : Array Value) (hz : 0 < z.size) (m : Nat) : (Builtin.zeroCells z m).size = m * z.size := by
 simp [Builtin.zeroCells]
theorem zeroCells_one (z : Array Value) (hz : ∀ i : Fin z.size, z[i].oneCell' = true) (m : Nat) : ∀ u ∈ (Builtin.zeroCells z m).toList, u.oneCell' = true := by
 intro u hu
 simp [Builtin.zeroCells] at hu
 obtain ⟨a, ha, rfl⟩ := hu
 have hs : 0 < z.size := by
  rcases Nat.eq_zero_or_pos z.size with h | h
  ·
   rw [h, Nat.mul_zero] at ha
   omega
  ·
   exact h
 have hlt := Nat.mod_lt a hs
 have := hz ⟨a % z.size, hlt⟩
 rw [getElem!_pos z _ hlt]
 exact this
theorem R_clear_run {P : Program} {α : Type} (d : Kd α) {W : World} (base : Nat) (t ty e : TypeId) (z : Value) (ht : P.underlying t = some (.slice e)) (hz : (zeroValue e).run P W = .ok z W) (hzs : z.cells.size = d.sz) (hs0 : 0 < d.sz)
  (hz1 : ∀ m, ∀ u ∈ (Builtin.zeroCells z.cells m).toList, u.oneCell' = true) {g n c m c2 : Nat} {xs : List α} {ok : Nat → Prop} (HO : d.R e W base ok (.slice (some ⟨g, 0, none⟩) n c) xs) (hnm : n + m ≤ c) (hm : 0 < m) :
  ∃ w1, (Builtin.clear_ #[t] ty #[.slice (some ⟨g, n * d.sz, none⟩) m c2]).run P W = .ok (.tuple #[]) w1 ∧ d.R e w1 base ok (.slice (some ⟨g, 0, none⟩) n c) xs ∧ W.grownBy w1 (some g) := by
 obtain ⟨hn, hnc, _⟩ := Kd.R_reads' HO
 obtain ⟨hok, inner, hown, hr⟩ := HO
 subst hn
 rcases hown.2 with ⟨hv, _⟩ | ⟨g', cap', cur, hv, hb, hh, hcn, hcm, hcs, htake⟩
 ·
  cases hv
 injection hv with ha _ hc
 injection ha with ha
 injection ha with ha
 subst ha
 subst hc
 obtain ⟨m, rfl⟩ : ∃ k, m = k + 1 := ⟨m - 1, by omega⟩
 obtain ⟨vs, hvs⟩ : ∃ vs, vs = (Builtin.zeroCells z.cells (m + 1)).toList := ⟨_, rfl⟩
 have hlen : vs.length = (m + 1) * d.sz := by rw [hvs, Array.length_toList, zeroCells_len _ (by omega), hzs]
 have hfit : xs.length * d.sz + 0 + vs.length ≤ cur.size := by
  rw [hcs, hlen, Nat.add_zero, ← Nat.add_mul]
  exact Nat.mul_le_mul_right _ hnm
 have hrun := run_storeCells_at P g (xs.length * d.sz) e vs 0 cur W hh hfit (by rw [hvs]; exact hz1 _)
 obtain ⟨cur2, hcur2⟩ : ∃ cur2, cur2 = (cur.toList.take (xs.length * d.sz + 0) ++ vs ++ cur.toList.drop (xs.length * d.sz + 0 + vs.length)).toArray := ⟨_, rfl⟩
 rw [← hcur2] at hrun
 have hother : ∀ k, k ≠ g → (W.setRow g cur2).heap[k]? = W.heap[k]? := fun k hk => setRow_other W g k cur2 hk
 refine ⟨W.setRow g cur2, ?_, ⟨hok, inner, ⟨hown.1, .inr ⟨g, c, cur2, rfl, hb, setRow_heap W g cur cur2 e (0, 0) hh, hcn, hcm, ?_, ?_⟩⟩, ?_⟩, ?_⟩
 ·
  rw [hvs] at hrun
  simp [Builtin.clear_, run_underlying ht, hz, hrun]
 ·
  rw [hcur2, List.size_toArray]
  simp only [List.length_append, List.length_take, List.length_drop, Array.length_toList]
  omega
 ·
  rw [hcur2, ← htake]
  have hl : (cur.toList.take (xs.length * d.sz)).length = xs.length * d.sz := by
   have hl2 : cur.toList.length = c * d.sz := hcs
   rw [List.length_take, hl2]; exact Nat.min_eq_left (Nat.mul_le_mul_right _ hcn)
  simp only [Nat.add_zero, List.append_assoc]
  rw [List.take_append_of_le_length (by omega), List.take_of_length_le (by omega)]
 ·
  exact hr.imp_ (fun x cs hx => d.M_move (fun k hk => hother k (fun e_ => hk.2 (by rw [e_]; rfl))) hx)
 ·
  exact ⟨rfl, rfl, rfl, by simp, fun k _ hne => hother k (fun e_ => hne (by rw [e_]))⟩
/-! ### slices_Delete_impl_Agg_impl_Agg: function 142 -/
def slices_Delete_impl_Agg_impl_Agg.f (l0 : List S80) (i j : Int) : Option (List S80) := if 0 ≤ i ∧ i < (l0.length : Int) ∧ j = i + 1 then some (l0.eraseIdx i.toNat) else none
set_option maxHeartbeats 2000000 in
set_option maxRecDepth 100000 in
theorem slices_Delete_impl_Agg_impl_Agg.calls (P0_ : Nat → Prop) (u9000_ : Value) (l0 : List S80) (a1 a2 : Int) (r : List S80) (w0 w : World) (hB : Below w0.heap.size w0 w) (ho0 : Kd.R k80 80 w w0.heap.size P0_ u9000_ l0) (h : slices_Delete_impl_Agg_impl_Agg.f l0 a1 a2 = some r) :
  Calls Try.prog 142 #[u9000_, .int .i64 a1, .int .i64 a2] w fun e w' => ∃ v0_ : Value, e = .returned v0_ ∧ Kd.R k80 80 w' w0.heap.size (fun k_ => (P0_ k_ ∨ w.heap.size ≤ k_)) v0_ r ∧ Below w0.heap.size w0 w' ∧ Kept w w' (fun k_ => P0_ k_) := by
 unfold slices_Delete_impl_Agg_impl_Agg.f at h
 by_cases hc : 0 ≤ a1 ∧ a1 < (l0.length : Int) ∧ a2 = a1 + 1
 ·
  rw [if_pos hc] at h
  obtain rfl := Option.some.inj h
  obtain ⟨h0, h1, rfl⟩ := hc
  obtain ⟨i, rfl⟩ : ∃ i : Nat, a1 = (i : Int) := ⟨a1.toNat, by omega⟩
  have hi : i < l0.length := by omega
  obtain ⟨ad, c, rfl⟩ := Kd.R_slice1 ho0 (by omega)
  obtain ⟨_, hnc, _⟩ := Kd.R_reads' ho0
  have hbase : w0.heap.size ≤ w.heap.size := hB.size
  obtain ⟨g, rfl, hcm⟩ : ∃ g, ad = ⟨g, 0, none⟩ ∧ c ≤ maxLen := by
   rcases ho0.2 with ⟨inner, hown, _⟩
   rcases hown.2 with ⟨hv, _⟩ | ⟨g', cap', cur, hv, hb, hh, hcn, hcm, hcs, htake⟩
   ·
    cases hv
   ·
    injection hv with ha _ hc
    injection ha with ha
    exact ⟨g', ha, by rw [hc]; exact hcm⟩
  unfold maxLen at hcm
  have HO0 := Aside0.mk ho0
  have HB := Aside0.mk hB
  clear ho0 h1 hB
  have hsz : (Try.prog.info? 80).map (·.size) = some k80.sz := by kernel_rfl
  have hic : i ≤ c := by omega
  have hic' : (i : Int) ≤ (c : Int) := by omega
  have hil : i + 1 ≤ l0.length := by omega
  have hil' : (i : Int) + 1 ≤ (l0.length : Int) := by omega
  have hi0 : (0 : Int) ≤ (i : Int) + 1 := by omega
  have hin : ((i : Int) + 1).toNat = i + 1 := by omega
  have hlen1 : (l0.eraseIdx i).length = l0.length - 1 := List.length_eraseIdx_of_lt hi
  have end_ : ∀ (w1 w2 : World), Kd.R k80 80 w2 w0.heap.size P0_ (.slice (some ⟨g, 0, none⟩) (l0.length - 1) c) (l0.eraseIdx i) → Below w0.heap.size w0 w1 → w.drew.grownBy w1 (some g) → w1.grownBy w2 (some g) →
    Kd.R k80 80 w2 w0.heap.size (fun k_ => (P0_ k_ ∨ w.heap.size ≤ k_)) (.slice (some ⟨g, 0, none⟩) (l0.length - 1) c) (l0.eraseIdx i) ∧ Below w0.heap.size w0 w2 ∧ Kept w w2 (fun k_ => P0_ k_) := by
   intro w1 w2 r2 b1 g1 g2
   have hg : P0_ g := HO0.out.1 g rfl
   have hgb : w0.heap.size ≤ g := Kd.R_base HO0.out g rfl
   exact ⟨Kd.R_mono r2 (fun _ hk => .inl hk), b1.grown g2 b1.size (fun k hk => by injection hk with hk; subst hk; exact hgb),
    Kept.of_grown g2 (Kept.of_grown g1 (Kept.drew (Kept.refl w _)) (fun k hk => by injection hk with hk; subst hk; exact .inl hg)) (fun k hk => by injection hk with hk; subst hk; exact .inl hg)⟩
  have E := Aside0.mk end_
  have RN := am_ (fun (w1 : World) (ho : Kd.R k80 80 w1 w0.heap.size P0_ (.slice (some ⟨g, 0, none⟩) (l0.length - 1) c) (l0.eraseIdx i)) => R_clear_run (P := Try.prog) k80 w0.heap.size 40 0 80 (.agg #[.int .i64 0, .int .i64 0, .int .i64 0, .int .i64 0, .int .i64 0, .int .i64 0]) Try.underlying40 (by kernel_rfl) rfl (by decide) (zeroCells_one _ (by decide)) (g := g) (n := l0.length - 1) (c := c) (m := l0.length - (l0.length - 1)) (c2 := c - (l0.length - 1)) ho (by omega) (by omega))
  clear end_
  by_cases hci : c = i + 1
  ·
   subst hci
   have hic2 : (i : Int) ≤ (i : Int) + 1 := by omega
   have hil2 : (i : Int) + 1 ≤ (i : Int) + 1 := by omega
   go_enter Try.func142, Try.ntmps142
   go_wp2
   go_region_law (refine Kd.R_delete_step k80 (w0 := w0) w0.heap.size (by rfl) (.tmp 22) (.tmp 25) 40 80 rfl Try.underlying40 hsz (g := g) (n := l0.length) (c := i + 1) (k := i) (m := 0) (xs := l0) (ok := P0_) rfl rfl (if_pos rfl).symm (by omega) (Kd.R_drew HO0.out) hi (below_drew1 HB.out) hbase ?_; intro w1 ho1 hb1 hg1)
   obtain ⟨w2, hrun, ho2, hg2⟩ := RN.out w1 ho1
   have hrun' : (Builtin.clear_ #[40] 0 #[.slice (some ⟨g, (l0.length - 1) * 6, none⟩) (l0.length - (l0.length - 1)) (i + 1 - (l0.length - 1))]).run Try.prog w1 = .ok (.tuple #[]) w2 := hrun
   have F := am_ (E.out w1 w2 ho2 hb1 hg1 hg2)
   clear ho1 hb1 hg1 hrun ho2 hg2
   go_wp2
   go_ret
   exact ⟨_, rfl, F.out⟩
  ·
   have hci2 : i + 1 < c := by omega
   go_enter Try.func142, Try.ntmps142
   go_wp2
   go_region_law (refine Kd.R_delete_step k80 (w0 := w0) w0.heap.size (by rfl) (.tmp 22) (.tmp 25) 40 80 rfl Try.underlying40 hsz (g := g) (n := l0.length) (c := c) (k := i) (m := l0.length - (i + 1)) (xs := l0) (ok := P0_) rfl rfl (by rw [if_neg hci]; show _ = some ((⟨g, 0, none⟩ : Addr).add ((i + 1) * 6)); simp [Addr.add]) rfl (Kd.R_drew HO0.out) hi (below_drew1 HB.out) hbase ?_; intro w1 ho1 hb1 hg1)
   obtain ⟨w2, hrun, ho2, hg2⟩ := RN.out w1 ho1
   have hrun' : (Builtin.clear_ #[40] 0 #[.slice (some ⟨g, (l0.length - 1) * 6, none⟩) (l0.length - (l0.length - 1)) (c - (l0.length - 1))]).run Try.prog w1 = .ok (.tuple #[]) w2 := hrun
   have F := am_ (E.out w1 w2 ho2 hb1 hg1 hg2)
   clear ho1 hb1 hg1 hrun ho2 hg2
   go_wp2
   go_ret
   exact ⟨_, rfl, F.out⟩
 ·
  rw [if_neg hc] at h
  cases h

end Go.Proofs.Ytcflalomjehiiaa.QFnExactTakeClosed
