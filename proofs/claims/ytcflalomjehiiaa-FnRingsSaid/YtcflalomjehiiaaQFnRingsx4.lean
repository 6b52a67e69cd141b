/- The machine side of a law: Lean functions with the Go functions' answers and the walks that show it. No condition. -/
import Derived.Test.YtcflalomjehiiaaQFnRingsx0
import Derived.Test.YtcflalomjehiiaaQFnRingsx3
namespace Go.Proofs.Ytcflalomjehiiaa.QFnRings
open Go.RowKit Go.Proofs.YtcflalomjehiiaaW.PrintWords Go.Proofs.YtcflalomjehiiaaW.PrintLast Go.Proofs.YtcflalomjehiiaaW.PrintMore
attribute [local go_sem] max2_int min2_int max_two min_two max_three min_three max_four min_four   -- for this text's walks alone
set_option linter.unusedVariables false
set_option linter.unusedSimpArgs false

/-! ### impl_RingOk: function 105 -/
mutual
def impl_RingOk.j0 : Nat → Int → Bool → List Int → Int → Int → Option (Bool)
 | 0, _, _, _, _, _ => none
 | k + 1, x3, x25, x207000, x207001, x207002 => if x25 = true then (some false) else (impl_RingOk.l0 k x3 x207002 x207000 x207001 x207002)
def impl_RingOk.l0 : Nat → Int → Int → List Int → Int → Int → Option (Bool)
 | 0, _, _, _, _, _ => none
 | k + 1, x3, x4, x207000, x207001, x207002 => if x4 < x3 then (if x3 = 0 then (none) else (if 0 ≤ (Int.tmod (wrap64 (x207001 + x4)) x3) then (if (Int.tmod (wrap64 (x207001 + x4)) x3) < (x207000.length : Int) then (if (rd x207000 (Int.tmod (wrap64 (x207001 + x4)) x3)) = 0 then (impl_RingOk.l0 k x3 (wrap64 (x4 + 1)) x207000 x207001 x207002) else (some false)) else (none)) else (none))) else (some true)
end
def impl_RingOk.f (k : Nat) (l0_0 : List Int) (a0_1 : Int) (a0_2 : Int) : Option (Bool) := (impl_within.f (l0_0.length : Int) 1 20).bind fun t207 => (if t207 = true then ((impl_within.f a0_1 0 (wrap64 ((l0_0.length : Int) - 1))).bind fun t208 => (if t208 = true then ((impl_within.f a0_2 0 (l0_0.length : Int)).bind fun t209 => (impl_RingOk.j0 k (l0_0.length : Int) (!t209) l0_0 a0_1 a0_2)) else (impl_RingOk.j0 k (l0_0.length : Int) true l0_0 a0_1 a0_2))) else (impl_RingOk.j0 k (l0_0.length : Int) true l0_0 a0_1 a0_2))
theorem impl_RingOk.mono_l : ∀ k, (∀ y0 y1 y2 y3 y4, LeO (impl_RingOk.j0 k y0 y1 y2 y3 y4) (impl_RingOk.j0 (k + 1) y0 y1 y2 y3 y4)) ∧ (∀ y0 y1 y2 y3 y4, LeO (impl_RingOk.l0 k y0 y1 y2 y3 y4) (impl_RingOk.l0 (k + 1) y0 y1 y2 y3 y4))
 | 0 => ⟨fun _ _ _ _ _ r h => by simp [impl_RingOk.j0] at h, fun _ _ _ _ _ r h => by simp [impl_RingOk.l0] at h⟩
 | k + 1 => by
  obtain ⟨ih0, ih1⟩ := impl_RingOk.mono_l k
  refine ⟨?_, ?_⟩
  ·
   intro y0 y1 y2 y3 y4
   unfold impl_RingOk.j0
   repeat' first
   | (with_reducible exact ih0 _ _ _ _ _)
   | (with_reducible exact ih1 _ _ _ _ _)
   | (with_reducible exact LeO.refl _)
   | (with_reducible exact LeO.none _)
   | (with_reducible refine LeO.ite ?_ ?_)
   | (with_reducible refine LeO.bind ?_ (fun _ => ?_))
   | exact ih0 _ _ _ _ _
   | exact ih1 _ _ _ _ _
   | exact LeO.none _
   | refine LeO.ite ?_ ?_
   | refine LeO.bind ?_ (fun _ => ?_)
  ·
   intro y0 y1 y2 y3 y4
   unfold impl_RingOk.l0
   repeat' first
   | (with_reducible exact ih0 _ _ _ _ _)
   | (with_reducible exact ih1 _ _ _ _ _)
   | (with_reducible exact LeO.refl _)
   | (with_reducible exact LeO.none _)
   | (with_reducible refine LeO.ite ?_ ?_)
   | (with_reducible refine LeO.bind ?_ (fun _ => ?_))
   | exact ih0 _ _ _ _ _
   | exact ih1 _ _ _ _ _
   | exact LeO.none _
   | refine LeO.ite ?_ ?_
   | refine LeO.bind ?_ (fun _ => ?_)
theorem impl_RingOk.mono : ∀ a0 a1 a2 k, LeO (impl_RingOk.f k a0 a1 a2) (impl_RingOk.f (k + 1) a0 a1 a2) := by
 intro a0 a1 a2 k
 obtain ⟨ih0, ih1⟩ := impl_RingOk.mono_l k
 unfold impl_RingOk.f
 repeat' first
   | (with_reducible exact ih0 _ _ _ _ _)
   | (with_reducible exact ih1 _ _ _ _ _)
   | (with_reducible exact LeO.refl _)
   | (with_reducible exact LeO.none _)
   | (with_reducible refine LeO.ite ?_ ?_)
   | (with_reducible refine LeO.bind ?_ (fun _ => ?_))
   | exact ih0 _ _ _ _ _
   | exact ih1 _ _ _ _ _
   | exact LeO.none _
   | refine LeO.ite ?_ ?_
   | refine LeO.bind ?_ (fun _ => ?_)
set_option maxHeartbeats 8000000 in
set_option maxRecDepth 100000 in
theorem impl_RingOk.calls (k : Nat) (A0_0 : Option Addr) (c0_0 : Nat) (l0_0 : List Int) (a0_1 : Int) (a0_2 : Int) (r : Bool) (w : World) (hr0_0 : Kd.C (Kd.int .i64) w A0_0 l0_0.length l0_0) (hc0_0 : l0_0.length ≤ c0_0) (h : impl_RingOk.f k l0_0 a0_1 a0_2 = some r) :
  Calls Try.prog 105 #[.agg #[.slice A0_0 l0_0.length c0_0, .int .i64 a0_1, .int .i64 a0_2]] w fun e w' => e = .returned (.bool r) ∧ Below w.heap.size w w' := by
 have hu24 := Try.underlying24
 have HR0_0 := Aside0.mk hr0_0
 have HC0_0 := Aside0.mk hc0_0
 clear hr0_0 hc0_0
 have HB := am_ (Below.refl w.heap.size w)
 have H : ((impl_within.f (l0_0.length : Int) 1 20).bind fun t207 => (if t207 = true then ((impl_within.f a0_1 0 (wrap64 ((l0_0.length : Int) - 1))).bind fun t208 => (if t208 = true then ((impl_within.f a0_2 0 (l0_0.length : Int)).bind fun t209 => (impl_RingOk.j0 k (l0_0.length : Int) (!t209) l0_0 a0_1 a0_2)) else (impl_RingOk.j0 k (l0_0.length : Int) true l0_0 a0_1 a0_2))) else (impl_RingOk.j0 k (l0_0.length : Int) true l0_0 a0_1 a0_2))) = some r := h
 clear h
 have HC2 := Aside0.mk H
 clear H
 go_enter Try.func105, Try.ntmps105
 go_upto_region 2 with (first | ((with_reducible refine gate_dst (N := 1) rfl ?_); refine box_event ?hg (N := 1) ?hd (cs := #[.slice A0_0 l0_0.length c0_0, .int .i64 a0_1, .int .i64 a0_2]) (t := 24) ?hr ?_; (case hd => rfl); (case hg => rfl); (case hr => first | (go_simp; done) | (go_simp; rfl)); intro gb206 hg w3 hbox hb; have n0_ := am_ (below_step (ue_ HB.out) hb); have n1_ := am_ (hbox); have n2_ := am_ ((by rw [hg]; exact (below_size (ue_ HB.out)) : w.heap.size ≤ gb206)); have n3_ := am_ ((by rw [hg]; exact (below_size (ue_ HB.out)) : w.heap.size ≤ gb206)); clear HB; have HB := n0_; have BK206 := n1_; have GW206 := n2_; have GE206 := n3_; clear n0_ n1_ n2_ n3_; clear hb hbox hg; obtain ⟨hcz4_0, hcz4_1, hcz4_2⟩ := cb3_ BK206.out; obtain ⟨hfz4_0, hfz4_1⟩ := bf2_ BK206.out; have hfz4_2 := blk_frozen BK206.out 2))
 repeat (go_quiet (first | ((with_reducible refine gate_dst (N := 1) rfl ?_); refine box_event ?hg (N := 1) ?hd (cs := #[.slice A0_0 l0_0.length c0_0, .int .i64 a0_1, .int .i64 a0_2]) (t := 24) ?hr ?_; (case hd => rfl); (case hg => rfl); (case hr => first | (go_simp; done) | (go_simp; rfl)); intro gb206 hg w3 hbox hb; have n0_ := am_ (below_step (ue_ HB.out) hb); have n1_ := am_ (hbox); have n2_ := am_ ((by rw [hg]; exact (below_size (ue_ HB.out)) : w.heap.size ≤ gb206)); have n3_ := am_ ((by rw [hg]; exact (below_size (ue_ HB.out)) : w.heap.size ≤ gb206)); clear HB; have HB := n0_; have BK206 := n1_; have GW206 := n2_; have GE206 := n3_; clear n0_ n1_ n2_ n3_; clear hb hbox hg; obtain ⟨hcz4_0, hcz4_1, hcz4_2⟩ := cb3_ BK206.out; obtain ⟨hfz4_0, hfz4_1⟩ := bf2_ BK206.out; have hfz4_2 := blk_frozen BK206.out 2)); go_upto_region 2 with (first | ((with_reducible refine gate_dst (N := 1) rfl ?_); refine box_event ?hg (N := 1) ?hd (cs := #[.slice A0_0 l0_0.length c0_0, .int .i64 a0_1, .int .i64 a0_2]) (t := 24) ?hr ?_; (case hd => rfl); (case hg => rfl); (case hr => first | (go_simp; done) | (go_simp; rfl)); intro gb206 hg w3 hbox hb; have n0_ := am_ (below_step (ue_ HB.out) hb); have n1_ := am_ (hbox); have n2_ := am_ ((by rw [hg]; exact (below_size (ue_ HB.out)) : w.heap.size ≤ gb206)); have n3_ := am_ ((by rw [hg]; exact (below_size (ue_ HB.out)) : w.heap.size ≤ gb206)); clear HB; have HB := n0_; have BK206 := n1_; have GW206 := n2_; have GE206 := n3_; clear n0_ n1_ n2_ n3_; clear hb hbox hg; obtain ⟨hcz4_0, hcz4_1, hcz4_2⟩ := cb3_ BK206.out; obtain ⟨hfz4_0, hfz4_1⟩ := bf2_ BK206.out; have hfz4_2 := blk_frozen BK206.out 2)))
 (try simp only [Act.put, List.setIfInBounds_toArray, List.set_cons_zero, List.set_cons_succ])
 go_cut [25] (fun v25 wc => ∃ (kq : Nat) (x25_1 : Bool), v25 = .bool x25_1 ∧ Aside0 (impl_RingOk.j0 kq (l0_0.length : Int) x25_1 l0_0 a0_1 a0_2 = some r) ∧ Aside0 (kq ≤ k) ∧ Aside0 (wc.heap[gb206]? = some (.cells #[(.slice A0_0 l0_0.length c0_0), .int .i64 a0_1, .int .i64 a0_2] 24 (0, 0))) ∧ Aside0 (Below w.heap.size w wc))
 case first =>
  have H := HC2.out
  clear HC2
  replace H := Option.bind_eq_some_iff.mp H
  obtain ⟨t207, A50, H⟩ := H
  replace H : (if t207 = true then ((impl_within.f a0_1 0 (wrap64 ((l0_0.length : Int) - 1))).bind fun t208 => (if t208 = true then ((impl_within.f a0_2 0 (l0_0.length : Int)).bind fun t209 => (impl_RingOk.j0 k (l0_0.length : Int) (!t209) l0_0 a0_1 a0_2)) else (impl_RingOk.j0 k (l0_0.length : Int) true l0_0 a0_1 a0_2))) else (impl_RingOk.j0 k (l0_0.length : Int) true l0_0 a0_1 a0_2)) = some r := H
  have A5 := Aside0.mk A50
  clear A50
  by_cases c6 : t207 = true
  ·
   subst c6
   have H1 : ((impl_within.f a0_1 0 (wrap64 ((l0_0.length : Int) - 1))).bind fun t208 => (if t208 = true then ((impl_within.f a0_2 0 (l0_0.length : Int)).bind fun t209 => (impl_RingOk.j0 k (l0_0.length : Int) (!t209) l0_0 a0_1 a0_2)) else (impl_RingOk.j0 k (l0_0.length : Int) true l0_0 a0_1 a0_2))) = some r := by rw [if_pos rfl] at H; exact H
   clear H
   have H := H1
   clear H1
   replace H := Option.bind_eq_some_iff.mp H
   obtain ⟨t208, A70, H⟩ := H
   replace H : (if t208 = true then ((impl_within.f a0_2 0 (l0_0.length : Int)).bind fun t209 => (impl_RingOk.j0 k (l0_0.length : Int) (!t209) l0_0 a0_1 a0_2)) else (impl_RingOk.j0 k (l0_0.length : Int) true l0_0 a0_1 a0_2)) = some r := H
   have A7 := Aside0.mk A70
   clear A70
   by_cases c8 : t208 = true
   ·
    subst c8
    have H1 : ((impl_within.f a0_2 0 (l0_0.length : Int)).bind fun t209 => (impl_RingOk.j0 k (l0_0.length : Int) (!t209) l0_0 a0_1 a0_2)) = some r := by rw [if_pos rfl] at H; exact H
    clear H
    have H := H1
    clear H1
    replace H := Option.bind_eq_some_iff.mp H
    obtain ⟨t209, A90, H⟩ := H
    replace H : (impl_RingOk.j0 k (l0_0.length : Int) (!t209) l0_0 a0_1 a0_2) = some r := H
    have A9 := Aside0.mk A90
    clear A90
    have H' := Aside0.mk H
    clear H
    go_wp2_with (first | (go_at_call 106; (with_reducible refine (impl_within.calls (l0_0.length : Int) 1 20 true _ A5.out).mono ?_); rintro e w' ⟨rfl, ⟨nd, rfl⟩⟩; (try first | exact ⟨rfl, _, World.drewN_drewN _ _ _⟩ | exact ⟨rfl, _, Eq.trans (World.drewN_drewN _ _ _) (congrArg (World.drewN _) (Nat.add_assoc _ _ _))⟩); obtain ⟨hcz10_0, hcz10_1, hcz10_2⟩ := cb3_ BK206.out; obtain ⟨hfz10_0, hfz10_1⟩ := bf2_ BK206.out; have hfz10_2 := blk_frozen BK206.out 2) | (go_at_call 106; (with_reducible refine (impl_within.calls a0_1 0 (wrap64 ((l0_0.length : Int) - 1)) true _ A7.out).mono ?_); rintro e w' ⟨rfl, ⟨nd, rfl⟩⟩; (try first | exact ⟨rfl, _, World.drewN_drewN _ _ _⟩ | exact ⟨rfl, _, Eq.trans (World.drewN_drewN _ _ _) (congrArg (World.drewN _) (Nat.add_assoc _ _ _))⟩)) | (go_at_call 106; (with_reducible refine (impl_within.calls a0_2 0 (l0_0.length : Int) t209 _ A9.out).mono ?_); rintro e w' ⟨rfl, ⟨nd, rfl⟩⟩; (try first | exact ⟨rfl, _, World.drewN_drewN _ _ _⟩ | exact ⟨rfl, _, Eq.trans (World.drewN_drewN _ _ _) (congrArg (World.drewN _) (Nat.add_assoc _ _ _))⟩)))
    repeat (go_quiet (first | (go_at_call 106; (with_reducible refine (impl_within.calls (l0_0.length : Int) 1 20 true _ A5.out).mono ?_); rintro e w' ⟨rfl, ⟨nd, rfl⟩⟩; (try first | exact ⟨rfl, _, World.drewN_drewN _ _ _⟩ | exact ⟨rfl, _, Eq.trans (World.drewN_drewN _ _ _) (congrArg (World.drewN _) (Nat.add_assoc _ _ _))⟩); obtain ⟨hcz10_0, hcz10_1, hcz10_2⟩ := cb3_ BK206.out; obtain ⟨hfz10_0, hfz10_1⟩ := bf2_ BK206.out; have hfz10_2 := blk_frozen BK206.out 2) | (go_at_call 106; (with_reducible refine (impl_within.calls a0_1 0 (wrap64 ((l0_0.length : Int) - 1)) true _ A7.out).mono ?_); rintro e w' ⟨rfl, ⟨nd, rfl⟩⟩; (try first | exact ⟨rfl, _, World.drewN_drewN _ _ _⟩ | exact ⟨rfl, _, Eq.trans (World.drewN_drewN _ _ _) (congrArg (World.drewN _) (Nat.add_assoc _ _ _))⟩)) | (go_at_call 106; (with_reducible refine (impl_within.calls a0_2 0 (l0_0.length : Int) t209 _ A9.out).mono ?_); rintro e w' ⟨rfl, ⟨nd, rfl⟩⟩; (try first | exact ⟨rfl, _, World.drewN_drewN _ _ _⟩ | exact ⟨rfl, _, Eq.trans (World.drewN_drewN _ _ _) (congrArg (World.drewN _) (Nat.add_assoc _ _ _))⟩))); try go_wp2_with (first | (go_at_call 106; (with_reducible refine (impl_within.calls (l0_0.length : Int) 1 20 true _ A5.out).mono ?_); rintro e w' ⟨rfl, ⟨nd, rfl⟩⟩; (try first | exact ⟨rfl, _, World.drewN_drewN _ _ _⟩ | exact ⟨rfl, _, Eq.trans (World.drewN_drewN _ _ _) (congrArg (World.drewN _) (Nat.add_assoc _ _ _))⟩); obtain ⟨hcz10_0, hcz10_1, hcz10_2⟩ := cb3_ BK206.out; obtain ⟨hfz10_0, hfz10_1⟩ := bf2_ BK206.out; have hfz10_2 := blk_frozen BK206.out 2) | (go_at_call 106; (with_reducible refine (impl_within.calls a0_1 0 (wrap64 ((l0_0.length : Int) - 1)) true _ A7.out).mono ?_); rintro e w' ⟨rfl, ⟨nd, rfl⟩⟩; (try first | exact ⟨rfl, _, World.drewN_drewN _ _ _⟩ | exact ⟨rfl, _, Eq.trans (World.drewN_drewN _ _ _) (congrArg (World.drewN _) (Nat.add_assoc _ _ _))⟩)) | (go_at_call 106; (with_reducible refine (impl_within.calls a0_2 0 (l0_0.length : Int) t209 _ A9.out).mono ?_); rintro e w' ⟨rfl, ⟨nd, rfl⟩⟩; (try first | exact ⟨rfl, _, World.drewN_drewN _ _ _⟩ | exact ⟨rfl, _, Eq.trans (World.drewN_drewN _ _ _) (congrArg (World.drewN _) (Nat.add_assoc _ _ _))⟩))))
    go_meet
    case rel => exact ⟨_, (!t209), (by first | rfl | (simp; done) | (simp [*]; done)), H', ⟨by first | omega | exact Nat.le_refl _⟩, ⟨by (with_reducible repeat first|apply bn_|apply bd_|apply ba_); exact BK206.out⟩, ⟨ue_ HB.out⟩⟩
   ·
    replace c8 := Bool.eq_false_iff.mpr c8
    subst c8
    have H1 : (impl_RingOk.j0 k (l0_0.length : Int) true l0_0 a0_1 a0_2) = some r := by rw [if_neg (show ¬ (false = true) by decide)] at H; exact H
    clear H
    have H := H1
    clear H1
    have H' := Aside0.mk H
    clear H
    go_wp2_with (first | (go_at_call 106; (with_reducible refine (impl_within.calls (l0_0.length : Int) 1 20 true _ A5.out).mono ?_); rintro e w' ⟨rfl, ⟨nd, rfl⟩⟩; (try first | exact ⟨rfl, _, World.drewN_drewN _ _ _⟩ | exact ⟨rfl, _, Eq.trans (World.drewN_drewN _ _ _) (congrArg (World.drewN _) (Nat.add_assoc _ _ _))⟩); obtain ⟨hcz11_0, hcz11_1, hcz11_2⟩ := cb3_ BK206.out; obtain ⟨hfz11_0, hfz11_1⟩ := bf2_ BK206.out; have hfz11_2 := blk_frozen BK206.out 2) | (go_at_call 106; (with_reducible refine (impl_within.calls a0_1 0 (wrap64 ((l0_0.length : Int) - 1)) false _ A7.out).mono ?_); rintro e w' ⟨rfl, ⟨nd, rfl⟩⟩; (try first | exact ⟨rfl, _, World.drewN_drewN _ _ _⟩ | exact ⟨rfl, _, Eq.trans (World.drewN_drewN _ _ _) (congrArg (World.drewN _) (Nat.add_assoc _ _ _))⟩)))
    repeat (go_quiet (first | (go_at_call 106; (with_reducible refine (impl_within.calls (l0_0.length : Int) 1 20 true _ A5.out).mono ?_); rintro e w' ⟨rfl, ⟨nd, rfl⟩⟩; (try first | exact ⟨rfl, _, World.drewN_drewN _ _ _⟩ | exact ⟨rfl, _, Eq.trans (World.drewN_drewN _ _ _) (congrArg (World.drewN _) (Nat.add_assoc _ _ _))⟩); obtain ⟨hcz11_0, hcz11_1, hcz11_2⟩ := cb3_ BK206.out; obtain ⟨hfz11_0, hfz11_1⟩ := bf2_ BK206.out; have hfz11_2 := blk_frozen BK206.out 2) | (go_at_call 106; (with_reducible refine (impl_within.calls a0_1 0 (wrap64 ((l0_0.length : Int) - 1)) false _ A7.out).mono ?_); rintro e w' ⟨rfl, ⟨nd, rfl⟩⟩; (try first | exact ⟨rfl, _, World.drewN_drewN _ _ _⟩ | exact ⟨rfl, _, Eq.trans (World.drewN_drewN _ _ _) (congrArg (World.drewN _) (Nat.add_assoc _ _ _))⟩))); try go_wp2_with (first | (go_at_call 106; (with_reducible refine (impl_within.calls (l0_0.length : Int) 1 20 true _ A5.out).mono ?_); rintro e w' ⟨rfl, ⟨nd, rfl⟩⟩; (try first | exact ⟨rfl, _, World.drewN_drewN _ _ _⟩ | exact ⟨rfl, _, Eq.trans (World.drewN_drewN _ _ _) (congrArg (World.drewN _) (Nat.add_assoc _ _ _))⟩); obtain ⟨hcz11_0, hcz11_1, hcz11_2⟩ := cb3_ BK206.out; obtain ⟨hfz11_0, hfz11_1⟩ := bf2_ BK206.out; have hfz11_2 := blk_frozen BK206.out 2) | (go_at_call 106; (with_reducible refine (impl_within.calls a0_1 0 (wrap64 ((l0_0.length : Int) - 1)) false _ A7.out).mono ?_); rintro e w' ⟨rfl, ⟨nd, rfl⟩⟩; (try first | exact ⟨rfl, _, World.drewN_drewN _ _ _⟩ | exact ⟨rfl, _, Eq.trans (World.drewN_drewN _ _ _) (congrArg (World.drewN _) (Nat.add_assoc _ _ _))⟩))))
    go_meet
    case rel => exact ⟨_, (true), (by first | rfl | (simp; done) | (simp [*]; done)), H', ⟨by first | omega | exact Nat.le_refl _⟩, ⟨by (with_reducible repeat first|apply bn_|apply bd_|apply ba_); exact BK206.out⟩, ⟨ue_ HB.out⟩⟩
  ·
   replace c6 := Bool.eq_false_iff.mpr c6
   subst c6
   have H1 : (impl_RingOk.j0 k (l0_0.length : Int) true l0_0 a0_1 a0_2) = some r := by rw [if_neg (show ¬ (false = true) by decide)] at H; exact H
   clear H
   have H := H1
   clear H1
   have H' := Aside0.mk H
   clear H
   go_wp2_with (first | (go_at_call 106; (with_reducible refine (impl_within.calls (l0_0.length : Int) 1 20 false _ A5.out).mono ?_); rintro e w' ⟨rfl, ⟨nd, rfl⟩⟩; (try first | exact ⟨rfl, _, World.drewN_drewN _ _ _⟩ | exact ⟨rfl, _, Eq.trans (World.drewN_drewN _ _ _) (congrArg (World.drewN _) (Nat.add_assoc _ _ _))⟩)))
   repeat (go_quiet (first | (go_at_call 106; (with_reducible refine (impl_within.calls (l0_0.length : Int) 1 20 false _ A5.out).mono ?_); rintro e w' ⟨rfl, ⟨nd, rfl⟩⟩; (try first | exact ⟨rfl, _, World.drewN_drewN _ _ _⟩ | exact ⟨rfl, _, Eq.trans (World.drewN_drewN _ _ _) (congrArg (World.drewN _) (Nat.add_assoc _ _ _))⟩))); try go_wp2_with (first | (go_at_call 106; (with_reducible refine (impl_within.calls (l0_0.length : Int) 1 20 false _ A5.out).mono ?_); rintro e w' ⟨rfl, ⟨nd, rfl⟩⟩; (try first | exact ⟨rfl, _, World.drewN_drewN _ _ _⟩ | exact ⟨rfl, _, Eq.trans (World.drewN_drewN _ _ _) (congrArg (World.drewN _) (Nat.add_assoc _ _ _))⟩))))
   go_meet
   case rel => exact ⟨_, (true), (by first | rfl | (simp; done) | (simp [*]; done)), H', ⟨by first | omega | exact Nat.le_refl _⟩, ⟨by (with_reducible repeat first|apply bn_|apply bd_|apply ba_); exact BK206.out⟩, ⟨ue_ HB.out⟩⟩
 case rest =>
  clear HC2
  try clear c1
  try clear p2
  try clear c6
  try clear p6
  try clear c8
  try clear c10
  try clear hcz10_0
  try clear hcz10_1
  try clear hcz10_2
  try clear hcz11_0
  try clear hcz11_1
  try clear hcz11_2
  try clear hcz4_0
  try clear hcz4_1
  try clear hcz4_2
  try clear hfz10_0
  try clear hfz10_1
  try clear hfz10_2
  try clear hfz11_0
  try clear hfz11_1
  try clear hfz11_2
  try clear hfz4_0
  try clear hfz4_1
  try clear hfz4_2
  obtain ⟨kq, x25_1, rfl, HA, HJ1, BK206, HB⟩ := hcut
  cases kq with
  | zero => exact absurd HA.out (by simp [impl_RingOk.j0])
  | succ kj1 =>
   have H := HA.out
   clear HA
   simp only [impl_RingOk.j0] at H
   by_cases c12 : x25_1 = true
   ·
    subst c12
    have H1 : (some false) = some r := by rw [if_pos rfl] at H; exact H
    clear H
    have H := H1
    clear H1
    obtain rfl := Option.some.inj H
    go_wp2
    repeat (go_quiet (fail); try go_wp2)
    go_ret
    exact ⟨ew_, ue_ HB.out⟩
   ·
    replace c12 := Bool.eq_false_iff.mpr c12
    subst c12
    have H1 : (impl_RingOk.l0 kj1 (l0_0.length : Int) a0_2 l0_0 a0_1 a0_2) = some r := by rw [if_neg (show ¬ (false = true) by decide)] at H; exact H
    clear H
    have H := H1
    clear H1
    have H' := Aside0.mk H
    clear H
    have hcz13_0 := cb_ BK206.out 0 rfl
    have hcz13_1 := cb_ BK206.out 1 rfl
    have hcz13_2 := cb_ BK206.out 2 rfl
    have hfz13_0 := blk_frozen BK206.out 0
    have hfz13_1 := blk_frozen BK206.out 1
    have hfz13_2 := blk_frozen BK206.out 2
    go_wp2
    repeat (go_quiet (fail); try go_wp2)
    (try simp only [Act.put, List.setIfInBounds_toArray, List.set_cons_zero, List.set_cons_succ])
    go_loopg [4] kj1 (fun kq v4 w' => ∃ (x4_2 : Int), v4 = .int .i64 x4_2 ∧ Aside0 (impl_RingOk.l0 kq (l0_0.length : Int) x4_2 l0_0 a0_1 a0_2 = some r) ∧ Aside0 (kq ≤ kj1) ∧ Aside0 (w'.heap[gb206]? = some (.cells #[(.slice A0_0 l0_0.length c0_0), .int .i64 a0_1, .int .i64 a0_2] 24 (0, 0))) ∧ Aside0 (Below w.heap.size w w'))
    case atStart => exact ⟨(a0_2), (by first | rfl | (simp; done) | (simp [*]; done)), H', ⟨Nat.le_refl _⟩, ⟨by (with_reducible repeat first|apply bn_|apply bd_|apply ba_); exact BK206.out⟩, ⟨ue_ HB.out⟩⟩
    case round =>
     clear H'
     try clear c1
     try clear p2
     try clear c6
     try clear p6
     try clear c8
     try clear c10
     try clear c12
     try clear hcz10_0
     try clear hcz10_1
     try clear hcz10_2
     try clear hcz11_0
     try clear hcz11_1
     try clear hcz11_2
     try clear hcz13_0
     try clear hcz13_1
     try clear hcz13_2
     try clear hcz4_0
     try clear hcz4_1
     try clear hcz4_2
     try clear hfz10_0
     try clear hfz10_1
     try clear hfz10_2
     try clear hfz11_0
     try clear hfz11_1
     try clear hfz11_2
     try clear hfz13_0
     try clear hfz13_1
     try clear hfz13_2
     try clear hfz4_0
     try clear hfz4_1
     try clear hfz4_2
     try clear p2
     try clear p6
     obtain ⟨x4_2, rfl, HA, HK2, BK206, HB⟩ := hrel
     cases gk with
     | zero => exact absurd HA.out (by simp [impl_RingOk.l0])
     | succ k2 =>
      have H := HA.out
      clear HA
      simp only [impl_RingOk.l0] at H
      by_cases c14 : x4_2 < (l0_0.length : Int)
      ·
       rw [if_pos c14] at H
       have c14b0 : decide (x4_2 < (l0_0.length : Int)) = true := decide_eq_true c14
       clear c14
       by_cases c15 : (l0_0.length : Int) = 0
       ·
        rw [if_pos c15] at H
        exact absurd H (by simp)
       ·
        rw [if_neg c15] at H
        have c15b0 : ((l0_0.length : Int) == 0) = false := beq_eq_false_iff_ne.mpr c15
        have c15b1 : ((l0_0.length : Int) != 0) = true := bne_iff_ne.mpr c15
        have c15b2 : ¬ (l0_0 = []) := fun h_ => c15 (by rw [h_]; rfl)
        obtain ⟨ji16, hji16⟩ : ∃ j_ : Int, (Int.tmod (wrap64 (a0_1 + x4_2)) (l0_0.length : Int)) = j_ := ⟨_, rfl⟩
        replace H : (if 0 ≤ (ji16) then (if (ji16) < (l0_0.length : Int) then (if (rd l0_0 (ji16)) = 0 then (impl_RingOk.l0 k2 (l0_0.length : Int) (wrap64 (x4_2 + 1)) l0_0 a0_1 a0_2) else (some false)) else (none)) else (none)) = some r := by first | (rw [hji16] at H; exact H) | (simp only [hji16] at H ⊢; exact H)
        by_cases c17 : 0 ≤ (ji16)
        ·
         rw [if_pos c17] at H
         have c17b0 : decide (0 ≤ (ji16)) = true := decide_eq_true c17
         clear c17
         by_cases c18 : (ji16) < (l0_0.length : Int)
         ·
          rw [if_pos c18] at H
          have c18b0 : decide ((ji16) < (l0_0.length : Int)) = true := decide_eq_true c18
          clear c18
          by_cases c19 : (rd l0_0 (ji16)) = 0
          ·
           rw [if_pos c19] at H
           have c19b0 : ((rd l0_0 (ji16)) == 0) = true := beq_iff_eq.mpr c19
           have c19b1 : ((rd l0_0 (ji16)) != 0) = false := bne_eq_false_iff_eq.mpr c19
           clear c19
           have H' := Aside0.mk H
           clear H
           have hcz20_0 := cb_ BK206.out 0 rfl
           have hcz20_1 := cb_ BK206.out 1 rfl
           have hcz20_2 := cb_ BK206.out 2 rfl
           have hfz20_0 := blk_frozen BK206.out 0
           have hfz20_1 := blk_frozen BK206.out 1
           have hfz20_2 := blk_frozen BK206.out 2
           have p210 : 0 ≤ ((ji16) : Int) := of_decide_eq_true ua_
           have q210 : (ji16) < (l0_0.length : Int) := of_decide_eq_true ua_
           obtain ⟨ad210, e210, hx210_0⟩ := Kd.at_int HR0_0.out (ji16) p210 q210
           cases e210
           replace hx210_0 := bc_ HB.out hx210_0
           replace p210 := eq_true p210
           replace q210 := eq_true q210
           go_wp2
           repeat (go_quiet (fail); try go_wp2)
           go_roundg k2
           case measure => have := HJ1.out; have := HK2.out; omega
           case rel => exact ⟨(wrap64 (x4_2 + 1)), (by first | rfl | (simp; done) | (simp [*]; done)), H', ⟨by have := HJ1.out; have := HK2.out; omega⟩, ⟨by (with_reducible repeat first|apply bn_|apply bd_|apply ba_); exact BK206.out⟩, ⟨ue_ HB.out⟩⟩
          ·
           rw [if_neg c19] at H
           have c19b0 : ((rd l0_0 (ji16)) == 0) = false := beq_eq_false_iff_ne.mpr c19
           have c19b1 : ((rd l0_0 (ji16)) != 0) = true := bne_iff_ne.mpr c19
           obtain rfl := Option.some.inj H
           have hcz21_0 := cb_ BK206.out 0 rfl
           have hcz21_1 := cb_ BK206.out 1 rfl
           have hcz21_2 := cb_ BK206.out 2 rfl
           have hfz21_0 := blk_frozen BK206.out 0
           have hfz21_1 := blk_frozen BK206.out 1
           have hfz21_2 := blk_frozen BK206.out 2
           have p210 : 0 ≤ ((ji16) : Int) := of_decide_eq_true ua_
           have q210 : (ji16) < (l0_0.length : Int) := of_decide_eq_true ua_
           obtain ⟨ad210, e210, hx210_0⟩ := Kd.at_int HR0_0.out (ji16) p210 q210
           cases e210
           replace hx210_0 := bc_ HB.out hx210_0
           replace p210 := eq_true p210
           replace q210 := eq_true q210
           go_wp2
           repeat (go_quiet (fail); try go_wp2)
           go_ret
           exact ⟨by first | rfl | (simp [errW_none, errW_some] <;> rfl) | (simp only [← hji16]; first | rfl | (simp [errW_none, errW_some] <;> rfl)) | (simp [*, errW_none, errW_some] <;> rfl), ue_ HB.out⟩
         ·
          rw [if_neg c18] at H
          exact absurd H (by simp)
        ·
         rw [if_neg c17] at H
         exact absurd H (by simp)
      ·
       rw [if_neg c14] at H
       have c14b0 : decide (x4_2 < (l0_0.length : Int)) = false := decide_eq_false c14
       clear c14
       obtain rfl := Option.some.inj H
       go_wp2
       repeat (go_quiet (fail); try go_wp2)
       go_ret
       exact ⟨ew_, ue_ HB.out⟩

/-! ### slices_Clone_int_int: function 164 -/
def slices_Clone_int_int.f (l0 : List Int) : Option (List Int) := (some (([] : List Int) : List Int)).bind fun y211 => (if y211.length + l0.length < 17592186044416 then (some (y211 ++ l0)) else (none))
set_option maxHeartbeats 8000000 in
set_option maxRecDepth 100000 in
theorem slices_Clone_int_int.calls (A0 : Option Addr) (c0 : Nat) (l0 : List Int) (r : List Int) (w : World) (hr0 : Kd.C (Kd.int .i64) w A0 l0.length l0) (hc0 : l0.length ≤ c0) (h : slices_Clone_int_int.f l0 = some r) :
  Calls Try.prog 164 #[.slice A0 l0.length c0] w fun e w' => ∃ v0_ : Value, e = .returned (v0_) ∧ Kd.R (Kd.int .i64) 3 w' w.heap.size (fun _ => True) v0_ r ∧ Below w.heap.size w w' := by
 have HR0 := Aside0.mk hr0
 have HC0 := Aside0.mk hc0
 clear hr0 hc0
 have HB := am_ (Below.refl w.heap.size w)
 have H : ((some (([] : List Int) : List Int)).bind fun y211 => (if y211.length + l0.length < 17592186044416 then (some (y211 ++ l0)) else (none))) = some r := h
 clear h
 obtain ⟨y211, hy211⟩ : ∃ y_ : List Int, y_ = (([] : List Int)) := ⟨_, rfl⟩
 replace H : (if y211.length + l0.length < 17592186044416 then (some (y211 ++ l0)) else (none)) = some r := by first | (rw [hy211]; with_reducible exact H) | (have H2_ := (Option.bind_some _ _).symm.trans H; rw [hy211]; with_reducible exact H2_) | (have H2_ := (Option.bind_some _ _).symm.trans H; with_reducible exact H2_) | with_reducible exact H | (rw [hy211]; exact H) | exact H
 have Ny211 := Aside0.mk hy211
 clear hy211
 by_cases c2 : y211.length + l0.length < 17592186044416
 ·
  rw [if_pos c2] at H
  have LMc2 := Aside0.mk c2
  clear c2
  obtain ⟨y214, hy214⟩ : ∃ y_ : List Int, y_ = (y211 ++ l0) := ⟨_, rfl⟩
  replace H : (some y214) = some r := by first | (rw [hy214]; with_reducible exact H) | (have H2_ := (Option.bind_some _ _).symm.trans H; rw [hy214]; with_reducible exact H2_) | (have H2_ := (Option.bind_some _ _).symm.trans H; with_reducible exact H2_) | with_reducible exact H | (rw [hy214]; exact H) | exact H
  have Ny214 := Aside0.mk hy214
  clear hy214
  obtain rfl := Option.some.inj H
  have qn_ : ∀ (w : World) (a : Option Addr) (n c n' c' : Nat), (binOp .eql 22 (.slice a n c) (.slice none n' c')).run Try.prog w = .ok (.bool a.isNone) w := fun w a n c n' c' => Go.Lib.run_eql_slice_nil w _ _ a n c n' c' Try.underlying22
  cases A0 with
  | none =>
   have e0 : l0 = [] := by
    by_cases hz : 0 < l0.length
    ·
     obtain ⟨ad, e, _⟩ := HR0.out.2.2 hz
     cases e
    ·
     exact List.eq_nil_of_length_eq_zero (by omega)
   have e1 : y214 = [] := by rw [Ny214.out, Ny211.out, e0]; rfl
   go_enter Try.func164, Try.ntmps164
   go_wp2
   go_ret
   exact ⟨_, rfl, by first | exact Kd.R_nil _ _ _ _ _ | (rw [e1]; exact Kd.R_nil _ _ _ _ _), ue_ HB.out⟩
  | some A1 =>
   go_enter Try.func164, Try.ntmps164
   go_wp2_with (first | ((with_reducible refine gate_dst (N := 5) rfl ?_); refine Kd.R_lit (Kd.int .i64) _ 3 ?hg (N := 5) ?hd (xs := ([] : List Int)) (inner := []) (ok := fun _ => True) (okp := fun _ => True) ?hr ?hp (fun _ hk => hk) trivial (Below.refl _ _) (Nat.le_refl _) (by simp) ?_; (case hd => rfl); (case hg => rfl); (case hr => first | (go_simp; done) | (go_simp; rfl)); (case hp => exact (Reps.none _ _)); intro v212 w3 ho4 hb hg_ hnew_; clear hg_ hnew_; (first | rw [← Ny211.out] at ho4 | (simp only [Int.reduceToNat] at ho4; rw [← Ny211.out] at ho4)); have n0_ := am_ (Kd.R_lower ho4 (below_size (ue_ HB.out))); have n1_ := am_ (below_step (ue_ HB.out) hb); clear HB; have HO213 := n0_; have HB := n1_; clear n0_ n1_; clear hb ho4) | ((with_reducible refine gate_builtin (b := .append) (xs := #[.tmp 5, .tmp 6]) rfl ?_); at_builtin; refine Kd.R_append_rows (Kd.int .i64) (w0 := w) w.heap.size rfl (.tmp 5) (.tmp 6) 22 3 (.int .i64 0) 8 rfl Try.underlying22 info3 rfl (by decide) (by omega) v212 y211 l0 _ _ _ (fun _ => True) (fun _ => False) rfl rfl ?aO ?aR (fun _ _ h => h) (fun _ h => h.elim) ?aF ?aB ?aS ?aL ?_; (case aR => repeat (first | exact (Kd.C_below HR0.out HB.out) | (with_reducible refine Kd.C_alloc ?_ _) | (with_reducible refine Kd.C_drewN ?_ _) | (with_reducible refine Kd.C_drew ?_))); (case aB => exact (ue_ HB.out)); (case aF => exact (fun _ _ => trivial)); (case aO => exact (ur_ HO213.out)); (case aS => exact (below_size (ue_ HB.out))); (case aL => have := LMc2.out; omega); intro v215 w5 ho hb hg hat; rw [← Ny214.out] at ho; have n0_ := am_ (hb); have n1_ := am_ (ho); clear HB HO213; have HB := n0_; have HO216 := n1_; clear n0_ n1_; clear ho hb hg hat))
   go_ret
   exact ⟨_, ew_, by (with_reducible repeat (first | apply Kd.R_alloc | apply Kd.R_drewN | apply Kd.R_drew)); exact HO216.out, ue_ HB.out⟩
 ·
  rw [if_neg c2] at H
  exact absurd H (by simp)

/-! ### impl_ownRing: function 107 -/
def impl_ownRing.f (l0_0 : List Int) (a0_1 : Int) (a0_2 : Int) : Option (List Int × Int × Int) := (slices_Clone_int_int.f l0_0).bind fun t219 => (some (t219, a0_1, a0_2))
def impl_ownRing.T1 : Bool × List (List Nat × List Nat) := (true, [([], []), ([0], [0]), ([1], [1]), ([], []), ([3], [3]), ([], []), ([5], [5]), ([2, 4, 6], [2, 4, 6]), ([7, 2, 0, 1, 2, 3, 4, 5, 6, 7], [7])])
def impl_ownRing.B1 : List Nat := [0, 1, 3, 0, 8, 0, 32, 127, 255]
theorem impl_ownRing.tab1 : rtab .any (opsOf Try.f107 1) = impl_ownRing.T1 := by kernel_rfl
theorem impl_ownRing.bits1 : waitsOk impl_ownRing.T1.2 impl_ownRing.B1 = true := by kernel_rfl
set_option maxHeartbeats 8000000 in
set_option maxRecDepth 100000 in
theorem impl_ownRing.calls (A0_0 : Option Addr) (c0_0 : Nat) (l0_0 : List Int) (a0_1 : Int) (a0_2 : Int) (r1 : List Int) (r2 : Int) (r3 : Int) (w : World) (hr0_0 : Kd.C (Kd.int .i64) w A0_0 l0_0.length l0_0) (hc0_0 : l0_0.length ≤ c0_0) (h : impl_ownRing.f l0_0 a0_1 a0_2 = some (r1, r2, r3)) :
  Calls Try.prog 107 #[.agg #[.slice A0_0 l0_0.length c0_0, .int .i64 a0_1, .int .i64 a0_2]] w fun e w' => ∃ v0_ : Value, e = .returned (.agg #[v0_, .int .i64 r2, .int .i64 r3]) ∧ Kd.R (Kd.int .i64) 3 w' w.heap.size (fun _ => True) v0_ r1 ∧ Below w.heap.size w w' := by
 have hu24 := Try.underlying24
 have HR0_0 := Aside0.mk hr0_0
 have HC0_0 := Aside0.mk hc0_0
 clear hr0_0 hc0_0
 have HB := am_ (Below.refl w.heap.size w)
 have H : ((slices_Clone_int_int.f l0_0).bind fun t219 => (some (t219, a0_1, a0_2))) = some (r1, r2, r3) := h
 clear h
 replace H := Option.bind_eq_some_iff.mp H
 obtain ⟨t219, A20, H⟩ := H
 replace H : (some (t219, a0_1, a0_2)) = some (r1, r2, r3) := H
 have A2 := Aside0.mk A20
 clear A20
 simp only [Option.some.injEq, Prod.mk.injEq] at H
 obtain ⟨rfl, rfl, rfl⟩ := H
 go_enter Try.func107, Try.ntmps107
 try go_wp2_with (first | ((with_reducible refine gate_dst (N := 1) rfl ?_); refine box_event ?hg (N := 1) ?hd (cs := #[.slice A0_0 l0_0.length c0_0, .int .i64 a0_1, .int .i64 a0_2]) (t := 24) ?hr ?_; (case hd => rfl); (case hg => rfl); (case hr => first | (go_simp; done) | (go_simp; rfl)); intro gb217 hg w3 hbox hb; have n0_ := am_ (below_step (ue_ HB.out) hb); have n1_ := am_ (hbox); have n2_ := am_ ((by rw [hg]; exact (below_size (ue_ HB.out)) : w.heap.size ≤ gb217)); have n3_ := am_ ((by rw [hg]; exact (below_size (ue_ HB.out)) : w.heap.size ≤ gb217)); clear HB; have HB := n0_; have BK217 := n1_; have GW217 := n2_; have GE217 := n3_; clear n0_ n1_ n2_ n3_; clear hb hbox hg) | ((with_reducible refine gate_dst (N := 2) rfl ?_); refine box_event ?hg (N := 2) ?hd (cs := #[.slice none 0 0, .int .i64 0, .int .i64 0]) (t := 24) ?hr ?_; (case hd => rfl); (case hg => rfl); (case hr => first | (go_simp; done) | (go_simp; rfl)); intro gb218 hg w4 hbox hb; have n0_ := am_ (bb_ BK217.out hb); have n1_ := am_ (below_step (ue_ HB.out) hb); have n2_ := am_ (hbox); have n3_ := am_ ((by rw [hg]; exact (below_size (ue_ HB.out)) : w.heap.size ≤ gb218)); have n4_ := am_ ((by rw [hg]; exact (below_size (ue_ HB.out)) : w.heap.size ≤ gb218)); have n5_ := am_ ((by rw [hg]; exact Nat.ne_of_lt (bl_ BK217.out) : gb217 ≠ gb218)); have n6_ := am_ ((by rw [hg]; exact Nat.ne_of_gt (bl_ BK217.out) : gb218 ≠ gb217)); clear BK217 HB; have BK217 := n0_; have HB := n1_; have BK218 := n2_; have GW218 := n3_; have GE218 := n4_; have NB217_218 := n5_; have NB218_217 := n6_; clear n0_ n1_ n2_ n3_ n4_ n5_ n6_; clear hb hbox hg))
 have n0_ := am_ (blk_drew BK217.out)
 have n1_ := am_ (blk_drew BK218.out)
 have n2_ := am_ (below_drew1 HB.out)
 clear BK217
 clear BK218
 clear HB
 have BK217 := n0_
 have BK218 := n1_
 have HB := n2_
 clear n0_ n1_ n2_
 refine start_ (n := 9) (S := fun w' => w'.cell? ⟨gb217, 0, none⟩ = some (.slice A0_0 l0_0.length c0_0) ∧ w'.cell? ⟨gb217, 1, none⟩ = some (.int .i64 a0_1) ∧ w'.cell? ⟨gb217, 2, none⟩ = some (.int .i64 a0_2)) (ds := []) #[false, false, false, false, false, false, false, false, false] (by kernel_rfl) rfl rfl ⟨(blk_cell BK217.out 0).trans rfl, (blk_cell BK217.out 1).trans rfl, (blk_cell BK217.out 2).trans rfl⟩ (fun hHeld => ?_); refine with_tabW impl_ownRing.tab1 impl_ownRing.bits1 (fun HT_ HW_ => ?_)
 generalize w4.drew = w5 at BK217 BK218 HB hHeld ⊢
 refine pure_ (i := 0) (N := some 3) (v := ?_) (a' := ?_) #[true, false, false, false, false, false, false, false, false] rfl rfl (any_of HT_.out (by kernel_rfl)) (fun _ _ _ h => h) (Or.inl ⟨by rfl, ?_⟩) ?_ ?_
 rotate_left
 ·
  intro w'
  go_simp
  with_reducible rfl
 rotate_left
 ·
  simp only [Act.put, List.setIfInBounds_toArray, List.set_cons_zero, List.set_cons_succ, i64_w, i32_w]
  rfl
 refine pure_ (i := 3) (N := some 6) (v := ?_) (a' := ?_) #[true, false, false, true, false, false, false, false, false] rfl rfl (any_of HT_.out (by kernel_rfl)) (fun _ _ _ h => h) (Or.inl ⟨by rfl, ?_⟩) ?_ ?_
 rotate_left
 ·
  intro w'
  go_simp
  with_reducible rfl
 rotate_left
 ·
  simp only [Act.put, List.setIfInBounds_toArray, List.set_cons_zero, List.set_cons_succ, i64_w, i32_w]
  rfl
 refine pure_ (i := 5) (N := some 8) (v := ?_) (a' := ?_) #[true, false, false, true, false, true, false, false, false] rfl rfl (any_of HT_.out (by kernel_rfl)) (fun _ _ _ h => h) (Or.inl ⟨by rfl, ?_⟩) ?_ ?_
 rotate_left
 ·
  intro w'
  go_simp
  with_reducible rfl
 rotate_left
 ·
  simp only [Act.put, List.setIfInBounds_toArray, List.set_cons_zero, List.set_cons_succ, i64_w, i32_w]
  rfl
 refine take_ (i := 1) (N := some 4) (v := ?_) (a' := ?_) #[true, true, false, true, false, true, false, false, false] rfl rfl (take_ofW HT_.out HW_.out (by kernel_rfl)) (fun _ _ _ h => h) (Or.inl ⟨by rfl, ?_⟩) hHeld ?_ ?_
 rotate_left
 ·
  rintro w' ⟨s0, s1, s2⟩
  go_simp
  with_reducible rfl
 rotate_left
 ·
  simp only [Act.put, List.setIfInBounds_toArray, List.set_cons_zero, List.set_cons_succ, i64_w, i32_w]
  rfl
 refine take_ (i := 4) (N := some 7) (v := ?_) (a' := ?_) #[true, true, false, true, true, true, false, false, false] rfl rfl (take_ofW HT_.out HW_.out (by kernel_rfl)) (fun _ _ _ h => h) (Or.inl ⟨by rfl, ?_⟩) hHeld ?_ ?_
 rotate_left
 ·
  rintro w' ⟨s0, s1, s2⟩
  go_simp
  with_reducible rfl
 rotate_left
 ·
  simp only [Act.put, List.setIfInBounds_toArray, List.set_cons_zero, List.set_cons_succ, i64_w, i32_w]
  rfl
 refine take_ (i := 6) (N := some 9) (v := ?_) (a' := ?_) #[true, true, false, true, true, true, true, false, false] rfl rfl (take_ofW HT_.out HW_.out (by kernel_rfl)) (fun _ _ _ h => h) (Or.inl ⟨by rfl, ?_⟩) hHeld ?_ ?_
 rotate_left
 ·
  rintro w' ⟨s0, s1, s2⟩
  go_simp
  with_reducible rfl
 rotate_left
 ·
  simp only [Act.put, List.setIfInBounds_toArray, List.set_cons_zero, List.set_cons_succ, i64_w, i32_w]
  rfl
 refine one_ (i := 2) (N := some 5) #[true, true, true, true, true, true, true, false, false] rfl rfl (one_of HT_.out (by kernel_rfl)) (by decide) (fun K hK => ?_)
 refine goes_ Try.func164 (by kernel_rfl) rfl #[.slice A0_0 l0_0.length c0_0] (by rfl) rfl rfl ul_ ?_
 with_reducible refine (slices_Clone_int_int.calls _ _ l0_0 t219 _ ?side1 ?side2 A2.out).mono ?_
 (case side1 => repeat (first | exact (Kd.C_below HR0_0.out HB.out) | (with_reducible refine Kd.C_alloc ?_ _) | (with_reducible refine Kd.C_drewN ?_ _) | (with_reducible refine Kd.C_drew ?_)))
 (case side2 => exact HC0_0.out)
 rintro e w6 ⟨v220, rfl, ho0, hb⟩
 refine ⟨_, rfl, ?_⟩
 have n0_ := am_ (Kd.R_lower ho0 (below_size (ue_ HB.out)))
 have n1_ := am_ (bb_ BK217.out hb)
 have n2_ := am_ (bb_ BK218.out hb)
 have n3_ := am_ (below_step (ue_ HB.out) hb)
 clear BK217
 clear BK218
 clear HB
 have HO221 := n0_
 have BK217 := n1_
 have BK218 := n2_
 have HB := n3_
 clear n0_ n1_ n2_ n3_
 (try clear hb)
 (try clear hb2)
 (try clear hk)
 (try clear hi)
 (try clear ho0)
 obtain ⟨Ao7, co7, eo7⟩ := Kd.R_slice HO221.out
 (first | subst eo7 | (injection eo7 with f1_ f2_ f3_; have f4_ := f1_.symm; have f5_ := f3_.symm; clear f1_ f2_ f3_; subst f4_; subst f5_))
 refine hK.out _ _ ⟨(blk_cell BK217.out 0).trans rfl, (blk_cell BK217.out 1).trans rfl, (blk_cell BK217.out 2).trans rfl⟩ (fun hHeld => ?_)
 clear hK K
 refine norm_ (a' := ?_) ?_ ?_
 rotate_left
 ·
  show Act.put _ (some 5) _ = _
  simp only [Act.put, List.setIfInBounds_toArray, List.set_cons_zero, List.set_cons_succ, i64_w, i32_w]
  rfl
 refine pure_ (i := 7) (N := some 10) (v := ?_) (a' := ?_) #[true, true, true, true, true, true, true, true, false] rfl rfl (any_of HT_.out (by kernel_rfl)) (fun _ _ _ h => h) (Or.inl ⟨by rfl, ?_⟩) ?_ ?_
 rotate_left
 ·
  intro w'
  go_simp
  with_reducible rfl
 rotate_left
 ·
  simp only [Act.put, List.setIfInBounds_toArray, List.set_cons_zero, List.set_cons_succ, i64_w, i32_w]
  rfl
 refine one_ (i := 8) (N := none) #[true, true, true, true, true, true, true, true, true] rfl rfl (one_of HT_.out (by kernel_rfl)) (by decide) (fun K hK => ?_)
 have hs8 := cb_ BK218.out 0 rfl
 have hfs8 := blk_frozen BK218.out 0
 have hns8_0 := NB217_218.out
 have hms8_0 := NB218_217.out
 have hs9 := cb_ BK218.out 1 rfl
 have hfs9 := blk_frozen BK218.out 1
 have hns9_0 := NB217_218.out
 have hms9_0 := NB218_217.out
 have hs10 := cb_ BK218.out 2 rfl
 have hfs10 := blk_frozen BK218.out 2
 have hns10_0 := NB217_218.out
 have hms10_0 := NB218_217.out
 refine skip_ (w1 := ?_) (by rfl) rfl ?_ ?_
 rotate_left
 ·
  go_simp
  rfl
 refine hK.out _ _ ⟨((cell_far (p := ⟨gb218, _, none⟩) NB217_218.out _).trans (((cell_far (p := ⟨gb218, _, none⟩) NB217_218.out _).trans (((cell_far (p := ⟨gb218, _, none⟩) NB217_218.out _).trans (hHeld.1)))))), ((cell_far (p := ⟨gb218, _, none⟩) NB217_218.out _).trans (((cell_far (p := ⟨gb218, _, none⟩) NB217_218.out _).trans (((cell_far (p := ⟨gb218, _, none⟩) NB217_218.out _).trans (hHeld.2.1)))))), ((cell_far (p := ⟨gb218, _, none⟩) NB217_218.out _).trans (((cell_far (p := ⟨gb218, _, none⟩) NB217_218.out _).trans (((cell_far (p := ⟨gb218, _, none⟩) NB217_218.out _).trans (hHeld.2.2))))))⟩ (fun hHeld => ?_)
 clear hK K
 refine done_ (done_of HT_.out (by kernel_rfl)) ?_
 try go_wp2
 refine bodyPost_ret (results_cell_row rfl _ _ gb218 24 #[.slice Ao7 t219.length co7, .int .i64 a0_1, .int .i64 a0_2] (0, 0) _ rfl (by (with_reducible repeat first|apply bn_|apply bd_|apply ba_); refine blk_put (cs := #[.slice Ao7 t219.length co7, .int .i64 a0_1, .int .i64 0]) ?_ 2 _ rfl; refine blk_put (cs := #[.slice Ao7 t219.length co7, .int .i64 0, .int .i64 0]) ?_ 1 _ rfl; refine blk_put (cs := #[.slice none 0 0, .int .i64 0, .int .i64 0]) ?_ 0 _ rfl; (with_reducible repeat first|apply bn_|apply bd_|apply ba_); exact BK218.out) Try.underlying24 rfl (by kernel_rfl)) rfl ?_
 exact ⟨_, ew_, by (with_reducible repeat (first | apply Kd.R_alloc | apply Kd.R_drewN | apply Kd.R_drew)); exact Kd.R_mono (Kd.R_far (p := ⟨gb218, 2, none⟩) (Kd.R_far (p := ⟨gb218, 1, none⟩) (Kd.R_far (p := ⟨gb218, 0, none⟩) (Kd.R_types HO221.out BK218.out (by decide)) (fun _ hk => by first | exact hk.2 | grind) (.slice Ao7 t219.length co7)) (fun _ hk => by first | exact hk.2 | grind) (.int .i64 a0_1)) (fun _ hk => by first | exact hk.2 | grind) (.int .i64 a0_2)) (fun _ hk => trivial), ue_ HB.out⟩

/-! ### impl_PopRing: function 88 -/
def impl_PopRing.f (k : Nat) (l0_0 : List Int) (a0_1 : Int) (a0_2 : Int) : Option (List Int × Int × Int × Int × Bool) := (impl_ownRing.f l0_0 a0_1 a0_2).bind fun bt224 => ((impl_RingOk.f k l0_0 a0_1 a0_2).bind fun t230 => (if t230 = true then (if a0_2 = 0 then (some (bt224.1, bt224.2.1, bt224.2.2, 0, false)) else (if 0 ≤ a0_1 then (if a0_1 < (l0_0.length : Int) then (if a0_1 < (bt224.1.length : Int) then (if (l0_0.length : Int) = 0 then (none) else (some ((bt224.1.set (a0_1 : Int).toNat 0), Int.tmod (wrap64 (a0_1 + 1)) (l0_0.length : Int), wrap64 (bt224.2.2 - 1), rd l0_0 a0_1, true))) else (none)) else (none)) else (none))) else (some (bt224.1, bt224.2.1, bt224.2.2, 0, false))))
theorem impl_PopRing.mono : ∀ a0 a1 a2 k, LeO (impl_PopRing.f k a0 a1 a2) (impl_PopRing.f (k + 1) a0 a1 a2) := by
 intro a0 a1 a2 k
 unfold impl_PopRing.f
 repeat' first
   | (with_reducible exact impl_RingOk.mono _ _ _ _)
   | (with_reducible exact LeO.refl _)
   | (with_reducible exact LeO.none _)
   | (with_reducible refine LeO.ite ?_ ?_)
   | (with_reducible refine LeO.bind ?_ (fun _ => ?_))
   | exact impl_RingOk.mono _ _ _ _
   | exact LeO.none _
   | refine LeO.ite ?_ ?_
   | refine LeO.bind ?_ (fun _ => ?_)
set_option maxHeartbeats 8000000 in
set_option maxRecDepth 100000 in
theorem impl_PopRing.calls (k : Nat) (A0_0 : Option Addr) (c0_0 : Nat) (l0_0 : List Int) (a0_1 : Int) (a0_2 : Int) (r1 : List Int) (r2 : Int) (r3 : Int) (r4 : Int) (r5 : Bool) (w : World) (hr0_0 : Kd.C (Kd.int .i64) w A0_0 l0_0.length l0_0) (hc0_0 : l0_0.length ≤ c0_0) (h : impl_PopRing.f k l0_0 a0_1 a0_2 = some (r1, r2, r3, r4, r5)) :
  Calls Try.prog 88 #[.agg #[.slice A0_0 l0_0.length c0_0, .int .i64 a0_1, .int .i64 a0_2]] w fun e w' => ∃ v0_ : Value, e = .returned (.tuple #[.agg #[v0_, .int .i64 r2, .int .i64 r3], .int .i64 r4, .bool r5]) ∧ Kd.R (Kd.int .i64) 3 w' w.heap.size (fun _ => True) v0_ r1 ∧ Below w.heap.size w w' := by
 have hu24 := Try.underlying24
 have HR0_0 := Aside0.mk hr0_0
 have HC0_0 := Aside0.mk hc0_0
 clear hr0_0 hc0_0
 have HB := am_ (Below.refl w.heap.size w)
 have H : ((impl_ownRing.f l0_0 a0_1 a0_2).bind fun bt224 => ((impl_RingOk.f k l0_0 a0_1 a0_2).bind fun t230 => (if t230 = true then (if a0_2 = 0 then (some (bt224.1, bt224.2.1, bt224.2.2, 0, false)) else (if 0 ≤ a0_1 then (if a0_1 < (l0_0.length : Int) then (if a0_1 < (bt224.1.length : Int) then (if (l0_0.length : Int) = 0 then (none) else (some ((bt224.1.set (a0_1 : Int).toNat 0), Int.tmod (wrap64 (a0_1 + 1)) (l0_0.length : Int), wrap64 (bt224.2.2 - 1), rd l0_0 a0_1, true))) else (none)) else (none)) else (none))) else (some (bt224.1, bt224.2.1, bt224.2.2, 0, false))))) = some (r1, r2, r3, r4, r5) := h
 clear h
 replace H := Option.bind_eq_some_iff.mp H
 obtain ⟨⟨t224, t227, t228⟩, A20, H⟩ := H
 replace H : ((impl_RingOk.f k l0_0 a0_1 a0_2).bind fun t230 => (if t230 = true then (if a0_2 = 0 then (some (t224, t227, t228, 0, false)) else (if 0 ≤ a0_1 then (if a0_1 < (l0_0.length : Int) then (if a0_1 < (t224.length : Int) then (if (l0_0.length : Int) = 0 then (none) else (some ((t224.set (a0_1 : Int).toNat 0), Int.tmod (wrap64 (a0_1 + 1)) (l0_0.length : Int), wrap64 (t228 - 1), rd l0_0 a0_1, true))) else (none)) else (none)) else (none))) else (some (t224, t227, t228, 0, false)))) = some (r1, r2, r3, r4, r5) := H
 have A2 := Aside0.mk A20
 clear A20
 replace H := Option.bind_eq_some_iff.mp H
 obtain ⟨t230, A30, H⟩ := H
 replace H : (if t230 = true then (if a0_2 = 0 then (some (t224, t227, t228, 0, false)) else (if 0 ≤ a0_1 then (if a0_1 < (l0_0.length : Int) then (if a0_1 < (t224.length : Int) then (if (l0_0.length : Int) = 0 then (none) else (some ((t224.set (a0_1 : Int).toNat 0), Int.tmod (wrap64 (a0_1 + 1)) (l0_0.length : Int), wrap64 (t228 - 1), rd l0_0 a0_1, true))) else (none)) else (none)) else (none))) else (some (t224, t227, t228, 0, false))) = some (r1, r2, r3, r4, r5) := H
 have A3 := Aside0.mk A30
 clear A30
 by_cases c4 : t230 = true
 ·
  subst c4
  have H1 : (if a0_2 = 0 then (some (t224, t227, t228, 0, false)) else (if 0 ≤ a0_1 then (if a0_1 < (l0_0.length : Int) then (if a0_1 < (t224.length : Int) then (if (l0_0.length : Int) = 0 then (none) else (some ((t224.set (a0_1 : Int).toNat 0), Int.tmod (wrap64 (a0_1 + 1)) (l0_0.length : Int), wrap64 (t228 - 1), rd l0_0 a0_1, true))) else (none)) else (none)) else (none))) = some (r1, r2, r3, r4, r5) := by rw [if_pos rfl] at H; exact H
  clear H
  have H := H1
  clear H1
  by_cases c5 : a0_2 = 0
  ·
   rw [if_pos c5] at H
   have c5b0 : (a0_2 == 0) = true := beq_iff_eq.mpr c5
   have c5b1 : (a0_2 != 0) = false := bne_eq_false_iff_eq.mpr c5
   clear c5
   simp only [Option.some.injEq, Prod.mk.injEq] at H
   obtain ⟨rfl, rfl, rfl, rfl, rfl⟩ := H
   go_enter Try.func88, Try.ntmps88
   go_wp2_with (first | ((with_reducible refine gate_dst (N := 1) rfl ?_); refine box_event ?hg (N := 1) ?hd (cs := #[.slice A0_0 l0_0.length c0_0, .int .i64 a0_1, .int .i64 a0_2]) (t := 24) ?hr ?_; (case hd => rfl); (case hg => rfl); (case hr => first | (go_simp; done) | (go_simp; rfl)); intro gb222 hg w6 hbox hb; have n0_ := am_ (below_step (ue_ HB.out) hb); have n1_ := am_ (hbox); have n2_ := am_ ((by rw [hg]; exact (below_size (ue_ HB.out)) : w.heap.size ≤ gb222)); have n3_ := am_ ((by rw [hg]; exact (below_size (ue_ HB.out)) : w.heap.size ≤ gb222)); clear HB; have HB := n0_; have BK222 := n1_; have GW222 := n2_; have GE222 := n3_; clear n0_ n1_ n2_ n3_; clear hb hbox hg) | ((with_reducible refine gate_dst (N := 2) rfl ?_); refine box_event ?hg (N := 2) ?hd (cs := #[.slice none 0 0, .int .i64 0, .int .i64 0]) (t := 24) ?hr ?_; (case hd => rfl); (case hg => rfl); (case hr => first | (go_simp; done) | (go_simp; rfl)); intro gb223 hg w7 hbox hb; have n0_ := am_ (bb_ BK222.out hb); have n1_ := am_ (below_step (ue_ HB.out) hb); have n2_ := am_ (hbox); have n3_ := am_ ((by rw [hg]; exact (below_size (ue_ HB.out)) : w.heap.size ≤ gb223)); have n4_ := am_ ((by rw [hg]; exact (below_size (ue_ HB.out)) : w.heap.size ≤ gb223)); have n5_ := am_ ((by rw [hg]; exact Nat.ne_of_lt (bl_ BK222.out) : gb222 ≠ gb223)); have n6_ := am_ ((by rw [hg]; exact Nat.ne_of_gt (bl_ BK222.out) : gb223 ≠ gb222)); clear BK222 HB; have BK222 := n0_; have HB := n1_; have BK223 := n2_; have GW223 := n3_; have GE223 := n4_; have NB222_223 := n5_; have NB223_222 := n6_; clear n0_ n1_ n2_ n3_ n4_ n5_ n6_; clear hb hbox hg; have hnb8 := NB222_223.out; have hnc8 := NB223_222.out; obtain ⟨hcz9_0, hcz9_1, hcz9_2⟩ := cb3_ BK222.out; obtain ⟨hfz9_0, hfz9_1⟩ := bf2_ BK222.out; have hfz9_2 := blk_frozen BK222.out 2) | ((with_reducible refine gate_callee (f := 107) rfl ?_); refine goesL_ (some 8) rfl rfl Try.func107 (by kernel_rfl) rfl #[.agg #[.slice A0_0 l0_0.length c0_0, .int .i64 a0_1, .int .i64 a0_2]] rfl ul_ ?_; (with_reducible refine (impl_ownRing.calls _ _ l0_0 a0_1 a0_2 t224 t227 t228 _ ?side1 ?side2 A2.out).mono ?_); (case side1 => repeat (first | exact (Kd.C_below HR0_0.out HB.out) | (with_reducible refine Kd.C_alloc ?_ _) | (with_reducible refine Kd.C_drewN ?_ _) | (with_reducible refine Kd.C_drew ?_))); (case side2 => exact HC0_0.out); rintro e w10 ⟨v225, rfl, ho0, hb⟩; refine ⟨_, rfl, ?_⟩; have n0_ := am_ (Kd.R_lower ho0 (below_size (ue_ HB.out))); have n1_ := am_ (bb_ BK222.out hb); have n2_ := am_ (bb_ BK223.out hb); have n3_ := am_ (below_step (ue_ HB.out) hb); clear BK222 BK223 HB; have HO226 := n0_; have BK222 := n1_; have BK223 := n2_; have HB := n3_; clear n0_ n1_ n2_ n3_; (try clear hb); (try clear hb2); (try clear hk); (try clear hi); (try clear ho0)) | ((with_reducible refine gate_dst (N := 5) rfl ?_); refine box_event ?hg (N := 5) ?hd (cs := #[.slice none 0 0, .int .i64 0, .int .i64 0]) (t := 24) ?hr ?_; (case hd => rfl); (case hg => rfl); (case hr => first | (go_simp; done) | (go_simp; rfl)); intro gb229 hg w11 hbox hb; have n0_ := am_ (Kd.R_below (ur_ HO226.out) hb); have n1_ := am_ (bb_ BK222.out hb); have n2_ := am_ (bb_ BK223.out hb); have n3_ := am_ (below_step (ue_ HB.out) hb); have n4_ := am_ (hbox); have n5_ := am_ ((by rw [hg]; exact (below_size (ue_ HB.out)) : w.heap.size ≤ gb229)); have n6_ := am_ ((by rw [hg]; exact (below_size (ue_ HB.out)) : w.heap.size ≤ gb229)); have n7_ := am_ ((by rw [hg]; exact Nat.ne_of_lt (bl_ BK222.out) : gb222 ≠ gb229)); have n8_ := am_ ((by rw [hg]; exact Nat.ne_of_gt (bl_ BK222.out) : gb229 ≠ gb222)); have n9_ := am_ ((by rw [hg]; exact Nat.ne_of_lt (bl_ BK223.out) : gb223 ≠ gb229)); have n10_ := am_ ((by rw [hg]; exact Nat.ne_of_gt (bl_ BK223.out) : gb229 ≠ gb223)); clear HO226 BK222 BK223 HB; have HO226 := n0_; have BK222 := n1_; have BK223 := n2_; have HB := n3_; have BK229 := n4_; have GW229 := n5_; have GE229 := n6_; have NB222_229 := n7_; have NB229_222 := n8_; have NB223_229 := n9_; have NB229_223 := n10_; clear n0_ n1_ n2_ n3_ n4_ n5_ n6_ n7_ n8_ n9_ n10_; clear hb hbox hg; obtain ⟨Ao12, co12, eo12⟩ := Kd.R_slice HO226.out; subst eo12; have hnb13 := NB229_222.out; have hnc13 := NB222_229.out; have hnb14 := NB229_223.out; have hnc14 := NB223_229.out; obtain ⟨hcz15_0, hcz15_1, hcz15_2⟩ := cb3_ BK229.out; obtain ⟨hfz15_0, hfz15_1⟩ := bf2_ BK229.out; have hfz15_2 := blk_frozen BK229.out 2) | ((with_reducible refine gate_store (t := 24) (p := 5) rfl ?_); refine store_event (t := 24) (p := 5) (v := ?vo_w16) (w1 := (((w11.setCell ⟨gb229, 0, none⟩ (.slice Ao12 t224.length co12)).setCell ⟨gb229, 1, none⟩ (.int .i64 t227)).setCell ⟨gb229, 2, none⟩ (.int .i64 t228))) ?hg ?ho ?hn ?hr ?_; (case ho => rfl); (case hg => rfl); (case hn => rfl); (case hr => first | (go_simp; done) | (go_simp; rfl)); intro w16 hw; have n0_ : Aside0 (Kd.R (Kd.int .i64) 3 w16 w.heap.size (fun _ => True) (.slice Ao12 t224.length co12) t224) := ⟨(by rw [hw]; exact (by (with_reducible repeat (first | apply Kd.R_alloc | apply Kd.R_drewN | apply Kd.R_drew)); exact Kd.R_mono (Kd.R_far (p := ⟨gb229, 2, none⟩) (Kd.R_far (p := ⟨gb229, 1, none⟩) (Kd.R_far (p := ⟨gb229, 0, none⟩) (Kd.R_types HO226.out BK229.out (by decide)) (fun _ hk => by first | exact hk.2 | grind) (.slice Ao12 t224.length co12)) (fun _ hk => by first | exact hk.2 | grind) (.int .i64 t227)) (fun _ hk => by first | exact hk.2 | grind) (.int .i64 t228)) (fun _ hk => trivial)))⟩; have n1_ : Aside0 (w16.heap[gb222]? = some (.cells #[.slice A0_0 l0_0.length c0_0, .int .i64 a0_1, .int .i64 a0_2] 24 (0, 0))) := ⟨(by rw [hw]; exact (uf_ BK222.out))⟩; have n2_ : Aside0 (w16.heap[gb223]? = some (.cells #[.slice none 0 0, .int .i64 0, .int .i64 0] 24 (0, 0))) := ⟨(by rw [hw]; exact (uf_ BK223.out))⟩; have n3_ : Aside0 (w16.heap[gb229]? = some (.cells #[.slice Ao12 t224.length co12, .int .i64 t227, .int .i64 t228] 24 (0, 0))) := ⟨(by rw [hw]; exact (by (with_reducible repeat first|apply bn_|apply bd_|apply ba_); refine blk_put (cs := #[.slice Ao12 t224.length co12, .int .i64 t227, .int .i64 0]) ?_ 2 _ rfl; refine blk_put (cs := #[.slice Ao12 t224.length co12, .int .i64 0, .int .i64 0]) ?_ 1 _ rfl; refine blk_put (cs := #[.slice none 0 0, .int .i64 0, .int .i64 0]) ?_ 0 _ rfl; (with_reducible repeat first|apply bn_|apply bd_|apply ba_); exact BK229.out))⟩; have n4_ : Aside0 (Below w.heap.size w w16) := ⟨(by rw [hw]; exact (ue_ HB.out))⟩; clear hw HO226 BK222 BK223 BK229 HB; have HO226 := n0_; have BK222 := n1_; have BK223 := n2_; have BK229 := n3_; have HB := n4_; clear n0_ n1_ n2_ n3_ n4_; obtain ⟨hcz17_0, hcz17_1, hcz17_2⟩ := cb3_ BK222.out; obtain ⟨hfz17_0, hfz17_1⟩ := bf2_ BK222.out; have hfz17_2 := blk_frozen BK222.out 2) | ((with_reducible refine gate_callee (f := 105) rfl ?_); refine goesL_ (some 10) rfl rfl Try.func105 (by kernel_rfl) rfl #[.agg #[.slice A0_0 l0_0.length c0_0, .int .i64 a0_1, .int .i64 a0_2]] rfl ul_ ?_; (with_reducible refine (impl_RingOk.calls k _ _ l0_0 a0_1 a0_2 true _ ?side1 ?side2 A3.out).mono ?_); (case side1 => repeat (first | exact (Kd.C_below HR0_0.out HB.out) | (with_reducible refine Kd.C_alloc ?_ _) | (with_reducible refine Kd.C_drewN ?_ _) | (with_reducible refine Kd.C_drew ?_))); (case side2 => exact HC0_0.out); rintro e w18 ⟨rfl, hb⟩; refine ⟨_, rfl, ?_⟩; have n0_ := am_ (Kd.R_below (ur_ HO226.out) hb); have n1_ := am_ (bb_ BK222.out hb); have n2_ := am_ (bb_ BK223.out hb); have n3_ := am_ (bb_ BK229.out hb); have n4_ := am_ (below_step (ue_ HB.out) hb); clear HO226 BK222 BK223 BK229 HB; have HO226 := n0_; have BK222 := n1_; have BK223 := n2_; have BK229 := n3_; have HB := n4_; clear n0_ n1_ n2_ n3_ n4_; (try clear hb); (try clear hb2); (try clear hk); (try clear hi); obtain ⟨hcz19_0, hcz19_1, hcz19_2⟩ := cb3_ BK222.out; obtain ⟨hfz19_0, hfz19_1, hfz19_2⟩ := bf3_ BK222.out; obtain ⟨hcz20_0, hcz20_1, hcz20_2⟩ := cb3_ BK229.out; obtain ⟨hfz20_0, hfz20_1, hfz20_2⟩ := bf3_ BK229.out; obtain ⟨hcz21_0, hcz21_1, hcz21_2⟩ := cb3_ BK223.out; obtain ⟨hfz21_0, hfz21_1⟩ := bf2_ BK223.out; have hfz21_2 := blk_frozen BK223.out 2) | ((with_reducible refine gate_store (t := 24) (p := 2) rfl ?_); refine store_event (t := 24) (p := 2) (v := ?vo_w22) (w1 := (((w18.setCell ⟨gb223, 0, none⟩ (.slice Ao12 t224.length co12)).setCell ⟨gb223, 1, none⟩ (.int .i64 t227)).setCell ⟨gb223, 2, none⟩ (.int .i64 t228))) ?hg ?ho ?hn ?hr ?_; (case ho => rfl); (case hg => rfl); (case hn => rfl); (case hr => first | (go_simp; done) | (go_simp; rfl)); intro w22 hw; have n0_ : Aside0 (Kd.R (Kd.int .i64) 3 w22 w.heap.size (fun _ => True) (.slice Ao12 t224.length co12) t224) := ⟨(by rw [hw]; exact (by (with_reducible repeat (first | apply Kd.R_alloc | apply Kd.R_drewN | apply Kd.R_drew)); exact Kd.R_mono (Kd.R_far (p := ⟨gb223, 2, none⟩) (Kd.R_far (p := ⟨gb223, 1, none⟩) (Kd.R_far (p := ⟨gb223, 0, none⟩) (Kd.R_types HO226.out BK223.out (by decide)) (fun _ hk => by first | exact hk.2 | grind) (.slice Ao12 t224.length co12)) (fun _ hk => by first | exact hk.2 | grind) (.int .i64 t227)) (fun _ hk => by first | exact hk.2 | grind) (.int .i64 t228)) (fun _ hk => trivial)))⟩; have n1_ : Aside0 (w22.heap[gb222]? = some (.cells #[.slice A0_0 l0_0.length c0_0, .int .i64 a0_1, .int .i64 a0_2] 24 (0, 0))) := ⟨(by rw [hw]; exact (uf_ BK222.out))⟩; have n2_ : Aside0 (w22.heap[gb223]? = some (.cells #[.slice Ao12 t224.length co12, .int .i64 t227, .int .i64 t228] 24 (0, 0))) := ⟨(by rw [hw]; exact (by (with_reducible repeat first|apply bn_|apply bd_|apply ba_); refine blk_put (cs := #[.slice Ao12 t224.length co12, .int .i64 t227, .int .i64 0]) ?_ 2 _ rfl; refine blk_put (cs := #[.slice Ao12 t224.length co12, .int .i64 0, .int .i64 0]) ?_ 1 _ rfl; refine blk_put (cs := #[.slice none 0 0, .int .i64 0, .int .i64 0]) ?_ 0 _ rfl; (with_reducible repeat first|apply bn_|apply bd_|apply ba_); exact BK223.out))⟩; have n3_ : Aside0 (w22.heap[gb229]? = some (.cells #[.slice Ao12 t224.length co12, .int .i64 t227, .int .i64 t228] 24 (0, 0))) := ⟨(by rw [hw]; exact (uf_ BK229.out))⟩; have n4_ : Aside0 (Below w.heap.size w w22) := ⟨(by rw [hw]; exact (ue_ HB.out))⟩; clear hw HO226 BK222 BK223 BK229 HB; have HO226 := n0_; have BK222 := n1_; have BK223 := n2_; have BK229 := n3_; have HB := n4_; clear n0_ n1_ n2_ n3_ n4_))
   refine bodyPost_ret (results_ctt rfl _ _ gb223 24 #[.slice Ao12 t224.length co12, .int .i64 t227, .int .i64 t228] (0, 0) _ rfl (ub_ BK223.out) Try.underlying24 rfl (by kernel_rfl)) rfl ?_
   exact ⟨_, ew_, by (with_reducible repeat (first | apply Kd.R_alloc | apply Kd.R_drewN | apply Kd.R_drew)); exact HO226.out, ue_ HB.out⟩
  ·
   rw [if_neg c5] at H
   have c5b0 : (a0_2 == 0) = false := beq_eq_false_iff_ne.mpr c5
   have c5b1 : (a0_2 != 0) = true := bne_iff_ne.mpr c5
   by_cases c23 : 0 ≤ a0_1
   ·
    rw [if_pos c23] at H
    have c23b0 : decide (0 ≤ a0_1) = true := decide_eq_true c23
    clear c23
    by_cases c24 : a0_1 < (l0_0.length : Int)
    ·
     rw [if_pos c24] at H
     have c24b0 : decide (a0_1 < (l0_0.length : Int)) = true := decide_eq_true c24
     clear c24
     by_cases c25 : a0_1 < (t224.length : Int)
     ·
      rw [if_pos c25] at H
      have c25b0 : decide (a0_1 < (t224.length : Int)) = true := decide_eq_true c25
      clear c25
      obtain ⟨y232, hy232⟩ : ∃ y_ : List Int, y_ = (t224.set (a0_1 : Int).toNat 0) := ⟨_, rfl⟩
      replace H : (if (l0_0.length : Int) = 0 then (none) else (some (y232, Int.tmod (wrap64 (a0_1 + 1)) (l0_0.length : Int), wrap64 (t228 - 1), rd l0_0 a0_1, true))) = some (r1, r2, r3, r4, r5) := by first | (rw [hy232]; with_reducible exact H) | (have H2_ := (Option.bind_some _ _).symm.trans H; rw [hy232]; with_reducible exact H2_) | (have H2_ := (Option.bind_some _ _).symm.trans H; with_reducible exact H2_) | with_reducible exact H | (rw [hy232]; exact H) | exact H
      have Ny232 := Aside0.mk hy232
      clear hy232
      by_cases c27 : (l0_0.length : Int) = 0
      ·
       rw [if_pos c27] at H
       exact absurd H (by simp)
      ·
       rw [if_neg c27] at H
       have c27b0 : ((l0_0.length : Int) == 0) = false := beq_eq_false_iff_ne.mpr c27
       have c27b1 : ((l0_0.length : Int) != 0) = true := bne_iff_ne.mpr c27
       have c27b2 : ¬ (l0_0 = []) := fun h_ => c27 (by rw [h_]; rfl)
       simp only [Option.some.injEq, Prod.mk.injEq] at H
       obtain ⟨rfl, rfl, rfl, rfl, rfl⟩ := H
       go_enter Try.func88, Try.ntmps88
       go_wp2_with (first | ((with_reducible refine gate_dst (N := 1) rfl ?_); refine box_event ?hg (N := 1) ?hd (cs := #[.slice A0_0 l0_0.length c0_0, .int .i64 a0_1, .int .i64 a0_2]) (t := 24) ?hr ?_; (case hd => rfl); (case hg => rfl); (case hr => first | (go_simp; done) | (go_simp; rfl)); intro gb222 hg w28 hbox hb; have n0_ := am_ (below_step (ue_ HB.out) hb); have n1_ := am_ (hbox); have n2_ := am_ ((by rw [hg]; exact (below_size (ue_ HB.out)) : w.heap.size ≤ gb222)); have n3_ := am_ ((by rw [hg]; exact (below_size (ue_ HB.out)) : w.heap.size ≤ gb222)); clear HB; have HB := n0_; have BK222 := n1_; have GW222 := n2_; have GE222 := n3_; clear n0_ n1_ n2_ n3_; clear hb hbox hg) | ((with_reducible refine gate_dst (N := 2) rfl ?_); refine box_event ?hg (N := 2) ?hd (cs := #[.slice none 0 0, .int .i64 0, .int .i64 0]) (t := 24) ?hr ?_; (case hd => rfl); (case hg => rfl); (case hr => first | (go_simp; done) | (go_simp; rfl)); intro gb223 hg w29 hbox hb; have n0_ := am_ (bb_ BK222.out hb); have n1_ := am_ (below_step (ue_ HB.out) hb); have n2_ := am_ (hbox); have n3_ := am_ ((by rw [hg]; exact (below_size (ue_ HB.out)) : w.heap.size ≤ gb223)); have n4_ := am_ ((by rw [hg]; exact (below_size (ue_ HB.out)) : w.heap.size ≤ gb223)); have n5_ := am_ ((by rw [hg]; exact Nat.ne_of_lt (bl_ BK222.out) : gb222 ≠ gb223)); have n6_ := am_ ((by rw [hg]; exact Nat.ne_of_gt (bl_ BK222.out) : gb223 ≠ gb222)); clear BK222 HB; have BK222 := n0_; have HB := n1_; have BK223 := n2_; have GW223 := n3_; have GE223 := n4_; have NB222_223 := n5_; have NB223_222 := n6_; clear n0_ n1_ n2_ n3_ n4_ n5_ n6_; clear hb hbox hg; have hnb30 := NB222_223.out; have hnc30 := NB223_222.out; obtain ⟨hcz31_0, hcz31_1, hcz31_2⟩ := cb3_ BK222.out; obtain ⟨hfz31_0, hfz31_1⟩ := bf2_ BK222.out; have hfz31_2 := blk_frozen BK222.out 2) | ((with_reducible refine gate_callee (f := 107) rfl ?_); refine goesL_ (some 8) rfl rfl Try.func107 (by kernel_rfl) rfl #[.agg #[.slice A0_0 l0_0.length c0_0, .int .i64 a0_1, .int .i64 a0_2]] rfl ul_ ?_; (with_reducible refine (impl_ownRing.calls _ _ l0_0 a0_1 a0_2 t224 t227 t228 _ ?side1 ?side2 A2.out).mono ?_); (case side1 => repeat (first | exact (Kd.C_below HR0_0.out HB.out) | (with_reducible refine Kd.C_alloc ?_ _) | (with_reducible refine Kd.C_drewN ?_ _) | (with_reducible refine Kd.C_drew ?_))); (case side2 => exact HC0_0.out); rintro e w32 ⟨v225, rfl, ho0, hb⟩; refine ⟨_, rfl, ?_⟩; have n0_ := am_ (Kd.R_lower ho0 (below_size (ue_ HB.out))); have n1_ := am_ (bb_ BK222.out hb); have n2_ := am_ (bb_ BK223.out hb); have n3_ := am_ (below_step (ue_ HB.out) hb); clear BK222 BK223 HB; have HO226 := n0_; have BK222 := n1_; have BK223 := n2_; have HB := n3_; clear n0_ n1_ n2_ n3_; (try clear hb); (try clear hb2); (try clear hk); (try clear hi); (try clear ho0)) | ((with_reducible refine gate_dst (N := 5) rfl ?_); refine box_event ?hg (N := 5) ?hd (cs := #[.slice none 0 0, .int .i64 0, .int .i64 0]) (t := 24) ?hr ?_; (case hd => rfl); (case hg => rfl); (case hr => first | (go_simp; done) | (go_simp; rfl)); intro gb229 hg w33 hbox hb; have n0_ := am_ (Kd.R_below (ur_ HO226.out) hb); have n1_ := am_ (bb_ BK222.out hb); have n2_ := am_ (bb_ BK223.out hb); have n3_ := am_ (below_step (ue_ HB.out) hb); have n4_ := am_ (hbox); have n5_ := am_ ((by rw [hg]; exact (below_size (ue_ HB.out)) : w.heap.size ≤ gb229)); have n6_ := am_ ((by rw [hg]; exact (below_size (ue_ HB.out)) : w.heap.size ≤ gb229)); have n7_ := am_ ((by rw [hg]; exact Nat.ne_of_lt (bl_ BK222.out) : gb222 ≠ gb229)); have n8_ := am_ ((by rw [hg]; exact Nat.ne_of_gt (bl_ BK222.out) : gb229 ≠ gb222)); have n9_ := am_ ((by rw [hg]; exact Nat.ne_of_lt (bl_ BK223.out) : gb223 ≠ gb229)); have n10_ := am_ ((by rw [hg]; exact Nat.ne_of_gt (bl_ BK223.out) : gb229 ≠ gb223)); clear HO226 BK222 BK223 HB; have HO226 := n0_; have BK222 := n1_; have BK223 := n2_; have HB := n3_; have BK229 := n4_; have GW229 := n5_; have GE229 := n6_; have NB222_229 := n7_; have NB229_222 := n8_; have NB223_229 := n9_; have NB229_223 := n10_; clear n0_ n1_ n2_ n3_ n4_ n5_ n6_ n7_ n8_ n9_ n10_; clear hb hbox hg; obtain ⟨Ao34, co34, eo34⟩ := Kd.R_slice HO226.out; subst eo34; have hnb35 := NB229_222.out; have hnc35 := NB222_229.out; have hnb36 := NB229_223.out; have hnc36 := NB223_229.out; obtain ⟨hcz37_0, hcz37_1, hcz37_2⟩ := cb3_ BK229.out; obtain ⟨hfz37_0, hfz37_1⟩ := bf2_ BK229.out; have hfz37_2 := blk_frozen BK229.out 2) | ((with_reducible refine gate_store (t := 24) (p := 5) rfl ?_); refine store_event (t := 24) (p := 5) (v := ?vo_w38) (w1 := (((w33.setCell ⟨gb229, 0, none⟩ (.slice Ao34 t224.length co34)).setCell ⟨gb229, 1, none⟩ (.int .i64 t227)).setCell ⟨gb229, 2, none⟩ (.int .i64 t228))) ?hg ?ho ?hn ?hr ?_; (case ho => rfl); (case hg => rfl); (case hn => rfl); (case hr => first | (go_simp; done) | (go_simp; rfl)); intro w38 hw; have n0_ : Aside0 (Kd.R (Kd.int .i64) 3 w38 w.heap.size (fun _ => True) (.slice Ao34 t224.length co34) t224) := ⟨(by rw [hw]; exact (by (with_reducible repeat (first | apply Kd.R_alloc | apply Kd.R_drewN | apply Kd.R_drew)); exact Kd.R_mono (Kd.R_far (p := ⟨gb229, 2, none⟩) (Kd.R_far (p := ⟨gb229, 1, none⟩) (Kd.R_far (p := ⟨gb229, 0, none⟩) (Kd.R_types HO226.out BK229.out (by decide)) (fun _ hk => by first | exact hk.2 | grind) (.slice Ao34 t224.length co34)) (fun _ hk => by first | exact hk.2 | grind) (.int .i64 t227)) (fun _ hk => by first | exact hk.2 | grind) (.int .i64 t228)) (fun _ hk => trivial)))⟩; have n1_ : Aside0 (w38.heap[gb222]? = some (.cells #[.slice A0_0 l0_0.length c0_0, .int .i64 a0_1, .int .i64 a0_2] 24 (0, 0))) := ⟨(by rw [hw]; exact (uf_ BK222.out))⟩; have n2_ : Aside0 (w38.heap[gb223]? = some (.cells #[.slice none 0 0, .int .i64 0, .int .i64 0] 24 (0, 0))) := ⟨(by rw [hw]; exact (uf_ BK223.out))⟩; have n3_ : Aside0 (w38.heap[gb229]? = some (.cells #[.slice Ao34 t224.length co34, .int .i64 t227, .int .i64 t228] 24 (0, 0))) := ⟨(by rw [hw]; exact (by (with_reducible repeat first|apply bn_|apply bd_|apply ba_); refine blk_put (cs := #[.slice Ao34 t224.length co34, .int .i64 t227, .int .i64 0]) ?_ 2 _ rfl; refine blk_put (cs := #[.slice Ao34 t224.length co34, .int .i64 0, .int .i64 0]) ?_ 1 _ rfl; refine blk_put (cs := #[.slice none 0 0, .int .i64 0, .int .i64 0]) ?_ 0 _ rfl; (with_reducible repeat first|apply bn_|apply bd_|apply ba_); exact BK229.out))⟩; have n4_ : Aside0 (Below w.heap.size w w38) := ⟨(by rw [hw]; exact (ue_ HB.out))⟩; clear hw HO226 BK222 BK223 BK229 HB; have HO226 := n0_; have BK222 := n1_; have BK223 := n2_; have BK229 := n3_; have HB := n4_; clear n0_ n1_ n2_ n3_ n4_; obtain ⟨hcz39_0, hcz39_1, hcz39_2⟩ := cb3_ BK222.out; obtain ⟨hfz39_0, hfz39_1⟩ := bf2_ BK222.out; have hfz39_2 := blk_frozen BK222.out 2) | ((with_reducible refine gate_callee (f := 105) rfl ?_); refine goesL_ (some 10) rfl rfl Try.func105 (by kernel_rfl) rfl #[.agg #[.slice A0_0 l0_0.length c0_0, .int .i64 a0_1, .int .i64 a0_2]] rfl ul_ ?_; (with_reducible refine (impl_RingOk.calls k _ _ l0_0 a0_1 a0_2 true _ ?side1 ?side2 A3.out).mono ?_); (case side1 => repeat (first | exact (Kd.C_below HR0_0.out HB.out) | (with_reducible refine Kd.C_alloc ?_ _) | (with_reducible refine Kd.C_drewN ?_ _) | (with_reducible refine Kd.C_drew ?_))); (case side2 => exact HC0_0.out); rintro e w40 ⟨rfl, hb⟩; refine ⟨_, rfl, ?_⟩; have n0_ := am_ (Kd.R_below (ur_ HO226.out) hb); have n1_ := am_ (bb_ BK222.out hb); have n2_ := am_ (bb_ BK223.out hb); have n3_ := am_ (bb_ BK229.out hb); have n4_ := am_ (below_step (ue_ HB.out) hb); clear HO226 BK222 BK223 BK229 HB; have HO226 := n0_; have BK222 := n1_; have BK223 := n2_; have BK229 := n3_; have HB := n4_; clear n0_ n1_ n2_ n3_ n4_; (try clear hb); (try clear hb2); (try clear hk); (try clear hi); obtain ⟨hcz41_0, hcz41_1, hcz41_2⟩ := cb3_ BK222.out; obtain ⟨hfz41_0, hfz41_1, hfz41_2⟩ := bf3_ BK222.out; have p231 : 0 ≤ (a0_1 : Int) := of_decide_eq_true ua_; have q231 : a0_1 < (l0_0.length : Int) := of_decide_eq_true ua_; obtain ⟨ad231, e231, hx231_0⟩ := Kd.at_int HR0_0.out a0_1 p231 q231; cases e231; replace hx231_0 := bc_ HB.out hx231_0; replace p231 := eq_true p231; replace q231 := eq_true q231; obtain ⟨hcz42_0, hcz42_1, hcz42_2⟩ := cb3_ BK229.out; obtain ⟨hfz42_0, hfz42_1, hfz42_2⟩ := bf3_ BK229.out; have p26 : 0 ≤ (a0_1 : Int) := of_decide_eq_true ua_; have q26 : (a0_1 : Int) < ((t224.length : Int) : Int) := of_decide_eq_true ua_; obtain ⟨go26, co26, eo26, gb26, gl26, cl26, HG26⟩ := Kd.R_form HO226.out (by omega); (first | cases eo26 | (injection eo26 with ea_ en_ ec_; (first | subst ea_ | (injection ea_ with ea_; subst ea_)); subst ec_; clear en_)); have GB26 := Aside0.mk gb26; have GG26 := Aside0.mk HG26; clear gb26 gl26 HG26; obtain ⟨hx26_0, hf26_0⟩ := Kd.R_celln 0 HO226.out (a0_1 : Int) p26 q26; replace p26 := eq_true p26; replace q26 := eq_true q26; obtain ⟨hy43_, hz43_⟩ := Kd.R_celln 0 HO226.out (a0_1 : Int) (of_decide_eq_true ua_) (of_decide_eq_true ua_); have HP43 := Kd.R_putg HO226.out (a0_1 : Int) 0) | ((with_reducible refine gate_store (t := 3) (p := 28) rfl ?_); refine store_event (t := 3) (p := 28) (v := ?vo_w44) (w1 := (w40.setCell ⟨go26, (a0_1 : Int).toNat, none⟩ (.int .i64 0))) ?hg ?ho ?hn ?hr ?_; (case ho => rfl); (case hg => rfl); (case hn => rfl); (case hr => first | (go_simp; done) | (go_simp; rfl)); intro w44 hw; have hg : w40.grownBy w44 (some go26) := (by rw [hw]; exact HP43.2); have hp_ : Kd.R (Kd.int .i64) 3 w44 w.heap.size (fun _ => True) (.slice (some ⟨go26, 0, none⟩) t224.length co34) y232 := (by rw [hw, Ny232.out]; exact HP43.1); clear HP43; have n0_ := am_ (blk_grown (g := gb222) (o := .cells #[.slice (some ad231) l0_0.length c0_0, .int .i64 a0_1, .int .i64 a0_2] 24 (0, 0)) (ub_ BK222.out) hg (Kd.R_ne HO226.out BK222.out (by decide))); have n1_ := am_ (blk_grown (g := gb223) (o := .cells #[.slice none 0 0, .int .i64 0, .int .i64 0] 24 (0, 0)) (ub_ BK223.out) hg (Kd.R_ne HO226.out BK223.out (by decide))); have n2_ := am_ (hp_); have n3_ := am_ (blk_grown (g := gb229) (o := .cells #[.slice (some ⟨go26, 0, none⟩) t224.length co34, .int .i64 t227, .int .i64 t228] 24 (0, 0)) (ub_ BK229.out) hg (Kd.R_ne HO226.out BK229.out (by decide))); have n4_ := am_ ((by rw [hw]; exact below_set (HB.out) GB26.out : Below w.heap.size w w44)); clear BK222 BK223 HO226 BK229 HB; have BK222 := n0_; have BK223 := n1_; have HO226 := n2_; have BK229 := n3_; have HB := n4_; clear n0_ n1_ n2_ n3_ n4_; clear hg hw hp_; obtain ⟨hcz45_0, hcz45_1, hcz45_2⟩ := cb3_ BK222.out; obtain ⟨hfz45_0, hfz45_1, hfz45_2⟩ := bf3_ BK222.out; obtain ⟨hcz46_0, hcz46_1, hcz46_2⟩ := cb3_ BK229.out; obtain ⟨hfz46_0, hfz46_1⟩ := bf2_ BK229.out; have hfz46_2 := blk_frozen BK229.out 2) | ((with_reducible refine gate_store (t := 3) (p := 36) rfl ?_); refine store_event (t := 3) (p := 36) (v := ?vo_w47) (w1 := (w44.setCell ⟨gb229, 1, none⟩ (.int .i64 (Int.tmod (wrap64 (a0_1 + 1)) (l0_0.length : Int))))) ?hg ?ho ?hn ?hr ?_; (case ho => rfl); (case hg => rfl); (case hn => rfl); (case hr => first | (go_simp; done) | (go_simp; rfl)); intro w47 hw; have n0_ : Aside0 (Kd.R (Kd.int .i64) 3 w47 w.heap.size (fun _ => True) (.slice (some ⟨go26, 0, none⟩) t224.length co34) y232) := ⟨(by rw [hw]; exact (by (with_reducible repeat (first | apply Kd.R_alloc | apply Kd.R_drewN | apply Kd.R_drew)); exact Kd.R_mono (Kd.R_far (p := ⟨gb229, 1, none⟩) (Kd.R_types HO226.out BK229.out (by decide)) (fun _ hk => by first | exact hk.2 | grind) (.int .i64 (Int.tmod (wrap64 (a0_1 + 1)) (l0_0.length : Int)))) (fun _ hk => trivial)))⟩; have n1_ : Aside0 (w47.heap[gb222]? = some (.cells #[.slice (some ad231) l0_0.length c0_0, .int .i64 a0_1, .int .i64 a0_2] 24 (0, 0))) := ⟨(by rw [hw]; exact (uf_ BK222.out))⟩; have n2_ : Aside0 (w47.heap[gb223]? = some (.cells #[.slice none 0 0, .int .i64 0, .int .i64 0] 24 (0, 0))) := ⟨(by rw [hw]; exact (uf_ BK223.out))⟩; have n3_ : Aside0 (w47.heap[gb229]? = some (.cells #[.slice (some ⟨go26, 0, none⟩) t224.length co34, .int .i64 (Int.tmod (wrap64 (a0_1 + 1)) (l0_0.length : Int)), .int .i64 t228] 24 (0, 0))) := ⟨(by rw [hw]; exact (by (with_reducible repeat first|apply bn_|apply bd_|apply ba_); refine blk_put (cs := #[.slice (some ⟨go26, 0, none⟩) t224.length co34, .int .i64 t227, .int .i64 t228]) ?_ 1 _ rfl; (with_reducible repeat first|apply bn_|apply bd_|apply ba_); exact BK229.out))⟩; have n4_ : Aside0 (Below w.heap.size w w47) := ⟨(by rw [hw]; exact (ue_ HB.out))⟩; clear hw HO226 BK222 BK223 BK229 HB; have HO226 := n0_; have BK222 := n1_; have BK223 := n2_; have BK229 := n3_; have HB := n4_; clear n0_ n1_ n2_ n3_ n4_; have hcz48_0 := cb_ BK229.out 0 rfl; have hcz48_1 : w47.cell? ⟨gb229, 1, none⟩ = some (.int .i64 (Int.tmod (wrap64 (a0_1 + 1)) (l0_0.length : Int))) := (blk_cell BK229.out 1).trans rfl; have hcz48_2 := cb_ BK229.out 2 rfl; obtain ⟨hfz48_0, hfz48_1⟩ := bf2_ BK229.out; have hfz48_2 := blk_frozen BK229.out 2) | ((with_reducible refine gate_store (t := 3) (p := 40) rfl ?_); refine store_event (t := 3) (p := 40) (v := ?vo_w49) (w1 := (w47.setCell ⟨gb229, 2, none⟩ (.int .i64 (wrap64 (t228 - 1))))) ?hg ?ho ?hn ?hr ?_; (case ho => rfl); (case hg => rfl); (case hn => rfl); (case hr => first | (go_simp; done) | (go_simp; rfl)); intro w49 hw; have n0_ : Aside0 (Kd.R (Kd.int .i64) 3 w49 w.heap.size (fun _ => True) (.slice (some ⟨go26, 0, none⟩) t224.length co34) y232) := ⟨(by rw [hw]; exact (by (with_reducible repeat (first | apply Kd.R_alloc | apply Kd.R_drewN | apply Kd.R_drew)); exact Kd.R_mono (Kd.R_far (p := ⟨gb229, 2, none⟩) (Kd.R_types HO226.out BK229.out (by decide)) (fun _ hk => by first | exact hk.2 | grind) (.int .i64 (wrap64 (t228 - 1)))) (fun _ hk => trivial)))⟩; have n1_ : Aside0 (w49.heap[gb222]? = some (.cells #[.slice (some ad231) l0_0.length c0_0, .int .i64 a0_1, .int .i64 a0_2] 24 (0, 0))) := ⟨(by rw [hw]; exact (uf_ BK222.out))⟩; have n2_ : Aside0 (w49.heap[gb223]? = some (.cells #[.slice none 0 0, .int .i64 0, .int .i64 0] 24 (0, 0))) := ⟨(by rw [hw]; exact (uf_ BK223.out))⟩; have n3_ : Aside0 (w49.heap[gb229]? = some (.cells #[.slice (some ⟨go26, 0, none⟩) t224.length co34, .int .i64 (Int.tmod (wrap64 (a0_1 + 1)) (l0_0.length : Int)), .int .i64 (wrap64 (t228 - 1))] 24 (0, 0))) := ⟨(by rw [hw]; exact (by (with_reducible repeat first|apply bn_|apply bd_|apply ba_); refine blk_put (cs := #[.slice (some ⟨go26, 0, none⟩) t224.length co34, .int .i64 (Int.tmod (wrap64 (a0_1 + 1)) (l0_0.length : Int)), .int .i64 t228]) ?_ 2 _ rfl; (with_reducible repeat first|apply bn_|apply bd_|apply ba_); exact BK229.out))⟩; have n4_ : Aside0 (Below w.heap.size w w49) := ⟨(by rw [hw]; exact (ue_ HB.out))⟩; clear hw HO226 BK222 BK223 BK229 HB; have HO226 := n0_; have BK222 := n1_; have BK223 := n2_; have BK229 := n3_; have HB := n4_; clear n0_ n1_ n2_ n3_ n4_; have hcz50_0 := cb_ BK229.out 0 rfl; have hcz50_1 : w49.cell? ⟨gb229, 1, none⟩ = some (.int .i64 (Int.tmod (wrap64 (a0_1 + 1)) (l0_0.length : Int))) := (blk_cell BK229.out 1).trans rfl; have hcz50_2 := cb_ BK229.out 2 rfl; obtain ⟨hfz50_0, hfz50_1, hfz50_2⟩ := bf3_ BK229.out; obtain ⟨hcz51_0, hcz51_1, hcz51_2⟩ := cb3_ BK223.out; obtain ⟨hfz51_0, hfz51_1⟩ := bf2_ BK223.out; have hfz51_2 := blk_frozen BK223.out 2) | ((with_reducible refine gate_store (t := 24) (p := 2) rfl ?_); refine store_event (t := 24) (p := 2) (v := ?vo_w52) (w1 := (((w49.setCell ⟨gb223, 0, none⟩ (.slice (some ⟨go26, 0, none⟩) t224.length co34)).setCell ⟨gb223, 1, none⟩ (.int .i64 (Int.tmod (wrap64 (a0_1 + 1)) (l0_0.length : Int)))).setCell ⟨gb223, 2, none⟩ (.int .i64 (wrap64 (t228 - 1))))) ?hg ?ho ?hn ?hr ?_; (case ho => rfl); (case hg => rfl); (case hn => rfl); (case hr => first | (go_simp; done) | (go_simp; rfl)); intro w52 hw; have n0_ : Aside0 (Kd.R (Kd.int .i64) 3 w52 w.heap.size (fun _ => True) (.slice (some ⟨go26, 0, none⟩) t224.length co34) y232) := ⟨(by rw [hw]; exact (by (with_reducible repeat (first | apply Kd.R_alloc | apply Kd.R_drewN | apply Kd.R_drew)); exact Kd.R_mono (Kd.R_far (p := ⟨gb223, 2, none⟩) (Kd.R_far (p := ⟨gb223, 1, none⟩) (Kd.R_far (p := ⟨gb223, 0, none⟩) (Kd.R_types HO226.out BK223.out (by decide)) (fun _ hk => by first | exact hk.2 | grind) (.slice (some ⟨go26, 0, none⟩) t224.length co34)) (fun _ hk => by first | exact hk.2 | grind) (.int .i64 (Int.tmod (wrap64 (a0_1 + 1)) (l0_0.length : Int)))) (fun _ hk => by first | exact hk.2 | grind) (.int .i64 (wrap64 (t228 - 1)))) (fun _ hk => trivial)))⟩; have n1_ : Aside0 (w52.heap[gb222]? = some (.cells #[.slice (some ad231) l0_0.length c0_0, .int .i64 a0_1, .int .i64 a0_2] 24 (0, 0))) := ⟨(by rw [hw]; exact (uf_ BK222.out))⟩; have n2_ : Aside0 (w52.heap[gb223]? = some (.cells #[.slice (some ⟨go26, 0, none⟩) t224.length co34, .int .i64 (Int.tmod (wrap64 (a0_1 + 1)) (l0_0.length : Int)), .int .i64 (wrap64 (t228 - 1))] 24 (0, 0))) := ⟨(by rw [hw]; exact (by (with_reducible repeat first|apply bn_|apply bd_|apply ba_); refine blk_put (cs := #[.slice (some ⟨go26, 0, none⟩) t224.length co34, .int .i64 (Int.tmod (wrap64 (a0_1 + 1)) (l0_0.length : Int)), .int .i64 0]) ?_ 2 _ rfl; refine blk_put (cs := #[.slice (some ⟨go26, 0, none⟩) t224.length co34, .int .i64 0, .int .i64 0]) ?_ 1 _ rfl; refine blk_put (cs := #[.slice none 0 0, .int .i64 0, .int .i64 0]) ?_ 0 _ rfl; (with_reducible repeat first|apply bn_|apply bd_|apply ba_); exact BK223.out))⟩; have n3_ : Aside0 (w52.heap[gb229]? = some (.cells #[.slice (some ⟨go26, 0, none⟩) t224.length co34, .int .i64 (Int.tmod (wrap64 (a0_1 + 1)) (l0_0.length : Int)), .int .i64 (wrap64 (t228 - 1))] 24 (0, 0))) := ⟨(by rw [hw]; exact (uf_ BK229.out))⟩; have n4_ : Aside0 (Below w.heap.size w w52) := ⟨(by rw [hw]; exact (ue_ HB.out))⟩; clear hw HO226 BK222 BK223 BK229 HB; have HO226 := n0_; have BK222 := n1_; have BK223 := n2_; have BK229 := n3_; have HB := n4_; clear n0_ n1_ n2_ n3_ n4_))
       refine bodyPost_ret (results_ctt rfl _ _ gb223 24 #[.slice (some ⟨go26, 0, none⟩) t224.length co34, .int .i64 (Int.tmod (wrap64 (a0_1 + 1)) (l0_0.length : Int)), .int .i64 (wrap64 (t228 - 1))] (0, 0) _ rfl (ub_ BK223.out) Try.underlying24 rfl (by kernel_rfl)) rfl ?_
       exact ⟨_, ew_, by (with_reducible repeat (first | apply Kd.R_alloc | apply Kd.R_drewN | apply Kd.R_drew)); exact HO226.out, ue_ HB.out⟩
     ·
      rw [if_neg c25] at H
      exact absurd H (by simp)
    ·
     rw [if_neg c24] at H
     exact absurd H (by simp)
   ·
    rw [if_neg c23] at H
    exact absurd H (by simp)
 ·
  replace c4 := Bool.eq_false_iff.mpr c4
  subst c4
  have H1 : (some (t224, t227, t228, 0, false)) = some (r1, r2, r3, r4, r5) := by rw [if_neg (show ¬ (false = true) by decide)] at H; exact H
  clear H
  have H := H1
  clear H1
  simp only [Option.some.injEq, Prod.mk.injEq] at H
  obtain ⟨rfl, rfl, rfl, rfl, rfl⟩ := H
  go_enter Try.func88, Try.ntmps88
  go_wp2_with (first | ((with_reducible refine gate_dst (N := 1) rfl ?_); refine box_event ?hg (N := 1) ?hd (cs := #[.slice A0_0 l0_0.length c0_0, .int .i64 a0_1, .int .i64 a0_2]) (t := 24) ?hr ?_; (case hd => rfl); (case hg => rfl); (case hr => first | (go_simp; done) | (go_simp; rfl)); intro gb222 hg w53 hbox hb; have n0_ := am_ (below_step (ue_ HB.out) hb); have n1_ := am_ (hbox); have n2_ := am_ ((by rw [hg]; exact (below_size (ue_ HB.out)) : w.heap.size ≤ gb222)); have n3_ := am_ ((by rw [hg]; exact (below_size (ue_ HB.out)) : w.heap.size ≤ gb222)); clear HB; have HB := n0_; have BK222 := n1_; have GW222 := n2_; have GE222 := n3_; clear n0_ n1_ n2_ n3_; clear hb hbox hg) | ((with_reducible refine gate_dst (N := 2) rfl ?_); refine box_event ?hg (N := 2) ?hd (cs := #[.slice none 0 0, .int .i64 0, .int .i64 0]) (t := 24) ?hr ?_; (case hd => rfl); (case hg => rfl); (case hr => first | (go_simp; done) | (go_simp; rfl)); intro gb223 hg w54 hbox hb; have n0_ := am_ (bb_ BK222.out hb); have n1_ := am_ (below_step (ue_ HB.out) hb); have n2_ := am_ (hbox); have n3_ := am_ ((by rw [hg]; exact (below_size (ue_ HB.out)) : w.heap.size ≤ gb223)); have n4_ := am_ ((by rw [hg]; exact (below_size (ue_ HB.out)) : w.heap.size ≤ gb223)); have n5_ := am_ ((by rw [hg]; exact Nat.ne_of_lt (bl_ BK222.out) : gb222 ≠ gb223)); have n6_ := am_ ((by rw [hg]; exact Nat.ne_of_gt (bl_ BK222.out) : gb223 ≠ gb222)); clear BK222 HB; have BK222 := n0_; have HB := n1_; have BK223 := n2_; have GW223 := n3_; have GE223 := n4_; have NB222_223 := n5_; have NB223_222 := n6_; clear n0_ n1_ n2_ n3_ n4_ n5_ n6_; clear hb hbox hg; have hnb55 := NB222_223.out; have hnc55 := NB223_222.out; obtain ⟨hcz56_0, hcz56_1, hcz56_2⟩ := cb3_ BK222.out; obtain ⟨hfz56_0, hfz56_1⟩ := bf2_ BK222.out; have hfz56_2 := blk_frozen BK222.out 2) | ((with_reducible refine gate_callee (f := 107) rfl ?_); refine goesL_ (some 8) rfl rfl Try.func107 (by kernel_rfl) rfl #[.agg #[.slice A0_0 l0_0.length c0_0, .int .i64 a0_1, .int .i64 a0_2]] rfl ul_ ?_; (with_reducible refine (impl_ownRing.calls _ _ l0_0 a0_1 a0_2 t224 t227 t228 _ ?side1 ?side2 A2.out).mono ?_); (case side1 => repeat (first | exact (Kd.C_below HR0_0.out HB.out) | (with_reducible refine Kd.C_alloc ?_ _) | (with_reducible refine Kd.C_drewN ?_ _) | (with_reducible refine Kd.C_drew ?_))); (case side2 => exact HC0_0.out); rintro e w57 ⟨v225, rfl, ho0, hb⟩; refine ⟨_, rfl, ?_⟩; have n0_ := am_ (Kd.R_lower ho0 (below_size (ue_ HB.out))); have n1_ := am_ (bb_ BK222.out hb); have n2_ := am_ (bb_ BK223.out hb); have n3_ := am_ (below_step (ue_ HB.out) hb); clear BK222 BK223 HB; have HO226 := n0_; have BK222 := n1_; have BK223 := n2_; have HB := n3_; clear n0_ n1_ n2_ n3_; (try clear hb); (try clear hb2); (try clear hk); (try clear hi); (try clear ho0)) | ((with_reducible refine gate_dst (N := 5) rfl ?_); refine box_event ?hg (N := 5) ?hd (cs := #[.slice none 0 0, .int .i64 0, .int .i64 0]) (t := 24) ?hr ?_; (case hd => rfl); (case hg => rfl); (case hr => first | (go_simp; done) | (go_simp; rfl)); intro gb229 hg w58 hbox hb; have n0_ := am_ (Kd.R_below (ur_ HO226.out) hb); have n1_ := am_ (bb_ BK222.out hb); have n2_ := am_ (bb_ BK223.out hb); have n3_ := am_ (below_step (ue_ HB.out) hb); have n4_ := am_ (hbox); have n5_ := am_ ((by rw [hg]; exact (below_size (ue_ HB.out)) : w.heap.size ≤ gb229)); have n6_ := am_ ((by rw [hg]; exact (below_size (ue_ HB.out)) : w.heap.size ≤ gb229)); have n7_ := am_ ((by rw [hg]; exact Nat.ne_of_lt (bl_ BK222.out) : gb222 ≠ gb229)); have n8_ := am_ ((by rw [hg]; exact Nat.ne_of_gt (bl_ BK222.out) : gb229 ≠ gb222)); have n9_ := am_ ((by rw [hg]; exact Nat.ne_of_lt (bl_ BK223.out) : gb223 ≠ gb229)); have n10_ := am_ ((by rw [hg]; exact Nat.ne_of_gt (bl_ BK223.out) : gb229 ≠ gb223)); clear HO226 BK222 BK223 HB; have HO226 := n0_; have BK222 := n1_; have BK223 := n2_; have HB := n3_; have BK229 := n4_; have GW229 := n5_; have GE229 := n6_; have NB222_229 := n7_; have NB229_222 := n8_; have NB223_229 := n9_; have NB229_223 := n10_; clear n0_ n1_ n2_ n3_ n4_ n5_ n6_ n7_ n8_ n9_ n10_; clear hb hbox hg; obtain ⟨Ao59, co59, eo59⟩ := Kd.R_slice HO226.out; subst eo59; have hnb60 := NB229_222.out; have hnc60 := NB222_229.out; have hnb61 := NB229_223.out; have hnc61 := NB223_229.out; obtain ⟨hcz62_0, hcz62_1, hcz62_2⟩ := cb3_ BK229.out; obtain ⟨hfz62_0, hfz62_1⟩ := bf2_ BK229.out; have hfz62_2 := blk_frozen BK229.out 2) | ((with_reducible refine gate_store (t := 24) (p := 5) rfl ?_); refine store_event (t := 24) (p := 5) (v := ?vo_w63) (w1 := (((w58.setCell ⟨gb229, 0, none⟩ (.slice Ao59 t224.length co59)).setCell ⟨gb229, 1, none⟩ (.int .i64 t227)).setCell ⟨gb229, 2, none⟩ (.int .i64 t228))) ?hg ?ho ?hn ?hr ?_; (case ho => rfl); (case hg => rfl); (case hn => rfl); (case hr => first | (go_simp; done) | (go_simp; rfl)); intro w63 hw; have n0_ : Aside0 (Kd.R (Kd.int .i64) 3 w63 w.heap.size (fun _ => True) (.slice Ao59 t224.length co59) t224) := ⟨(by rw [hw]; exact (by (with_reducible repeat (first | apply Kd.R_alloc | apply Kd.R_drewN | apply Kd.R_drew)); exact Kd.R_mono (Kd.R_far (p := ⟨gb229, 2, none⟩) (Kd.R_far (p := ⟨gb229, 1, none⟩) (Kd.R_far (p := ⟨gb229, 0, none⟩) (Kd.R_types HO226.out BK229.out (by decide)) (fun _ hk => by first | exact hk.2 | grind) (.slice Ao59 t224.length co59)) (fun _ hk => by first | exact hk.2 | grind) (.int .i64 t227)) (fun _ hk => by first | exact hk.2 | grind) (.int .i64 t228)) (fun _ hk => trivial)))⟩; have n1_ : Aside0 (w63.heap[gb222]? = some (.cells #[.slice A0_0 l0_0.length c0_0, .int .i64 a0_1, .int .i64 a0_2] 24 (0, 0))) := ⟨(by rw [hw]; exact (uf_ BK222.out))⟩; have n2_ : Aside0 (w63.heap[gb223]? = some (.cells #[.slice none 0 0, .int .i64 0, .int .i64 0] 24 (0, 0))) := ⟨(by rw [hw]; exact (uf_ BK223.out))⟩; have n3_ : Aside0 (w63.heap[gb229]? = some (.cells #[.slice Ao59 t224.length co59, .int .i64 t227, .int .i64 t228] 24 (0, 0))) := ⟨(by rw [hw]; exact (by (with_reducible repeat first|apply bn_|apply bd_|apply ba_); refine blk_put (cs := #[.slice Ao59 t224.length co59, .int .i64 t227, .int .i64 0]) ?_ 2 _ rfl; refine blk_put (cs := #[.slice Ao59 t224.length co59, .int .i64 0, .int .i64 0]) ?_ 1 _ rfl; refine blk_put (cs := #[.slice none 0 0, .int .i64 0, .int .i64 0]) ?_ 0 _ rfl; (with_reducible repeat first|apply bn_|apply bd_|apply ba_); exact BK229.out))⟩; have n4_ : Aside0 (Below w.heap.size w w63) := ⟨(by rw [hw]; exact (ue_ HB.out))⟩; clear hw HO226 BK222 BK223 BK229 HB; have HO226 := n0_; have BK222 := n1_; have BK223 := n2_; have BK229 := n3_; have HB := n4_; clear n0_ n1_ n2_ n3_ n4_; obtain ⟨hcz64_0, hcz64_1, hcz64_2⟩ := cb3_ BK222.out; obtain ⟨hfz64_0, hfz64_1⟩ := bf2_ BK222.out; have hfz64_2 := blk_frozen BK222.out 2) | ((with_reducible refine gate_callee (f := 105) rfl ?_); refine goesL_ (some 10) rfl rfl Try.func105 (by kernel_rfl) rfl #[.agg #[.slice A0_0 l0_0.length c0_0, .int .i64 a0_1, .int .i64 a0_2]] rfl ul_ ?_; (with_reducible refine (impl_RingOk.calls k _ _ l0_0 a0_1 a0_2 false _ ?side1 ?side2 A3.out).mono ?_); (case side1 => repeat (first | exact (Kd.C_below HR0_0.out HB.out) | (with_reducible refine Kd.C_alloc ?_ _) | (with_reducible refine Kd.C_drewN ?_ _) | (with_reducible refine Kd.C_drew ?_))); (case side2 => exact HC0_0.out); rintro e w65 ⟨rfl, hb⟩; refine ⟨_, rfl, ?_⟩; have n0_ := am_ (Kd.R_below (ur_ HO226.out) hb); have n1_ := am_ (bb_ BK222.out hb); have n2_ := am_ (bb_ BK223.out hb); have n3_ := am_ (bb_ BK229.out hb); have n4_ := am_ (below_step (ue_ HB.out) hb); clear HO226 BK222 BK223 BK229 HB; have HO226 := n0_; have BK222 := n1_; have BK223 := n2_; have BK229 := n3_; have HB := n4_; clear n0_ n1_ n2_ n3_ n4_; (try clear hb); (try clear hb2); (try clear hk); (try clear hi); obtain ⟨hcz66_0, hcz66_1, hcz66_2⟩ := cb3_ BK229.out; obtain ⟨hfz66_0, hfz66_1, hfz66_2⟩ := bf3_ BK229.out; obtain ⟨hcz67_0, hcz67_1, hcz67_2⟩ := cb3_ BK223.out; obtain ⟨hfz67_0, hfz67_1⟩ := bf2_ BK223.out; have hfz67_2 := blk_frozen BK223.out 2) | ((with_reducible refine gate_store (t := 24) (p := 2) rfl ?_); refine store_event (t := 24) (p := 2) (v := ?vo_w68) (w1 := (((w65.setCell ⟨gb223, 0, none⟩ (.slice Ao59 t224.length co59)).setCell ⟨gb223, 1, none⟩ (.int .i64 t227)).setCell ⟨gb223, 2, none⟩ (.int .i64 t228))) ?hg ?ho ?hn ?hr ?_; (case ho => rfl); (case hg => rfl); (case hn => rfl); (case hr => first | (go_simp; done) | (go_simp; rfl)); intro w68 hw; have n0_ : Aside0 (Kd.R (Kd.int .i64) 3 w68 w.heap.size (fun _ => True) (.slice Ao59 t224.length co59) t224) := ⟨(by rw [hw]; exact (by (with_reducible repeat (first | apply Kd.R_alloc | apply Kd.R_drewN | apply Kd.R_drew)); exact Kd.R_mono (Kd.R_far (p := ⟨gb223, 2, none⟩) (Kd.R_far (p := ⟨gb223, 1, none⟩) (Kd.R_far (p := ⟨gb223, 0, none⟩) (Kd.R_types HO226.out BK223.out (by decide)) (fun _ hk => by first | exact hk.2 | grind) (.slice Ao59 t224.length co59)) (fun _ hk => by first | exact hk.2 | grind) (.int .i64 t227)) (fun _ hk => by first | exact hk.2 | grind) (.int .i64 t228)) (fun _ hk => trivial)))⟩; have n1_ : Aside0 (w68.heap[gb222]? = some (.cells #[.slice A0_0 l0_0.length c0_0, .int .i64 a0_1, .int .i64 a0_2] 24 (0, 0))) := ⟨(by rw [hw]; exact (uf_ BK222.out))⟩; have n2_ : Aside0 (w68.heap[gb223]? = some (.cells #[.slice Ao59 t224.length co59, .int .i64 t227, .int .i64 t228] 24 (0, 0))) := ⟨(by rw [hw]; exact (by (with_reducible repeat first|apply bn_|apply bd_|apply ba_); refine blk_put (cs := #[.slice Ao59 t224.length co59, .int .i64 t227, .int .i64 0]) ?_ 2 _ rfl; refine blk_put (cs := #[.slice Ao59 t224.length co59, .int .i64 0, .int .i64 0]) ?_ 1 _ rfl; refine blk_put (cs := #[.slice none 0 0, .int .i64 0, .int .i64 0]) ?_ 0 _ rfl; (with_reducible repeat first|apply bn_|apply bd_|apply ba_); exact BK223.out))⟩; have n3_ : Aside0 (w68.heap[gb229]? = some (.cells #[.slice Ao59 t224.length co59, .int .i64 t227, .int .i64 t228] 24 (0, 0))) := ⟨(by rw [hw]; exact (uf_ BK229.out))⟩; have n4_ : Aside0 (Below w.heap.size w w68) := ⟨(by rw [hw]; exact (ue_ HB.out))⟩; clear hw HO226 BK222 BK223 BK229 HB; have HO226 := n0_; have BK222 := n1_; have BK223 := n2_; have BK229 := n3_; have HB := n4_; clear n0_ n1_ n2_ n3_ n4_))
  refine bodyPost_ret (results_ctt rfl _ _ gb223 24 #[.slice Ao59 t224.length co59, .int .i64 t227, .int .i64 t228] (0, 0) _ rfl (ub_ BK223.out) Try.underlying24 rfl (by kernel_rfl)) rfl ?_
  exact ⟨_, ew_, by (with_reducible repeat (first | apply Kd.R_alloc | apply Kd.R_drewN | apply Kd.R_drew)); exact HO226.out, ue_ HB.out⟩

/-! ### impl_creditOk: function 108 -/
def impl_creditOk.f (a0_0 : Int) (a0_1 : Int) : Option (Bool) := (impl_within.f a0_0 0 20).bind fun t234 => (if t234 = true then ((impl_within.f a0_1 0 20).bind fun t235 => (if t235 = true then (some (decide ((wrap64 (a0_0 + a0_1)) ≤ 20))) else (some false))) else (some false))
set_option maxHeartbeats 8000000 in
set_option maxRecDepth 100000 in
theorem impl_creditOk.calls (a0_0 : Int) (a0_1 : Int) (r : Bool) (w : World) (h : impl_creditOk.f a0_0 a0_1 = some r) :
  Calls Try.prog 108 #[.agg #[.int .i64 a0_0, .int .i64 a0_1]] w fun e w' => e = .returned (.bool r) ∧ Below w.heap.size w w' := by
 have hu26 := Try.underlying26
 have HB := am_ (Below.refl w.heap.size w)
 have H : ((impl_within.f a0_0 0 20).bind fun t234 => (if t234 = true then ((impl_within.f a0_1 0 20).bind fun t235 => (if t235 = true then (some (decide ((wrap64 (a0_0 + a0_1)) ≤ 20))) else (some false))) else (some false))) = some r := h
 clear h
 replace H := Option.bind_eq_some_iff.mp H
 obtain ⟨t234, A20, H⟩ := H
 replace H : (if t234 = true then ((impl_within.f a0_1 0 20).bind fun t235 => (if t235 = true then (some (decide ((wrap64 (a0_0 + a0_1)) ≤ 20))) else (some false))) else (some false)) = some r := H
 have A2 := Aside0.mk A20
 clear A20
 by_cases c3 : t234 = true
 ·
  subst c3
  have H1 : ((impl_within.f a0_1 0 20).bind fun t235 => (if t235 = true then (some (decide ((wrap64 (a0_0 + a0_1)) ≤ 20))) else (some false))) = some r := by rw [if_pos rfl] at H; exact H
  clear H
  have H := H1
  clear H1
  replace H := Option.bind_eq_some_iff.mp H
  obtain ⟨t235, A40, H⟩ := H
  replace H : (if t235 = true then (some (decide ((wrap64 (a0_0 + a0_1)) ≤ 20))) else (some false)) = some r := H
  have A4 := Aside0.mk A40
  clear A40
  by_cases c5 : t235 = true
  ·
   subst c5
   have H1 : (some (decide ((wrap64 (a0_0 + a0_1)) ≤ 20))) = some r := by rw [if_pos rfl] at H; exact H
   clear H
   have H := H1
   clear H1
   obtain rfl := Option.some.inj H
   go_enter Try.func108, Try.ntmps108
   go_wp2_with (first | ((with_reducible refine gate_dst (N := 1) rfl ?_); refine box_event ?hg (N := 1) ?hd (cs := #[.int .i64 a0_0, .int .i64 a0_1]) (t := 26) ?hr ?_; (case hd => rfl); (case hg => rfl); (case hr => first | (go_simp; done) | (go_simp; rfl)); intro gb233 hg w6 hbox hb; have n0_ := am_ (below_step (ue_ HB.out) hb); have n1_ := am_ (hbox); have n2_ := am_ ((by rw [hg]; exact (below_size (ue_ HB.out)) : w.heap.size ≤ gb233)); have n3_ := am_ ((by rw [hg]; exact (below_size (ue_ HB.out)) : w.heap.size ≤ gb233)); clear HB; have HB := n0_; have BK233 := n1_; have GW233 := n2_; have GE233 := n3_; clear n0_ n1_ n2_ n3_; clear hb hbox hg; obtain ⟨hcz7_0, hcz7_1⟩ := cb2_ BK233.out; have hfz7_0 := blk_frozen BK233.out 0; have hfz7_1 := blk_frozen BK233.out 1) | ((with_reducible refine gate_callee (f := 106) rfl ?_); refine goesL_ (some 5) rfl rfl Try.func106 (by kernel_rfl) rfl #[.int .i64 a0_0, .int .i64 0, .int .i64 20] rfl ul_ ?_; (with_reducible refine (impl_within.calls a0_0 0 20 true _ A2.out).mono ?_); rintro e w' ⟨rfl, ⟨nd, rfl⟩⟩; refine ⟨_, rfl, ?_⟩) | (go_at_call 106; (with_reducible refine (impl_within.calls a0_1 0 20 true _ A4.out).mono ?_); rintro e w' ⟨rfl, ⟨nd, rfl⟩⟩))
   go_ret
   exact ⟨ew_, ue_ HB.out⟩
  ·
   replace c5 := Bool.eq_false_iff.mpr c5
   subst c5
   have H1 : (some false) = some r := by rw [if_neg (show ¬ (false = true) by decide)] at H; exact H
   clear H
   have H := H1
   clear H1
   obtain rfl := Option.some.inj H
   go_enter Try.func108, Try.ntmps108
   go_wp2_with (first | ((with_reducible refine gate_dst (N := 1) rfl ?_); refine box_event ?hg (N := 1) ?hd (cs := #[.int .i64 a0_0, .int .i64 a0_1]) (t := 26) ?hr ?_; (case hd => rfl); (case hg => rfl); (case hr => first | (go_simp; done) | (go_simp; rfl)); intro gb233 hg w8 hbox hb; have n0_ := am_ (below_step (ue_ HB.out) hb); have n1_ := am_ (hbox); have n2_ := am_ ((by rw [hg]; exact (below_size (ue_ HB.out)) : w.heap.size ≤ gb233)); have n3_ := am_ ((by rw [hg]; exact (below_size (ue_ HB.out)) : w.heap.size ≤ gb233)); clear HB; have HB := n0_; have BK233 := n1_; have GW233 := n2_; have GE233 := n3_; clear n0_ n1_ n2_ n3_; clear hb hbox hg; obtain ⟨hcz9_0, hcz9_1⟩ := cb2_ BK233.out; have hfz9_0 := blk_frozen BK233.out 0; have hfz9_1 := blk_frozen BK233.out 1) | ((with_reducible refine gate_callee (f := 106) rfl ?_); refine goesL_ (some 5) rfl rfl Try.func106 (by kernel_rfl) rfl #[.int .i64 a0_0, .int .i64 0, .int .i64 20] rfl ul_ ?_; (with_reducible refine (impl_within.calls a0_0 0 20 true _ A2.out).mono ?_); rintro e w' ⟨rfl, ⟨nd, rfl⟩⟩; refine ⟨_, rfl, ?_⟩) | (go_at_call 106; (with_reducible refine (impl_within.calls a0_1 0 20 false _ A4.out).mono ?_); rintro e w' ⟨rfl, ⟨nd, rfl⟩⟩))
   go_ret
   exact ⟨ew_, ue_ HB.out⟩
 ·
  replace c3 := Bool.eq_false_iff.mpr c3
  subst c3
  have H1 : (some false) = some r := by rw [if_neg (show ¬ (false = true) by decide)] at H; exact H
  clear H
  have H := H1
  clear H1
  obtain rfl := Option.some.inj H
  go_enter Try.func108, Try.ntmps108
  go_wp2_with (first | ((with_reducible refine gate_dst (N := 1) rfl ?_); refine box_event ?hg (N := 1) ?hd (cs := #[.int .i64 a0_0, .int .i64 a0_1]) (t := 26) ?hr ?_; (case hd => rfl); (case hg => rfl); (case hr => first | (go_simp; done) | (go_simp; rfl)); intro gb233 hg w10 hbox hb; have n0_ := am_ (below_step (ue_ HB.out) hb); have n1_ := am_ (hbox); have n2_ := am_ ((by rw [hg]; exact (below_size (ue_ HB.out)) : w.heap.size ≤ gb233)); have n3_ := am_ ((by rw [hg]; exact (below_size (ue_ HB.out)) : w.heap.size ≤ gb233)); clear HB; have HB := n0_; have BK233 := n1_; have GW233 := n2_; have GE233 := n3_; clear n0_ n1_ n2_ n3_; clear hb hbox hg; obtain ⟨hcz11_0, hcz11_1⟩ := cb2_ BK233.out; have hfz11_0 := blk_frozen BK233.out 0; have hfz11_1 := blk_frozen BK233.out 1) | ((with_reducible refine gate_callee (f := 106) rfl ?_); refine goesL_ (some 5) rfl rfl Try.func106 (by kernel_rfl) rfl #[.int .i64 a0_0, .int .i64 0, .int .i64 20] rfl ul_ ?_; (with_reducible refine (impl_within.calls a0_0 0 20 false _ A2.out).mono ?_); rintro e w' ⟨rfl, ⟨nd, rfl⟩⟩; refine ⟨_, rfl, ?_⟩))
  go_ret
  exact ⟨ew_, ue_ HB.out⟩

/-! ### impl_ReturnCredit: function 89 -/
def impl_ReturnCredit.f (a0_0 : Int) (a0_1 : Int) : Option (Int × Int × Bool) := (impl_creditOk.f a0_0 a0_1).bind fun t238 => (if t238 = true then (if a0_1 = 0 then (some (a0_0, a0_1, false)) else (some (wrap64 (a0_0 + 1), wrap64 (a0_1 - 1), true))) else (some (a0_0, a0_1, false)))
set_option maxHeartbeats 8000000 in
set_option maxRecDepth 100000 in
theorem impl_ReturnCredit.calls (a0_0 : Int) (a0_1 : Int) (r1 : Int) (r2 : Int) (r3 : Bool) (w : World) (h : impl_ReturnCredit.f a0_0 a0_1 = some (r1, r2, r3)) :
  Calls Try.prog 89 #[.agg #[.int .i64 a0_0, .int .i64 a0_1]] w fun e w' => e = .returned (.tuple #[.agg #[.int .i64 r1, .int .i64 r2], .bool r3]) ∧ Below w.heap.size w w' := by
 have hu26 := Try.underlying26
 have HB := am_ (Below.refl w.heap.size w)
 have H : ((impl_creditOk.f a0_0 a0_1).bind fun t238 => (if t238 = true then (if a0_1 = 0 then (some (a0_0, a0_1, false)) else (some (wrap64 (a0_0 + 1), wrap64 (a0_1 - 1), true))) else (some (a0_0, a0_1, false)))) = some (r1, r2, r3) := h
 clear h
 replace H := Option.bind_eq_some_iff.mp H
 obtain ⟨t238, A20, H⟩ := H
 replace H : (if t238 = true then (if a0_1 = 0 then (some (a0_0, a0_1, false)) else (some (wrap64 (a0_0 + 1), wrap64 (a0_1 - 1), true))) else (some (a0_0, a0_1, false))) = some (r1, r2, r3) := H
 have A2 := Aside0.mk A20
 clear A20
 by_cases c3 : t238 = true
 ·
  subst c3
  have H1 : (if a0_1 = 0 then (some (a0_0, a0_1, false)) else (some (wrap64 (a0_0 + 1), wrap64 (a0_1 - 1), true))) = some (r1, r2, r3) := by rw [if_pos rfl] at H; exact H
  clear H
  have H := H1
  clear H1
  by_cases c4 : a0_1 = 0
  ·
   rw [if_pos c4] at H
   have c4b0 : (a0_1 == 0) = true := beq_iff_eq.mpr c4
   have c4b1 : (a0_1 != 0) = false := bne_eq_false_iff_eq.mpr c4
   clear c4
   simp only [Option.some.injEq, Prod.mk.injEq] at H
   obtain ⟨rfl, rfl, rfl⟩ := H
   go_enter Try.func89, Try.ntmps89
   go_wp2_with (first | ((with_reducible refine gate_dst (N := 1) rfl ?_); refine box_event ?hg (N := 1) ?hd (cs := #[.int .i64 a0_0, .int .i64 a0_1]) (t := 26) ?hr ?_; (case hd => rfl); (case hg => rfl); (case hr => first | (go_simp; done) | (go_simp; rfl)); intro gb236 hg w5 hbox hb; have n0_ := am_ (below_step (ue_ HB.out) hb); have n1_ := am_ (hbox); have n2_ := am_ ((by rw [hg]; exact (below_size (ue_ HB.out)) : w.heap.size ≤ gb236)); have n3_ := am_ ((by rw [hg]; exact (below_size (ue_ HB.out)) : w.heap.size ≤ gb236)); clear HB; have HB := n0_; have BK236 := n1_; have GW236 := n2_; have GE236 := n3_; clear n0_ n1_ n2_ n3_; clear hb hbox hg) | ((with_reducible refine gate_dst (N := 2) rfl ?_); refine box_event ?hg (N := 2) ?hd (cs := #[.int .i64 0, .int .i64 0]) (t := 26) ?hr ?_; (case hd => rfl); (case hg => rfl); (case hr => first | (go_simp; done) | (go_simp; rfl)); intro gb237 hg w6 hbox hb; have n0_ := am_ (bb_ BK236.out hb); have n1_ := am_ (below_step (ue_ HB.out) hb); have n2_ := am_ (hbox); have n3_ := am_ ((by rw [hg]; exact (below_size (ue_ HB.out)) : w.heap.size ≤ gb237)); have n4_ := am_ ((by rw [hg]; exact (below_size (ue_ HB.out)) : w.heap.size ≤ gb237)); have n5_ := am_ ((by rw [hg]; exact Nat.ne_of_lt (bl_ BK236.out) : gb236 ≠ gb237)); have n6_ := am_ ((by rw [hg]; exact Nat.ne_of_gt (bl_ BK236.out) : gb237 ≠ gb236)); clear BK236 HB; have BK236 := n0_; have HB := n1_; have BK237 := n2_; have GW237 := n3_; have GE237 := n4_; have NB236_237 := n5_; have NB237_236 := n6_; clear n0_ n1_ n2_ n3_ n4_ n5_ n6_; clear hb hbox hg; have hnb7 := NB236_237.out; have hnc7 := NB237_236.out; obtain ⟨hcz8_0, hcz8_1⟩ := cb2_ BK236.out; have hfz8_0 := blk_frozen BK236.out 0; have hfz8_1 := blk_frozen BK236.out 1) | ((with_reducible refine gate_callee (f := 108) rfl ?_); refine goesL_ (some 5) rfl rfl Try.func108 (by kernel_rfl) rfl #[.agg #[.int .i64 a0_0, .int .i64 a0_1]] rfl ul_ ?_; (with_reducible refine (impl_creditOk.calls a0_0 a0_1 true _ A2.out).mono ?_); rintro e w9 ⟨rfl, hb⟩; refine ⟨_, rfl, ?_⟩; have n0_ := am_ (bb_ BK236.out hb); have n1_ := am_ (bb_ BK237.out hb); have n2_ := am_ (below_step (ue_ HB.out) hb); clear BK236 BK237 HB; have BK236 := n0_; have BK237 := n1_; have HB := n2_; clear n0_ n1_ n2_; (try clear hb); (try clear hb2); (try clear hk); (try clear hi); obtain ⟨hcz10_0, hcz10_1⟩ := cb2_ BK236.out; obtain ⟨hfz10_0, hfz10_1⟩ := bf2_ BK236.out; obtain ⟨hcz11_0, hcz11_1⟩ := cb2_ BK237.out; have hfz11_0 := blk_frozen BK237.out 0; have hfz11_1 := blk_frozen BK237.out 1) | ((with_reducible refine gate_store (t := 26) (p := 2) rfl ?_); refine store_event (t := 26) (p := 2) (v := ?vo_w12) (w1 := ((w9.setCell ⟨gb237, 0, none⟩ (.int .i64 a0_0)).setCell ⟨gb237, 1, none⟩ (.int .i64 a0_1))) ?hg ?ho ?hn ?hr ?_; (case ho => rfl); (case hg => rfl); (case hn => rfl); (case hr => first | (go_simp; done) | (go_simp; rfl)); intro w12 hw; have n0_ : Aside0 (w12.heap[gb236]? = some (.cells #[.int .i64 a0_0, .int .i64 a0_1] 26 (0, 0))) := ⟨(by rw [hw]; exact (uf_ BK236.out))⟩; have n1_ : Aside0 (w12.heap[gb237]? = some (.cells #[.int .i64 a0_0, .int .i64 a0_1] 26 (0, 0))) := ⟨(by rw [hw]; exact (by (with_reducible repeat first|apply bn_|apply bd_|apply ba_); refine blk_put (cs := #[.int .i64 a0_0, .int .i64 0]) ?_ 1 _ rfl; refine blk_put (cs := #[.int .i64 0, .int .i64 0]) ?_ 0 _ rfl; (with_reducible repeat first|apply bn_|apply bd_|apply ba_); exact BK237.out))⟩; have n2_ : Aside0 (Below w.heap.size w w12) := ⟨(by rw [hw]; exact (ue_ HB.out))⟩; clear hw BK236 BK237 HB; have BK236 := n0_; have BK237 := n1_; have HB := n2_; clear n0_ n1_ n2_))
   refine bodyPost_ret (results_ct rfl _ _ gb237 26 #[.int .i64 a0_0, .int .i64 a0_1] (0, 0) _ rfl (ub_ BK237.out) Try.underlying26 rfl (by kernel_rfl)) rfl ?_
   exact ⟨ew_, ue_ HB.out⟩
  ·
   rw [if_neg c4] at H
   have c4b0 : (a0_1 == 0) = false := beq_eq_false_iff_ne.mpr c4
   have c4b1 : (a0_1 != 0) = true := bne_iff_ne.mpr c4
   simp only [Option.some.injEq, Prod.mk.injEq] at H
   obtain ⟨rfl, rfl, rfl⟩ := H
   go_enter Try.func89, Try.ntmps89
   go_wp2_with (first | ((with_reducible refine gate_dst (N := 1) rfl ?_); refine box_event ?hg (N := 1) ?hd (cs := #[.int .i64 a0_0, .int .i64 a0_1]) (t := 26) ?hr ?_; (case hd => rfl); (case hg => rfl); (case hr => first | (go_simp; done) | (go_simp; rfl)); intro gb236 hg w13 hbox hb; have n0_ := am_ (below_step (ue_ HB.out) hb); have n1_ := am_ (hbox); have n2_ := am_ ((by rw [hg]; exact (below_size (ue_ HB.out)) : w.heap.size ≤ gb236)); have n3_ := am_ ((by rw [hg]; exact (below_size (ue_ HB.out)) : w.heap.size ≤ gb236)); clear HB; have HB := n0_; have BK236 := n1_; have GW236 := n2_; have GE236 := n3_; clear n0_ n1_ n2_ n3_; clear hb hbox hg) | ((with_reducible refine gate_dst (N := 2) rfl ?_); refine box_event ?hg (N := 2) ?hd (cs := #[.int .i64 0, .int .i64 0]) (t := 26) ?hr ?_; (case hd => rfl); (case hg => rfl); (case hr => first | (go_simp; done) | (go_simp; rfl)); intro gb237 hg w14 hbox hb; have n0_ := am_ (bb_ BK236.out hb); have n1_ := am_ (below_step (ue_ HB.out) hb); have n2_ := am_ (hbox); have n3_ := am_ ((by rw [hg]; exact (below_size (ue_ HB.out)) : w.heap.size ≤ gb237)); have n4_ := am_ ((by rw [hg]; exact (below_size (ue_ HB.out)) : w.heap.size ≤ gb237)); have n5_ := am_ ((by rw [hg]; exact Nat.ne_of_lt (bl_ BK236.out) : gb236 ≠ gb237)); have n6_ := am_ ((by rw [hg]; exact Nat.ne_of_gt (bl_ BK236.out) : gb237 ≠ gb236)); clear BK236 HB; have BK236 := n0_; have HB := n1_; have BK237 := n2_; have GW237 := n3_; have GE237 := n4_; have NB236_237 := n5_; have NB237_236 := n6_; clear n0_ n1_ n2_ n3_ n4_ n5_ n6_; clear hb hbox hg; have hnb15 := NB236_237.out; have hnc15 := NB237_236.out; obtain ⟨hcz16_0, hcz16_1⟩ := cb2_ BK236.out; have hfz16_0 := blk_frozen BK236.out 0; have hfz16_1 := blk_frozen BK236.out 1) | ((with_reducible refine gate_callee (f := 108) rfl ?_); refine goesL_ (some 5) rfl rfl Try.func108 (by kernel_rfl) rfl #[.agg #[.int .i64 a0_0, .int .i64 a0_1]] rfl ul_ ?_; (with_reducible refine (impl_creditOk.calls a0_0 a0_1 true _ A2.out).mono ?_); rintro e w17 ⟨rfl, hb⟩; refine ⟨_, rfl, ?_⟩; have n0_ := am_ (bb_ BK236.out hb); have n1_ := am_ (bb_ BK237.out hb); have n2_ := am_ (below_step (ue_ HB.out) hb); clear BK236 BK237 HB; have BK236 := n0_; have BK237 := n1_; have HB := n2_; clear n0_ n1_ n2_; (try clear hb); (try clear hb2); (try clear hk); (try clear hi); obtain ⟨hcz18_0, hcz18_1⟩ := cb2_ BK236.out; obtain ⟨hfz18_0, hfz18_1⟩ := bf2_ BK236.out; obtain ⟨hcz19_0, hcz19_1⟩ := cb2_ BK237.out; have hfz19_0 := blk_frozen BK237.out 0; have hfz19_1 := blk_frozen BK237.out 1) | ((with_reducible refine gate_store (t := 26) (p := 2) rfl ?_); refine store_event (t := 26) (p := 2) (v := ?vo_w20) (w1 := ((w17.setCell ⟨gb237, 0, none⟩ (.int .i64 (wrap64 (a0_0 + 1)))).setCell ⟨gb237, 1, none⟩ (.int .i64 (wrap64 (a0_1 - 1))))) ?hg ?ho ?hn ?hr ?_; (case ho => rfl); (case hg => rfl); (case hn => rfl); (case hr => first | (go_simp; done) | (go_simp; rfl)); intro w20 hw; have n0_ : Aside0 (w20.heap[gb236]? = some (.cells #[.int .i64 a0_0, .int .i64 a0_1] 26 (0, 0))) := ⟨(by rw [hw]; exact (uf_ BK236.out))⟩; have n1_ : Aside0 (w20.heap[gb237]? = some (.cells #[.int .i64 (wrap64 (a0_0 + 1)), .int .i64 (wrap64 (a0_1 - 1))] 26 (0, 0))) := ⟨(by rw [hw]; exact (by (with_reducible repeat first|apply bn_|apply bd_|apply ba_); refine blk_put (cs := #[.int .i64 (wrap64 (a0_0 + 1)), .int .i64 0]) ?_ 1 _ rfl; refine blk_put (cs := #[.int .i64 0, .int .i64 0]) ?_ 0 _ rfl; (with_reducible repeat first|apply bn_|apply bd_|apply ba_); exact BK237.out))⟩; have n2_ : Aside0 (Below w.heap.size w w20) := ⟨(by rw [hw]; exact (ue_ HB.out))⟩; clear hw BK236 BK237 HB; have BK236 := n0_; have BK237 := n1_; have HB := n2_; clear n0_ n1_ n2_))
   refine bodyPost_ret (results_ct rfl _ _ gb237 26 #[.int .i64 (wrap64 (a0_0 + 1)), .int .i64 (wrap64 (a0_1 - 1))] (0, 0) _ rfl (ub_ BK237.out) Try.underlying26 rfl (by kernel_rfl)) rfl ?_
   exact ⟨ew_, ue_ HB.out⟩
 ·
  replace c3 := Bool.eq_false_iff.mpr c3
  subst c3
  have H1 : (some (a0_0, a0_1, false)) = some (r1, r2, r3) := by rw [if_neg (show ¬ (false = true) by decide)] at H; exact H
  clear H
  have H := H1
  clear H1
  simp only [Option.some.injEq, Prod.mk.injEq] at H
  obtain ⟨rfl, rfl, rfl⟩ := H
  go_enter Try.func89, Try.ntmps89
  go_wp2_with (first | ((with_reducible refine gate_dst (N := 1) rfl ?_); refine box_event ?hg (N := 1) ?hd (cs := #[.int .i64 a0_0, .int .i64 a0_1]) (t := 26) ?hr ?_; (case hd => rfl); (case hg => rfl); (case hr => first | (go_simp; done) | (go_simp; rfl)); intro gb236 hg w21 hbox hb; have n0_ := am_ (below_step (ue_ HB.out) hb); have n1_ := am_ (hbox); have n2_ := am_ ((by rw [hg]; exact (below_size (ue_ HB.out)) : w.heap.size ≤ gb236)); have n3_ := am_ ((by rw [hg]; exact (below_size (ue_ HB.out)) : w.heap.size ≤ gb236)); clear HB; have HB := n0_; have BK236 := n1_; have GW236 := n2_; have GE236 := n3_; clear n0_ n1_ n2_ n3_; clear hb hbox hg) | ((with_reducible refine gate_dst (N := 2) rfl ?_); refine box_event ?hg (N := 2) ?hd (cs := #[.int .i64 0, .int .i64 0]) (t := 26) ?hr ?_; (case hd => rfl); (case hg => rfl); (case hr => first | (go_simp; done) | (go_simp; rfl)); intro gb237 hg w22 hbox hb; have n0_ := am_ (bb_ BK236.out hb); have n1_ := am_ (below_step (ue_ HB.out) hb); have n2_ := am_ (hbox); have n3_ := am_ ((by rw [hg]; exact (below_size (ue_ HB.out)) : w.heap.size ≤ gb237)); have n4_ := am_ ((by rw [hg]; exact (below_size (ue_ HB.out)) : w.heap.size ≤ gb237)); have n5_ := am_ ((by rw [hg]; exact Nat.ne_of_lt (bl_ BK236.out) : gb236 ≠ gb237)); have n6_ := am_ ((by rw [hg]; exact Nat.ne_of_gt (bl_ BK236.out) : gb237 ≠ gb236)); clear BK236 HB; have BK236 := n0_; have HB := n1_; have BK237 := n2_; have GW237 := n3_; have GE237 := n4_; have NB236_237 := n5_; have NB237_236 := n6_; clear n0_ n1_ n2_ n3_ n4_ n5_ n6_; clear hb hbox hg; have hnb23 := NB236_237.out; have hnc23 := NB237_236.out; obtain ⟨hcz24_0, hcz24_1⟩ := cb2_ BK236.out; have hfz24_0 := blk_frozen BK236.out 0; have hfz24_1 := blk_frozen BK236.out 1) | ((with_reducible refine gate_callee (f := 108) rfl ?_); refine goesL_ (some 5) rfl rfl Try.func108 (by kernel_rfl) rfl #[.agg #[.int .i64 a0_0, .int .i64 a0_1]] rfl ul_ ?_; (with_reducible refine (impl_creditOk.calls a0_0 a0_1 false _ A2.out).mono ?_); rintro e w25 ⟨rfl, hb⟩; refine ⟨_, rfl, ?_⟩; have n0_ := am_ (bb_ BK236.out hb); have n1_ := am_ (bb_ BK237.out hb); have n2_ := am_ (below_step (ue_ HB.out) hb); clear BK236 BK237 HB; have BK236 := n0_; have BK237 := n1_; have HB := n2_; clear n0_ n1_ n2_; (try clear hb); (try clear hb2); (try clear hk); (try clear hi); obtain ⟨hcz26_0, hcz26_1⟩ := cb2_ BK236.out; obtain ⟨hfz26_0, hfz26_1⟩ := bf2_ BK236.out; obtain ⟨hcz27_0, hcz27_1⟩ := cb2_ BK237.out; have hfz27_0 := blk_frozen BK237.out 0; have hfz27_1 := blk_frozen BK237.out 1) | ((with_reducible refine gate_store (t := 26) (p := 2) rfl ?_); refine store_event (t := 26) (p := 2) (v := ?vo_w28) (w1 := ((w25.setCell ⟨gb237, 0, none⟩ (.int .i64 a0_0)).setCell ⟨gb237, 1, none⟩ (.int .i64 a0_1))) ?hg ?ho ?hn ?hr ?_; (case ho => rfl); (case hg => rfl); (case hn => rfl); (case hr => first | (go_simp; done) | (go_simp; rfl)); intro w28 hw; have n0_ : Aside0 (w28.heap[gb236]? = some (.cells #[.int .i64 a0_0, .int .i64 a0_1] 26 (0, 0))) := ⟨(by rw [hw]; exact (uf_ BK236.out))⟩; have n1_ : Aside0 (w28.heap[gb237]? = some (.cells #[.int .i64 a0_0, .int .i64 a0_1] 26 (0, 0))) := ⟨(by rw [hw]; exact (by (with_reducible repeat first|apply bn_|apply bd_|apply ba_); refine blk_put (cs := #[.int .i64 a0_0, .int .i64 0]) ?_ 1 _ rfl; refine blk_put (cs := #[.int .i64 0, .int .i64 0]) ?_ 0 _ rfl; (with_reducible repeat first|apply bn_|apply bd_|apply ba_); exact BK237.out))⟩; have n2_ : Aside0 (Below w.heap.size w w28) := ⟨(by rw [hw]; exact (ue_ HB.out))⟩; clear hw BK236 BK237 HB; have BK236 := n0_; have BK237 := n1_; have HB := n2_; clear n0_ n1_ n2_))
  refine bodyPost_ret (results_ct rfl _ _ gb237 26 #[.int .i64 a0_0, .int .i64 a0_1] (0, 0) _ rfl (ub_ BK237.out) Try.underlying26 rfl (by kernel_rfl)) rfl ?_
  exact ⟨ew_, ue_ HB.out⟩

/-! ### impl_SpendCredit: function 90 -/
def impl_SpendCredit.f (a0_0 : Int) (a0_1 : Int) : Option (Int × Int × Bool) := (impl_creditOk.f a0_0 a0_1).bind fun t241 => (if t241 = true then (if a0_0 = 0 then (some (a0_0, a0_1, false)) else (some (wrap64 (a0_0 - 1), wrap64 (a0_1 + 1), true))) else (some (a0_0, a0_1, false)))
set_option maxHeartbeats 8000000 in
set_option maxRecDepth 100000 in
theorem impl_SpendCredit.calls (a0_0 : Int) (a0_1 : Int) (r1 : Int) (r2 : Int) (r3 : Bool) (w : World) (h : impl_SpendCredit.f a0_0 a0_1 = some (r1, r2, r3)) :
  Calls Try.prog 90 #[.agg #[.int .i64 a0_0, .int .i64 a0_1]] w fun e w' => e = .returned (.tuple #[.agg #[.int .i64 r1, .int .i64 r2], .bool r3]) ∧ Below w.heap.size w w' := by
 have hu26 := Try.underlying26
 have HB := am_ (Below.refl w.heap.size w)
 have H : ((impl_creditOk.f a0_0 a0_1).bind fun t241 => (if t241 = true then (if a0_0 = 0 then (some (a0_0, a0_1, false)) else (some (wrap64 (a0_0 - 1), wrap64 (a0_1 + 1), true))) else (some (a0_0, a0_1, false)))) = some (r1, r2, r3) := h
 clear h
 replace H := Option.bind_eq_some_iff.mp H
 obtain ⟨t241, A20, H⟩ := H
 replace H : (if t241 = true then (if a0_0 = 0 then (some (a0_0, a0_1, false)) else (some (wrap64 (a0_0 - 1), wrap64 (a0_1 + 1), true))) else (some (a0_0, a0_1, false))) = some (r1, r2, r3) := H
 have A2 := Aside0.mk A20
 clear A20
 by_cases c3 : t241 = true
 ·
  subst c3
  have H1 : (if a0_0 = 0 then (some (a0_0, a0_1, false)) else (some (wrap64 (a0_0 - 1), wrap64 (a0_1 + 1), true))) = some (r1, r2, r3) := by rw [if_pos rfl] at H; exact H
  clear H
  have H := H1
  clear H1
  by_cases c4 : a0_0 = 0
  ·
   rw [if_pos c4] at H
   have c4b0 : (a0_0 == 0) = true := beq_iff_eq.mpr c4
   have c4b1 : (a0_0 != 0) = false := bne_eq_false_iff_eq.mpr c4
   clear c4
   simp only [Option.some.injEq, Prod.mk.injEq] at H
   obtain ⟨rfl, rfl, rfl⟩ := H
   go_enter Try.func90, Try.ntmps90
   go_wp2_with (first | ((with_reducible refine gate_dst (N := 1) rfl ?_); refine box_event ?hg (N := 1) ?hd (cs := #[.int .i64 a0_0, .int .i64 a0_1]) (t := 26) ?hr ?_; (case hd => rfl); (case hg => rfl); (case hr => first | (go_simp; done) | (go_simp; rfl)); intro gb239 hg w5 hbox hb; have n0_ := am_ (below_step (ue_ HB.out) hb); have n1_ := am_ (hbox); have n2_ := am_ ((by rw [hg]; exact (below_size (ue_ HB.out)) : w.heap.size ≤ gb239)); have n3_ := am_ ((by rw [hg]; exact (below_size (ue_ HB.out)) : w.heap.size ≤ gb239)); clear HB; have HB := n0_; have BK239 := n1_; have GW239 := n2_; have GE239 := n3_; clear n0_ n1_ n2_ n3_; clear hb hbox hg) | ((with_reducible refine gate_dst (N := 2) rfl ?_); refine box_event ?hg (N := 2) ?hd (cs := #[.int .i64 0, .int .i64 0]) (t := 26) ?hr ?_; (case hd => rfl); (case hg => rfl); (case hr => first | (go_simp; done) | (go_simp; rfl)); intro gb240 hg w6 hbox hb; have n0_ := am_ (bb_ BK239.out hb); have n1_ := am_ (below_step (ue_ HB.out) hb); have n2_ := am_ (hbox); have n3_ := am_ ((by rw [hg]; exact (below_size (ue_ HB.out)) : w.heap.size ≤ gb240)); have n4_ := am_ ((by rw [hg]; exact (below_size (ue_ HB.out)) : w.heap.size ≤ gb240)); have n5_ := am_ ((by rw [hg]; exact Nat.ne_of_lt (bl_ BK239.out) : gb239 ≠ gb240)); have n6_ := am_ ((by rw [hg]; exact Nat.ne_of_gt (bl_ BK239.out) : gb240 ≠ gb239)); clear BK239 HB; have BK239 := n0_; have HB := n1_; have BK240 := n2_; have GW240 := n3_; have GE240 := n4_; have NB239_240 := n5_; have NB240_239 := n6_; clear n0_ n1_ n2_ n3_ n4_ n5_ n6_; clear hb hbox hg; have hnb7 := NB239_240.out; have hnc7 := NB240_239.out; obtain ⟨hcz8_0, hcz8_1⟩ := cb2_ BK239.out; have hfz8_0 := blk_frozen BK239.out 0; have hfz8_1 := blk_frozen BK239.out 1) | ((with_reducible refine gate_callee (f := 108) rfl ?_); refine goesL_ (some 5) rfl rfl Try.func108 (by kernel_rfl) rfl #[.agg #[.int .i64 a0_0, .int .i64 a0_1]] rfl ul_ ?_; (with_reducible refine (impl_creditOk.calls a0_0 a0_1 true _ A2.out).mono ?_); rintro e w9 ⟨rfl, hb⟩; refine ⟨_, rfl, ?_⟩; have n0_ := am_ (bb_ BK239.out hb); have n1_ := am_ (bb_ BK240.out hb); have n2_ := am_ (below_step (ue_ HB.out) hb); clear BK239 BK240 HB; have BK239 := n0_; have BK240 := n1_; have HB := n2_; clear n0_ n1_ n2_; (try clear hb); (try clear hb2); (try clear hk); (try clear hi); obtain ⟨hcz10_0, hcz10_1⟩ := cb2_ BK239.out; obtain ⟨hfz10_0, hfz10_1⟩ := bf2_ BK239.out; obtain ⟨hcz11_0, hcz11_1⟩ := cb2_ BK240.out; have hfz11_0 := blk_frozen BK240.out 0; have hfz11_1 := blk_frozen BK240.out 1) | ((with_reducible refine gate_store (t := 26) (p := 2) rfl ?_); refine store_event (t := 26) (p := 2) (v := ?vo_w12) (w1 := ((w9.setCell ⟨gb240, 0, none⟩ (.int .i64 a0_0)).setCell ⟨gb240, 1, none⟩ (.int .i64 a0_1))) ?hg ?ho ?hn ?hr ?_; (case ho => rfl); (case hg => rfl); (case hn => rfl); (case hr => first | (go_simp; done) | (go_simp; rfl)); intro w12 hw; have n0_ : Aside0 (w12.heap[gb239]? = some (.cells #[.int .i64 a0_0, .int .i64 a0_1] 26 (0, 0))) := ⟨(by rw [hw]; exact (uf_ BK239.out))⟩; have n1_ : Aside0 (w12.heap[gb240]? = some (.cells #[.int .i64 a0_0, .int .i64 a0_1] 26 (0, 0))) := ⟨(by rw [hw]; exact (by (with_reducible repeat first|apply bn_|apply bd_|apply ba_); refine blk_put (cs := #[.int .i64 a0_0, .int .i64 0]) ?_ 1 _ rfl; refine blk_put (cs := #[.int .i64 0, .int .i64 0]) ?_ 0 _ rfl; (with_reducible repeat first|apply bn_|apply bd_|apply ba_); exact BK240.out))⟩; have n2_ : Aside0 (Below w.heap.size w w12) := ⟨(by rw [hw]; exact (ue_ HB.out))⟩; clear hw BK239 BK240 HB; have BK239 := n0_; have BK240 := n1_; have HB := n2_; clear n0_ n1_ n2_))
   refine bodyPost_ret (results_ct rfl _ _ gb240 26 #[.int .i64 a0_0, .int .i64 a0_1] (0, 0) _ rfl (ub_ BK240.out) Try.underlying26 rfl (by kernel_rfl)) rfl ?_
   exact ⟨ew_, ue_ HB.out⟩
  ·
   rw [if_neg c4] at H
   have c4b0 : (a0_0 == 0) = false := beq_eq_false_iff_ne.mpr c4
   have c4b1 : (a0_0 != 0) = true := bne_iff_ne.mpr c4
   simp only [Option.some.injEq, Prod.mk.injEq] at H
   obtain ⟨rfl, rfl, rfl⟩ := H
   go_enter Try.func90, Try.ntmps90
   go_wp2_with (first | ((with_reducible refine gate_dst (N := 1) rfl ?_); refine box_event ?hg (N := 1) ?hd (cs := #[.int .i64 a0_0, .int .i64 a0_1]) (t := 26) ?hr ?_; (case hd => rfl); (case hg => rfl); (case hr => first | (go_simp; done) | (go_simp; rfl)); intro gb239 hg w13 hbox hb; have n0_ := am_ (below_step (ue_ HB.out) hb); have n1_ := am_ (hbox); have n2_ := am_ ((by rw [hg]; exact (below_size (ue_ HB.out)) : w.heap.size ≤ gb239)); have n3_ := am_ ((by rw [hg]; exact (below_size (ue_ HB.out)) : w.heap.size ≤ gb239)); clear HB; have HB := n0_; have BK239 := n1_; have GW239 := n2_; have GE239 := n3_; clear n0_ n1_ n2_ n3_; clear hb hbox hg) | ((with_reducible refine gate_dst (N := 2) rfl ?_); refine box_event ?hg (N := 2) ?hd (cs := #[.int .i64 0, .int .i64 0]) (t := 26) ?hr ?_; (case hd => rfl); (case hg => rfl); (case hr => first | (go_simp; done) | (go_simp; rfl)); intro gb240 hg w14 hbox hb; have n0_ := am_ (bb_ BK239.out hb); have n1_ := am_ (below_step (ue_ HB.out) hb); have n2_ := am_ (hbox); have n3_ := am_ ((by rw [hg]; exact (below_size (ue_ HB.out)) : w.heap.size ≤ gb240)); have n4_ := am_ ((by rw [hg]; exact (below_size (ue_ HB.out)) : w.heap.size ≤ gb240)); have n5_ := am_ ((by rw [hg]; exact Nat.ne_of_lt (bl_ BK239.out) : gb239 ≠ gb240)); have n6_ := am_ ((by rw [hg]; exact Nat.ne_of_gt (bl_ BK239.out) : gb240 ≠ gb239)); clear BK239 HB; have BK239 := n0_; have HB := n1_; have BK240 := n2_; have GW240 := n3_; have GE240 := n4_; have NB239_240 := n5_; have NB240_239 := n6_; clear n0_ n1_ n2_ n3_ n4_ n5_ n6_; clear hb hbox hg; have hnb15 := NB239_240.out; have hnc15 := NB240_239.out; obtain ⟨hcz16_0, hcz16_1⟩ := cb2_ BK239.out; have hfz16_0 := blk_frozen BK239.out 0; have hfz16_1 := blk_frozen BK239.out 1) | ((with_reducible refine gate_callee (f := 108) rfl ?_); refine goesL_ (some 5) rfl rfl Try.func108 (by kernel_rfl) rfl #[.agg #[.int .i64 a0_0, .int .i64 a0_1]] rfl ul_ ?_; (with_reducible refine (impl_creditOk.calls a0_0 a0_1 true _ A2.out).mono ?_); rintro e w17 ⟨rfl, hb⟩; refine ⟨_, rfl, ?_⟩; have n0_ := am_ (bb_ BK239.out hb); have n1_ := am_ (bb_ BK240.out hb); have n2_ := am_ (below_step (ue_ HB.out) hb); clear BK239 BK240 HB; have BK239 := n0_; have BK240 := n1_; have HB := n2_; clear n0_ n1_ n2_; (try clear hb); (try clear hb2); (try clear hk); (try clear hi); obtain ⟨hcz18_0, hcz18_1⟩ := cb2_ BK239.out; obtain ⟨hfz18_0, hfz18_1⟩ := bf2_ BK239.out; obtain ⟨hcz19_0, hcz19_1⟩ := cb2_ BK240.out; have hfz19_0 := blk_frozen BK240.out 0; have hfz19_1 := blk_frozen BK240.out 1) | ((with_reducible refine gate_store (t := 26) (p := 2) rfl ?_); refine store_event (t := 26) (p := 2) (v := ?vo_w20) (w1 := ((w17.setCell ⟨gb240, 0, none⟩ (.int .i64 (wrap64 (a0_0 - 1)))).setCell ⟨gb240, 1, none⟩ (.int .i64 (wrap64 (a0_1 + 1))))) ?hg ?ho ?hn ?hr ?_; (case ho => rfl); (case hg => rfl); (case hn => rfl); (case hr => first | (go_simp; done) | (go_simp; rfl)); intro w20 hw; have n0_ : Aside0 (w20.heap[gb239]? = some (.cells #[.int .i64 a0_0, .int .i64 a0_1] 26 (0, 0))) := ⟨(by rw [hw]; exact (uf_ BK239.out))⟩; have n1_ : Aside0 (w20.heap[gb240]? = some (.cells #[.int .i64 (wrap64 (a0_0 - 1)), .int .i64 (wrap64 (a0_1 + 1))] 26 (0, 0))) := ⟨(by rw [hw]; exact (by (with_reducible repeat first|apply bn_|apply bd_|apply ba_); refine blk_put (cs := #[.int .i64 (wrap64 (a0_0 - 1)), .int .i64 0]) ?_ 1 _ rfl; refine blk_put (cs := #[.int .i64 0, .int .i64 0]) ?_ 0 _ rfl; (with_reducible repeat first|apply bn_|apply bd_|apply ba_); exact BK240.out))⟩; have n2_ : Aside0 (Below w.heap.size w w20) := ⟨(by rw [hw]; exact (ue_ HB.out))⟩; clear hw BK239 BK240 HB; have BK239 := n0_; have BK240 := n1_; have HB := n2_; clear n0_ n1_ n2_))
   refine bodyPost_ret (results_ct rfl _ _ gb240 26 #[.int .i64 (wrap64 (a0_0 - 1)), .int .i64 (wrap64 (a0_1 + 1))] (0, 0) _ rfl (ub_ BK240.out) Try.underlying26 rfl (by kernel_rfl)) rfl ?_
   exact ⟨ew_, ue_ HB.out⟩
 ·
  replace c3 := Bool.eq_false_iff.mpr c3
  subst c3
  have H1 : (some (a0_0, a0_1, false)) = some (r1, r2, r3) := by rw [if_neg (show ¬ (false = true) by decide)] at H; exact H
  clear H
  have H := H1
  clear H1
  simp only [Option.some.injEq, Prod.mk.injEq] at H
  obtain ⟨rfl, rfl, rfl⟩ := H
  go_enter Try.func90, Try.ntmps90
  go_wp2_with (first | ((with_reducible refine gate_dst (N := 1) rfl ?_); refine box_event ?hg (N := 1) ?hd (cs := #[.int .i64 a0_0, .int .i64 a0_1]) (t := 26) ?hr ?_; (case hd => rfl); (case hg => rfl); (case hr => first | (go_simp; done) | (go_simp; rfl)); intro gb239 hg w21 hbox hb; have n0_ := am_ (below_step (ue_ HB.out) hb); have n1_ := am_ (hbox); have n2_ := am_ ((by rw [hg]; exact (below_size (ue_ HB.out)) : w.heap.size ≤ gb239)); have n3_ := am_ ((by rw [hg]; exact (below_size (ue_ HB.out)) : w.heap.size ≤ gb239)); clear HB; have HB := n0_; have BK239 := n1_; have GW239 := n2_; have GE239 := n3_; clear n0_ n1_ n2_ n3_; clear hb hbox hg) | ((with_reducible refine gate_dst (N := 2) rfl ?_); refine box_event ?hg (N := 2) ?hd (cs := #[.int .i64 0, .int .i64 0]) (t := 26) ?hr ?_; (case hd => rfl); (case hg => rfl); (case hr => first | (go_simp; done) | (go_simp; rfl)); intro gb240 hg w22 hbox hb; have n0_ := am_ (bb_ BK239.out hb); have n1_ := am_ (below_step (ue_ HB.out) hb); have n2_ := am_ (hbox); have n3_ := am_ ((by rw [hg]; exact (below_size (ue_ HB.out)) : w.heap.size ≤ gb240)); have n4_ := am_ ((by rw [hg]; exact (below_size (ue_ HB.out)) : w.heap.size ≤ gb240)); have n5_ := am_ ((by rw [hg]; exact Nat.ne_of_lt (bl_ BK239.out) : gb239 ≠ gb240)); have n6_ := am_ ((by rw [hg]; exact Nat.ne_of_gt (bl_ BK239.out) : gb240 ≠ gb239)); clear BK239 HB; have BK239 := n0_; have HB := n1_; have BK240 := n2_; have GW240 := n3_; have GE240 := n4_; have NB239_240 := n5_; have NB240_239 := n6_; clear n0_ n1_ n2_ n3_ n4_ n5_ n6_; clear hb hbox hg; have hnb23 := NB239_240.out; have hnc23 := NB240_239.out; obtain ⟨hcz24_0, hcz24_1⟩ := cb2_ BK239.out; have hfz24_0 := blk_frozen BK239.out 0; have hfz24_1 := blk_frozen BK239.out 1) | ((with_reducible refine gate_callee (f := 108) rfl ?_); refine goesL_ (some 5) rfl rfl Try.func108 (by kernel_rfl) rfl #[.agg #[.int .i64 a0_0, .int .i64 a0_1]] rfl ul_ ?_; (with_reducible refine (impl_creditOk.calls a0_0 a0_1 false _ A2.out).mono ?_); rintro e w25 ⟨rfl, hb⟩; refine ⟨_, rfl, ?_⟩; have n0_ := am_ (bb_ BK239.out hb); have n1_ := am_ (bb_ BK240.out hb); have n2_ := am_ (below_step (ue_ HB.out) hb); clear BK239 BK240 HB; have BK239 := n0_; have BK240 := n1_; have HB := n2_; clear n0_ n1_ n2_; (try clear hb); (try clear hb2); (try clear hk); (try clear hi); obtain ⟨hcz26_0, hcz26_1⟩ := cb2_ BK239.out; obtain ⟨hfz26_0, hfz26_1⟩ := bf2_ BK239.out; obtain ⟨hcz27_0, hcz27_1⟩ := cb2_ BK240.out; have hfz27_0 := blk_frozen BK240.out 0; have hfz27_1 := blk_frozen BK240.out 1) | ((with_reducible refine gate_store (t := 26) (p := 2) rfl ?_); refine store_event (t := 26) (p := 2) (v := ?vo_w28) (w1 := ((w25.setCell ⟨gb240, 0, none⟩ (.int .i64 a0_0)).setCell ⟨gb240, 1, none⟩ (.int .i64 a0_1))) ?hg ?ho ?hn ?hr ?_; (case ho => rfl); (case hg => rfl); (case hn => rfl); (case hr => first | (go_simp; done) | (go_simp; rfl)); intro w28 hw; have n0_ : Aside0 (w28.heap[gb239]? = some (.cells #[.int .i64 a0_0, .int .i64 a0_1] 26 (0, 0))) := ⟨(by rw [hw]; exact (uf_ BK239.out))⟩; have n1_ : Aside0 (w28.heap[gb240]? = some (.cells #[.int .i64 a0_0, .int .i64 a0_1] 26 (0, 0))) := ⟨(by rw [hw]; exact (by (with_reducible repeat first|apply bn_|apply bd_|apply ba_); refine blk_put (cs := #[.int .i64 a0_0, .int .i64 0]) ?_ 1 _ rfl; refine blk_put (cs := #[.int .i64 0, .int .i64 0]) ?_ 0 _ rfl; (with_reducible repeat first|apply bn_|apply bd_|apply ba_); exact BK240.out))⟩; have n2_ : Aside0 (Below w.heap.size w w28) := ⟨(by rw [hw]; exact (ue_ HB.out))⟩; clear hw BK239 BK240 HB; have BK239 := n0_; have BK240 := n1_; have HB := n2_; clear n0_ n1_ n2_))
  refine bodyPost_ret (results_ct rfl _ _ gb240 26 #[.int .i64 a0_0, .int .i64 a0_1] (0, 0) _ rfl (ub_ BK240.out) Try.underlying26 rfl (by kernel_rfl)) rfl ?_
  exact ⟨ew_, ue_ HB.out⟩

end Go.Proofs.Ytcflalomjehiiaa.QFnRings
