/- The machine side of a law: Lean functions with the Go functions' answers and the walks that show it. No condition. -/
import Derived.Test.YtcflalomjehiiaaQFnRingsx0
import Derived.Test.YtcflalomjehiiaaQFnRingsx3
import Derived.Test.YtcflalomjehiiaaQFnRingsx4
import Derived.Test.YtcflalomjehiiaaQFnRingsx7
namespace Go.Proofs.Ytcflalomjehiiaa.QFnRings
open Go.RowKit Go.Proofs.YtcflalomjehiiaaW.PrintWords Go.Proofs.YtcflalomjehiiaaW.PrintLast Go.Proofs.YtcflalomjehiiaaW.PrintMore
attribute [local go_sem] max2_int min2_int max_two min_two max_three min_three max_four min_four   -- for this text's walks alone
set_option linter.unusedVariables false
set_option linter.unusedSimpArgs false


theorem reps_nums {w : World} {base : Nat} {ok : Nat → Prop} (k : IntKind) (l : List Int) : Reps ((Kd.int k).M w base ok) 1 l (nums k l) := by
 refine ⟨by rw [nums_length, Nat.mul_one], fun j p hj => ?_⟩
 have hl := (List.getElem?_eq_some_iff.1 hj).1
 have e := (List.getElem?_eq_some_iff.1 hj).2
 show ((nums k l).drop (j * 1)).take 1 = [.int k p]
 rw [Nat.mul_one, List.drop_eq_getElem_cons (by rw [nums_length]; exact hl)]
 simp [nums, e]
theorem nums_of_reps {w : World} {base : Nat} {ok : Nat → Prop} {k : IntKind} {l : List Int} {inner : List Value} (h : Reps ((Kd.int k).M w base ok) 1 l inner) : inner = nums k l := by
 have hlen : inner.length = l.length := by rw [h.1, Nat.mul_one]
 apply List.ext_getElem
 ·
  rw [nums_length, hlen]
 ·
  intro j h1 h2
  have hj : j < l.length := by omega
  have := h.2 j l[j] (List.getElem?_eq_getElem hj)
  have : (inner.drop (j * 1)).take 1 = [.int k l[j]] := this
  rw [Nat.mul_one, List.drop_eq_getElem_cons h1, List.take_succ_cons, List.take_zero] at this
  have e2 := (List.cons.inj this).1
  rw [e2]
  simp [nums]
/-- The builtin copy, as a call is told. -/
def CopyC (P : Program) (t : TypeId) (u v : Value) (w : World) (Q : Ending → World → Prop) : Prop := ∃ (n : Nat) (w1 : World), (∀ ty, (Builtin.copy_ #[t, t] ty #[u, v]).run P w = .ok (goInt n) w1) ∧ Q (.returned (.int .i64 n)) w1
theorem CopyC.mono {P : Program} {t : TypeId} {u v : Value} {w : World} {Q Q' : Ending → World → Prop} (h : CopyC P t u v w Q) (f : ∀ e w', Q e w' → Q' e w') : CopyC P t u v w Q' := by
 obtain ⟨n, w1, h1, h2⟩ := h
 exact ⟨n, w1, h1, f _ _ h2⟩
theorem copyC_ {P : Program} {ops : Array Oper} {Q : Exit → Act → World → Prop} {oi : Oper} {N : Option Tmp} {a : Act} {w : World} {K : Act → World → Prop} {s x : Operand} {t : TypeId} (u v : Value)
  (hw : Region.wanted oi (yielded ops a.tmps) = true) (hN : oi.dst = N) (hop : oi.op = .call { callee := .builtin .copy, args := #[s, x], argTypes := #[t, t] }) (hu : a.eval s = u) (hv : a.eval x = v)
  (h : CopyC P t u v w fun e w' => ∃ y, e = .returned y ∧ K (a.put N y) w') : if Region.wanted oi (yielded ops a.tmps) = true then Oper.wp P oi a w K Q else K (a.put N undef) w := by
 obtain ⟨n, w1, h1, y, h2, h3⟩ := h
 rw [if_pos hw]
 unfold Oper.wp execOp
 simp only [hop, resolve, invoke, builtin, Sem.run_bind, Sem.run_pure, Result.andThen_ok, List.map_toArray, List.map_cons, List.map_nil, hu, hv, h1]
 injection h2 with h2
 subst h2
 subst hN
 exact h3
def copyInts.f (l0 l1 : List Int) : Option (Int × List Int) := if 0 < l0.length then some (((Nat.min l1.length l0.length : Nat) : Int), l1.take l0.length ++ l0.drop l1.length) else none
theorem run_copy_none {P : Program} (w : World) (t ty elem : TypeId) (a : Addr) (dLen dCap sCap : Nat) (hu : P.underlying t = some (.slice elem)) (hs : ((P.info? elem).map (·.size)).isSome = true) :
  (Builtin.copy_ #[t, t] ty #[.slice (some a) dLen dCap, .slice none 0 sCap]).run P w = .ok (goInt 0) w := by
 cases hq : P.info? elem with
 | none => simp [hq] at hs
 | some i => simp [Builtin.copy_, run_underlying hu, Builtin.lenOf, Builtin.firstCells, sizeOf, typeInfo, hq, storeCells]
theorem copyInts.calls {P : Program} {t : TypeId} (ht : P.underlying t = some (.slice 3)) (hi : (P.info? 3).map (·.size) = some 1) (P0_ : Nat → Prop) (u9000_ : Value) (l0 : List Int) (A1 : Option Addr) (c1 : Nat) (l1 : List Int) (r1 : Int) (r2 : List Int) (w0 w : World)
  (hB : Below w0.heap.size w0 w) (ho0 : Kd.R (Kd.int .i64) 3 w w0.heap.size P0_ u9000_ l0) (hk1 : ∀ W', Kept w W' (fun k_ => P0_ k_) → Kd.C (Kd.int .i64) W' A1 l1.length l1) (hc1 : l1.length ≤ c1) (h : copyInts.f l0 l1 = some (r1, r2)) :
  CopyC P t u9000_ (.slice A1 l1.length c1) w fun e w' => e = .returned (.int .i64 r1) ∧ Kd.R (Kd.int .i64) 3 w' w0.heap.size (fun k_ => (P0_ k_ ∨ w.heap.size ≤ k_)) u9000_ r2 ∧ Below w0.heap.size w0 w' ∧ Kept w w' (fun k_ => P0_ k_) := by
 unfold copyInts.f at h
 by_cases hl : 0 < l0.length
 ·
  rw [if_pos hl] at h
  simp only [Option.some.injEq, Prod.mk.injEq] at h
  obtain ⟨rfl, rfl⟩ := h
  obtain ⟨hok, inner, hown, hr⟩ := ho0
  obtain rfl := nums_of_reps hr
  rcases hown.2 with ⟨rfl, hz⟩ | ⟨g, cap, cur, rfl, hb, hh, hcn, hcm, hcs, htake⟩
  ·
   omega
  have hcs : cur.size = cap * 1 := hcs
  have htake : cur.toList.take (l0.length * 1) = nums .i64 l0 := htake
  rw [Nat.mul_one] at hcs htake
  have hC := hk1 w (Kept.refl _ _)
  obtain ⟨cs, hcse⟩ : ∃ cs, cs = nums .i64 (l1.take l0.length) := ⟨_, rfl⟩
  have hcl : cs.length = Nat.min l1.length l0.length := by rw [hcse, nums_length, List.length_take]; exact Nat.min_comm _ _
  have hcl2 : cs.length ≤ l0.length := by rw [hcl]; exact Nat.min_le_right _ _
  have hcl3 : cs.length ≤ l1.length := by rw [hcl]; exact Nat.min_le_left _ _
  have hcurl : cur.toList.length = cap := hcs
  obtain ⟨w1, hw1⟩ : ∃ w1, w1 = w.setRow g (cur.toList.take 0 ++ cs ++ cur.toList.drop (0 + cs.length)).toArray := ⟨_, rfl⟩
  have hself : w.setRow g cur = w := setRow_self w g cur 3 (0, 0) hh
  have hrun : ∀ ty, (Builtin.copy_ #[t, t] ty #[.slice (some ⟨g, 0, none⟩) l0.length cap, .slice A1 l1.length c1]).run P w = .ok (goInt (Nat.min l1.length l0.length)) w1 := by
   intro ty
   by_cases hl1 : 0 < l1.length
   ·
    obtain ⟨ad, e, _⟩ := Kd.at_int hC 0 (Int.le_refl _) (by omega)
    subst e
    rw [hw1, ← hcl]
    refine run_copy_row P w t t ty 3 g 0 l0.length cap ad l1.length c1 cur 3 cs ht hi hh hcl (fun j v hj => ?_) (by omega) (fun v hv => ?_)
    ·
     have hj1 := (List.getElem?_eq_some_iff.1 hj).1
     have hj2 : j < l0.length := Nat.lt_of_lt_of_le hj1 hcl2
     have hj3 : j < l1.length := Nat.lt_of_lt_of_le hj1 hcl3
     obtain ⟨ad', e', hx⟩ := Kd.at_int hC (j : Int) (by omega) (by omega)
     obtain rfl := Option.some.inj e'
     rw [Int.toNat_natCast] at hx
     rw [hx, ← hj, hcse]
     simp [nums, rd, List.getElem?_take, List.getD_eq_getElem?_getD, hj2, List.getElem?_eq_getElem hj3]
    ·
     rw [hcse] at hv
     obtain ⟨x, _, rfl⟩ := List.mem_map.1 hv
     rfl
   ·
    have h0 : l1.length = 0 := by omega
    have hcs0 : cs = [] := List.eq_nil_of_length_eq_zero (by omega)
    have hw : w1 = w := by rw [hw1, hcs0]; simpa using hself
    rw [hw, h0, show Nat.min 0 l0.length = 0 from Nat.zero_min _]
    cases A1 with
    | none => exact run_copy_none w t ty 3 ⟨g, 0, none⟩ l0.length cap c1 ht (by rw [hi]; rfl)
    | some ad =>
     have := run_copy_row P w t t ty 3 g 0 l0.length cap ad 0 c1 cur 3 [] ht hi hh (by simp) (fun j v hj => by simp at hj) (by simp) (fun v hv => by simp at hv)
     rw [this]
     simp only [List.length_nil]
     congr 1
  obtain ⟨r2, hr2⟩ : ∃ r2, r2 = l1.take l0.length ++ l0.drop l1.length := ⟨_, rfl⟩
  have hrl : r2.length = l0.length := by rw [hr2, List.length_append, List.length_take, List.length_drop]; omega
  rw [← hr2]
  have hg : P0_ g := hok g rfl
  have hcur2 : (cur.toList.take 0 ++ cs ++ cur.toList.drop (0 + cs.length)).take l0.length = nums .i64 r2 := by
   rw [List.take_zero, List.nil_append, Nat.zero_add, List.take_append, List.take_of_length_le hcl2, ← List.drop_take]
   rw [hr2, nums_append, ← hcse]
   congr 1
   rw [htake]
   by_cases h1 : l1.length ≤ l0.length
   ·
    rw [hcl, show Nat.min l1.length l0.length = l1.length from Nat.min_eq_left h1]
    simp [nums, List.map_drop]
   ·
    rw [hcl, show Nat.min l1.length l0.length = l0.length from Nat.min_eq_right (by omega), List.drop_of_length_le (by rw [nums_length]; exact Nat.le_refl _), List.drop_of_length_le (by omega)]
    rfl
  have hgr : w.grownBy w1 (some g) := by
   rw [hw1]
   exact ⟨rfl, rfl, rfl, by simp, fun k _ hne => setRow_other w g k _ (fun e_ => hne (by rw [e_]))⟩
  refine ⟨_, w1, hrun, rfl, ⟨fun k hk => .inl (hok k hk), nums .i64 r2, ⟨?_, .inr ⟨g, cap, (cur.toList.take 0 ++ cs ++ cur.toList.drop (0 + cs.length)).toArray, ?_, hb, ?_, ?_, hcm, ?_, ?_⟩⟩, reps_nums _ _⟩, ?_, ?_⟩
  ·
   rw [nums_length]; exact (Nat.mul_one _).symm
  ·
   rw [hrl]
  ·
   rw [hw1]; exact setRow_heap w g cur _ 3 (0, 0) hh
  ·
   omega
  ·
   show (cur.toList.take 0 ++ cs ++ cur.toList.drop (0 + cs.length)).length = cap * 1
   simp only [List.length_append, List.length_take, List.length_drop, hcurl]
   omega
  ·
   show (cur.toList.take 0 ++ cs ++ cur.toList.drop (0 + cs.length)).take (r2.length * 1) = nums .i64 r2
   rw [Nat.mul_one, hrl]; exact hcur2
  ·
   exact hB.grown hgr hB.size (fun k hk => by injection hk with hk; subst hk; exact hb)
  ·
   exact Kept.of_grown hgr (Kept.refl w _) (fun k hk => by injection hk with hk; subst hk; exact .inl hg)
 ·
  rw [if_neg hl] at h
  cases h
/-! ### impl_GrowRing: function 34 -/
def impl_GrowRing.j0 : Nat → Int → Bool → List Int → Int → Int → Option (List Int × Int × Int × Bool)
 | 0, _, _, _, _, _ => none
 | k + 1, x1, x20, x375000, x375001, x375002 => if x20 = true then ((impl_ownRing.f x375000 x375001 x375002).bind fun bt378 => (some (bt378.1, bt378.2.1, bt378.2.2, false))) else (if 0 ≤ x1 then (if (x1 : Int).toNat ≤ 35184372088832 then ((impl_ListRing.f k x375000 x375001 x375002).bind fun t387 => ((copyInts.f (List.replicate (x1 : Int).toNat 0) t387).bind fun bt390 => (some (bt390.2, 0, x375002, true)))) else (none)) else (none))
def impl_GrowRing.f (k : Nat) (l0_0 : List Int) (a0_1 : Int) (a0_2 : Int) (a1 : Int) : Option (List Int × Int × Int × Bool) := (impl_RingOk.f k l0_0 a0_1 a0_2).bind fun t376 => (if t376 = true then ((impl_within.f a1 1 20).bind fun t377 => (if t377 = true then (impl_GrowRing.j0 k a1 (decide (a0_2 > a1)) l0_0 a0_1 a0_2) else (impl_GrowRing.j0 k a1 true l0_0 a0_1 a0_2))) else (impl_GrowRing.j0 k a1 true l0_0 a0_1 a0_2))
theorem impl_GrowRing.mono_l : ∀ k, (∀ y0 y1 y2 y3 y4, LeO (impl_GrowRing.j0 k y0 y1 y2 y3 y4) (impl_GrowRing.j0 (k + 1) y0 y1 y2 y3 y4))
 | 0 => fun _ _ _ _ _ r h => by simp [impl_GrowRing.j0] at h
 | k + 1 => by
  have ih0 := impl_GrowRing.mono_l k
  ·
   intro y0 y1 y2 y3 y4
   unfold impl_GrowRing.j0
   repeat' first
   | (with_reducible exact ih0 _ _ _ _ _)
   | (with_reducible exact impl_ListRing.mono _ _ _ _)
   | (with_reducible exact impl_RingOk.mono _ _ _ _)
   | (with_reducible exact LeO.refl _)
   | (with_reducible exact LeO.none _)
   | (with_reducible refine LeO.ite ?_ ?_)
   | (with_reducible refine LeO.bind ?_ (fun _ => ?_))
   | exact ih0 _ _ _ _ _
   | exact impl_ListRing.mono _ _ _ _
   | exact impl_RingOk.mono _ _ _ _
   | exact LeO.none _
   | refine LeO.ite ?_ ?_
   | refine LeO.bind ?_ (fun _ => ?_)
theorem impl_GrowRing.mono : ∀ a0 a1 a2 a3 k, LeO (impl_GrowRing.f k a0 a1 a2 a3) (impl_GrowRing.f (k + 1) a0 a1 a2 a3) := by
 intro a0 a1 a2 a3 k
 have ih0 := impl_GrowRing.mono_l k
 unfold impl_GrowRing.f
 repeat' first
   | (with_reducible exact ih0 _ _ _ _ _)
   | (with_reducible exact impl_ListRing.mono _ _ _ _)
   | (with_reducible exact impl_RingOk.mono _ _ _ _)
   | (with_reducible exact LeO.refl _)
   | (with_reducible exact LeO.none _)
   | (with_reducible refine LeO.ite ?_ ?_)
   | (with_reducible refine LeO.bind ?_ (fun _ => ?_))
   | exact ih0 _ _ _ _ _
   | exact impl_ListRing.mono _ _ _ _
   | exact impl_RingOk.mono _ _ _ _
   | exact LeO.none _
   | refine LeO.ite ?_ ?_
   | refine LeO.bind ?_ (fun _ => ?_)
set_option maxHeartbeats 8000000 in
set_option maxRecDepth 100000 in
theorem impl_GrowRing.calls (k : Nat) (A0_0 : Option Addr) (c0_0 : Nat) (l0_0 : List Int) (a0_1 : Int) (a0_2 : Int) (a1 : Int) (r1 : List Int) (r2 : Int) (r3 : Int) (r4 : Bool) (w : World) (hr0_0 : Kd.C (Kd.int .i64) w A0_0 l0_0.length l0_0) (hc0_0 : l0_0.length ≤ c0_0) (h : impl_GrowRing.f k l0_0 a0_1 a0_2 a1 = some (r1, r2, r3, r4)) :
  Calls Try.prog 34 #[.agg #[.slice A0_0 l0_0.length c0_0, .int .i64 a0_1, .int .i64 a0_2], .int .i64 a1] w fun e w' => ∃ v0_ : Value, e = .returned (.tuple #[.agg #[v0_, .int .i64 r2, .int .i64 r3], .bool r4]) ∧ Kd.R (Kd.int .i64) 3 w' w.heap.size (fun _ => True) v0_ r1 ∧ Below w.heap.size w w' := by
 have hu24 := Try.underlying24
 have HR0_0 := Aside0.mk hr0_0
 have HC0_0 := Aside0.mk hc0_0
 clear hr0_0 hc0_0
 have HB := am_ (Below.refl w.heap.size w)
 have H : ((impl_RingOk.f k l0_0 a0_1 a0_2).bind fun t376 => (if t376 = true then ((impl_within.f a1 1 20).bind fun t377 => (if t377 = true then (impl_GrowRing.j0 k a1 (decide (a0_2 > a1)) l0_0 a0_1 a0_2) else (impl_GrowRing.j0 k a1 true l0_0 a0_1 a0_2))) else (impl_GrowRing.j0 k a1 true l0_0 a0_1 a0_2))) = some (r1, r2, r3, r4) := h
 clear h
 have HC3 := Aside0.mk H
 clear H
 go_enter Try.func34, Try.ntmps34
 go_upto_region 1 with (first | ((with_reducible refine gate_dst (N := 2) rfl ?_); refine box_event ?hg (N := 2) ?hd (cs := #[.slice A0_0 l0_0.length c0_0, .int .i64 a0_1, .int .i64 a0_2]) (t := 24) ?hr ?_; (case hd => rfl); (case hg => rfl); (case hr => first | (go_simp; done) | (go_simp; rfl)); intro gb374 hg w4 hbox hb; have n0_ := am_ (below_step (ue_ HB.out) hb); have n1_ := am_ (hbox); have n2_ := am_ ((by rw [hg]; exact (below_size (ue_ HB.out)) : w.heap.size ≤ gb374)); have n3_ := am_ ((by rw [hg]; exact (below_size (ue_ HB.out)) : w.heap.size ≤ gb374)); clear HB; have HB := n0_; have BK374 := n1_; have GW374 := n2_; have GE374 := n3_; clear n0_ n1_ n2_ n3_; clear hb hbox hg) | ((with_reducible refine gate_dst (N := 4) rfl ?_); refine box_event ?hg (N := 4) ?hd (cs := #[.slice none 0 0, .int .i64 0, .int .i64 0]) (t := 24) ?hr ?_; (case hd => rfl); (case hg => rfl); (case hr => first | (go_simp; done) | (go_simp; rfl)); intro gb375 hg w5 hbox hb; have n0_ := am_ (bb_ BK374.out hb); have n1_ := am_ (below_step (ue_ HB.out) hb); have n2_ := am_ (hbox); have n3_ := am_ ((by rw [hg]; exact (below_size (ue_ HB.out)) : w.heap.size ≤ gb375)); have n4_ := am_ ((by rw [hg]; exact (below_size (ue_ HB.out)) : w.heap.size ≤ gb375)); have n5_ := am_ ((by rw [hg]; exact Nat.ne_of_lt (bl_ BK374.out) : gb374 ≠ gb375)); have n6_ := am_ ((by rw [hg]; exact Nat.ne_of_gt (bl_ BK374.out) : gb375 ≠ gb374)); clear BK374 HB; have BK374 := n0_; have HB := n1_; have BK375 := n2_; have GW375 := n3_; have GE375 := n4_; have NB374_375 := n5_; have NB375_374 := n6_; clear n0_ n1_ n2_ n3_ n4_ n5_ n6_; clear hb hbox hg))
 (try simp only [Act.put, List.setIfInBounds_toArray, List.set_cons_zero, List.set_cons_succ])
 go_cut [20] (fun v20 wc => ∃ (kq : Nat) (x20_2 : Bool), v20 = .bool x20_2 ∧ Aside0 (impl_GrowRing.j0 kq a1 x20_2 l0_0 a0_1 a0_2 = some (r1, r2, r3, r4)) ∧ Aside0 (kq ≤ k) ∧ Aside0 (wc.heap[gb374]? = some (.cells #[(.slice A0_0 l0_0.length c0_0), .int .i64 a0_1, .int .i64 a0_2] 24 (0, 0))) ∧ Aside0 (wc.heap[gb375]? = some (.cells #[(.slice none 0 0), .int .i64 0, .int .i64 0] 24 (0, 0))) ∧ Aside0 (Below w.heap.size w wc))
 case first =>
  have H := HC3.out
  clear HC3
  replace H := Option.bind_eq_some_iff.mp H
  obtain ⟨t376, A60, H⟩ := H
  replace H : (if t376 = true then ((impl_within.f a1 1 20).bind fun t377 => (if t377 = true then (impl_GrowRing.j0 k a1 (decide (a0_2 > a1)) l0_0 a0_1 a0_2) else (impl_GrowRing.j0 k a1 true l0_0 a0_1 a0_2))) else (impl_GrowRing.j0 k a1 true l0_0 a0_1 a0_2)) = some (r1, r2, r3, r4) := H
  have A6 := Aside0.mk A60
  clear A60
  by_cases c7 : t376 = true
  ·
   subst c7
   have H1 : ((impl_within.f a1 1 20).bind fun t377 => (if t377 = true then (impl_GrowRing.j0 k a1 (decide (a0_2 > a1)) l0_0 a0_1 a0_2) else (impl_GrowRing.j0 k a1 true l0_0 a0_1 a0_2))) = some (r1, r2, r3, r4) := by rw [if_pos rfl] at H; exact H
   clear H
   have H := H1
   clear H1
   replace H := Option.bind_eq_some_iff.mp H
   obtain ⟨t377, A80, H⟩ := H
   replace H : (if t377 = true then (impl_GrowRing.j0 k a1 (decide (a0_2 > a1)) l0_0 a0_1 a0_2) else (impl_GrowRing.j0 k a1 true l0_0 a0_1 a0_2)) = some (r1, r2, r3, r4) := H
   have A8 := Aside0.mk A80
   clear A80
   by_cases c9 : t377 = true
   ·
    subst c9
    have H1 : (impl_GrowRing.j0 k a1 (decide (a0_2 > a1)) l0_0 a0_1 a0_2) = some (r1, r2, r3, r4) := by rw [if_pos rfl] at H; exact H
    clear H
    have H := H1
    clear H1
    have H' := Aside0.mk H
    clear H
    have hnb10 := NB374_375.out
    have hnc10 := NB375_374.out
    have hcz11_0 := cb_ BK374.out 0 rfl
    have hcz11_1 := cb_ BK374.out 1 rfl
    have hcz11_2 := cb_ BK374.out 2 rfl
    have hfz11_0 := blk_frozen BK374.out 0
    have hfz11_1 := blk_frozen BK374.out 1
    have hfz11_2 := blk_frozen BK374.out 2
    go_wp2_with (first | ((with_reducible refine gate_callee (f := 105) rfl ?_); refine goesL_ (some 8) rfl rfl Try.func105 (by kernel_rfl) rfl #[.agg #[.slice A0_0 l0_0.length c0_0, .int .i64 a0_1, .int .i64 a0_2]] rfl ul_ ?_; (with_reducible refine (impl_RingOk.calls k _ _ l0_0 a0_1 a0_2 true _ ?side1 ?side2 A6.out).mono ?_); (case side1 => repeat (first | exact (Kd.C_below HR0_0.out HB.out) | (with_reducible refine Kd.C_alloc ?_ _) | (with_reducible refine Kd.C_drewN ?_ _) | (with_reducible refine Kd.C_drew ?_))); (case side2 => exact HC0_0.out); rintro e w12 ⟨rfl, hb⟩; refine ⟨_, rfl, ?_⟩; have n0_ := am_ (bb_ BK374.out hb); have n1_ := am_ (bb_ BK375.out hb); have n2_ := am_ (below_step (ue_ HB.out) hb); clear BK374 BK375 HB; have BK374 := n0_; have BK375 := n1_; have HB := n2_; clear n0_ n1_ n2_; (try clear hb); (try clear hb2); (try clear hk); (try clear hi)) | (go_at_call 106; (with_reducible refine (impl_within.calls a1 1 20 true _ A8.out).mono ?_); rintro e w' ⟨rfl, ⟨nd, rfl⟩⟩; obtain ⟨hcz13_0, hcz13_1, hcz13_2⟩ := cb3_ BK374.out; obtain ⟨hfz13_0, hfz13_1⟩ := bf2_ BK374.out; have hfz13_2 := blk_frozen BK374.out 2))
    go_meet
    case rel => exact ⟨_, (decide (a0_2 > a1)), (by first | rfl | (simp; done) | (simp [*]; done)), H', ⟨by first | omega | exact Nat.le_refl _⟩, ⟨by (with_reducible repeat first|apply bn_|apply bd_|apply ba_); exact BK374.out⟩, ⟨by (with_reducible repeat first|apply bn_|apply bd_|apply ba_); exact BK375.out⟩, ⟨ue_ HB.out⟩⟩
   ·
    replace c9 := Bool.eq_false_iff.mpr c9
    subst c9
    have H1 : (impl_GrowRing.j0 k a1 true l0_0 a0_1 a0_2) = some (r1, r2, r3, r4) := by rw [if_neg (show ¬ (false = true) by decide)] at H; exact H
    clear H
    have H := H1
    clear H1
    have H' := Aside0.mk H
    clear H
    have hnb14 := NB374_375.out
    have hnc14 := NB375_374.out
    have hcz15_0 := cb_ BK374.out 0 rfl
    have hcz15_1 := cb_ BK374.out 1 rfl
    have hcz15_2 := cb_ BK374.out 2 rfl
    have hfz15_0 := blk_frozen BK374.out 0
    have hfz15_1 := blk_frozen BK374.out 1
    have hfz15_2 := blk_frozen BK374.out 2
    go_wp2_with (first | ((with_reducible refine gate_callee (f := 105) rfl ?_); refine goesL_ (some 8) rfl rfl Try.func105 (by kernel_rfl) rfl #[.agg #[.slice A0_0 l0_0.length c0_0, .int .i64 a0_1, .int .i64 a0_2]] rfl ul_ ?_; (with_reducible refine (impl_RingOk.calls k _ _ l0_0 a0_1 a0_2 true _ ?side1 ?side2 A6.out).mono ?_); (case side1 => repeat (first | exact (Kd.C_below HR0_0.out HB.out) | (with_reducible refine Kd.C_alloc ?_ _) | (with_reducible refine Kd.C_drewN ?_ _) | (with_reducible refine Kd.C_drew ?_))); (case side2 => exact HC0_0.out); rintro e w16 ⟨rfl, hb⟩; refine ⟨_, rfl, ?_⟩; have n0_ := am_ (bb_ BK374.out hb); have n1_ := am_ (bb_ BK375.out hb); have n2_ := am_ (below_step (ue_ HB.out) hb); clear BK374 BK375 HB; have BK374 := n0_; have BK375 := n1_; have HB := n2_; clear n0_ n1_ n2_; (try clear hb); (try clear hb2); (try clear hk); (try clear hi)) | (go_at_call 106; (with_reducible refine (impl_within.calls a1 1 20 false _ A8.out).mono ?_); rintro e w' ⟨rfl, ⟨nd, rfl⟩⟩))
    go_meet
    case rel => exact ⟨_, (true), (by first | rfl | (simp; done) | (simp [*]; done)), H', ⟨by first | omega | exact Nat.le_refl _⟩, ⟨by (with_reducible repeat first|apply bn_|apply bd_|apply ba_); exact BK374.out⟩, ⟨by (with_reducible repeat first|apply bn_|apply bd_|apply ba_); exact BK375.out⟩, ⟨ue_ HB.out⟩⟩
  ·
   replace c7 := Bool.eq_false_iff.mpr c7
   subst c7
   have H1 : (impl_GrowRing.j0 k a1 true l0_0 a0_1 a0_2) = some (r1, r2, r3, r4) := by rw [if_neg (show ¬ (false = true) by decide)] at H; exact H
   clear H
   have H := H1
   clear H1
   have H' := Aside0.mk H
   clear H
   have hnb17 := NB374_375.out
   have hnc17 := NB375_374.out
   have hcz18_0 := cb_ BK374.out 0 rfl
   have hcz18_1 := cb_ BK374.out 1 rfl
   have hcz18_2 := cb_ BK374.out 2 rfl
   have hfz18_0 := blk_frozen BK374.out 0
   have hfz18_1 := blk_frozen BK374.out 1
   have hfz18_2 := blk_frozen BK374.out 2
   go_wp2_with (first | ((with_reducible refine gate_callee (f := 105) rfl ?_); refine goesL_ (some 8) rfl rfl Try.func105 (by kernel_rfl) rfl #[.agg #[.slice A0_0 l0_0.length c0_0, .int .i64 a0_1, .int .i64 a0_2]] rfl ul_ ?_; (with_reducible refine (impl_RingOk.calls k _ _ l0_0 a0_1 a0_2 false _ ?side1 ?side2 A6.out).mono ?_); (case side1 => repeat (first | exact (Kd.C_below HR0_0.out HB.out) | (with_reducible refine Kd.C_alloc ?_ _) | (with_reducible refine Kd.C_drewN ?_ _) | (with_reducible refine Kd.C_drew ?_))); (case side2 => exact HC0_0.out); rintro e w19 ⟨rfl, hb⟩; refine ⟨_, rfl, ?_⟩; have n0_ := am_ (bb_ BK374.out hb); have n1_ := am_ (bb_ BK375.out hb); have n2_ := am_ (below_step (ue_ HB.out) hb); clear BK374 BK375 HB; have BK374 := n0_; have BK375 := n1_; have HB := n2_; clear n0_ n1_ n2_; (try clear hb); (try clear hb2); (try clear hk); (try clear hi)))
   go_meet
   case rel => exact ⟨_, (true), (by first | rfl | (simp; done) | (simp [*]; done)), H', ⟨by first | omega | exact Nat.le_refl _⟩, ⟨by (with_reducible repeat first|apply bn_|apply bd_|apply ba_); exact BK374.out⟩, ⟨by (with_reducible repeat first|apply bn_|apply bd_|apply ba_); exact BK375.out⟩, ⟨ue_ HB.out⟩⟩
 case rest =>
  clear HC3
  try clear c1
  try clear p2
  try clear c3
  try clear c7
  try clear c9
  try clear c10
  try clear c14
  try clear c17
  try clear hcz11_0
  try clear hcz11_1
  try clear hcz11_2
  try clear hcz13_0
  try clear hcz13_1
  try clear hcz13_2
  try clear hcz15_0
  try clear hcz15_1
  try clear hcz15_2
  try clear hcz18_0
  try clear hcz18_1
  try clear hcz18_2
  try clear hfz11_0
  try clear hfz11_1
  try clear hfz11_2
  try clear hfz13_0
  try clear hfz13_1
  try clear hfz13_2
  try clear hfz15_0
  try clear hfz15_1
  try clear hfz15_2
  try clear hfz18_0
  try clear hfz18_1
  try clear hfz18_2
  obtain ⟨kq, x20_2, rfl, HA, HJ2, BK374, BK375, HB⟩ := hcut
  cases kq with
  | zero => exact absurd HA.out (by simp [impl_GrowRing.j0])
  | succ kj2 =>
   have H := HA.out
   clear HA
   simp only [impl_GrowRing.j0] at H
   by_cases c20 : x20_2 = true
   ·
    subst c20
    have H1 : ((impl_ownRing.f l0_0 a0_1 a0_2).bind fun bt378 => (some (bt378.1, bt378.2.1, bt378.2.2, false))) = some (r1, r2, r3, r4) := by rw [if_pos rfl] at H; exact H
    clear H
    have H := H1
    clear H1
    replace H := Option.bind_eq_some_iff.mp H
    obtain ⟨⟨t378, t381, t382⟩, A210, H⟩ := H
    replace H : (some (t378, t381, t382, false)) = some (r1, r2, r3, r4) := H
    have A21 := Aside0.mk A210
    clear A210
    simp only [Option.some.injEq, Prod.mk.injEq] at H
    obtain ⟨rfl, rfl, rfl, rfl⟩ := H
    have hnb22 := NB374_375.out
    have hnc22 := NB375_374.out
    have hcz23_0 := cb_ BK374.out 0 rfl
    have hcz23_1 := cb_ BK374.out 1 rfl
    have hcz23_2 := cb_ BK374.out 2 rfl
    have hfz23_0 := blk_frozen BK374.out 0
    have hfz23_1 := blk_frozen BK374.out 1
    have hfz23_2 := blk_frozen BK374.out 2
    go_wp2_with (first | ((with_reducible refine gate_callee (f := 107) rfl ?_); refine goesL_ (some 22) rfl rfl Try.func107 (by kernel_rfl) rfl #[.agg #[.slice A0_0 l0_0.length c0_0, .int .i64 a0_1, .int .i64 a0_2]] rfl ul_ ?_; (with_reducible refine (impl_ownRing.calls _ _ l0_0 a0_1 a0_2 t378 t381 t382 _ ?side1 ?side2 A21.out).mono ?_); (case side1 => repeat (first | exact (Kd.C_below HR0_0.out HB.out) | (with_reducible refine Kd.C_alloc ?_ _) | (with_reducible refine Kd.C_drewN ?_ _) | (with_reducible refine Kd.C_drew ?_))); (case side2 => exact HC0_0.out); rintro e w24 ⟨v379, rfl, ho0, hb⟩; refine ⟨_, rfl, ?_⟩; have n0_ := am_ (Kd.R_lower ho0 (below_size (ue_ HB.out))); have n1_ := am_ (bb_ BK374.out hb); have n2_ := am_ (bb_ BK375.out hb); have n3_ := am_ (below_step (ue_ HB.out) hb); clear BK374 BK375 HB; have HO380 := n0_; have BK374 := n1_; have BK375 := n2_; have HB := n3_; clear n0_ n1_ n2_ n3_; (try clear hb); (try clear hb2); (try clear hk); (try clear hi); (try clear ho0); obtain ⟨Ao25, co25, eo25⟩ := Kd.R_slice HO380.out; subst eo25; obtain ⟨hcz26_0, hcz26_1, hcz26_2⟩ := cb3_ BK375.out; obtain ⟨hfz26_0, hfz26_1⟩ := bf2_ BK375.out; have hfz26_2 := blk_frozen BK375.out 2) | ((with_reducible refine gate_store (t := 24) (p := 4) rfl ?_); refine store_event (t := 24) (p := 4) (v := ?vo_w27) (w1 := (((w24.setCell ⟨gb375, 0, none⟩ (.slice Ao25 t378.length co25)).setCell ⟨gb375, 1, none⟩ (.int .i64 t381)).setCell ⟨gb375, 2, none⟩ (.int .i64 t382))) ?hg ?ho ?hn ?hr ?_; (case ho => rfl); (case hg => rfl); (case hn => rfl); (case hr => first | (go_simp; done) | (go_simp; rfl)); intro w27 hw; have n0_ : Aside0 (Kd.R (Kd.int .i64) 3 w27 w.heap.size (fun _ => True) (.slice Ao25 t378.length co25) t378) := ⟨(by rw [hw]; exact (by (with_reducible repeat (first | apply Kd.R_alloc | apply Kd.R_drewN | apply Kd.R_drew)); exact Kd.R_mono (Kd.R_far (p := ⟨gb375, 2, none⟩) (Kd.R_far (p := ⟨gb375, 1, none⟩) (Kd.R_far (p := ⟨gb375, 0, none⟩) (Kd.R_types HO380.out BK375.out (by decide)) (fun _ hk => by first | exact hk.2 | grind) (.slice Ao25 t378.length co25)) (fun _ hk => by first | exact hk.2 | grind) (.int .i64 t381)) (fun _ hk => by first | exact hk.2 | grind) (.int .i64 t382)) (fun _ hk => trivial)))⟩; have n1_ : Aside0 (w27.heap[gb374]? = some (.cells #[.slice A0_0 l0_0.length c0_0, .int .i64 a0_1, .int .i64 a0_2] 24 (0, 0))) := ⟨(by rw [hw]; exact (uf_ BK374.out))⟩; have n2_ : Aside0 (w27.heap[gb375]? = some (.cells #[.slice Ao25 t378.length co25, .int .i64 t381, .int .i64 t382] 24 (0, 0))) := ⟨(by rw [hw]; exact (by (with_reducible repeat first|apply bn_|apply bd_|apply ba_); refine blk_put (cs := #[.slice Ao25 t378.length co25, .int .i64 t381, .int .i64 0]) ?_ 2 _ rfl; refine blk_put (cs := #[.slice Ao25 t378.length co25, .int .i64 0, .int .i64 0]) ?_ 1 _ rfl; refine blk_put (cs := #[.slice none 0 0, .int .i64 0, .int .i64 0]) ?_ 0 _ rfl; (with_reducible repeat first|apply bn_|apply bd_|apply ba_); exact BK375.out))⟩; have n3_ : Aside0 (Below w.heap.size w w27) := ⟨(by rw [hw]; exact (ue_ HB.out))⟩; clear hw HO380 BK374 BK375 HB; have HO380 := n0_; have BK374 := n1_; have BK375 := n2_; have HB := n3_; clear n0_ n1_ n2_ n3_))
    refine bodyPost_ret (results_ct rfl _ _ gb375 24 #[.slice Ao25 t378.length co25, .int .i64 t381, .int .i64 t382] (0, 0) _ rfl (ub_ BK375.out) Try.underlying24 rfl (by kernel_rfl)) rfl ?_
    exact ⟨_, ew_, by (with_reducible repeat (first | apply Kd.R_alloc | apply Kd.R_drewN | apply Kd.R_drew)); exact HO380.out, ue_ HB.out⟩
   ·
    replace c20 := Bool.eq_false_iff.mpr c20
    subst c20
    have H1 : (if 0 ≤ a1 then (if (a1 : Int).toNat ≤ 35184372088832 then ((impl_ListRing.f kj2 l0_0 a0_1 a0_2).bind fun t387 => ((copyInts.f (List.replicate (a1 : Int).toNat 0) t387).bind fun bt390 => (some (bt390.2, 0, a0_2, true)))) else (none)) else (none)) = some (r1, r2, r3, r4) := by rw [if_neg (show ¬ (false = true) by decide)] at H; exact H
    clear H
    have H := H1
    clear H1
    by_cases c28 : 0 ≤ a1
    ·
     rw [if_pos c28] at H
     have c28b0 := eq_true c28
     have c28b1 : decide (0 ≤ a1) = true := decide_eq_true c28
     clear c28
     by_cases c29 : (a1 : Int).toNat ≤ 35184372088832
     ·
      rw [if_pos c29] at H
      have c29b0 := eq_true c29
      have c29b1 : decide ((a1 : Int).toNat ≤ 35184372088832) = true := decide_eq_true c29
      clear c29
      obtain ⟨y383, hy383⟩ : ∃ y_ : List Int, y_ = (List.replicate (a1 : Int).toNat 0) := ⟨_, rfl⟩
      replace H : ((impl_ListRing.f kj2 l0_0 a0_1 a0_2).bind fun t387 => ((copyInts.f y383 t387).bind fun bt390 => (some (bt390.2, 0, a0_2, true)))) = some (r1, r2, r3, r4) := by first | (rw [hy383]; with_reducible exact H) | (have H2_ := (Option.bind_some _ _).symm.trans H; rw [hy383]; with_reducible exact H2_) | (have H2_ := (Option.bind_some _ _).symm.trans H; with_reducible exact H2_) | with_reducible exact H | (rw [hy383]; exact H) | exact H
      have Ny383 := Aside0.mk hy383
      clear hy383
      replace H := Option.bind_eq_some_iff.mp H
      obtain ⟨t387, A300, H⟩ := H
      replace H : ((copyInts.f y383 t387).bind fun bt390 => (some (bt390.2, 0, a0_2, true))) = some (r1, r2, r3, r4) := H
      have A30 := Aside0.mk A300
      clear A300
      replace H := Option.bind_eq_some_iff.mp H
      obtain ⟨⟨t390, t391⟩, A310, H⟩ := H
      replace H : (some (t391, 0, a0_2, true)) = some (r1, r2, r3, r4) := H
      have A31 := Aside0.mk A310
      clear A310
      simp only [Option.some.injEq, Prod.mk.injEq] at H
      obtain ⟨rfl, rfl, rfl, rfl⟩ := H
      try go_wp2
      have n0_ := am_ (blk_drew BK374.out)
      have n1_ := am_ (blk_drew BK375.out)
      have n2_ := am_ (below_drew1 HB.out)
      clear BK374
      clear BK375
      clear HB
      have BK374 := n0_
      have BK375 := n1_
      have HB := n2_
      clear n0_ n1_ n2_
      refine start_ (n := 7) (S := fun w' => w'.cell? ⟨gb374, 0, none⟩ = some (.slice A0_0 l0_0.length c0_0) ∧ w'.cell? ⟨gb374, 1, none⟩ = some (.int .i64 a0_1) ∧ w'.cell? ⟨gb374, 2, none⟩ = some (.int .i64 a0_2)) (ds := []) #[false, false, false, false, false, false, false] (by kernel_rfl) rfl rfl ⟨(blk_cell BK374.out 0).trans rfl, (blk_cell BK374.out 1).trans rfl, (blk_cell BK374.out 2).trans rfl⟩ (fun hHeld => ?_)
      generalize wc.drew = w32 at BK374 BK375 HB hHeld ⊢
      refine pure_ (i := 0) (N := some 23) (v := ?_) (a' := ?_) #[true, false, false, false, false, false, false] rfl rfl (by kernel_rfl) (fun _ _ _ h => h) (Or.inl ⟨by rfl, ?_⟩) ?_ ?_
      rotate_left
      ·
       intro w'
       go_simp
       with_reducible rfl
      rotate_left
      ·
       simp only [Act.put, List.setIfInBounds_toArray, List.set_cons_zero, List.set_cons_succ, i64_w, i32_w]
       rfl
      refine pure_ (i := 2) (N := some 25) (v := ?_) (a' := ?_) #[true, false, true, false, false, false, false] rfl rfl (by kernel_rfl) (fun _ _ _ h => h) (Or.inl ⟨by rfl, ?_⟩) ?_ ?_
      rotate_left
      ·
       intro w'
       go_simp
       with_reducible rfl
      rotate_left
      ·
       simp only [Act.put, List.setIfInBounds_toArray, List.set_cons_zero, List.set_cons_succ, i64_w, i32_w]
       rfl
      refine take_ (i := 3) (N := some 26) (v := ?_) (a' := ?_) #[true, false, true, true, false, false, false] rfl rfl (by kernel_rfl) (fun _ _ _ h => h) (Or.inl ⟨by rfl, ?_⟩) hHeld ?_ ?_
      rotate_left
      ·
       rintro w' ⟨s0, s1, s2⟩
       go_simp
       with_reducible rfl
      rotate_left
      ·
       simp only [Act.put, List.setIfInBounds_toArray, List.set_cons_zero, List.set_cons_succ, i64_w, i32_w]
       rfl
      refine join_ (σ := Value × Nat) 1 #[true, true, true, true, true, true, false] (fun s_ => [(24, s_.1), (6, .pointer (some ⟨s_.2, 0, none⟩)), (27, .agg #[s_.1, .int .i64 0, .int .i64 a0_2])]) (fun s_ w' => (w'.cell? ⟨gb374, 0, none⟩ = some (.slice A0_0 l0_0.length c0_0) ∧ w'.cell? ⟨gb374, 1, none⟩ = some (.int .i64 a0_1) ∧ w'.cell? ⟨gb374, 2, none⟩ = some (.int .i64 a0_2)) ∧ (Kd.R (Kd.int .i64) 3 w' w.heap.size (fun _ => True) s_.1 y383) ∧ (w'.heap[gb374]? = some (.cells #[.slice A0_0 l0_0.length c0_0, .int .i64 a0_1, .int .i64 a0_2] 24 (0, 0))) ∧ (w'.heap[gb375]? = some (.cells #[.slice none 0 0, .int .i64 0, .int .i64 0] 24 (0, 0))) ∧ (w'.heap[s_.2]? = some (.cells #[.slice none 0 0, .int .i64 0, .int .i64 0] 24 (0, 0))) ∧ (w.heap.size ≤ s_.2) ∧ (w.heap.size ≤ s_.2) ∧ (gb374 ≠ s_.2) ∧ (s_.2 ≠ gb374) ∧ (gb375 ≠ s_.2) ∧ (s_.2 ≠ gb375) ∧ (Below w.heap.size w w')) ?_ ?_
      rotate_left
      ·
       intro hCont
       refine two_ (i := 1) (j := 5) (Ni := some 24) (Nj := some 6) #[true, true, true, true, false, false, false] #[true, false, true, true, false, true, false] rfl rfl rfl rfl (by kernel_rfl) (by decide) (by decide) (fun K hK => ?_) (fun K hK => ?_)
       ·
        skip
        refine Kd.R_make_step (Kd.int .i64) _ 3 (by rfl) (N := 24) rfl 22 _ _ rfl a1 rfl rfl Try.underlying22 (.int .i64 0) 8 info3 rfl (by decide) (by omega) 0 (ok := fun _ => True) (okp := fun _ => True) rfl (fun _ hk => hk) trivial (of_decide_eq_true ua_) (Nat.le_trans (Nat.mul_le_mul_right _ (of_decide_eq_true ua_ : a1.toNat ≤ 35184372088832)) (by omega)) (Below.refl _ _) (Nat.le_refl _) ?_
        intro v384 w33 ho34 hb hg_ hnew_
        clear hg_ hnew_
        (first | rw [← Ny383.out] at ho34 | (simp only [Int.reduceToNat] at ho34; rw [← Ny383.out] at ho34))
        have n0_ := am_ (Kd.R_lower ho34 (below_size (ue_ HB.out)))
        have n1_ := am_ (bb_ BK374.out hb)
        have n2_ := am_ (bb_ BK375.out hb)
        have n3_ := am_ (below_step (ue_ HB.out) hb)
        clear BK374
        clear BK375
        clear HB
        have HO385 := n0_
        have BK374 := n1_
        have BK375 := n2_
        have HB := n3_
        clear n0_ n1_ n2_ n3_
        clear hb ho34
        obtain ⟨Ao35, co35, eo35⟩ := Kd.R_slice HO385.out
        (first | subst eo35 | (injection eo35 with f1_ f2_ f3_; have f4_ := f1_.symm; have f5_ := f3_.symm; clear f1_ f2_ f3_; subst f4_; subst f5_))
        refine hK.out _ _ ⟨(blk_cell BK374.out 0).trans rfl, (blk_cell BK374.out 1).trans rfl, (blk_cell BK374.out 2).trans rfl⟩ (fun hHeld => ?_)
        clear hK K
        refine norm_ (a' := ?_) ?_ ?_
        rotate_left
        ·
         show Act.put _ (some 24) _ = _
         simp only [Act.put, List.setIfInBounds_toArray, List.set_cons_zero, List.set_cons_succ, i64_w, i32_w]
         rfl
        refine pure_ (i := 4) (N := some 27) (v := ?_) (a' := ?_) #[true, true, true, true, true, false, false] rfl rfl (by kernel_rfl) (fun _ _ _ h => h) (Or.inl ⟨by rfl, ?_⟩) ?_ ?_
        rotate_left
        ·
         intro w'
         go_simp
         with_reducible rfl
        rotate_left
        ·
         simp only [Act.put, List.setIfInBounds_toArray, List.set_cons_zero, List.set_cons_succ, i64_w, i32_w]
         rfl
        refine one_ (i := 5) (N := some 6) #[true, true, true, true, true, true, false] rfl rfl (by kernel_rfl) (by decide) (fun K hK => ?_)
        refine box_step ?hg (N := 6) ?hd (cs := #[.slice none 0 0, .int .i64 0, .int .i64 0]) (t := 24) ?hr ?_; (case hd => rfl); (case hg => rfl); (case hr => first | (go_simp; done) | (go_simp; rfl))
        intro gb386 hg w36 hbox hb
        have n0_ := am_ (Kd.R_below (ur_ HO385.out) hb)
        have n1_ := am_ (bb_ BK374.out hb)
        have n2_ := am_ (bb_ BK375.out hb)
        have n3_ := am_ (below_step (ue_ HB.out) hb)
        have n4_ := am_ (hbox)
        have n5_ := am_ ((by rw [hg]; exact (below_size (ue_ HB.out)) : w.heap.size ≤ gb386))
        have n6_ := am_ ((by rw [hg]; exact (below_size (ue_ HB.out)) : w.heap.size ≤ gb386))
        have n7_ := am_ ((by rw [hg]; exact Nat.ne_of_lt (bl_ BK374.out) : gb374 ≠ gb386))
        have n8_ := am_ ((by rw [hg]; exact Nat.ne_of_gt (bl_ BK374.out) : gb386 ≠ gb374))
        have n9_ := am_ ((by rw [hg]; exact Nat.ne_of_lt (bl_ BK375.out) : gb375 ≠ gb386))
        have n10_ := am_ ((by rw [hg]; exact Nat.ne_of_gt (bl_ BK375.out) : gb386 ≠ gb375))
        clear HO385
        clear BK374
        clear BK375
        clear HB
        have HO385 := n0_
        have BK374 := n1_
        have BK375 := n2_
        have HB := n3_
        have BK386 := n4_
        have GW386 := n5_
        have GE386 := n6_
        have NB374_386 := n7_
        have NB386_374 := n8_
        have NB375_386 := n9_
        have NB386_375 := n10_
        clear n0_ n1_ n2_ n3_ n4_ n5_ n6_ n7_ n8_ n9_ n10_
        clear hb hbox hg
        refine hK.out _ _ ⟨(blk_cell BK374.out 0).trans rfl, (blk_cell BK374.out 1).trans rfl, (blk_cell BK374.out 2).trans rfl⟩ (fun hHeld => ?_)
        clear hK K
        refine norm_ (a' := ?_) ?_ ?_
        rotate_left
        ·
         show Act.put _ (some 6) _ = _
         simp only [Act.put, List.setIfInBounds_toArray, List.set_cons_zero, List.set_cons_succ, i64_w, i32_w]
         rfl
        exact norm_ (by simp only [putAll, Act.put, List.setIfInBounds_toArray, List.set_cons_zero, List.set_cons_succ]) (hCont (.slice Ao35 y383.length co35, gb386) _ ⟨hHeld, (ur_ HO385.out), (ub_ BK374.out), (ub_ BK375.out), (ub_ BK386.out), GW386.out, GE386.out, NB374_386.out, NB386_374.out, NB375_386.out, NB386_375.out, (ue_ HB.out)⟩)
       ·
        skip
        refine box_step ?hg (N := 6) ?hd (cs := #[.slice none 0 0, .int .i64 0, .int .i64 0]) (t := 24) ?hr ?_; (case hd => rfl); (case hg => rfl); (case hr => first | (go_simp; done) | (go_simp; rfl))
        intro gb386 hg w33 hbox hb
        have n0_ := am_ (bb_ BK374.out hb)
        have n1_ := am_ (bb_ BK375.out hb)
        have n2_ := am_ (below_step (ue_ HB.out) hb)
        have n3_ := am_ (hbox)
        have n4_ := am_ ((by rw [hg]; exact (below_size (ue_ HB.out)) : w.heap.size ≤ gb386))
        have n5_ := am_ ((by rw [hg]; exact (below_size (ue_ HB.out)) : w.heap.size ≤ gb386))
        have n6_ := am_ ((by rw [hg]; exact Nat.ne_of_lt (bl_ BK374.out) : gb374 ≠ gb386))
        have n7_ := am_ ((by rw [hg]; exact Nat.ne_of_gt (bl_ BK374.out) : gb386 ≠ gb374))
        have n8_ := am_ ((by rw [hg]; exact Nat.ne_of_lt (bl_ BK375.out) : gb375 ≠ gb386))
        have n9_ := am_ ((by rw [hg]; exact Nat.ne_of_gt (bl_ BK375.out) : gb386 ≠ gb375))
        clear BK374
        clear BK375
        clear HB
        have BK374 := n0_
        have BK375 := n1_
        have HB := n2_
        have BK386 := n3_
        have GW386 := n4_
        have GE386 := n5_
        have NB374_386 := n6_
        have NB386_374 := n7_
        have NB375_386 := n8_
        have NB386_375 := n9_
        clear n0_ n1_ n2_ n3_ n4_ n5_ n6_ n7_ n8_ n9_
        clear hb hbox hg
        refine hK.out _ _ ⟨(blk_cell BK374.out 0).trans rfl, (blk_cell BK374.out 1).trans rfl, (blk_cell BK374.out 2).trans rfl⟩ (fun hHeld => ?_)
        clear hK K
        refine norm_ (a' := ?_) ?_ ?_
        rotate_left
        ·
         show Act.put _ (some 6) _ = _
         simp only [Act.put, List.setIfInBounds_toArray, List.set_cons_zero, List.set_cons_succ, i64_w, i32_w]
         rfl
        refine one_ (i := 1) (N := some 24) #[true, true, true, true, false, true, false] rfl rfl (by kernel_rfl) (by decide) (fun K hK => ?_)
        refine Kd.R_make_step (Kd.int .i64) _ 3 (by rfl) (N := 24) rfl 22 _ _ rfl a1 rfl rfl Try.underlying22 (.int .i64 0) 8 info3 rfl (by decide) (by omega) 0 (ok := fun _ => True) (okp := fun _ => True) rfl (fun _ hk => hk) trivial (of_decide_eq_true ua_) (Nat.le_trans (Nat.mul_le_mul_right _ (of_decide_eq_true ua_ : a1.toNat ≤ 35184372088832)) (by omega)) (Below.refl _ _) (Nat.le_refl _) ?_
        intro v384 w34 ho35 hb hg_ hnew_
        clear hg_ hnew_
        (first | rw [← Ny383.out] at ho35 | (simp only [Int.reduceToNat] at ho35; rw [← Ny383.out] at ho35))
        have n0_ := am_ (Kd.R_lower ho35 (below_size (ue_ HB.out)))
        have n1_ := am_ (bb_ BK374.out hb)
        have n2_ := am_ (bb_ BK375.out hb)
        have n3_ := am_ (bb_ BK386.out hb)
        have n4_ := am_ (below_step (ue_ HB.out) hb)
        clear BK374
        clear BK375
        clear BK386
        clear HB
        have HO385 := n0_
        have BK374 := n1_
        have BK375 := n2_
        have BK386 := n3_
        have HB := n4_
        clear n0_ n1_ n2_ n3_ n4_
        clear hb ho35
        obtain ⟨Ao36, co36, eo36⟩ := Kd.R_slice HO385.out
        (first | subst eo36 | (injection eo36 with f1_ f2_ f3_; have f4_ := f1_.symm; have f5_ := f3_.symm; clear f1_ f2_ f3_; subst f4_; subst f5_))
        refine hK.out _ _ ⟨(blk_cell BK374.out 0).trans rfl, (blk_cell BK374.out 1).trans rfl, (blk_cell BK374.out 2).trans rfl⟩ (fun hHeld => ?_)
        clear hK K
        refine norm_ (a' := ?_) ?_ ?_
        rotate_left
        ·
         show Act.put _ (some 24) _ = _
         simp only [Act.put, List.setIfInBounds_toArray, List.set_cons_zero, List.set_cons_succ, i64_w, i32_w]
         rfl
        refine pure_ (i := 4) (N := some 27) (v := ?_) (a' := ?_) #[true, true, true, true, true, true, false] rfl rfl (by kernel_rfl) (fun _ _ _ h => h) (Or.inl ⟨by rfl, ?_⟩) ?_ ?_
        rotate_left
        ·
         intro w'
         go_simp
         with_reducible rfl
        rotate_left
        ·
         simp only [Act.put, List.setIfInBounds_toArray, List.set_cons_zero, List.set_cons_succ, i64_w, i32_w]
         rfl
        exact norm_ (by simp only [putAll, Act.put, List.setIfInBounds_toArray, List.set_cons_zero, List.set_cons_succ]) (hCont (.slice Ao36 y383.length co36, gb386) _ ⟨hHeld, (ur_ HO385.out), (ub_ BK374.out), (ub_ BK375.out), (ub_ BK386.out), GW386.out, GE386.out, NB374_386.out, NB386_374.out, NB375_386.out, NB386_375.out, (ue_ HB.out)⟩)
      rintro ⟨v384, gb386⟩ w37 ⟨hS_, h0_, h1_, h2_, h3_, h4_, h5_, h6_, h7_, h8_, h9_, h10_⟩
      have n0_ : Aside0 (Kd.R (Kd.int .i64) 3 w37 w.heap.size (fun _ => True) v384 y383) := ⟨h0_⟩
      have n1_ : Aside0 (w37.heap[gb374]? = some (.cells #[.slice A0_0 l0_0.length c0_0, .int .i64 a0_1, .int .i64 a0_2] 24 (0, 0))) := ⟨h1_⟩
      have n2_ : Aside0 (w37.heap[gb375]? = some (.cells #[.slice none 0 0, .int .i64 0, .int .i64 0] 24 (0, 0))) := ⟨h2_⟩
      have n3_ : Aside0 (w37.heap[gb386]? = some (.cells #[.slice none 0 0, .int .i64 0, .int .i64 0] 24 (0, 0))) := ⟨h3_⟩
      have n4_ : Aside0 (w.heap.size ≤ gb386) := ⟨h4_⟩
      have n5_ : Aside0 (w.heap.size ≤ gb386) := ⟨h5_⟩
      have n6_ : Aside0 (gb374 ≠ gb386) := ⟨h6_⟩
      have n7_ : Aside0 (gb386 ≠ gb374) := ⟨h7_⟩
      have n8_ : Aside0 (gb375 ≠ gb386) := ⟨h8_⟩
      have n9_ : Aside0 (gb386 ≠ gb375) := ⟨h9_⟩
      have n10_ : Aside0 (Below w.heap.size w w37) := ⟨h10_⟩
      clear BK374
      clear BK375
      clear HB
      clear h0_ h1_ h2_ h3_ h4_ h5_ h6_ h7_ h8_ h9_ h10_
      have HO385 := n0_
      have BK374 := n1_
      have BK375 := n2_
      have BK386 := n3_
      have GW386 := n4_
      have GE386 := n5_
      have NB374_386 := n6_
      have NB386_374 := n7_
      have NB375_386 := n8_
      have NB386_375 := n9_
      have HB := n10_
      clear n0_ n1_ n2_ n3_ n4_ n5_ n6_ n7_ n8_ n9_ n10_
      have hHeld : w37.cell? ⟨gb374, 0, none⟩ = some (.slice A0_0 l0_0.length c0_0) ∧ w37.cell? ⟨gb374, 1, none⟩ = some (.int .i64 a0_1) ∧ w37.cell? ⟨gb374, 2, none⟩ = some (.int .i64 a0_2) := hS_
      obtain ⟨Ao38, co38, eo38⟩ := Kd.R_slice HO385.out
      (first | subst eo38 | (injection eo38 with f1_ f2_ f3_; have f4_ := f1_.symm; have f5_ := f3_.symm; clear f1_ f2_ f3_; subst f4_; subst f5_))
      refine norm_ (a' := ?_) ?_ ?_
      rotate_left
      ·
       simp only [putAll, Act.put, List.setIfInBounds_toArray, List.set_cons_zero, List.set_cons_succ]
       rfl
      refine one_ (i := 6) (N := none) #[true, true, true, true, true, true, true] rfl rfl (by kernel_rfl) (by decide) (fun K hK => ?_)
      have hs39 := cb_ BK386.out 0 rfl
      have hfs39 := blk_frozen BK386.out 0
      have hns39_0 := NB374_386.out
      have hns39_1 := NB375_386.out
      have hms39_0 := NB386_374.out
      have hms39_1 := NB386_375.out
      have hs40 := cb_ BK386.out 1 rfl
      have hfs40 := blk_frozen BK386.out 1
      have hns40_0 := NB374_386.out
      have hns40_1 := NB375_386.out
      have hms40_0 := NB386_374.out
      have hms40_1 := NB386_375.out
      have hs41 := cb_ BK386.out 2 rfl
      have hfs41 := blk_frozen BK386.out 2
      have hns41_0 := NB374_386.out
      have hns41_1 := NB375_386.out
      have hms41_0 := NB386_374.out
      have hms41_1 := NB386_375.out
      refine skip_ (w1 := ?_) (by rfl) rfl ?_ ?_
      rotate_left
      ·
       go_simp
       rfl
      refine hK.out _ _ ⟨((cell_far (p := ⟨gb386, _, none⟩) NB374_386.out _).trans (((cell_far (p := ⟨gb386, _, none⟩) NB374_386.out _).trans (((cell_far (p := ⟨gb386, _, none⟩) NB374_386.out _).trans (hHeld.1)))))), ((cell_far (p := ⟨gb386, _, none⟩) NB374_386.out _).trans (((cell_far (p := ⟨gb386, _, none⟩) NB374_386.out _).trans (((cell_far (p := ⟨gb386, _, none⟩) NB374_386.out _).trans (hHeld.2.1)))))), ((cell_far (p := ⟨gb386, _, none⟩) NB374_386.out _).trans (((cell_far (p := ⟨gb386, _, none⟩) NB374_386.out _).trans (((cell_far (p := ⟨gb386, _, none⟩) NB374_386.out _).trans (hHeld.2.2))))))⟩ (fun hHeld => ?_)
      clear hK K
      refine done_ (by kernel_rfl) ?_
      try go_wp2
      have n0_ : Aside0 (Kd.R (Kd.int .i64) 3 (((w37.setCell ⟨gb386, 0, none⟩ (.slice Ao38 y383.length co38)).setCell ⟨gb386, 1, none⟩ (.int .i64 0)).setCell ⟨gb386, 2, none⟩ (.int .i64 a0_2)) w.heap.size (fun _ => True) (.slice Ao38 y383.length co38) y383) := ⟨by (with_reducible repeat (first | apply Kd.R_alloc | apply Kd.R_drewN | apply Kd.R_drew)); exact Kd.R_mono (Kd.R_far (p := ⟨gb386, 2, none⟩) (Kd.R_far (p := ⟨gb386, 1, none⟩) (Kd.R_far (p := ⟨gb386, 0, none⟩) (Kd.R_types HO385.out BK386.out (by decide)) (fun _ hk => by first | exact hk.2 | grind) (.slice Ao38 y383.length co38)) (fun _ hk => by first | exact hk.2 | grind) (.int .i64 0)) (fun _ hk => by first | exact hk.2 | grind) (.int .i64 a0_2)) (fun _ hk => trivial)⟩
      have n1_ : Aside0 ((((w37.setCell ⟨gb386, 0, none⟩ (.slice Ao38 y383.length co38)).setCell ⟨gb386, 1, none⟩ (.int .i64 0)).setCell ⟨gb386, 2, none⟩ (.int .i64 a0_2)).heap[gb374]? = some (.cells #[.slice A0_0 l0_0.length c0_0, .int .i64 a0_1, .int .i64 a0_2] 24 (0, 0))) := ⟨by (with_reducible repeat first|apply bn_|apply bd_|apply ba_); refine blk_far ?_ NB374_386.out _; refine blk_far ?_ NB374_386.out _; refine blk_far ?_ NB374_386.out _; (with_reducible repeat first|apply bn_|apply bd_|apply ba_); exact BK374.out⟩
      have n2_ : Aside0 ((((w37.setCell ⟨gb386, 0, none⟩ (.slice Ao38 y383.length co38)).setCell ⟨gb386, 1, none⟩ (.int .i64 0)).setCell ⟨gb386, 2, none⟩ (.int .i64 a0_2)).heap[gb375]? = some (.cells #[.slice none 0 0, .int .i64 0, .int .i64 0] 24 (0, 0))) := ⟨by (with_reducible repeat first|apply bn_|apply bd_|apply ba_); refine blk_far ?_ NB375_386.out _; refine blk_far ?_ NB375_386.out _; refine blk_far ?_ NB375_386.out _; (with_reducible repeat first|apply bn_|apply bd_|apply ba_); exact BK375.out⟩
      have n3_ : Aside0 ((((w37.setCell ⟨gb386, 0, none⟩ (.slice Ao38 y383.length co38)).setCell ⟨gb386, 1, none⟩ (.int .i64 0)).setCell ⟨gb386, 2, none⟩ (.int .i64 a0_2)).heap[gb386]? = some (.cells #[.slice Ao38 y383.length co38, .int .i64 0, .int .i64 a0_2] 24 (0, 0))) := ⟨by (with_reducible repeat first|apply bn_|apply bd_|apply ba_); refine blk_put (cs := #[.slice Ao38 y383.length co38, .int .i64 0, .int .i64 0]) ?_ 2 _ rfl; refine blk_put (cs := #[.slice Ao38 y383.length co38, .int .i64 0, .int .i64 0]) ?_ 1 _ rfl; refine blk_put (cs := #[.slice none 0 0, .int .i64 0, .int .i64 0]) ?_ 0 _ rfl; (with_reducible repeat first|apply bn_|apply bd_|apply ba_); exact BK386.out⟩
      have n4_ : Aside0 (Below w.heap.size w (((w37.setCell ⟨gb386, 0, none⟩ (.slice Ao38 y383.length co38)).setCell ⟨gb386, 1, none⟩ (.int .i64 0)).setCell ⟨gb386, 2, none⟩ (.int .i64 a0_2))) := ⟨ue_ HB.out⟩
      (try clear HO385)
      (try clear BK374)
      (try clear BK375)
      (try clear BK386)
      (try clear HB)
      generalize (((w37.setCell ⟨gb386, 0, none⟩ (.slice Ao38 y383.length co38)).setCell ⟨gb386, 1, none⟩ (.int .i64 0)).setCell ⟨gb386, 2, none⟩ (.int .i64 a0_2)) = w42 at n0_ n1_ n2_ n3_ n4_ ⊢
      have HO385 := n0_
      have BK374 := n1_
      have BK375 := n2_
      have BK386 := n3_
      have HB := n4_
      clear n0_ n1_ n2_ n3_ n4_
      have n0_ := am_ (Kd.R_drew HO385.out)
      have n1_ := am_ (blk_drew BK374.out)
      have n2_ := am_ (blk_drew BK375.out)
      have n3_ := am_ (blk_drew BK386.out)
      have n4_ := am_ (below_drew1 HB.out)
      clear HO385
      clear BK374
      clear BK375
      clear BK386
      clear HB
      have HO385 := n0_
      have BK374 := n1_
      have BK375 := n2_
      have BK386 := n3_
      have HB := n4_
      clear n0_ n1_ n2_ n3_ n4_
      refine start_ (n := 5) (S := fun w' => w'.cell? ⟨gb386, 0, none⟩ = some (.slice Ao38 y383.length co38) ∧ w'.cell? ⟨gb386, 1, none⟩ = some (.int .i64 0) ∧ w'.cell? ⟨gb386, 2, none⟩ = some (.int .i64 a0_2) ∧ w'.cell? ⟨gb374, 0, none⟩ = some (.slice A0_0 l0_0.length c0_0) ∧ w'.cell? ⟨gb374, 1, none⟩ = some (.int .i64 a0_1) ∧ w'.cell? ⟨gb374, 2, none⟩ = some (.int .i64 a0_2)) (ds := []) #[false, false, false, false, false] (by kernel_rfl) rfl rfl ⟨(blk_cell BK386.out 0).trans rfl, (blk_cell BK386.out 1).trans rfl, (blk_cell BK386.out 2).trans rfl, (blk_cell BK374.out 0).trans rfl, (blk_cell BK374.out 1).trans rfl, (blk_cell BK374.out 2).trans rfl⟩ (fun hHeld => ?_)
      generalize w42.drew = w43 at HO385 BK374 BK375 BK386 HB hHeld ⊢
      refine pure_ (i := 0) (N := some 28) (v := ?_) (a' := ?_) #[true, false, false, false, false] rfl rfl (by kernel_rfl) (fun _ _ _ h => h) (Or.inl ⟨by rfl, ?_⟩) ?_ ?_
      rotate_left
      ·
       intro w'
       go_simp
       with_reducible rfl
      rotate_left
      ·
       simp only [Act.put, List.setIfInBounds_toArray, List.set_cons_zero, List.set_cons_succ, i64_w, i32_w]
       rfl
      refine take_ (i := 1) (N := some 29) (v := ?_) (a' := ?_) #[true, true, false, false, false] rfl rfl (by kernel_rfl) (fun _ _ _ h => h) (Or.inl ⟨by rfl, ?_⟩) hHeld ?_ ?_
      rotate_left
      ·
       rintro w' ⟨s0, s1, s2, s3, s4, s5⟩
       go_simp
       with_reducible rfl
      rotate_left
      ·
       simp only [Act.put, List.setIfInBounds_toArray, List.set_cons_zero, List.set_cons_succ, i64_w, i32_w]
       rfl
      refine take_ (i := 2) (N := some 30) (v := ?_) (a' := ?_) #[true, true, true, false, false] rfl rfl (by kernel_rfl) (fun _ _ _ h => h) (Or.inl ⟨by rfl, ?_⟩) hHeld ?_ ?_
      rotate_left
      ·
       rintro w' ⟨s0, s1, s2, s3, s4, s5⟩
       go_simp
       with_reducible rfl
      rotate_left
      ·
       simp only [Act.put, List.setIfInBounds_toArray, List.set_cons_zero, List.set_cons_succ, i64_w, i32_w]
       rfl
      refine one_ (i := 3) (N := some 31) #[true, true, true, true, false] rfl rfl (by kernel_rfl) (by decide) (fun K hK => ?_)
      refine goes_ Try.func35 (by kernel_rfl) rfl #[.agg #[.slice A0_0 l0_0.length c0_0, .int .i64 a0_1, .int .i64 a0_2]] (by rfl) rfl rfl ul_ ?_
      with_reducible refine (impl_ListRing.calls kj2 _ _ l0_0 a0_1 a0_2 t387 _ ?side1 ?side2 A30.out).mono ?_
      (case side1 => repeat (first | exact (Kd.C_below HR0_0.out HB.out) | (with_reducible refine Kd.C_alloc ?_ _) | (with_reducible refine Kd.C_drewN ?_ _) | (with_reducible refine Kd.C_drew ?_)))
      (case side2 => exact HC0_0.out)
      rintro e w44 ⟨v388, rfl, ho0, hb⟩
      refine ⟨_, rfl, ?_⟩
      have n0_ := am_ (Kd.R_elder' (ur_ HO385.out) (Kd.R_base ho0) hb)
      have n1_ := am_ (Kd.R_lower (Kd.R_new' ho0 (Kd.R_lt (ur_ HO385.out))) (below_size (ue_ HB.out)))
      have n2_ := am_ (bb_ BK374.out hb)
      have n3_ := am_ (bb_ BK375.out hb)
      have n4_ := am_ (bb_ BK386.out hb)
      have n5_ := am_ (below_step (ue_ HB.out) hb)
      clear HO385
      clear BK374
      clear BK375
      clear BK386
      clear HB
      have HO385 := n0_
      have HO389 := n1_
      have BK374 := n2_
      have BK375 := n3_
      have BK386 := n4_
      have HB := n5_
      clear n0_ n1_ n2_ n3_ n4_ n5_
      (try clear hb)
      (try clear hb2)
      (try clear hk)
      (try clear hi)
      (try clear ho0)
      obtain ⟨Ao45, co45, eo45⟩ := Kd.R_slice HO389.out
      (first | subst eo45 | (injection eo45 with f1_ f2_ f3_; have f4_ := f1_.symm; have f5_ := f3_.symm; clear f1_ f2_ f3_; subst f4_; subst f5_))
      refine hK.out _ _ ⟨(blk_cell BK386.out 0).trans rfl, (blk_cell BK386.out 1).trans rfl, (blk_cell BK386.out 2).trans rfl, (blk_cell BK374.out 0).trans rfl, (blk_cell BK374.out 1).trans rfl, (blk_cell BK374.out 2).trans rfl⟩ (fun hHeld => ?_)
      clear hK K
      refine norm_ (a' := ?_) ?_ ?_
      rotate_left
      ·
       show Act.put _ (some 31) _ = _
       simp only [Act.put, List.setIfInBounds_toArray, List.set_cons_zero, List.set_cons_succ, i64_w, i32_w]
       rfl
      refine one_ (i := 4) (N := some 32) #[true, true, true, true, true] rfl rfl (by kernel_rfl) (by decide) (fun K hK => ?_)
      refine copyC_ (.slice Ao38 y383.length co38) (.slice Ao45 t387.length co45) (by rfl) rfl rfl (by rfl) (by rfl) ?_
      with_reducible refine (copyInts.calls (P := Try.prog) (t := 22) Try.underlying22 (by kernel_rfl) (fun k_ => some k_ = (.slice Ao38 y383.length co38 : Value).ownBlock) (.slice Ao38 y383.length co38) y383 _ _ t387 t390 t391 w _ ?side1 ?side2 ?side3 ?side4 A31.out).mono ?_
      (case side1 => repeat (first | (with_reducible first | exact HB.out | apply below_alloc | apply pw_below_drewN | apply below_drew1 | refine below_set ?_ GE374.out | refine below_set ?_ GE375.out | refine below_set ?_ GE386.out) | exact HB.out))
      (case side2 => exact Kd.R_tight rfl HO385.out)
      (case side3 => exact Kd.C_kept_own (HO389.out) (fun k_ hk_ hs_ => by first | exact (hk_.2) hs_ | grind))
      (case side4 => exact (Kd.R_reads' HO389.out).2.1)
      rintro e w46 ⟨rfl, hy0, hb, hkp⟩
      refine ⟨_, rfl, ?_⟩
      have n0_ := am_ (blk_kept (g := gb374) (o := .cells #[.slice A0_0 l0_0.length c0_0, .int .i64 a0_1, .int .i64 a0_2] 24 (0, 0)) (ub_ BK374.out) hkp (fun hs_ => (fun e_ => (Kd.R_ne HO385.out BK374.out (by decide)) e_) hs_))
      have n1_ := am_ (blk_kept (g := gb375) (o := .cells #[.slice none 0 0, .int .i64 0, .int .i64 0] 24 (0, 0)) (ub_ BK375.out) hkp (fun hs_ => (fun e_ => (Kd.R_ne HO385.out BK375.out (by decide)) e_) hs_))
      have n2_ := am_ (Kd.R_reok rfl hy0 (fun k_ e_ => HO385.out.1 k_ e_))
      have n3_ := am_ (blk_kept (g := gb386) (o := .cells #[.slice Ao38 y383.length co38, .int .i64 0, .int .i64 a0_2] 24 (0, 0)) (ub_ BK386.out) hkp (fun hs_ => (fun e_ => (Kd.R_ne HO385.out BK386.out (by decide)) e_) hs_))
      have n4_ := am_ (Kd.R_mono (ok' := fun k_ => some k_ ≠ (.slice Ao38 y383.length co38 : Value).ownBlock) (Kd.R_keptB (HO389.out) hkp (fun k_ hk_ hs_ => by first | exact (hk_.2) hs_ | grind)) (fun k_ hk_ => hk_.1.2))
      have n5_ := am_ (hb)
      clear BK374
      clear BK375
      clear HO385
      clear BK386
      clear HO389
      clear HB
      have BK374 := n0_
      have BK375 := n1_
      have HO385 := n2_
      have BK386 := n3_
      have HO389 := n4_
      have HB := n5_
      clear n0_ n1_ n2_ n3_ n4_ n5_
      (try clear hb)
      (try clear hkp)
      (try clear hy0)
      refine hK.out _ _ ⟨(blk_cell BK386.out 0).trans rfl, (blk_cell BK386.out 1).trans rfl, (blk_cell BK386.out 2).trans rfl, (blk_cell BK374.out 0).trans rfl, (blk_cell BK374.out 1).trans rfl, (blk_cell BK374.out 2).trans rfl⟩ (fun hHeld => ?_)
      clear hK K
      refine norm_ (a' := ?_) ?_ ?_
      rotate_left
      ·
       show Act.put _ (some 32) _ = _
       simp only [Act.put, List.setIfInBounds_toArray, List.set_cons_zero, List.set_cons_succ, i64_w, i32_w]
       rfl
      refine done_ (by kernel_rfl) ?_
      have hnb47 := NB386_374.out
      have hnc47 := NB374_386.out
      have hnb48 := NB386_375.out
      have hnc48 := NB375_386.out
      have hcz49_0 := cb_ BK386.out 0 rfl
      have hcz49_1 := cb_ BK386.out 1 rfl
      have hcz49_2 := cb_ BK386.out 2 rfl
      have hfz49_0 := blk_frozen BK386.out 0
      have hfz49_1 := blk_frozen BK386.out 1
      have hfz49_2 := blk_frozen BK386.out 2
      have hnb50 := NB375_374.out
      have hnc50 := NB374_375.out
      have hcz51_0 := cb_ BK375.out 0 rfl
      have hcz51_1 := cb_ BK375.out 1 rfl
      have hcz51_2 := cb_ BK375.out 2 rfl
      have hfz51_0 := blk_frozen BK375.out 0
      have hfz51_1 := blk_frozen BK375.out 1
      have hfz51_2 := blk_frozen BK375.out 2
      try go_wp2_with (first | ((with_reducible refine gate_store (t := 24) (p := 4) rfl ?_); refine store_event (t := 24) (p := 4) (v := ?vo_w52) (w1 := (((w46.setCell ⟨gb375, 0, none⟩ (.slice Ao38 y383.length co38)).setCell ⟨gb375, 1, none⟩ (.int .i64 0)).setCell ⟨gb375, 2, none⟩ (.int .i64 a0_2))) ?hg ?ho ?hn ?hr ?_; (case ho => rfl); (case hg => rfl); (case hn => rfl); (case hr => first | (go_simp; done) | (go_simp; rfl)); intro w52 hw; have n0_ : Aside0 (Kd.R (Kd.int .i64) 3 w52 w.heap.size (fun k_ => some k_ ≠ (.slice Ao45 t387.length co45 : Value).ownBlock) (.slice Ao38 y383.length co38) t391) := ⟨(by rw [hw]; exact (by (with_reducible repeat (first | apply Kd.R_alloc | apply Kd.R_drewN | apply Kd.R_drew)); exact Kd.R_mono (Kd.R_far (p := ⟨gb375, 2, none⟩) (Kd.R_far (p := ⟨gb375, 1, none⟩) (Kd.R_far (p := ⟨gb375, 0, none⟩) (Kd.R_types HO385.out BK375.out (by decide)) (fun _ hk => by first | exact hk.2 | grind) (.slice Ao38 y383.length co38)) (fun _ hk => by first | exact hk.2 | grind) (.int .i64 0)) (fun _ hk => by first | exact hk.2 | grind) (.int .i64 a0_2)) (fun _ hk => by first | exact hk.1.2 | grind)))⟩; have n1_ : Aside0 (Kd.R (Kd.int .i64) 3 w52 w.heap.size (fun k_ => some k_ ≠ (.slice Ao38 y383.length co38 : Value).ownBlock) (.slice Ao45 t387.length co45) t387) := ⟨(by rw [hw]; exact (by (with_reducible repeat (first | apply Kd.R_alloc | apply Kd.R_drewN | apply Kd.R_drew)); exact Kd.R_mono (Kd.R_far (p := ⟨gb375, 2, none⟩) (Kd.R_far (p := ⟨gb375, 1, none⟩) (Kd.R_far (p := ⟨gb375, 0, none⟩) (Kd.R_types HO389.out BK375.out (by decide)) (fun _ hk => by first | exact hk.2 | grind) (.slice Ao38 y383.length co38)) (fun _ hk => by first | exact hk.2 | grind) (.int .i64 0)) (fun _ hk => by first | exact hk.2 | grind) (.int .i64 a0_2)) (fun _ hk => by first | exact hk.1 | grind)))⟩; have n2_ : Aside0 (w52.heap[gb374]? = some (.cells #[.slice A0_0 l0_0.length c0_0, .int .i64 a0_1, .int .i64 a0_2] 24 (0, 0))) := ⟨(by rw [hw]; exact (uf_ BK374.out))⟩; have n3_ : Aside0 (w52.heap[gb375]? = some (.cells #[.slice Ao38 y383.length co38, .int .i64 0, .int .i64 a0_2] 24 (0, 0))) := ⟨(by rw [hw]; exact (by (with_reducible repeat first|apply bn_|apply bd_|apply ba_); refine blk_put (cs := #[.slice Ao38 y383.length co38, .int .i64 0, .int .i64 0]) ?_ 2 _ rfl; refine blk_put (cs := #[.slice Ao38 y383.length co38, .int .i64 0, .int .i64 0]) ?_ 1 _ rfl; refine blk_put (cs := #[.slice none 0 0, .int .i64 0, .int .i64 0]) ?_ 0 _ rfl; (with_reducible repeat first|apply bn_|apply bd_|apply ba_); exact BK375.out))⟩; have n4_ : Aside0 (w52.heap[gb386]? = some (.cells #[.slice Ao38 y383.length co38, .int .i64 0, .int .i64 a0_2] 24 (0, 0))) := ⟨(by rw [hw]; exact (uf_ BK386.out))⟩; have n5_ : Aside0 (Below w.heap.size w w52) := ⟨(by rw [hw]; exact (ue_ HB.out))⟩; clear hw HO385 HO389 BK374 BK375 BK386 HB; have HO385 := n0_; have HO389 := n1_; have BK374 := n2_; have BK375 := n3_; have BK386 := n4_; have HB := n5_; clear n0_ n1_ n2_ n3_ n4_ n5_))
      refine bodyPost_ret (results_ct rfl _ _ gb375 24 #[.slice Ao38 y383.length co38, .int .i64 0, .int .i64 a0_2] (0, 0) _ rfl (ub_ BK375.out) Try.underlying24 rfl (by kernel_rfl)) rfl ?_
      exact ⟨_, ew_, by (with_reducible repeat (first | apply Kd.R_alloc | apply Kd.R_drewN | apply Kd.R_drew)); exact Kd.R_mono HO385.out (fun _ hk => trivial), ue_ HB.out⟩
     ·
      rw [if_neg c29] at H
      exact absurd H (by simp)
    ·
     rw [if_neg c28] at H
     exact absurd H (by simp)

/-! ### impl_LinkOk: function 36 -/
def impl_LinkOk.f (k : Nat) (l0_0 : List Int) (a0_1 : Int) (a0_2 : Int) (a1_0 : Int) (a1_1 : Int) : Option (Bool) := (impl_RingOk.f k l0_0 a0_1 a0_2).bind fun t394 => (if t394 = true then ((impl_creditOk.f a1_0 a1_1).bind fun t395 => (if t395 = true then (if a1_1 = a0_2 then (some ((wrap64 (a1_0 + a1_1)) == (l0_0.length : Int))) else (some false)) else (some false))) else (some false))
theorem impl_LinkOk.mono : ∀ a0 a1 a2 a3 a4 k, LeO (impl_LinkOk.f k a0 a1 a2 a3 a4) (impl_LinkOk.f (k + 1) a0 a1 a2 a3 a4) := by
 intro a0 a1 a2 a3 a4 k
 unfold impl_LinkOk.f
 repeat' first
   | (with_reducible exact impl_RingOk.mono _ _ _ _)
   | (with_reducible exact LeO.refl _)
   | (with_reducible exact LeO.none _)
   | (with_reducible refine LeO.ite ?_ ?_)
   | (with_reducible refine LeO.bind ?_ (fun _ => ?_))
   | exact impl_RingOk.mono _ _ _ _
   | exact LeO.none _
   | refine LeO.ite ?_ ?_
   | refine LeO.bind ?_ (fun _ => ?_)
set_option maxHeartbeats 8000000 in
set_option maxRecDepth 100000 in
theorem impl_LinkOk.calls (k : Nat) (A0_0 : Option Addr) (c0_0 : Nat) (l0_0 : List Int) (a0_1 : Int) (a0_2 : Int) (a1_0 : Int) (a1_1 : Int) (r : Bool) (w : World) (hr0_0 : Kd.C (Kd.int .i64) w A0_0 l0_0.length l0_0) (hc0_0 : l0_0.length ≤ c0_0) (h : impl_LinkOk.f k l0_0 a0_1 a0_2 a1_0 a1_1 = some r) :
  Calls Try.prog 36 #[.agg #[.slice A0_0 l0_0.length c0_0, .int .i64 a0_1, .int .i64 a0_2], .agg #[.int .i64 a1_0, .int .i64 a1_1]] w fun e w' => e = .returned (.bool r) ∧ Below w.heap.size w w' := by
 have hu24 := Try.underlying24
 have hu26 := Try.underlying26
 have HR0_0 := Aside0.mk hr0_0
 have HC0_0 := Aside0.mk hc0_0
 clear hr0_0 hc0_0
 have HB := am_ (Below.refl w.heap.size w)
 have H : ((impl_RingOk.f k l0_0 a0_1 a0_2).bind fun t394 => (if t394 = true then ((impl_creditOk.f a1_0 a1_1).bind fun t395 => (if t395 = true then (if a1_1 = a0_2 then (some ((wrap64 (a1_0 + a1_1)) == (l0_0.length : Int))) else (some false)) else (some false))) else (some false))) = some r := h
 clear h
 replace H := Option.bind_eq_some_iff.mp H
 obtain ⟨t394, A30, H⟩ := H
 replace H : (if t394 = true then ((impl_creditOk.f a1_0 a1_1).bind fun t395 => (if t395 = true then (if a1_1 = a0_2 then (some ((wrap64 (a1_0 + a1_1)) == (l0_0.length : Int))) else (some false)) else (some false))) else (some false)) = some r := H
 have A3 := Aside0.mk A30
 clear A30
 by_cases c4 : t394 = true
 ·
  subst c4
  have H1 : ((impl_creditOk.f a1_0 a1_1).bind fun t395 => (if t395 = true then (if a1_1 = a0_2 then (some ((wrap64 (a1_0 + a1_1)) == (l0_0.length : Int))) else (some false)) else (some false))) = some r := by rw [if_pos rfl] at H; exact H
  clear H
  have H := H1
  clear H1
  replace H := Option.bind_eq_some_iff.mp H
  obtain ⟨t395, A50, H⟩ := H
  replace H : (if t395 = true then (if a1_1 = a0_2 then (some ((wrap64 (a1_0 + a1_1)) == (l0_0.length : Int))) else (some false)) else (some false)) = some r := H
  have A5 := Aside0.mk A50
  clear A50
  by_cases c6 : t395 = true
  ·
   subst c6
   have H1 : (if a1_1 = a0_2 then (some ((wrap64 (a1_0 + a1_1)) == (l0_0.length : Int))) else (some false)) = some r := by rw [if_pos rfl] at H; exact H
   clear H
   have H := H1
   clear H1
   by_cases c7 : a1_1 = a0_2
   ·
    rw [if_pos c7] at H
    have c7b0 : (a1_1 == a0_2) = true := beq_iff_eq.mpr c7
    have c7b1 : (a1_1 != a0_2) = false := bne_eq_false_iff_eq.mpr c7
    clear c7
    obtain rfl := Option.some.inj H
    go_enter Try.func36, Try.ntmps36
    go_wp2_with (first | ((with_reducible refine gate_dst (N := 2) rfl ?_); (try (refine gate_guard (by rfl) ?_; dsimp only)); refine box_event ?hg (N := 2) ?hd (cs := #[.slice A0_0 l0_0.length c0_0, .int .i64 a0_1, .int .i64 a0_2]) (t := 24) ?hr ?_; (case hd => rfl); (case hg => rfl); (case hr => first | (go_simp; done) | (go_simp; rfl)); intro gb392 hg w8 hbox hb; have n0_ := am_ (below_step (ue_ HB.out) hb); have n1_ := am_ (hbox); have n2_ := am_ ((by rw [hg]; exact (below_size (ue_ HB.out)) : w.heap.size ≤ gb392)); have n3_ := am_ ((by rw [hg]; exact (below_size (ue_ HB.out)) : w.heap.size ≤ gb392)); clear HB; have HB := n0_; have BK392 := n1_; have GW392 := n2_; have GE392 := n3_; clear n0_ n1_ n2_ n3_; clear hb hbox hg) | ((with_reducible refine gate_dst (N := 3) rfl ?_); (try (refine gate_guard (by rfl) ?_; dsimp only)); refine box_event ?hg (N := 3) ?hd (cs := #[.int .i64 a1_0, .int .i64 a1_1]) (t := 26) ?hr ?_; (case hd => rfl); (case hg => rfl); (case hr => first | (go_simp; done) | (go_simp; rfl)); intro gb393 hg w9 hbox hb; have n0_ := am_ (bb_ BK392.out hb); have n1_ := am_ (below_step (ue_ HB.out) hb); have n2_ := am_ (hbox); have n3_ := am_ ((by rw [hg]; exact (below_size (ue_ HB.out)) : w.heap.size ≤ gb393)); have n4_ := am_ ((by rw [hg]; exact (below_size (ue_ HB.out)) : w.heap.size ≤ gb393)); have n5_ := am_ ((by rw [hg]; exact Nat.ne_of_lt (bl_ BK392.out) : gb392 ≠ gb393)); have n6_ := am_ ((by rw [hg]; exact Nat.ne_of_gt (bl_ BK392.out) : gb393 ≠ gb392)); clear BK392 HB; have BK392 := n0_; have HB := n1_; have BK393 := n2_; have GW393 := n3_; have GE393 := n4_; have NB392_393 := n5_; have NB393_392 := n6_; clear n0_ n1_ n2_ n3_ n4_ n5_ n6_; clear hb hbox hg; have hnb10 := NB392_393.out; have hnc10 := NB393_392.out; obtain ⟨hcz11_0, hcz11_1, hcz11_2⟩ := cb3_ BK392.out; obtain ⟨hfz11_0, hfz11_1⟩ := bf2_ BK392.out; have hfz11_2 := blk_frozen BK392.out 2) | ((with_reducible refine gate_callee (f := 105) rfl ?_); refine goesL_ (some 6) rfl rfl Try.func105 (by kernel_rfl) rfl #[.agg #[.slice A0_0 l0_0.length c0_0, .int .i64 a0_1, .int .i64 a0_2]] rfl ul_ ?_; (with_reducible refine (impl_RingOk.calls k _ _ l0_0 a0_1 a0_2 true _ ?side1 ?side2 A3.out).mono ?_); (case side1 => repeat (first | exact (Kd.C_below HR0_0.out HB.out) | (with_reducible refine Kd.C_alloc ?_ _) | (with_reducible refine Kd.C_drewN ?_ _) | (with_reducible refine Kd.C_drew ?_))); (case side2 => exact HC0_0.out); rintro e w12 ⟨rfl, hb⟩; refine ⟨_, rfl, ?_⟩; have n0_ := am_ (bb_ BK392.out hb); have n1_ := am_ (bb_ BK393.out hb); have n2_ := am_ (below_step (ue_ HB.out) hb); clear BK392 BK393 HB; have BK392 := n0_; have BK393 := n1_; have HB := n2_; clear n0_ n1_ n2_; (try clear hb); (try clear hb2); (try clear hk); (try clear hi); obtain ⟨hcz13_0, hcz13_1⟩ := cb2_ BK393.out; have hfz13_0 := blk_frozen BK393.out 0; have hfz13_1 := blk_frozen BK393.out 1) | (go_at_call 108; (with_reducible refine (impl_creditOk.calls a1_0 a1_1 true _ A5.out).mono ?_); rintro e w14 ⟨rfl, hb⟩; have n0_ := am_ (bb_ BK392.out hb); have n1_ := am_ (bb_ BK393.out hb); have n2_ := am_ (below_step (ue_ HB.out) hb); clear BK392 BK393 HB; have BK392 := n0_; have BK393 := n1_; have HB := n2_; clear n0_ n1_ n2_; (try clear hb); (try clear hb2); (try clear hk); (try clear hi); obtain ⟨hcz15_0, hcz15_1⟩ := cb2_ BK393.out; obtain ⟨hfz15_0, hfz15_1⟩ := bf2_ BK393.out; obtain ⟨hcz16_0, hcz16_1, hcz16_2⟩ := cb3_ BK392.out; obtain ⟨hfz16_0, hfz16_1⟩ := bf2_ BK392.out; have hfz16_2 := blk_frozen BK392.out 2))
    go_ret
    exact ⟨ew_, ue_ HB.out⟩
   ·
    rw [if_neg c7] at H
    have c7b0 : (a1_1 == a0_2) = false := beq_eq_false_iff_ne.mpr c7
    have c7b1 : (a1_1 != a0_2) = true := bne_iff_ne.mpr c7
    obtain rfl := Option.some.inj H
    go_enter Try.func36, Try.ntmps36
    go_wp2_with (first | ((with_reducible refine gate_dst (N := 2) rfl ?_); (try (refine gate_guard (by rfl) ?_; dsimp only)); refine box_event ?hg (N := 2) ?hd (cs := #[.slice A0_0 l0_0.length c0_0, .int .i64 a0_1, .int .i64 a0_2]) (t := 24) ?hr ?_; (case hd => rfl); (case hg => rfl); (case hr => first | (go_simp; done) | (go_simp; rfl)); intro gb392 hg w17 hbox hb; have n0_ := am_ (below_step (ue_ HB.out) hb); have n1_ := am_ (hbox); have n2_ := am_ ((by rw [hg]; exact (below_size (ue_ HB.out)) : w.heap.size ≤ gb392)); have n3_ := am_ ((by rw [hg]; exact (below_size (ue_ HB.out)) : w.heap.size ≤ gb392)); clear HB; have HB := n0_; have BK392 := n1_; have GW392 := n2_; have GE392 := n3_; clear n0_ n1_ n2_ n3_; clear hb hbox hg) | ((with_reducible refine gate_dst (N := 3) rfl ?_); (try (refine gate_guard (by rfl) ?_; dsimp only)); refine box_event ?hg (N := 3) ?hd (cs := #[.int .i64 a1_0, .int .i64 a1_1]) (t := 26) ?hr ?_; (case hd => rfl); (case hg => rfl); (case hr => first | (go_simp; done) | (go_simp; rfl)); intro gb393 hg w18 hbox hb; have n0_ := am_ (bb_ BK392.out hb); have n1_ := am_ (below_step (ue_ HB.out) hb); have n2_ := am_ (hbox); have n3_ := am_ ((by rw [hg]; exact (below_size (ue_ HB.out)) : w.heap.size ≤ gb393)); have n4_ := am_ ((by rw [hg]; exact (below_size (ue_ HB.out)) : w.heap.size ≤ gb393)); have n5_ := am_ ((by rw [hg]; exact Nat.ne_of_lt (bl_ BK392.out) : gb392 ≠ gb393)); have n6_ := am_ ((by rw [hg]; exact Nat.ne_of_gt (bl_ BK392.out) : gb393 ≠ gb392)); clear BK392 HB; have BK392 := n0_; have HB := n1_; have BK393 := n2_; have GW393 := n3_; have GE393 := n4_; have NB392_393 := n5_; have NB393_392 := n6_; clear n0_ n1_ n2_ n3_ n4_ n5_ n6_; clear hb hbox hg; have hnb19 := NB392_393.out; have hnc19 := NB393_392.out; obtain ⟨hcz20_0, hcz20_1, hcz20_2⟩ := cb3_ BK392.out; obtain ⟨hfz20_0, hfz20_1⟩ := bf2_ BK392.out; have hfz20_2 := blk_frozen BK392.out 2) | ((with_reducible refine gate_callee (f := 105) rfl ?_); refine goesL_ (some 6) rfl rfl Try.func105 (by kernel_rfl) rfl #[.agg #[.slice A0_0 l0_0.length c0_0, .int .i64 a0_1, .int .i64 a0_2]] rfl ul_ ?_; (with_reducible refine (impl_RingOk.calls k _ _ l0_0 a0_1 a0_2 true _ ?side1 ?side2 A3.out).mono ?_); (case side1 => repeat (first | exact (Kd.C_below HR0_0.out HB.out) | (with_reducible refine Kd.C_alloc ?_ _) | (with_reducible refine Kd.C_drewN ?_ _) | (with_reducible refine Kd.C_drew ?_))); (case side2 => exact HC0_0.out); rintro e w21 ⟨rfl, hb⟩; refine ⟨_, rfl, ?_⟩; have n0_ := am_ (bb_ BK392.out hb); have n1_ := am_ (bb_ BK393.out hb); have n2_ := am_ (below_step (ue_ HB.out) hb); clear BK392 BK393 HB; have BK392 := n0_; have BK393 := n1_; have HB := n2_; clear n0_ n1_ n2_; (try clear hb); (try clear hb2); (try clear hk); (try clear hi); obtain ⟨hcz22_0, hcz22_1⟩ := cb2_ BK393.out; have hfz22_0 := blk_frozen BK393.out 0; have hfz22_1 := blk_frozen BK393.out 1) | (go_at_call 108; (with_reducible refine (impl_creditOk.calls a1_0 a1_1 true _ A5.out).mono ?_); rintro e w23 ⟨rfl, hb⟩; have n0_ := am_ (bb_ BK392.out hb); have n1_ := am_ (bb_ BK393.out hb); have n2_ := am_ (below_step (ue_ HB.out) hb); clear BK392 BK393 HB; have BK392 := n0_; have BK393 := n1_; have HB := n2_; clear n0_ n1_ n2_; (try clear hb); (try clear hb2); (try clear hk); (try clear hi); obtain ⟨hcz24_0, hcz24_1⟩ := cb2_ BK393.out; obtain ⟨hfz24_0, hfz24_1⟩ := bf2_ BK393.out; obtain ⟨hcz25_0, hcz25_1, hcz25_2⟩ := cb3_ BK392.out; obtain ⟨hfz25_0, hfz25_1⟩ := bf2_ BK392.out; have hfz25_2 := blk_frozen BK392.out 2))
    go_ret
    exact ⟨ew_, ue_ HB.out⟩
  ·
   replace c6 := Bool.eq_false_iff.mpr c6
   subst c6
   have H1 : (some false) = some r := by rw [if_neg (show ¬ (false = true) by decide)] at H; exact H
   clear H
   have H := H1
   clear H1
   obtain rfl := Option.some.inj H
   go_enter Try.func36, Try.ntmps36
   go_wp2_with (first | ((with_reducible refine gate_dst (N := 2) rfl ?_); (try (refine gate_guard (by rfl) ?_; dsimp only)); refine box_event ?hg (N := 2) ?hd (cs := #[.slice A0_0 l0_0.length c0_0, .int .i64 a0_1, .int .i64 a0_2]) (t := 24) ?hr ?_; (case hd => rfl); (case hg => rfl); (case hr => first | (go_simp; done) | (go_simp; rfl)); intro gb392 hg w26 hbox hb; have n0_ := am_ (below_step (ue_ HB.out) hb); have n1_ := am_ (hbox); have n2_ := am_ ((by rw [hg]; exact (below_size (ue_ HB.out)) : w.heap.size ≤ gb392)); have n3_ := am_ ((by rw [hg]; exact (below_size (ue_ HB.out)) : w.heap.size ≤ gb392)); clear HB; have HB := n0_; have BK392 := n1_; have GW392 := n2_; have GE392 := n3_; clear n0_ n1_ n2_ n3_; clear hb hbox hg) | ((with_reducible refine gate_dst (N := 3) rfl ?_); (try (refine gate_guard (by rfl) ?_; dsimp only)); refine box_event ?hg (N := 3) ?hd (cs := #[.int .i64 a1_0, .int .i64 a1_1]) (t := 26) ?hr ?_; (case hd => rfl); (case hg => rfl); (case hr => first | (go_simp; done) | (go_simp; rfl)); intro gb393 hg w27 hbox hb; have n0_ := am_ (bb_ BK392.out hb); have n1_ := am_ (below_step (ue_ HB.out) hb); have n2_ := am_ (hbox); have n3_ := am_ ((by rw [hg]; exact (below_size (ue_ HB.out)) : w.heap.size ≤ gb393)); have n4_ := am_ ((by rw [hg]; exact (below_size (ue_ HB.out)) : w.heap.size ≤ gb393)); have n5_ := am_ ((by rw [hg]; exact Nat.ne_of_lt (bl_ BK392.out) : gb392 ≠ gb393)); have n6_ := am_ ((by rw [hg]; exact Nat.ne_of_gt (bl_ BK392.out) : gb393 ≠ gb392)); clear BK392 HB; have BK392 := n0_; have HB := n1_; have BK393 := n2_; have GW393 := n3_; have GE393 := n4_; have NB392_393 := n5_; have NB393_392 := n6_; clear n0_ n1_ n2_ n3_ n4_ n5_ n6_; clear hb hbox hg; have hnb28 := NB392_393.out; have hnc28 := NB393_392.out; obtain ⟨hcz29_0, hcz29_1, hcz29_2⟩ := cb3_ BK392.out; obtain ⟨hfz29_0, hfz29_1⟩ := bf2_ BK392.out; have hfz29_2 := blk_frozen BK392.out 2) | ((with_reducible refine gate_callee (f := 105) rfl ?_); refine goesL_ (some 6) rfl rfl Try.func105 (by kernel_rfl) rfl #[.agg #[.slice A0_0 l0_0.length c0_0, .int .i64 a0_1, .int .i64 a0_2]] rfl ul_ ?_; (with_reducible refine (impl_RingOk.calls k _ _ l0_0 a0_1 a0_2 true _ ?side1 ?side2 A3.out).mono ?_); (case side1 => repeat (first | exact (Kd.C_below HR0_0.out HB.out) | (with_reducible refine Kd.C_alloc ?_ _) | (with_reducible refine Kd.C_drewN ?_ _) | (with_reducible refine Kd.C_drew ?_))); (case side2 => exact HC0_0.out); rintro e w30 ⟨rfl, hb⟩; refine ⟨_, rfl, ?_⟩; have n0_ := am_ (bb_ BK392.out hb); have n1_ := am_ (bb_ BK393.out hb); have n2_ := am_ (below_step (ue_ HB.out) hb); clear BK392 BK393 HB; have BK392 := n0_; have BK393 := n1_; have HB := n2_; clear n0_ n1_ n2_; (try clear hb); (try clear hb2); (try clear hk); (try clear hi); obtain ⟨hcz31_0, hcz31_1⟩ := cb2_ BK393.out; have hfz31_0 := blk_frozen BK393.out 0; have hfz31_1 := blk_frozen BK393.out 1) | (go_at_call 108; (with_reducible refine (impl_creditOk.calls a1_0 a1_1 false _ A5.out).mono ?_); rintro e w32 ⟨rfl, hb⟩; have n0_ := am_ (bb_ BK392.out hb); have n1_ := am_ (bb_ BK393.out hb); have n2_ := am_ (below_step (ue_ HB.out) hb); clear BK392 BK393 HB; have BK392 := n0_; have BK393 := n1_; have HB := n2_; clear n0_ n1_ n2_; (try clear hb); (try clear hb2); (try clear hk); (try clear hi)))
   go_ret
   exact ⟨ew_, ue_ HB.out⟩
 ·
  replace c4 := Bool.eq_false_iff.mpr c4
  subst c4
  have H1 : (some false) = some r := by rw [if_neg (show ¬ (false = true) by decide)] at H; exact H
  clear H
  have H := H1
  clear H1
  obtain rfl := Option.some.inj H
  go_enter Try.func36, Try.ntmps36
  go_wp2_with (first | ((with_reducible refine gate_dst (N := 2) rfl ?_); (try (refine gate_guard (by rfl) ?_; dsimp only)); refine box_event ?hg (N := 2) ?hd (cs := #[.slice A0_0 l0_0.length c0_0, .int .i64 a0_1, .int .i64 a0_2]) (t := 24) ?hr ?_; (case hd => rfl); (case hg => rfl); (case hr => first | (go_simp; done) | (go_simp; rfl)); intro gb392 hg w33 hbox hb; have n0_ := am_ (below_step (ue_ HB.out) hb); have n1_ := am_ (hbox); have n2_ := am_ ((by rw [hg]; exact (below_size (ue_ HB.out)) : w.heap.size ≤ gb392)); have n3_ := am_ ((by rw [hg]; exact (below_size (ue_ HB.out)) : w.heap.size ≤ gb392)); clear HB; have HB := n0_; have BK392 := n1_; have GW392 := n2_; have GE392 := n3_; clear n0_ n1_ n2_ n3_; clear hb hbox hg) | ((with_reducible refine gate_dst (N := 3) rfl ?_); (try (refine gate_guard (by rfl) ?_; dsimp only)); refine box_event ?hg (N := 3) ?hd (cs := #[.int .i64 a1_0, .int .i64 a1_1]) (t := 26) ?hr ?_; (case hd => rfl); (case hg => rfl); (case hr => first | (go_simp; done) | (go_simp; rfl)); intro gb393 hg w34 hbox hb; have n0_ := am_ (bb_ BK392.out hb); have n1_ := am_ (below_step (ue_ HB.out) hb); have n2_ := am_ (hbox); have n3_ := am_ ((by rw [hg]; exact (below_size (ue_ HB.out)) : w.heap.size ≤ gb393)); have n4_ := am_ ((by rw [hg]; exact (below_size (ue_ HB.out)) : w.heap.size ≤ gb393)); have n5_ := am_ ((by rw [hg]; exact Nat.ne_of_lt (bl_ BK392.out) : gb392 ≠ gb393)); have n6_ := am_ ((by rw [hg]; exact Nat.ne_of_gt (bl_ BK392.out) : gb393 ≠ gb392)); clear BK392 HB; have BK392 := n0_; have HB := n1_; have BK393 := n2_; have GW393 := n3_; have GE393 := n4_; have NB392_393 := n5_; have NB393_392 := n6_; clear n0_ n1_ n2_ n3_ n4_ n5_ n6_; clear hb hbox hg; have hnb35 := NB392_393.out; have hnc35 := NB393_392.out; obtain ⟨hcz36_0, hcz36_1, hcz36_2⟩ := cb3_ BK392.out; obtain ⟨hfz36_0, hfz36_1⟩ := bf2_ BK392.out; have hfz36_2 := blk_frozen BK392.out 2) | ((with_reducible refine gate_callee (f := 105) rfl ?_); refine goesL_ (some 6) rfl rfl Try.func105 (by kernel_rfl) rfl #[.agg #[.slice A0_0 l0_0.length c0_0, .int .i64 a0_1, .int .i64 a0_2]] rfl ul_ ?_; (with_reducible refine (impl_RingOk.calls k _ _ l0_0 a0_1 a0_2 false _ ?side1 ?side2 A3.out).mono ?_); (case side1 => repeat (first | exact (Kd.C_below HR0_0.out HB.out) | (with_reducible refine Kd.C_alloc ?_ _) | (with_reducible refine Kd.C_drewN ?_ _) | (with_reducible refine Kd.C_drew ?_))); (case side2 => exact HC0_0.out); rintro e w37 ⟨rfl, hb⟩; refine ⟨_, rfl, ?_⟩; have n0_ := am_ (bb_ BK392.out hb); have n1_ := am_ (bb_ BK393.out hb); have n2_ := am_ (below_step (ue_ HB.out) hb); clear BK392 BK393 HB; have BK392 := n0_; have BK393 := n1_; have HB := n2_; clear n0_ n1_ n2_; (try clear hb); (try clear hb2); (try clear hk); (try clear hi)))
  go_ret
  exact ⟨ew_, ue_ HB.out⟩

end Go.Proofs.Ytcflalomjehiiaa.QFnRings
