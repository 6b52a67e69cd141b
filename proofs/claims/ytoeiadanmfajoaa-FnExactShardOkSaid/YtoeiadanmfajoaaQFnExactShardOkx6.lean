/- The machine side of a law: Lean functions with the Go functions' answers and the walks that show it. No condition. -/
import Derived.Test.YtoeiadanmfajoaaQFnExactShardOkx0
import Derived.Test.YtoeiadanmfajoaaQFnExactShardOkx1
import Derived.Test.YtoeiadanmfajoaaQFnExactShardOkx3
import Derived.Test.YtoeiadanmfajoaaQFnExactShardOkx4
import Derived.Test.YtoeiadanmfajoaaQFnExactShardOkx5
namespace Go.Proofs.Ytoeiadanmfajoaa.QFnExactShardOk
open Go.RowKit Go.Proofs.YtoeiadanmfajoaaW.PrintWords Go.Proofs.YtoeiadanmfajoaaW.PrintLast Go.Proofs.YtoeiadanmfajoaaW.PrintMore
attribute [local go_sem] max2_int min2_int max_two min_two max_three min_three max_four min_four   -- for this text's walks alone
set_option linter.unusedVariables false
set_option linter.unusedSimpArgs false

/-! ### laws_FnExactShardOk: function 12 -/
def laws_FnExactShardOk.f (k : Nat) (l0_0 : List (S69)) (a0_1 : Int) (a0_2 : Int) (a0_3 : Int) : Option (Bool) := (laws_szShard.f l0_0 a0_1 a0_2 a0_3 1048576).bind fun t187 => (if t187 < 0 then (some true) else ((laws_toShard.f k l0_0 a0_1 a0_2 a0_3).bind fun bt188 => ((spec_ShardOk.f k bt188.1 bt188.2.1 bt188.2.2.1 bt188.2.2.2).bind fun t194 => ((laws_toShard.f k l0_0 a0_1 a0_2 a0_3).bind fun bt195 => ((impl_ShardOk.f k bt195.1 bt195.2.1 bt195.2.2.1 bt195.2.2.2).bind fun t202 => (if (t202 != t194) = true then (some false) else ((laws_toShard.f k l0_0 a0_1 a0_2 a0_3).bind fun bt203 => ((laws_eqShard.f k bt195.1 bt195.2.1 bt195.2.2.1 bt195.2.2.2 bt203.1 bt203.2.1 bt203.2.2.1 bt203.2.2.2).bind fun t209 => (if t209 = true then (some true) else (some false))))))))))
theorem laws_FnExactShardOk.mono : ∀ a0 a1 a2 a3 k, LeO (laws_FnExactShardOk.f k a0 a1 a2 a3) (laws_FnExactShardOk.f (k + 1) a0 a1 a2 a3) := by
 intro a0 a1 a2 a3 k
 unfold laws_FnExactShardOk.f
 repeat' first
   | (with_reducible exact impl_ShardOk.mono _ _ _ _ _)
   | (with_reducible exact laws_eqShard.mono _ _ _ _ _ _ _ _ _)
   | (with_reducible exact laws_toShard.mono _ _ _ _ _)
   | (with_reducible exact spec_ShardOk.mono _ _ _ _ _)
   | (with_reducible exact LeO.refl _)
   | (with_reducible exact LeO.none _)
   | (with_reducible refine LeO.ite ?_ ?_)
   | (with_reducible refine LeO.bind ?_ (fun _ => ?_))
   | exact impl_ShardOk.mono _ _ _ _ _
   | exact laws_eqShard.mono _ _ _ _ _ _ _ _ _
   | exact laws_toShard.mono _ _ _ _ _
   | exact spec_ShardOk.mono _ _ _ _ _
   | exact LeO.none _
   | refine LeO.ite ?_ ?_
   | refine LeO.bind ?_ (fun _ => ?_)
set_option maxHeartbeats 8000000 in
set_option maxRecDepth 100000 in
theorem laws_FnExactShardOk.calls (k : Nat) (A0_0 : Option Addr) (c0_0 : Nat) (l0_0 : List (S69)) (a0_1 : Int) (a0_2 : Int) (a0_3 : Int) (r : Bool) (w : World) (hr0_0 : Kd.C k69 w A0_0 l0_0.length l0_0) (hc0_0 : l0_0.length ≤ c0_0) (hT : Aside0 (r = true)) (h : laws_FnExactShardOk.f k l0_0 a0_1 a0_2 a0_3 = some r) :
  Calls Try.prog 12 #[.agg #[.slice A0_0 l0_0.length c0_0, .int .i64 a0_1, .int .i64 a0_2, .int .i64 a0_3]] w fun e w' => e = .returned (.bool r) ∧ Below w.heap.size w w' := by
 have hu89 := Try.underlying89
 have hu44 := Try.underlying44
 have HR0_0 := Aside0.mk hr0_0
 have HC0_0 := Aside0.mk hc0_0
 clear hr0_0 hc0_0
 have HB := am_ (Below.refl w.heap.size w)
 have H : ((laws_szShard.f l0_0 a0_1 a0_2 a0_3 1048576).bind fun t187 => (if t187 < 0 then (some true) else ((laws_toShard.f k l0_0 a0_1 a0_2 a0_3).bind fun bt188 => ((spec_ShardOk.f k bt188.1 bt188.2.1 bt188.2.2.1 bt188.2.2.2).bind fun t194 => ((laws_toShard.f k l0_0 a0_1 a0_2 a0_3).bind fun bt195 => ((impl_ShardOk.f k bt195.1 bt195.2.1 bt195.2.2.1 bt195.2.2.2).bind fun t202 => (if (t202 != t194) = true then (some false) else ((laws_toShard.f k l0_0 a0_1 a0_2 a0_3).bind fun bt203 => ((laws_eqShard.f k bt195.1 bt195.2.1 bt195.2.2.1 bt195.2.2.2 bt203.1 bt203.2.1 bt203.2.2.1 bt203.2.2.2).bind fun t209 => (if t209 = true then (some true) else (some false))))))))))) = some r := h
 clear h
 replace H := Option.bind_eq_some_iff.mp H
 obtain ⟨t187, A20, H⟩ := H
 replace H : (if t187 < 0 then (some true) else ((laws_toShard.f k l0_0 a0_1 a0_2 a0_3).bind fun bt188 => ((spec_ShardOk.f k bt188.1 bt188.2.1 bt188.2.2.1 bt188.2.2.2).bind fun t194 => ((laws_toShard.f k l0_0 a0_1 a0_2 a0_3).bind fun bt195 => ((impl_ShardOk.f k bt195.1 bt195.2.1 bt195.2.2.1 bt195.2.2.2).bind fun t202 => (if (t202 != t194) = true then (some false) else ((laws_toShard.f k l0_0 a0_1 a0_2 a0_3).bind fun bt203 => ((laws_eqShard.f k bt195.1 bt195.2.1 bt195.2.2.1 bt195.2.2.2 bt203.1 bt203.2.1 bt203.2.2.1 bt203.2.2.2).bind fun t209 => (if t209 = true then (some true) else (some false)))))))))) = some r := H
 have A2 := Aside0.mk A20
 clear A20
 by_cases c3 : t187 < 0
 ·
  rw [if_pos c3] at H
  have c3b0 : decide (t187 < 0) = true := decide_eq_true c3
  clear c3
  obtain rfl := Option.some.inj H
  go_enter Try.func12, Try.ntmps12
  go_wp2_with (first | ((with_reducible refine gate_dst (N := 1) rfl ?_); refine box_event ?hg (N := 1) ?hd (cs := #[.slice A0_0 l0_0.length c0_0, .int .i64 a0_1, .int .i64 a0_2, .int .i64 a0_3]) (t := 89) ?hr ?_; (case hd => rfl); (case hg => rfl); (case hr => first | (go_simp; done) | (go_simp; rfl)); intro gb186 hg w4 hbox hb; have n0_ := am_ (below_step (ue_ HB.out) hb); have n1_ := am_ (hbox); have n2_ := am_ ((by rw [hg]; exact (below_size (ue_ HB.out)) : w.heap.size ≤ gb186)); have n3_ := am_ ((by rw [hg]; exact (below_size (ue_ HB.out)) : w.heap.size ≤ gb186)); clear HB; have HB := n0_; have BK186 := n1_; have GW186 := n2_; have GE186 := n3_; clear n0_ n1_ n2_ n3_; clear hb hbox hg; obtain ⟨hcz5_0, hcz5_1, hcz5_2, hcz5_3⟩ := cb4_ BK186.out; obtain ⟨hfz5_0, hfz5_1, hfz5_2⟩ := bf3_ BK186.out; have hfz5_3 := blk_frozen BK186.out 3) | ((with_reducible refine gate_callee (f := 59) rfl ?_); refine goesL_ (some 9) rfl rfl Try.func59 (by kernel_rfl) rfl #[.agg #[.slice A0_0 l0_0.length c0_0, .int .i64 a0_1, .int .i64 a0_2, .int .i64 a0_3], .int .i64 1048576] rfl ul_ ?_; (with_reducible refine (laws_szShard.calls _ _ l0_0 a0_1 a0_2 a0_3 1048576 t187 _ ?side1 ?side2 A2.out).mono ?_); (case side1 => repeat (first | exact (Kd.C_below HR0_0.out HB.out) | (with_reducible refine Kd.C_alloc ?_ _) | (with_reducible refine Kd.C_drewN ?_ _) | (with_reducible refine Kd.C_drew ?_))); (case side2 => exact HC0_0.out); rintro e w6 ⟨rfl, hb⟩; refine ⟨_, rfl, ?_⟩; have n0_ := am_ (bb_ BK186.out hb); have n1_ := am_ (below_step (ue_ HB.out) hb); clear BK186 HB; have BK186 := n0_; have HB := n1_; clear n0_ n1_; (try clear hb); (try clear hb2); (try clear hk); (try clear hi)))
  go_ret
  exact ⟨ew_, ue_ HB.out⟩
 ·
  rw [if_neg c3] at H
  have c3b0 : decide (t187 < 0) = false := decide_eq_false c3
  clear c3
  replace H := Option.bind_eq_some_iff.mp H
  obtain ⟨⟨t188, t191, t192, t193⟩, A70, H⟩ := H
  replace H : ((spec_ShardOk.f k t188 t191 t192 t193).bind fun t194 => ((laws_toShard.f k l0_0 a0_1 a0_2 a0_3).bind fun bt195 => ((impl_ShardOk.f k bt195.1 bt195.2.1 bt195.2.2.1 bt195.2.2.2).bind fun t202 => (if (t202 != t194) = true then (some false) else ((laws_toShard.f k l0_0 a0_1 a0_2 a0_3).bind fun bt203 => ((laws_eqShard.f k bt195.1 bt195.2.1 bt195.2.2.1 bt195.2.2.2 bt203.1 bt203.2.1 bt203.2.2.1 bt203.2.2.2).bind fun t209 => (if t209 = true then (some true) else (some false)))))))) = some r := H
  have A7 := Aside0.mk A70
  clear A70
  replace H := Option.bind_eq_some_iff.mp H
  obtain ⟨t194, A80, H⟩ := H
  replace H : ((laws_toShard.f k l0_0 a0_1 a0_2 a0_3).bind fun bt195 => ((impl_ShardOk.f k bt195.1 bt195.2.1 bt195.2.2.1 bt195.2.2.2).bind fun t202 => (if (t202 != t194) = true then (some false) else ((laws_toShard.f k l0_0 a0_1 a0_2 a0_3).bind fun bt203 => ((laws_eqShard.f k bt195.1 bt195.2.1 bt195.2.2.1 bt195.2.2.2 bt203.1 bt203.2.1 bt203.2.2.1 bt203.2.2.2).bind fun t209 => (if t209 = true then (some true) else (some false))))))) = some r := H
  have A8 := Aside0.mk A80
  clear A80
  replace H := Option.bind_eq_some_iff.mp H
  obtain ⟨⟨t195, t198, t199, t200⟩, A90, H⟩ := H
  replace H : ((impl_ShardOk.f k t195 t198 t199 t200).bind fun t202 => (if (t202 != t194) = true then (some false) else ((laws_toShard.f k l0_0 a0_1 a0_2 a0_3).bind fun bt203 => ((laws_eqShard.f k t195 t198 t199 t200 bt203.1 bt203.2.1 bt203.2.2.1 bt203.2.2.2).bind fun t209 => (if t209 = true then (some true) else (some false)))))) = some r := H
  have A9 := Aside0.mk A90
  clear A90
  replace H := Option.bind_eq_some_iff.mp H
  obtain ⟨t202, A100, H⟩ := H
  replace H : (if (t202 != t194) = true then (some false) else ((laws_toShard.f k l0_0 a0_1 a0_2 a0_3).bind fun bt203 => ((laws_eqShard.f k t195 t198 t199 t200 bt203.1 bt203.2.1 bt203.2.2.1 bt203.2.2.2).bind fun t209 => (if t209 = true then (some true) else (some false))))) = some r := H
  have A10 := Aside0.mk A100
  clear A100
  by_cases c11 : (t202 != t194) = true
  ·
   rw [if_pos c11] at H
   have c11b0 : (t202 != t194) = true := c11
   (try (have c11b1 : decide (t202 = t194) = false := by simpa using c11))
   (try (have c11b2 : (t202 == t194) = false := by simpa using c11))
   (try (have c11b3 : ¬ (t202 = t194) := by simpa using c11))
   clear c11
   exact absurd ((Option.some.inj H).trans hT.out) (by decide)
  ·
   rw [if_neg c11] at H
   have c11b0 : (t202 != t194) = false := by simpa using c11
   (try (have c11b1 : decide (t202 = t194) = true := by simpa using c11))
   (try (have c11b2 : (t202 == t194) = true := by simpa using c11))
   clear c11
   replace H := Option.bind_eq_some_iff.mp H
   obtain ⟨⟨t203, t206, t207, t208⟩, A120, H⟩ := H
   replace H : ((laws_eqShard.f k t195 t198 t199 t200 t203 t206 t207 t208).bind fun t209 => (if t209 = true then (some true) else (some false))) = some r := H
   have A12 := Aside0.mk A120
   clear A120
   replace H := Option.bind_eq_some_iff.mp H
   obtain ⟨t209, A130, H⟩ := H
   replace H : (if t209 = true then (some true) else (some false)) = some r := H
   have A13 := Aside0.mk A130
   clear A130
   by_cases c14 : t209 = true
   ·
    subst c14
    have H1 : (some true) = some r := by rw [if_pos rfl] at H; exact H
    clear H
    have H := H1
    clear H1
    obtain rfl := Option.some.inj H
    go_enter Try.func12, Try.ntmps12
    try go_wp2_with (first | ((with_reducible refine gate_dst (N := 1) rfl ?_); refine box_event ?hg (N := 1) ?hd (cs := #[.slice A0_0 l0_0.length c0_0, .int .i64 a0_1, .int .i64 a0_2, .int .i64 a0_3]) (t := 89) ?hr ?_; (case hd => rfl); (case hg => rfl); (case hr => first | (go_simp; done) | (go_simp; rfl)); intro gb186 hg w15 hbox hb; have n0_ := am_ (below_step (ue_ HB.out) hb); have n1_ := am_ (hbox); have n2_ := am_ ((by rw [hg]; exact (below_size (ue_ HB.out)) : w.heap.size ≤ gb186)); have n3_ := am_ ((by rw [hg]; exact (below_size (ue_ HB.out)) : w.heap.size ≤ gb186)); clear HB; have HB := n0_; have BK186 := n1_; have GW186 := n2_; have GE186 := n3_; clear n0_ n1_ n2_ n3_; clear hb hbox hg; obtain ⟨hcz16_0, hcz16_1, hcz16_2, hcz16_3⟩ := cb4_ BK186.out; obtain ⟨hfz16_0, hfz16_1, hfz16_2⟩ := bf3_ BK186.out; have hfz16_3 := blk_frozen BK186.out 3) | ((with_reducible refine gate_callee (f := 59) rfl ?_); refine goesL_ (some 9) rfl rfl Try.func59 (by kernel_rfl) rfl #[.agg #[.slice A0_0 l0_0.length c0_0, .int .i64 a0_1, .int .i64 a0_2, .int .i64 a0_3], .int .i64 1048576] rfl ul_ ?_; (with_reducible refine (laws_szShard.calls _ _ l0_0 a0_1 a0_2 a0_3 1048576 t187 _ ?side1 ?side2 A2.out).mono ?_); (case side1 => repeat (first | exact (Kd.C_below HR0_0.out HB.out) | (with_reducible refine Kd.C_alloc ?_ _) | (with_reducible refine Kd.C_drewN ?_ _) | (with_reducible refine Kd.C_drew ?_))); (case side2 => exact HC0_0.out); rintro e w17 ⟨rfl, hb⟩; refine ⟨_, rfl, ?_⟩; have n0_ := am_ (bb_ BK186.out hb); have n1_ := am_ (below_step (ue_ HB.out) hb); clear BK186 HB; have BK186 := n0_; have HB := n1_; clear n0_ n1_; (try clear hb); (try clear hb2); (try clear hk); (try clear hi); obtain ⟨hcz18_0, hcz18_1, hcz18_2, hcz18_3⟩ := cb4_ BK186.out; obtain ⟨hfz18_0, hfz18_1, hfz18_2⟩ := bf3_ BK186.out; have hfz18_3 := blk_frozen BK186.out 3) | ((with_reducible refine gate_callee (f := 61) rfl ?_); refine goesL_ (some 13) rfl rfl Try.func61 (by kernel_rfl) rfl #[.agg #[.slice A0_0 l0_0.length c0_0, .int .i64 a0_1, .int .i64 a0_2, .int .i64 a0_3]] rfl ul_ ?_; (with_reducible refine (laws_toShard.calls k _ _ l0_0 a0_1 a0_2 a0_3 t188 t191 t192 t193 _ ?side1 ?side2 A7.out).mono ?_); (case side1 => repeat (first | exact (Kd.C_below HR0_0.out HB.out) | (with_reducible refine Kd.C_alloc ?_ _) | (with_reducible refine Kd.C_drewN ?_ _) | (with_reducible refine Kd.C_drew ?_))); (case side2 => exact HC0_0.out); rintro e w19 ⟨v189, rfl, ho0, hb⟩; refine ⟨_, rfl, ?_⟩; have n0_ := am_ (Kd.R_lower ho0 (below_size (ue_ HB.out))); have n1_ := am_ (bb_ BK186.out hb); have n2_ := am_ (below_step (ue_ HB.out) hb); clear BK186 HB; have HO190 := n0_; have BK186 := n1_; have HB := n2_; clear n0_ n1_ n2_; (try clear hb); (try clear hb2); (try clear hk); (try clear hi); (try clear ho0); obtain ⟨Ao20, co20, eo20⟩ := Kd.R_slice HO190.out; subst eo20) | ((with_reducible refine gate_callee (f := 60) rfl ?_); refine goesL_ (some 14) rfl rfl Try.func60 (by kernel_rfl) rfl #[.agg #[.slice Ao20 t188.length co20, .int .i64 t191, .int .i64 t192, .int .i64 t193]] rfl ul_ ?_; (with_reducible refine (spec_ShardOk.calls k _ _ t188 t191 t192 t193 t194 _ ?side1 ?side2 A8.out).mono ?_); (case side1 => repeat (first | exact (Kd.R_reads' HO190.out).2.2 | (with_reducible refine Kd.C_alloc ?_ _) | (with_reducible refine Kd.C_drewN ?_ _) | (with_reducible refine Kd.C_drew ?_))); (case side2 => exact (Kd.R_reads' HO190.out).2.1); rintro e w21 ⟨rfl, hb⟩; refine ⟨_, rfl, ?_⟩; have n0_ := am_ (Kd.R_below (ur_ HO190.out) hb); have n1_ := am_ (bb_ BK186.out hb); have n2_ := am_ (below_step (ue_ HB.out) hb); clear HO190 BK186 HB; have HO190 := n0_; have BK186 := n1_; have HB := n2_; clear n0_ n1_ n2_; (try clear hb); (try clear hb2); (try clear hk); (try clear hi); obtain ⟨hcz22_0, hcz22_1, hcz22_2, hcz22_3⟩ := cb4_ BK186.out; obtain ⟨hfz22_0, hfz22_1, hfz22_2⟩ := bf3_ BK186.out; have hfz22_3 := blk_frozen BK186.out 3) | ((with_reducible refine gate_callee (f := 61) rfl ?_); refine goesL_ (some 16) rfl rfl Try.func61 (by kernel_rfl) rfl #[.agg #[.slice A0_0 l0_0.length c0_0, .int .i64 a0_1, .int .i64 a0_2, .int .i64 a0_3]] rfl ul_ ?_; (with_reducible refine (laws_toShard.calls k _ _ l0_0 a0_1 a0_2 a0_3 t195 t198 t199 t200 _ ?side1 ?side2 A9.out).mono ?_); (case side1 => repeat (first | exact (Kd.C_below HR0_0.out HB.out) | (with_reducible refine Kd.C_alloc ?_ _) | (with_reducible refine Kd.C_drewN ?_ _) | (with_reducible refine Kd.C_drew ?_))); (case side2 => exact HC0_0.out); rintro e w23 ⟨v196, rfl, ho0, hb⟩; refine ⟨_, rfl, ?_⟩; have n0_ := am_ (Kd.R_elder' (ur_ HO190.out) (Kd.R_base ho0) hb); have n1_ := am_ (Kd.R_lower (Kd.R_new' ho0 (Kd.R_lt (ur_ HO190.out))) (below_size (ue_ HB.out))); have n2_ := am_ (bb_ BK186.out hb); have n3_ := am_ (below_step (ue_ HB.out) hb); clear HO190 BK186 HB; have HO190 := n0_; have HO197 := n1_; have BK186 := n2_; have HB := n3_; clear n0_ n1_ n2_ n3_; (try clear hb); (try clear hb2); (try clear hk); (try clear hi); (try clear ho0)) | ((with_reducible refine gate_dst (N := 5) rfl ?_); refine box_event ?hg (N := 5) ?hd (cs := #[.slice none 0 0, .int .i64 0, .int .i64 0, .int .i64 0]) (t := 44) ?hr ?_; (case hd => rfl); (case hg => rfl); (case hr => first | (go_simp; done) | (go_simp; rfl)); intro gb201 hg w24 hbox hb; have n0_ := am_ (Kd.R_below (ur_ HO190.out) hb); have n1_ := am_ (Kd.R_below (ur_ HO197.out) hb); have n2_ := am_ (bb_ BK186.out hb); have n3_ := am_ (below_step (ue_ HB.out) hb); have n4_ := am_ (hbox); have n5_ := am_ ((by rw [hg]; exact (below_size (ue_ HB.out)) : w.heap.size ≤ gb201)); have n6_ := am_ ((by rw [hg]; exact (below_size (ue_ HB.out)) : w.heap.size ≤ gb201)); have n7_ := am_ ((by rw [hg]; exact Nat.ne_of_lt (bl_ BK186.out) : gb186 ≠ gb201)); have n8_ := am_ ((by rw [hg]; exact Nat.ne_of_gt (bl_ BK186.out) : gb201 ≠ gb186)); clear HO190 HO197 BK186 HB; have HO190 := n0_; have HO197 := n1_; have BK186 := n2_; have HB := n3_; have BK201 := n4_; have GW201 := n5_; have GE201 := n6_; have NB186_201 := n7_; have NB201_186 := n8_; clear n0_ n1_ n2_ n3_ n4_ n5_ n6_ n7_ n8_; clear hb hbox hg; obtain ⟨Ao25, co25, eo25⟩ := Kd.R_slice HO197.out; subst eo25; have hnb26 := NB201_186.out; have hnc26 := NB186_201.out; obtain ⟨hcz27_0, hcz27_1, hcz27_2, hcz27_3⟩ := cb4_ BK201.out; obtain ⟨hfz27_0, hfz27_1, hfz27_2⟩ := bf3_ BK201.out; have hfz27_3 := blk_frozen BK201.out 3) | ((with_reducible refine gate_store (t := 44) (p := 5) rfl ?_); refine store_event (t := 44) (p := 5) (v := ?vo_w28) (w1 := ((((w24.setCell ⟨gb201, 0, none⟩ (.slice Ao25 t195.length co25)).setCell ⟨gb201, 1, none⟩ (.int .i64 t198)).setCell ⟨gb201, 2, none⟩ (.int .i64 t199)).setCell ⟨gb201, 3, none⟩ (.int .i64 t200))) ?hg ?ho ?hn ?hr ?_; (case ho => rfl); (case hg => rfl); (case hn => rfl); (case hr => first | (go_simp; done) | (go_simp; rfl)); intro w28 hw; have n0_ : Aside0 (Kd.R k70 70 w28 w.heap.size (fun k_ => some k_ ≠ (.slice Ao25 t195.length co25 : Value).ownBlock) (.slice Ao20 t188.length co20) t188) := ⟨(by rw [hw]; exact (by (with_reducible repeat (first | apply Kd.R_alloc | apply Kd.R_drewN | apply Kd.R_drew)); exact Kd.R_mono (Kd.R_far (p := ⟨gb201, 3, none⟩) (Kd.R_far (p := ⟨gb201, 2, none⟩) (Kd.R_far (p := ⟨gb201, 1, none⟩) (Kd.R_far (p := ⟨gb201, 0, none⟩) (Kd.R_types HO190.out BK201.out (by decide)) (fun _ hk => by first | exact hk.2 | grind) (.slice Ao25 t195.length co25)) (fun _ hk => by first | exact hk.2 | grind) (.int .i64 t198)) (fun _ hk => by first | exact hk.2 | grind) (.int .i64 t199)) (fun _ hk => by first | exact hk.2 | grind) (.int .i64 t200)) (fun _ hk => by first | exact hk.1.2 | grind)))⟩; have n1_ : Aside0 (Kd.R k70 70 w28 w.heap.size (fun k_ => some k_ ≠ (.slice Ao20 t188.length co20 : Value).ownBlock) (.slice Ao25 t195.length co25) t195) := ⟨(by rw [hw]; exact (by (with_reducible repeat (first | apply Kd.R_alloc | apply Kd.R_drewN | apply Kd.R_drew)); exact Kd.R_mono (Kd.R_far (p := ⟨gb201, 3, none⟩) (Kd.R_far (p := ⟨gb201, 2, none⟩) (Kd.R_far (p := ⟨gb201, 1, none⟩) (Kd.R_far (p := ⟨gb201, 0, none⟩) (Kd.R_types HO197.out BK201.out (by decide)) (fun _ hk => by first | exact hk.2 | grind) (.slice Ao25 t195.length co25)) (fun _ hk => by first | exact hk.2 | grind) (.int .i64 t198)) (fun _ hk => by first | exact hk.2 | grind) (.int .i64 t199)) (fun _ hk => by first | exact hk.2 | grind) (.int .i64 t200)) (fun _ hk => by first | exact hk.1.2 | grind)))⟩; have n2_ : Aside0 (w28.heap[gb186]? = some (.cells #[.slice A0_0 l0_0.length c0_0, .int .i64 a0_1, .int .i64 a0_2, .int .i64 a0_3] 89 (0, 0))) := ⟨(by rw [hw]; exact (uf_ BK186.out))⟩; have n3_ : Aside0 (w28.heap[gb201]? = some (.cells #[.slice Ao25 t195.length co25, .int .i64 t198, .int .i64 t199, .int .i64 t200] 44 (0, 0))) := ⟨(by rw [hw]; exact (by (with_reducible repeat first|apply bn_|apply bd_|apply ba_); refine blk_put (cs := #[.slice Ao25 t195.length co25, .int .i64 t198, .int .i64 t199, .int .i64 0]) ?_ 3 _ rfl; refine blk_put (cs := #[.slice Ao25 t195.length co25, .int .i64 t198, .int .i64 0, .int .i64 0]) ?_ 2 _ rfl; refine blk_put (cs := #[.slice Ao25 t195.length co25, .int .i64 0, .int .i64 0, .int .i64 0]) ?_ 1 _ rfl; refine blk_put (cs := #[.slice none 0 0, .int .i64 0, .int .i64 0, .int .i64 0]) ?_ 0 _ rfl; (with_reducible repeat first|apply bn_|apply bd_|apply ba_); exact BK201.out))⟩; have n4_ : Aside0 (Below w.heap.size w w28) := ⟨(by rw [hw]; exact (ue_ HB.out))⟩; clear hw HO190 HO197 BK186 BK201 HB; have HO190 := n0_; have HO197 := n1_; have BK186 := n2_; have BK201 := n3_; have HB := n4_; clear n0_ n1_ n2_ n3_ n4_; obtain ⟨hcz29_0, hcz29_1, hcz29_2, hcz29_3⟩ := cb4_ BK201.out; obtain ⟨hfz29_0, hfz29_1, hfz29_2⟩ := bf3_ BK201.out; have hfz29_3 := blk_frozen BK201.out 3) | ((with_reducible refine gate_callee (f := 62) rfl ?_); refine goesL_ (some 18) rfl rfl Try.func62 (by kernel_rfl) rfl #[.agg #[.slice Ao25 t195.length co25, .int .i64 t198, .int .i64 t199, .int .i64 t200]] rfl ul_ ?_; (with_reducible refine (impl_ShardOk.calls k _ _ t195 t198 t199 t200 t202 _ ?side1 ?side2 A10.out).mono ?_); (case side1 => repeat (first | exact (Kd.R_reads' HO197.out).2.2 | (with_reducible refine Kd.C_alloc ?_ _) | (with_reducible refine Kd.C_drewN ?_ _) | (with_reducible refine Kd.C_drew ?_))); (case side2 => exact (Kd.R_reads' HO197.out).2.1); rintro e w30 ⟨rfl, hb⟩; refine ⟨_, rfl, ?_⟩; have n0_ := am_ (Kd.R_below (ur_ HO190.out) hb); have n1_ := am_ (Kd.R_below (ur_ HO197.out) hb); have n2_ := am_ (bb_ BK186.out hb); have n3_ := am_ (bb_ BK201.out hb); have n4_ := am_ (below_step (ue_ HB.out) hb); clear HO190 HO197 BK186 BK201 HB; have HO190 := n0_; have HO197 := n1_; have BK186 := n2_; have BK201 := n3_; have HB := n4_; clear n0_ n1_ n2_ n3_ n4_; (try clear hb); (try clear hb2); (try clear hk); (try clear hi)))
    have n0_ := am_ (Kd.R_drew HO190.out)
    have n1_ := am_ (Kd.R_drew HO197.out)
    have n2_ := am_ (blk_drew BK186.out)
    have n3_ := am_ (blk_drew BK201.out)
    have n4_ := am_ (below_drew1 HB.out)
    clear HO190
    clear HO197
    clear BK186
    clear BK201
    clear HB
    have HO190 := n0_
    have HO197 := n1_
    have BK186 := n2_
    have BK201 := n3_
    have HB := n4_
    clear n0_ n1_ n2_ n3_ n4_
    refine start_ (n := 5) (S := fun w' => w'.cell? ⟨gb201, 0, none⟩ = some (.slice Ao25 t195.length co25) ∧ w'.cell? ⟨gb201, 1, none⟩ = some (.int .i64 t198) ∧ w'.cell? ⟨gb201, 2, none⟩ = some (.int .i64 t199) ∧ w'.cell? ⟨gb201, 3, none⟩ = some (.int .i64 t200) ∧ w'.cell? ⟨gb186, 0, none⟩ = some (.slice A0_0 l0_0.length c0_0) ∧ w'.cell? ⟨gb186, 1, none⟩ = some (.int .i64 a0_1) ∧ w'.cell? ⟨gb186, 2, none⟩ = some (.int .i64 a0_2) ∧ w'.cell? ⟨gb186, 3, none⟩ = some (.int .i64 a0_3)) (ds := []) #[false, false, false, false, false] (by kernel_rfl) rfl rfl ⟨(blk_cell BK201.out 0).trans rfl, (blk_cell BK201.out 1).trans rfl, (blk_cell BK201.out 2).trans rfl, (blk_cell BK201.out 3).trans rfl, (blk_cell BK186.out 0).trans rfl, (blk_cell BK186.out 1).trans rfl, (blk_cell BK186.out 2).trans rfl, (blk_cell BK186.out 3).trans rfl⟩ (fun hHeld => ?_)
    generalize w30.drew = w31 at HO190 HO197 BK186 BK201 HB hHeld ⊢
    refine take_ (i := 0) (N := some 22) (v := ?_) (a' := ?_) #[true, false, false, false, false] rfl rfl (by kernel_rfl) (fun _ _ _ h => h) (Or.inl ⟨by rfl, ?_⟩) hHeld ?_ ?_
    rotate_left
    ·
     rintro w' ⟨s0, s1, s2, s3, s4, s5, s6, s7⟩
     go_simp
     with_reducible rfl
    rotate_left
    ·
     simp only [Act.put, List.setIfInBounds_toArray, List.set_cons_zero, List.set_cons_succ, i64_w, i32_w]
     rfl
    refine take_ (i := 1) (N := some 23) (v := ?_) (a' := ?_) #[true, true, false, false, false] rfl rfl (by kernel_rfl) (fun _ _ _ h => h) (Or.inl ⟨by rfl, ?_⟩) hHeld ?_ ?_
    rotate_left
    ·
     rintro w' ⟨s0, s1, s2, s3, s4, s5, s6, s7⟩
     go_simp
     with_reducible rfl
    rotate_left
    ·
     simp only [Act.put, List.setIfInBounds_toArray, List.set_cons_zero, List.set_cons_succ, i64_w, i32_w]
     rfl
    refine one_ (i := 2) (N := some 24) #[true, true, true, false, false] rfl rfl (by kernel_rfl) (by decide) (fun K hK => ?_)
    refine goes_ Try.func61 (by kernel_rfl) rfl #[.agg #[.slice A0_0 l0_0.length c0_0, .int .i64 a0_1, .int .i64 a0_2, .int .i64 a0_3]] (by rfl) rfl rfl ul_ ?_
    with_reducible refine (laws_toShard.calls k _ _ l0_0 a0_1 a0_2 a0_3 t203 t206 t207 t208 _ ?side1 ?side2 A12.out).mono ?_
    (case side1 => repeat (first | exact (Kd.C_below HR0_0.out HB.out) | (with_reducible refine Kd.C_alloc ?_ _) | (with_reducible refine Kd.C_drewN ?_ _) | (with_reducible refine Kd.C_drew ?_)))
    (case side2 => exact HC0_0.out)
    rintro e w32 ⟨v204, rfl, ho0, hb⟩
    refine ⟨_, rfl, ?_⟩
    have n0_ := am_ (Kd.R_elder' (ur_ HO190.out) (Kd.R_base ho0) hb)
    have n1_ := am_ (Kd.R_elder' (ur_ HO197.out) (Kd.R_base ho0) hb)
    have n2_ := am_ (Kd.R_lower (Kd.R_new' (Kd.R_new' ho0 (Kd.R_lt (ur_ HO190.out))) (Kd.R_lt (ur_ HO197.out))) (below_size (ue_ HB.out)))
    have n3_ := am_ (bb_ BK186.out hb)
    have n4_ := am_ (bb_ BK201.out hb)
    have n5_ := am_ (below_step (ue_ HB.out) hb)
    clear HO190
    clear HO197
    clear BK186
    clear BK201
    clear HB
    have HO190 := n0_
    have HO197 := n1_
    have HO205 := n2_
    have BK186 := n3_
    have BK201 := n4_
    have HB := n5_
    clear n0_ n1_ n2_ n3_ n4_ n5_
    (try clear hb)
    (try clear hb2)
    (try clear hk)
    (try clear hi)
    (try clear ho0)
    obtain ⟨Ao33, co33, eo33⟩ := Kd.R_slice HO205.out
    (first | subst eo33 | (injection eo33 with f1_ f2_ f3_; have f4_ := f1_.symm; have f5_ := f3_.symm; clear f1_ f2_ f3_; subst f4_; subst f5_))
    refine hK.out _ _ ⟨(blk_cell BK201.out 0).trans rfl, (blk_cell BK201.out 1).trans rfl, (blk_cell BK201.out 2).trans rfl, (blk_cell BK201.out 3).trans rfl, (blk_cell BK186.out 0).trans rfl, (blk_cell BK186.out 1).trans rfl, (blk_cell BK186.out 2).trans rfl, (blk_cell BK186.out 3).trans rfl⟩ (fun hHeld => ?_)
    clear hK K
    refine norm_ (a' := ?_) ?_ ?_
    rotate_left
    ·
     show Act.put _ (some 24) _ = _
     simp only [Act.put, List.setIfInBounds_toArray, List.set_cons_zero, List.set_cons_succ, i64_w, i32_w]
     rfl
    refine one_ (i := 3) (N := some 25) #[true, true, true, true, false] rfl rfl (by kernel_rfl) (by decide) (fun K hK => ?_)
    refine goes_ Try.func27 (by kernel_rfl) rfl #[.agg #[.slice Ao25 t195.length co25, .int .i64 t198, .int .i64 t199, .int .i64 t200], .agg #[.slice Ao33 t203.length co33, .int .i64 t206, .int .i64 t207, .int .i64 t208]] (by rfl) rfl rfl ul_ ?_
    with_reducible refine (laws_eqShard.calls k _ _ t195 t198 t199 t200 _ _ t203 t206 t207 t208 true _ ?side1 ?side2 ?side3 ?side4 A13.out).mono ?_
    (case side1 => repeat (first | exact (Kd.R_reads' HO197.out).2.2 | (with_reducible refine Kd.C_alloc ?_ _) | (with_reducible refine Kd.C_drewN ?_ _) | (with_reducible refine Kd.C_drew ?_)))
    (case side2 => exact (Kd.R_reads' HO197.out).2.1)
    (case side3 => repeat (first | exact (Kd.R_reads' HO205.out).2.2 | (with_reducible refine Kd.C_alloc ?_ _) | (with_reducible refine Kd.C_drewN ?_ _) | (with_reducible refine Kd.C_drew ?_)))
    (case side4 => exact (Kd.R_reads' HO205.out).2.1)
    rintro e w34 ⟨rfl, hb⟩
    refine ⟨_, rfl, ?_⟩
    have n0_ := am_ (Kd.R_below (ur_ HO190.out) hb)
    have n1_ := am_ (Kd.R_below (ur_ HO197.out) hb)
    have n2_ := am_ (Kd.R_below (ur_ HO205.out) hb)
    have n3_ := am_ (bb_ BK186.out hb)
    have n4_ := am_ (bb_ BK201.out hb)
    have n5_ := am_ (below_step (ue_ HB.out) hb)
    clear HO190
    clear HO197
    clear HO205
    clear BK186
    clear BK201
    clear HB
    have HO190 := n0_
    have HO197 := n1_
    have HO205 := n2_
    have BK186 := n3_
    have BK201 := n4_
    have HB := n5_
    clear n0_ n1_ n2_ n3_ n4_ n5_
    (try clear hb)
    (try clear hb2)
    (try clear hk)
    (try clear hi)
    refine hK.out _ _ ⟨(blk_cell BK201.out 0).trans rfl, (blk_cell BK201.out 1).trans rfl, (blk_cell BK201.out 2).trans rfl, (blk_cell BK201.out 3).trans rfl, (blk_cell BK186.out 0).trans rfl, (blk_cell BK186.out 1).trans rfl, (blk_cell BK186.out 2).trans rfl, (blk_cell BK186.out 3).trans rfl⟩ (fun hHeld => ?_)
    clear hK K
    refine norm_ (a' := ?_) ?_ ?_
    rotate_left
    ·
     show Act.put _ (some 25) _ = _
     simp only [Act.put, List.setIfInBounds_toArray, List.set_cons_zero, List.set_cons_succ, i64_w, i32_w]
     rfl
    refine pure_ (i := 4) (N := some 26) (v := ?_) (a' := ?_) #[true, true, true, true, true] rfl rfl (by kernel_rfl) (fun _ _ _ h => h) (Or.inl ⟨by rfl, ?_⟩) ?_ ?_
    rotate_left
    ·
     intro w'
     go_simp
     with_reducible rfl
    rotate_left
    ·
     simp only [Act.put, List.setIfInBounds_toArray, List.set_cons_zero, List.set_cons_succ, i64_w, i32_w]
     rfl
    refine done_ (by kernel_rfl) ?_
    try go_wp2
    go_ret
    exact ⟨ew_, ue_ HB.out⟩
   ·
    replace c14 := Bool.eq_false_iff.mpr c14
    subst c14
    have H1 : (some false) = some r := by rw [if_neg (show ¬ (false = true) by decide)] at H; exact H
    clear H
    have H := H1
    clear H1
    exact absurd ((Option.some.inj H).trans hT.out) (by decide)

end Go.Proofs.Ytoeiadanmfajoaa.QFnExactShardOk
