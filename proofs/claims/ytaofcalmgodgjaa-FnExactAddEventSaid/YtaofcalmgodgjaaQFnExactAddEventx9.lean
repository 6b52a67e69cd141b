/- The machine side of a law: Lean functions with the Go functions' answers and the walks that show it. No condition. -/
import Derived.Test.YtaofcalmgodgjaaQFnExactAddEventx0
import Derived.Test.YtaofcalmgodgjaaQFnExactAddEventx8
namespace Go.Proofs.Ytaofcalmgodgjaa.QFnExactAddEvent
open Go.RowKit Go.Proofs.YtaofcalmgodgjaaW.PrintWords Go.Proofs.YtaofcalmgodgjaaW.PrintLast Go.Proofs.YtaofcalmgodgjaaW.PrintMore
attribute [local go_sem] max2_int min2_int max_two min_two max_three min_three max_four min_four   -- for this text's walks alone
set_option linter.unusedVariables false
set_option linter.unusedSimpArgs false

/-! ### impl_put: function 44 -/
def impl_put.f (l0 : List (S62)) (a1_0 : Int) (a1_1 : Int) (a1_2 : Int) (a1_3 : Int) (a1_4 : Int) (a1_5 : Int) : Option ((List (S62))) := (slices_BinarySearchFunc_impl_Agg_impl_Agg_impl_Agg.f l0 a1_0 a1_1 a1_2 a1_3 a1_4 a1_5 ord62).bind fun bt285 => (if bt285.2 = true then (if 0 ≤ bt285.1 then (if bt285.1 < (l0.length : Int) then ((impl_merged.f ((rd_T62 l0 bt285.1).f0) ((rd_T62 l0 bt285.1).f1) ((rd_T62 l0 bt285.1).f2) ((rd_T62 l0 bt285.1).f3) ((rd_T62 l0 bt285.1).f4) ((rd_T62 l0 bt285.1).f5) a1_0 a1_1 a1_2 a1_3 a1_4 a1_5).bind fun bt288 => (some (l0.set (bt285.1 : Int).toNat (⟨bt288.1, bt288.2.1, bt288.2.2.1, bt288.2.2.2.1, bt288.2.2.2.2.1, bt288.2.2.2.2.2⟩ : S62)))) else (none)) else (none)) else ((slices_Insert_impl_Agg_impl_Agg.f l0 bt285.1 (([(⟨a1_0, a1_1, a1_2, a1_3, a1_4, a1_5⟩ : S62)] : List (S62)))).bind fun t298 => (some t298)))
def impl_put.T4 : Bool × List (List Nat × List Nat) := (true, [([], []), ([], []), ([], []), ([], []), ([2, 3], [2, 3]), ([4], [4]), ([], []), ([5, 6], [5, 6]), ([0, 1, 0, 1, 2, 3, 4, 5, 6, 7], [0, 1]), ([8, 7, 7, 0, 1, 2, 3, 4, 5, 6, 7], [7, 8])])
def impl_put.B4 : List Nat := [0, 0, 0, 0, 12, 28, 0, 124, 255, 511]
theorem impl_put.tab4 : rtab .any (opsOf Try.f44 4) = impl_put.T4 := by kernel_rfl
theorem impl_put.bits4 : waitsOk impl_put.T4.2 impl_put.B4 = true := by kernel_rfl
set_option maxHeartbeats 8000000 in
set_option maxRecDepth 100000 in
theorem impl_put.calls (P0_ : Nat → Prop) (u9000_ : Value) (l0 : List (S62)) (a1_0 : Int) (a1_1 : Int) (a1_2 : Int) (a1_3 : Int) (a1_4 : Int) (a1_5 : Int) (r : List (S62)) (w0 w : World) (hB : Below w0.heap.size w0 w) (ho0 : Kd.R k62 62 w w0.heap.size P0_ u9000_ l0) (h : impl_put.f l0 a1_0 a1_1 a1_2 a1_3 a1_4 a1_5 = some r) :
  Calls Try.prog 44 #[u9000_, .agg #[.int .i64 a1_0, .int .i64 a1_1, .int .i64 a1_2, .int .i64 a1_3, .int .i64 a1_4, .int .i64 a1_5]] w fun e w' => ∃ v0_ : Value, e = .returned (v0_) ∧ Kd.R k62 62 w' w0.heap.size (fun k_ => (P0_ k_ ∨ w.heap.size ≤ k_)) v0_ r ∧ Below w0.heap.size w0 w' ∧ Kept w w' (fun k_ => P0_ k_) := by
 have hu62 := Try.underlying62
 have HO0 := am_ (show Kd.R k62 62 w w0.heap.size (fun k_ => (P0_ k_ ∨ w.heap.size ≤ k_)) u9000_ l0 from Kd.R_mono ho0 (fun k_ hk => (.inl hk)))
 have HK := am_ (Kept.refl w (fun k_ => P0_ k_))
 have HW0 := Aside0.mk hB.size
 have HB := Aside0.mk hB
 clear hB
 have H : ((slices_BinarySearchFunc_impl_Agg_impl_Agg_impl_Agg.f l0 a1_0 a1_1 a1_2 a1_3 a1_4 a1_5 ord62).bind fun bt285 => (if bt285.2 = true then (if 0 ≤ bt285.1 then (if bt285.1 < (l0.length : Int) then ((impl_merged.f ((rd_T62 l0 bt285.1).f0) ((rd_T62 l0 bt285.1).f1) ((rd_T62 l0 bt285.1).f2) ((rd_T62 l0 bt285.1).f3) ((rd_T62 l0 bt285.1).f4) ((rd_T62 l0 bt285.1).f5) a1_0 a1_1 a1_2 a1_3 a1_4 a1_5).bind fun bt288 => (some (l0.set (bt285.1 : Int).toNat (⟨bt288.1, bt288.2.1, bt288.2.2.1, bt288.2.2.2.1, bt288.2.2.2.2.1, bt288.2.2.2.2.2⟩ : S62)))) else (none)) else (none)) else ((slices_Insert_impl_Agg_impl_Agg.f l0 bt285.1 (([(⟨a1_0, a1_1, a1_2, a1_3, a1_4, a1_5⟩ : S62)] : List (S62)))).bind fun t298 => (some t298)))) = some r := h
 clear h
 replace H := Option.bind_eq_some_iff.mp H
 obtain ⟨⟨t285, t286⟩, A30, H⟩ := H
 replace H : (if t286 = true then (if 0 ≤ t285 then (if t285 < (l0.length : Int) then ((impl_merged.f ((rd_T62 l0 t285).f0) ((rd_T62 l0 t285).f1) ((rd_T62 l0 t285).f2) ((rd_T62 l0 t285).f3) ((rd_T62 l0 t285).f4) ((rd_T62 l0 t285).f5) a1_0 a1_1 a1_2 a1_3 a1_4 a1_5).bind fun bt288 => (some (l0.set (t285 : Int).toNat (⟨bt288.1, bt288.2.1, bt288.2.2.1, bt288.2.2.2.1, bt288.2.2.2.2.1, bt288.2.2.2.2.2⟩ : S62)))) else (none)) else (none)) else ((slices_Insert_impl_Agg_impl_Agg.f l0 t285 (([(⟨a1_0, a1_1, a1_2, a1_3, a1_4, a1_5⟩ : S62)] : List (S62)))).bind fun t298 => (some t298))) = some r := H
 have A3 := Aside0.mk A30
 clear A30
 by_cases c4 : t286 = true
 ·
  subst c4
  have H1 : (if 0 ≤ t285 then (if t285 < (l0.length : Int) then ((impl_merged.f ((rd_T62 l0 t285).f0) ((rd_T62 l0 t285).f1) ((rd_T62 l0 t285).f2) ((rd_T62 l0 t285).f3) ((rd_T62 l0 t285).f4) ((rd_T62 l0 t285).f5) a1_0 a1_1 a1_2 a1_3 a1_4 a1_5).bind fun bt288 => (some (l0.set (t285 : Int).toNat (⟨bt288.1, bt288.2.1, bt288.2.2.1, bt288.2.2.2.1, bt288.2.2.2.2.1, bt288.2.2.2.2.2⟩ : S62)))) else (none)) else (none)) = some r := by rw [if_pos rfl] at H; exact H
  clear H
  have H := H1
  clear H1
  by_cases c5 : 0 ≤ t285
  ·
   rw [if_pos c5] at H
   have c5b0 : decide (0 ≤ t285) = true := decide_eq_true c5
   clear c5
   by_cases c6 : t285 < (l0.length : Int)
   ·
    rw [if_pos c6] at H
    have c6b0 : decide (t285 < (l0.length : Int)) = true := decide_eq_true c6
    clear c6
    replace H := Option.bind_eq_some_iff.mp H
    obtain ⟨⟨t288, t289, t290, t291, t292, t293⟩, A70, H⟩ := H
    replace H : (some (l0.set (t285 : Int).toNat (⟨t288, t289, t290, t291, t292, t293⟩ : S62))) = some r := H
    have A7 := Aside0.mk A70
    clear A70
    obtain ⟨y294, hy294⟩ : ∃ y_ : List (S62), y_ = (l0.set (t285 : Int).toNat (⟨t288, t289, t290, t291, t292, t293⟩ : S62)) := ⟨_, rfl⟩
    replace H : (some y294) = some r := by first | (rw [hy294]; with_reducible exact H) | (have H2_ := (Option.bind_some _ _).symm.trans H; rw [hy294]; with_reducible exact H2_) | (have H2_ := (Option.bind_some _ _).symm.trans H; with_reducible exact H2_) | with_reducible exact H | (rw [hy294]; exact H) | exact H
    have Ny294 := Aside0.mk hy294
    clear hy294
    obtain rfl := Option.some.inj H
    go_enter Try.func44, Try.ntmps44
    try go_wp2_with (first | ((with_reducible refine gate_dst (N := 3) rfl ?_); refine bx_ (N := 3) (cs := #[.int .i64 a1_0, .int .i64 a1_1, .int .i64 a1_2, .int .i64 a1_3, .int .i64 a1_4, .int .i64 a1_5]) (t := 62) ?_; intro gb284 hg w9 hbox hb; replace HO0 := am_ (Kd.R_below (Kd.R_elderB (ur_ HO0.out) gb284 (Nat.le_of_eq hg.symm)) hb); have BK284 := am_ (hbox); have GW284 := am_ ((by rw [hg]; exact (by first | exact HK.out.1 | exact (show Kept w _ (fun k_ => P0_ k_) from by repeat (first | (with_reducible first | exact HK.out | apply Kept.alloc | apply Kept.drewN | apply Kept.drew) | exact HK.out)).1) : w.heap.size ≤ gb284)); replace HK := am_ (Kept.below (S := (fun k_ => P0_ k_)) (by repeat (first | (with_reducible first | exact HK.out | apply Kept.alloc | apply Kept.drewN | apply Kept.drew) | exact HK.out)) hb); have GE284 := am_ ((by rw [hg]; exact (below_size (ue_ HB.out)) : w0.heap.size ≤ gb284)); replace HB := hs_ HB hb; clear hb hbox hg; obtain ⟨hcz10_0, hcz10_1, hcz10_2, hcz10_3, hcz10_4, hcz10_5⟩ := cb6_ BK284.out; obtain ⟨hfz10_0, hfz10_1, hfz10_2, hfz10_3, hfz10_4, hfz10_5⟩ := bf6_ BK284.out; obtain ⟨Ao11, co11, eo11⟩ := Kd.R_slice HO0.out; subst eo11) | ((with_reducible refine gate_callee (f := 40) rfl ?_); refine goesL_ (some 10) rfl rfl Try.func40 (by kernel_rfl) rfl #[.slice Ao11 l0.length co11, .agg #[.int .i64 a1_0, .int .i64 a1_1, .int .i64 a1_2, .int .i64 a1_3, .int .i64 a1_4, .int .i64 a1_5], .func (.func 41) #[] #[]] rfl ul_ ?_; (with_reducible refine (slices_BinarySearchFunc_impl_Agg_impl_Agg_impl_Agg.calls _ _ l0 a1_0 a1_1 a1_2 a1_3 a1_4 a1_5 ord62 41 #[] t285 true _ ?side1 ?side2 ?side3 A3.out).mono ?_); (case side1 => repeat (first | exact (Kd.R_reads' HO0.out).2.2 | (with_reducible refine Kd.C_alloc ?_ _) | (with_reducible refine Kd.C_drewN ?_ _) | (with_reducible refine Kd.C_drew ?_))); (case side2 => exact (Kd.R_reads' HO0.out).2.1); (case side3 => exact impl_aggOrder.pays _); rintro e w12 ⟨rfl, hb⟩; refine ⟨_, rfl, ?_⟩; replace HO0 := am_ (Kd.R_below (ur_ HO0.out) hb); replace BK284 := bs_ BK284 hb; replace HK := am_ (Kept.below (S := (fun k_ => P0_ k_)) (by repeat (first | (with_reducible first | exact HK.out | apply Kept.alloc | apply Kept.drewN | apply Kept.drew | refine Kept.setCell ?_ (.inr GW284.out) _) | exact HK.out)) hb); replace HB := hs_ HB hb; (try clear hb); (try clear hb2); (try clear hk); (try clear hi)))
    replace HO0 := am_ (Kd.R_drew HO0.out)
    replace BK284 := am_ (blk_drew BK284.out)
    replace HK := am_ (Kept.drew HK.out)
    replace HB := am_ (below_drew1 HB.out)
    have p287 : 0 ≤ (t285 : Int) := of_decide_eq_true ua_
    have q287 : t285 < (l0.length : Int) := of_decide_eq_true ua_
    obtain ⟨ad287, e287, hx287_0, hx287_1, hx287_2, hx287_3, hx287_4, hx287_5⟩ := at_T62 (Kd.R_reads' HO0.out).2.2 t285 p287 q287
    cases e287
    replace p287 := eq_true p287
    replace q287 := eq_true q287
    refine start_ (n := 10) (S := fun w' => w'.cell? ⟨gb284, 0, none⟩ = some (.int .i64 a1_0) ∧ w'.cell? ⟨gb284, 1, none⟩ = some (.int .i64 a1_1) ∧ w'.cell? ⟨gb284, 2, none⟩ = some (.int .i64 a1_2) ∧ w'.cell? ⟨gb284, 3, none⟩ = some (.int .i64 a1_3) ∧ w'.cell? ⟨gb284, 4, none⟩ = some (.int .i64 a1_4) ∧ w'.cell? ⟨gb284, 5, none⟩ = some (.int .i64 a1_5) ∧ w'.cell? (ad287.add ((t285).toNat * 6)) = some (.int .i64 ((rd_T62 l0 t285).f0)) ∧ w'.cell? ⟨(ad287.add ((t285).toNat * 6)).block, (ad287.add ((t285).toNat * 6)).off + 1, none⟩ = some (.int .i64 ((rd_T62 l0 t285).f1)) ∧ w'.cell? ⟨(ad287.add ((t285).toNat * 6)).block, (ad287.add ((t285).toNat * 6)).off + 2, none⟩ = some (.int .i64 ((rd_T62 l0 t285).f2)) ∧ w'.cell? ⟨(ad287.add ((t285).toNat * 6)).block, (ad287.add ((t285).toNat * 6)).off + 3, none⟩ = some (.int .i64 ((rd_T62 l0 t285).f3)) ∧ w'.cell? ⟨(ad287.add ((t285).toNat * 6)).block, (ad287.add ((t285).toNat * 6)).off + 4, none⟩ = some (.int .i64 ((rd_T62 l0 t285).f4)) ∧ w'.cell? ⟨(ad287.add ((t285).toNat * 6)).block, (ad287.add ((t285).toNat * 6)).off + 5, none⟩ = some (.int .i64 ((rd_T62 l0 t285).f5))) (ds := [9]) #[false, false, false, false, false, false, false, false, false, false] (by kernel_rfl) rfl rfl ⟨cb_ BK284.out 0 rfl, cb_ BK284.out 1 rfl, cb_ BK284.out 2 rfl, cb_ BK284.out 3 rfl, cb_ BK284.out 4 rfl, cb_ BK284.out 5 rfl, hx287_0, hx287_1, hx287_2, hx287_3, hx287_4, hx287_5⟩ (fun hHeld => ?_); refine with_tabW impl_put.tab4 impl_put.bits4 (fun HT_ HW_ => ?_)
    generalize w12.drew = w13 at HO0 BK284 HK HB hx287_0 hx287_1 hx287_2 hx287_3 hx287_4 hx287_5 hHeld ⊢
    refine pu_ (i := 0) (N := some 20) #[true, false, false, false, false, false, false, false, false, false] HT_ ?_
    refine pu_ (i := 1) (N := some 21) #[true, true, false, false, false, false, false, false, false, false] HT_ ?_
    refine pu_ (i := 2) (N := some 22) #[true, true, true, false, false, false, false, false, false, false] HT_ ?_
    refine pu_ (i := 3) (N := some 23) #[true, true, true, true, false, false, false, false, false, false] HT_ ?_
    refine pu_ (i := 4) (N := some 24) #[true, true, true, true, true, false, false, false, false, false] HT_ ?_
    refine tk_ (i := 5) (N := some 25) #[true, true, true, true, true, true, false, false, false, false] HT_ HW_ hHeld ?_
    refine tk_ (i := 6) (N := some 26) #[true, true, true, true, true, true, true, false, false, false] HT_ HW_ hHeld ?_
    refine one_ (i := 7) (N := some 27) #[true, true, true, true, true, true, true, true, false, false] rfl rfl (one_of HT_.out (by kernel_rfl)) (by decide) (fun K hK => ?_)
    refine goes_ Try.func72 (by kernel_rfl) rfl #[.agg #[.int .i64 ((rd_T62 l0 t285).f0), .int .i64 ((rd_T62 l0 t285).f1), .int .i64 ((rd_T62 l0 t285).f2), .int .i64 ((rd_T62 l0 t285).f3), .int .i64 ((rd_T62 l0 t285).f4), .int .i64 ((rd_T62 l0 t285).f5)], .agg #[.int .i64 a1_0, .int .i64 a1_1, .int .i64 a1_2, .int .i64 a1_3, .int .i64 a1_4, .int .i64 a1_5]] (by rfl) rfl rfl ul_ ?_
    with_reducible refine (impl_merged.calls ((rd_T62 l0 t285).f0) ((rd_T62 l0 t285).f1) ((rd_T62 l0 t285).f2) ((rd_T62 l0 t285).f3) ((rd_T62 l0 t285).f4) ((rd_T62 l0 t285).f5) a1_0 a1_1 a1_2 a1_3 a1_4 a1_5 t288 t289 t290 t291 t292 t293 _ A7.out).mono ?_
    rintro e w14 ⟨rfl, hb⟩
    have HS6_ := (hb.cell (World.block_lt_of_cell? _ _ (hHeld.2.2.2.2.2.2.1))).trans (hHeld.2.2.2.2.2.2.1)
    have HS7_ := (hb.cell (World.block_lt_of_cell? _ _ (hHeld.2.2.2.2.2.2.2.1))).trans (hHeld.2.2.2.2.2.2.2.1)
    have HS8_ := (hb.cell (World.block_lt_of_cell? _ _ (hHeld.2.2.2.2.2.2.2.2.1))).trans (hHeld.2.2.2.2.2.2.2.2.1)
    have HS9_ := (hb.cell (World.block_lt_of_cell? _ _ (hHeld.2.2.2.2.2.2.2.2.2.1))).trans (hHeld.2.2.2.2.2.2.2.2.2.1)
    have HS10_ := (hb.cell (World.block_lt_of_cell? _ _ (hHeld.2.2.2.2.2.2.2.2.2.2.1))).trans (hHeld.2.2.2.2.2.2.2.2.2.2.1)
    have HS11_ := (hb.cell (World.block_lt_of_cell? _ _ (hHeld.2.2.2.2.2.2.2.2.2.2.2))).trans (hHeld.2.2.2.2.2.2.2.2.2.2.2)
    refine ⟨_, rfl, ?_⟩
    replace HO0 := am_ (Kd.R_below (ur_ HO0.out) hb)
    replace BK284 := bs_ BK284 hb
    replace HK := am_ (Kept.below (S := (fun k_ => P0_ k_)) (by repeat (first | (with_reducible first | exact HK.out | apply Kept.alloc | apply Kept.drewN | apply Kept.drew | refine Kept.setCell ?_ (.inr GW284.out) _) | exact HK.out)) hb)
    replace HB := hs_ HB hb
    (try clear hb)
    (try clear hb2)
    (try clear hk)
    (try clear hi)
    have p8 : 0 ≤ (t285 : Int) := of_decide_eq_true ua_
    have q8 : (t285 : Int) < ((l0.length : Int) : Int) := of_decide_eq_true ua_
    obtain ⟨go8, co8, eo8, gb8, gl8, cl8, HG8⟩ := Kd.R_form HO0.out (by omega)
    (first | cases eo8 | (injection eo8 with ea_ en_ ec_; (first | subst ea_ | (injection ea_ with ea_; subst ea_)); subst ec_; clear en_))
    have GB8 := Aside0.mk gb8
    have GG8 := Aside0.mk HG8
    clear gb8 gl8 HG8
    have HMgo8 := am_ (show (P0_ go8 ∨ w.heap.size ≤ go8) from (HO0.out.1 _ rfl).1)
    (first | simp only [add_plain] at hx287_0 | skip)
    (first | simp only [add_plain] at hx287_1 | skip)
    (first | simp only [add_plain] at hx287_2 | skip)
    (first | simp only [add_plain] at hx287_3 | skip)
    (first | simp only [add_plain] at hx287_4 | skip)
    (first | simp only [add_plain] at hx287_5 | skip)
    obtain ⟨ce8, hcl8, hM8, hcc8, hfr8⟩ := Kd.R_elem HO0.out z62 (t285 : Int) p8 q8
    obtain rfl := k62_openM hM8
    have hx8_0 : World.cell? _ ⟨go8, (t285 : Int).toNat * 6, none⟩ = some (.int .i64 ((rd_T62 l0 t285).f0)) := hcc8 0 _ rfl
    have hx8_1 : World.cell? _ ⟨go8, (t285 : Int).toNat * 6 + 1, none⟩ = some (.int .i64 ((rd_T62 l0 t285).f1)) := hcc8 1 _ rfl
    have hx8_2 : World.cell? _ ⟨go8, (t285 : Int).toNat * 6 + 2, none⟩ = some (.int .i64 ((rd_T62 l0 t285).f2)) := hcc8 2 _ rfl
    have hx8_3 : World.cell? _ ⟨go8, (t285 : Int).toNat * 6 + 3, none⟩ = some (.int .i64 ((rd_T62 l0 t285).f3)) := hcc8 3 _ rfl
    have hx8_4 : World.cell? _ ⟨go8, (t285 : Int).toNat * 6 + 4, none⟩ = some (.int .i64 ((rd_T62 l0 t285).f4)) := hcc8 4 _ rfl
    have hx8_5 : World.cell? _ ⟨go8, (t285 : Int).toNat * 6 + 5, none⟩ = some (.int .i64 ((rd_T62 l0 t285).f5)) := hcc8 5 _ rfl
    have hf8_0 : World.frozen? _ ⟨go8, (t285 : Int).toNat * 6, none⟩ = false := hfr8 0
    have hf8_1 : World.frozen? _ ⟨go8, (t285 : Int).toNat * 6 + 1, none⟩ = false := hfr8 1
    have hf8_2 : World.frozen? _ ⟨go8, (t285 : Int).toNat * 6 + 2, none⟩ = false := hfr8 2
    have hf8_3 : World.frozen? _ ⟨go8, (t285 : Int).toNat * 6 + 3, none⟩ = false := hfr8 3
    have hf8_4 : World.frozen? _ ⟨go8, (t285 : Int).toNat * 6 + 4, none⟩ = false := hfr8 4
    have hf8_5 : World.frozen? _ ⟨go8, (t285 : Int).toNat * 6 + 5, none⟩ = false := hfr8 5
    clear hcl8 hcc8 hfr8 hM8
    replace p8 := eq_true p8
    replace q8 := eq_true q8
    obtain ⟨ce15, hcl15, hM15, hcc15, hfr15⟩ := Kd.R_elem HO0.out z62 (t285 : Int) (of_decide_eq_true ua_) (by have h_ : (t285 : Int) < ((l0.length : Int) : Int) := of_decide_eq_true ua_; first | exact h_ | (have e_ := (Kd.R_reads' HO0.out).1; omega) | simpa using h_)
    obtain rfl := k62_openM hM15
    have HP15 := (Kd.R_seg HO0.out (t285 : Int) (of_decide_eq_true ua_) (by have h_ : (t285 : Int) < ((l0.length : Int) : Int) := of_decide_eq_true ua_; first | exact h_ | (have e_ := (Kd.R_reads' HO0.out).1; omega) | simpa using h_) (seg := [.int .i64 t288, .int .i64 t289, .int .i64 t290, .int .i64 t291, .int .i64 t292, .int .i64 t293]) (j := 0) hcl15 hcc15 (show 6 ≤ 6 from by decide) (x' := (⟨t288, t289, t290, t291, t292, t293⟩ : S62)) (k62_mkM _ _ _ (⟨t288, t289, t290, t291, t292, t293⟩ : S62) ) (fun _ hk => hk)).1
    rw [← Ny294.out] at HP15
    have HQ15 := Aside0.mk HP15
    clear hcl15 hcc15 hfr15 hM15 HP15
    refine hK.out _ _ ⟨cb_ BK284.out 0 rfl, cb_ BK284.out 1 rfl, cb_ BK284.out 2 rfl, cb_ BK284.out 3 rfl, cb_ BK284.out 4 rfl, cb_ BK284.out 5 rfl, HS6_, HS7_, HS8_, HS9_, HS10_, HS11_⟩ (fun hHeld => ?_)
    clear hK K
    refine norm_ (a' := ?_) ?_ ?_
    rotate_left
    ·
     show Act.put _ (some 27) _ = _
     simp only [Act.put, List.setIfInBounds_toArray, List.set_cons_zero, List.set_cons_succ, i64_w, i32_w]
     rfl
    refine pu_ (i := 8) (N := some 28) #[true, true, true, true, true, true, true, true, true, false] HT_ ?_
    refine last_ (i := 9) (N := none) #[true, true, true, true, true, true, true, true, true, true] rfl rfl (one_of HT_.out (by kernel_rfl)) (by decide) (fun K hK => ?_)
    refine skip_ (w1 := ?_) (by rfl) rfl ?_ ?_
    rotate_left
    ·
     go_simp
     rfl
    refine hK.out _ _ ?_
    clear hK K
    refine done_ (done_of HT_.out (by kernel_rfl)) ?_
    try go_wp2
    go_ret
    exact ⟨_, ew_, by (with_reducible repeat (first | apply Kd.R_alloc | apply Kd.R_drewN | apply Kd.R_drew)); exact Kd.R_mono HQ15.out (fun _ hk => by first | exact hk.1 | grind), by repeat (first | (with_reducible first | exact HB.out | apply below_alloc | apply pw_below_drewN | apply below_drew1 | refine below_set ?_ GB8.out | refine below_set ?_ GB8.out | refine below_set ?_ GB8.out | refine below_set ?_ GB8.out | refine below_set ?_ GB8.out | refine below_set ?_ GB8.out | refine below_set ?_ GE284.out) | exact HB.out), by repeat (first | (with_reducible first | exact HK.out | apply Kept.alloc | apply Kept.drewN | apply Kept.drew | refine Kept.setCell ?_ HMgo8.out _ | refine Kept.setCell ?_ HMgo8.out _ | refine Kept.setCell ?_ HMgo8.out _ | refine Kept.setCell ?_ HMgo8.out _ | refine Kept.setCell ?_ HMgo8.out _ | refine Kept.setCell ?_ HMgo8.out _ | refine Kept.setCell ?_ (.inr GW284.out) _) | exact HK.out)⟩
   rw [if_neg c6] at H
   exact absurd H (by simp)
  rw [if_neg c5] at H
  exact absurd H (by simp)
 replace c4 := Bool.eq_false_iff.mpr c4
 subst c4
 have H1 : ((slices_Insert_impl_Agg_impl_Agg.f l0 t285 (([(⟨a1_0, a1_1, a1_2, a1_3, a1_4, a1_5⟩ : S62)] : List (S62)))).bind fun t298 => (some t298)) = some r := by rw [if_neg (show ¬ (false = true) by decide)] at H; exact H
 clear H
 have H := H1
 clear H1
 obtain ⟨y295, hy295⟩ : ∃ y_ : List (S62), y_ = (([(⟨a1_0, a1_1, a1_2, a1_3, a1_4, a1_5⟩ : S62)] : List (S62))) := ⟨_, rfl⟩
 replace H : ((slices_Insert_impl_Agg_impl_Agg.f l0 t285 y295).bind fun t298 => (some t298)) = some r := by first | (rw [hy295]; with_reducible exact H) | (have H2_ := (Option.bind_some _ _).symm.trans H; rw [hy295]; with_reducible exact H2_) | (have H2_ := (Option.bind_some _ _).symm.trans H; with_reducible exact H2_) | with_reducible exact H | (rw [hy295]; exact H) | exact H
 have Ny295 := Aside0.mk hy295
 clear hy295
 replace H := Option.bind_eq_some_iff.mp H
 obtain ⟨t298, A160, H⟩ := H
 replace H : (some t298) = some r := H
 have A16 := Aside0.mk A160
 clear A160
 obtain rfl := Option.some.inj H
 have hI := A16.out
 rw [Ny295.out] at hI
 unfold slices_Insert_impl_Agg_impl_Agg.f at hI
 have hci : 0 ≤ t285 ∧ t285 ≤ (l0.length : Int) ∧ ([(⟨a1_0, a1_1, a1_2, a1_3, a1_4, a1_5⟩ : S62)] : List S62).length = 1 ∧ l0.length ≤ 1000000 := Decidable.byContradiction (fun hn => by rw [if_neg hn] at hI; cases hI)
 rw [if_pos hci] at hI
 obtain ⟨ii, rfl⟩ : ∃ ii : Nat, t285 = (ii : Int) := ⟨t285.toNat, by omega⟩
 have hile : ii ≤ l0.length := by omega
 have hl1 : l0.length ≤ 1000000 := hci.2.2.2
 have hI2 : l0.take ii ++ (⟨a1_0, a1_1, a1_2, a1_3, a1_4, a1_5⟩ : S62) :: l0.drop ii = t298 := by simpa using hI
 have HI := Aside0.mk hI2
 clear hI hI2 hci
 go_enter Try.func44, Try.ntmps44
 go_wp2_with (first | ((with_reducible refine gate_dst (N := 3) rfl ?_); refine bx_ (N := 3) (cs := #[.int .i64 a1_0, .int .i64 a1_1, .int .i64 a1_2, .int .i64 a1_3, .int .i64 a1_4, .int .i64 a1_5]) (t := 62) ?_; intro gb284 hg w17 hbox hb; replace HO0 := am_ (Kd.R_below (Kd.R_elderB (ur_ HO0.out) gb284 (Nat.le_of_eq hg.symm)) hb); have BK284 := am_ (hbox); have GW284 := am_ ((by rw [hg]; exact (by first | exact HK.out.1 | exact (show Kept w _ (fun k_ => P0_ k_) from by repeat (first | (with_reducible first | exact HK.out | apply Kept.alloc | apply Kept.drewN | apply Kept.drew) | exact HK.out)).1) : w.heap.size ≤ gb284)); replace HK := am_ (Kept.below (S := (fun k_ => P0_ k_)) (by repeat (first | (with_reducible first | exact HK.out | apply Kept.alloc | apply Kept.drewN | apply Kept.drew) | exact HK.out)) hb); have GE284 := am_ ((by rw [hg]; exact (below_size (ue_ HB.out)) : w0.heap.size ≤ gb284)); replace HB := hs_ HB hb; clear hb hbox hg; obtain ⟨hcz18_0, hcz18_1, hcz18_2, hcz18_3, hcz18_4, hcz18_5⟩ := cb6_ BK284.out; obtain ⟨hfz18_0, hfz18_1, hfz18_2, hfz18_3, hfz18_4, hfz18_5⟩ := bf6_ BK284.out; obtain ⟨Ao19, co19, eo19⟩ := Kd.R_slice HO0.out; subst eo19) | ((with_reducible refine gate_callee (f := 40) rfl ?_); refine goesL_ (some 10) rfl rfl Try.func40 (by kernel_rfl) rfl #[.slice Ao19 l0.length co19, .agg #[.int .i64 a1_0, .int .i64 a1_1, .int .i64 a1_2, .int .i64 a1_3, .int .i64 a1_4, .int .i64 a1_5], .func (.func 41) #[] #[]] rfl ul_ ?_; (with_reducible refine (slices_BinarySearchFunc_impl_Agg_impl_Agg_impl_Agg.calls _ _ l0 a1_0 a1_1 a1_2 a1_3 a1_4 a1_5 ord62 41 #[] (ii : Int) false _ ?side1 ?side2 ?side3 A3.out).mono ?_); (case side1 => repeat (first | exact (Kd.R_reads' HO0.out).2.2 | (with_reducible refine Kd.C_alloc ?_ _) | (with_reducible refine Kd.C_drewN ?_ _) | (with_reducible refine Kd.C_drew ?_))); (case side2 => exact (Kd.R_reads' HO0.out).2.1); (case side3 => exact impl_aggOrder.pays _); rintro e w20 ⟨rfl, hb⟩; refine ⟨_, rfl, ?_⟩; replace HO0 := am_ (Kd.R_below (ur_ HO0.out) hb); replace BK284 := bs_ BK284 hb; replace HK := am_ (Kept.below (S := (fun k_ => P0_ k_)) (by repeat (first | (with_reducible first | exact HK.out | apply Kept.alloc | apply Kept.drewN | apply Kept.drew | refine Kept.setCell ?_ (.inr GW284.out) _) | exact HK.out)) hb); replace HB := hs_ HB hb; (try clear hb); (try clear hb2); (try clear hk); (try clear hi); obtain ⟨hcz21_0, hcz21_1, hcz21_2, hcz21_3, hcz21_4, hcz21_5⟩ := cb6_ BK284.out; obtain ⟨hfz21_0, hfz21_1, hfz21_2, hfz21_3, hfz21_4⟩ := bf5_ BK284.out; have hfz21_5 := blk_frozen BK284.out 5) | (go_at_call 71; refine (ins62 (fun k_ => (P0_ k_ ∨ w.heap.size ≤ k_) ∧ k_ ≠ gb284) (.slice Ao19 l0.length co19) ii l0 ⟨a1_0, a1_1, a1_2, a1_3, a1_4, a1_5⟩ w0 w20 hile HB.out HO0.out hl1).mono ?_; rintro e w25 ⟨v299, rfl, ho, hb, hk⟩; have HO300 := am_ (Kd.R_mono (ok' := fun k_ => P0_ k_ ∨ w.heap.size ≤ k_) ho (fun k h => h.elim (fun h => h.1) (fun h => .inr (Nat.le_trans HK.out.1 h)))); have HB2 := Aside0.mk hb; have HK2 := am_ (Kept.then_ HK.out hk (fun k h => h.1))))
 go_ret
 exact ⟨_, rfl, by rw [← HI.out]; exact HO300.out, HB2.out, HK2.out⟩

end Go.Proofs.Ytaofcalmgodgjaa.QFnExactAddEvent
