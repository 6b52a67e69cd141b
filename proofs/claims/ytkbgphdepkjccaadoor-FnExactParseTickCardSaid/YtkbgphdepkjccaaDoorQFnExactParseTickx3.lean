/- The machine side of a law: Lean functions with the Go functions' answers and the walks that show it. No condition. -/
import Derived.Test.YtkbgphdepkjccaaDoorQFnExactParseTickx0
import Derived.Test.YtkbgphdepkjccaaDoorQFnExactParseTickx2
namespace Go.Proofs.YtkbgphdepkjccaaDoor.QFnExactParseTick
open Go.RowKit Go.Proofs.YtkbgphdepkjccaaDoorW.PrintWords Go.Proofs.YtkbgphdepkjccaaDoorW.PrintLast Go.Proofs.YtkbgphdepkjccaaDoorW.PrintMore
attribute [local go_sem] max2_int min2_int max_two min_two max_three min_three max_four min_four   -- for this text's walks alone
set_option linter.unusedVariables false
set_option linter.unusedSimpArgs false

/-! ### impl_TickText: function 8 -/
def impl_TickText.f (a0 : Int) : Option (ByteArray) := (impl_TickOk.f a0).bind fun t136 => (if t136 = true then ((impl_decimal.f (wrap64 (Int.tdiv a0 1000))).bind fun t137 => (if t137.size + 1 ≤ 9223372036854775807 then ((impl_decimal.f (wrap64 (1000 + (Int.tmod a0 1000)))).bind fun t138 => (if 1 ≤ (t138.size : Int) then (if (t137 ++ (⟨#[46]⟩ : ByteArray)).size + (t138.extract 1 t138.size).size ≤ 9223372036854775807 then (some ((t137 ++ (⟨#[46]⟩ : ByteArray)) ++ (t138.extract 1 t138.size))) else (none)) else (none))) else (none))) else (some (⟨#[]⟩ : ByteArray)))
set_option maxHeartbeats 8000000 in
set_option maxRecDepth 100000 in
theorem impl_TickText.calls (a0 : Int) (r : ByteArray) (w : World) (h : impl_TickText.f a0 = some r) (hL : LaidT w) :
    Calls Tryd.prog 8 #[.int .i64 a0] w fun e w' => e = .returned (.string r) ∧ Below w.heap.size w w' := by
  have HL := Aside0.mk hL
  clear hL
  have HB := Aside0.mk (Below.refl w.heap.size w)
  have H : ((impl_TickOk.f a0).bind fun t136 => (if t136 = true then ((impl_decimal.f (wrap64 (Int.tdiv a0 1000))).bind fun t137 => (if t137.size + 1 ≤ 9223372036854775807 then ((impl_decimal.f (wrap64 (1000 + (Int.tmod a0 1000)))).bind fun t138 => (if 1 ≤ (t138.size : Int) then (if (t137 ++ (⟨#[46]⟩ : ByteArray)).size + (t138.extract 1 t138.size).size ≤ 9223372036854775807 then (some ((t137 ++ (⟨#[46]⟩ : ByteArray)) ++ (t138.extract 1 t138.size))) else (none)) else (none))) else (none))) else (some (⟨#[]⟩ : ByteArray)))) = some r := h
  clear h
  replace H := Option.bind_eq_some_iff.mp H
  obtain ⟨t136, A20, H⟩ := H
  replace H : (if t136 = true then ((impl_decimal.f (wrap64 (Int.tdiv a0 1000))).bind fun t137 => (if t137.size + 1 ≤ 9223372036854775807 then ((impl_decimal.f (wrap64 (1000 + (Int.tmod a0 1000)))).bind fun t138 => (if 1 ≤ (t138.size : Int) then (if (t137 ++ (⟨#[46]⟩ : ByteArray)).size + (t138.extract 1 t138.size).size ≤ 9223372036854775807 then (some ((t137 ++ (⟨#[46]⟩ : ByteArray)) ++ (t138.extract 1 t138.size))) else (none)) else (none))) else (none))) else (some (⟨#[]⟩ : ByteArray))) = some r := H
  have A2 := Aside0.mk A20
  clear A20
  by_cases c3 : t136 = true
  · subst c3
    have H1 : ((impl_decimal.f (wrap64 (Int.tdiv a0 1000))).bind fun t137 => (if t137.size + 1 ≤ 9223372036854775807 then ((impl_decimal.f (wrap64 (1000 + (Int.tmod a0 1000)))).bind fun t138 => (if 1 ≤ (t138.size : Int) then (if (t137 ++ (⟨#[46]⟩ : ByteArray)).size + (t138.extract 1 t138.size).size ≤ 9223372036854775807 then (some ((t137 ++ (⟨#[46]⟩ : ByteArray)) ++ (t138.extract 1 t138.size))) else (none)) else (none))) else (none))) = some r := by rw [if_pos rfl] at H; exact H
    clear H
    have H := H1
    clear H1
    replace H := Option.bind_eq_some_iff.mp H
    obtain ⟨t137, A40, H⟩ := H
    replace H : (if t137.size + 1 ≤ 9223372036854775807 then ((impl_decimal.f (wrap64 (1000 + (Int.tmod a0 1000)))).bind fun t138 => (if 1 ≤ (t138.size : Int) then (if (t137 ++ (⟨#[46]⟩ : ByteArray)).size + (t138.extract 1 t138.size).size ≤ 9223372036854775807 then (some ((t137 ++ (⟨#[46]⟩ : ByteArray)) ++ (t138.extract 1 t138.size))) else (none)) else (none))) else (none)) = some r := H
    have A4 := Aside0.mk A40
    clear A40
    by_cases c5 : t137.size + 1 ≤ 9223372036854775807
    · rw [if_pos c5] at H
      have c5b0 := eq_true c5
      have c5b1 : decide (t137.size + 1 ≤ 9223372036854775807) = true := decide_eq_true c5
      try have c5b2 : (9223372036854775807 < t137.size + 1) = False := eq_false (Nat.not_lt.2 c5)
      (have c5n := c5; try simp only [ByteArray.size_append] at c5n; try have c5b3 := eq_false (Nat.not_lt.2 c5n))
      replace H := Option.bind_eq_some_iff.mp H
      obtain ⟨t138, A60, H⟩ := H
      replace H : (if 1 ≤ (t138.size : Int) then (if (t137 ++ (⟨#[46]⟩ : ByteArray)).size + (t138.extract 1 t138.size).size ≤ 9223372036854775807 then (some ((t137 ++ (⟨#[46]⟩ : ByteArray)) ++ (t138.extract 1 t138.size))) else (none)) else (none)) = some r := H
      have A6 := Aside0.mk A60
      clear A60
      by_cases c7 : 1 ≤ (t138.size : Int)
      · rw [if_pos c7] at H
        have c7b0 := eq_true c7
        have c7b1 : decide (1 ≤ (t138.size : Int)) = true := decide_eq_true c7
        clear c7
        by_cases c8 : (t137 ++ (⟨#[46]⟩ : ByteArray)).size + (t138.extract 1 t138.size).size ≤ 9223372036854775807
        · rw [if_pos c8] at H
          have c8b0 := eq_true c8
          have c8b1 : decide ((t137 ++ (⟨#[46]⟩ : ByteArray)).size + (t138.extract 1 t138.size).size ≤ 9223372036854775807) = true := decide_eq_true c8
          try have c8b2 : (9223372036854775807 < (t137 ++ (⟨#[46]⟩ : ByteArray)).size + (t138.extract 1 t138.size).size) = False := eq_false (Nat.not_lt.2 c8)
          (have c8n := c8; try simp only [ByteArray.size_append, show (⟨#[46]⟩ : ByteArray).size = 1 from rfl] at c8n; try have c8b3 := eq_false (Nat.not_lt.2 c8n))
          obtain rfl := Option.some.inj H
          go_enter Tryd.func8, Tryd.ntmps8
          go_wp2_with (first | ((with_reducible refine gate_callee (f := 19) rfl ?_); refine goesL_ (some 4) rfl rfl Tryd.func19 (by kernel_rfl) rfl #[.int .i64 a0] rfl (by (try simp only [List.map_toArray, List.map_cons, List.map_nil]); first | done | rfl | (simp only [List.length_drop, List.length_take]; rfl)) ?_; (with_reducible refine (impl_TickOk.calls a0 true _ A2.out).mono ?_); rintro e w' ⟨rfl, ⟨nd, rfl⟩⟩; refine ⟨_, rfl, ?_⟩) | ((with_reducible refine gate_callee (f := 26) rfl ?_); refine goesL_ (some 8) rfl rfl Tryd.func26 (by kernel_rfl) rfl #[.int .i64 (wrap64 (Int.tdiv a0 1000))] rfl (by (try simp only [List.map_toArray, List.map_cons, List.map_nil]); first | done | rfl | (simp only [List.length_drop, List.length_take]; rfl)) ?_; (with_reducible refine (impl_decimal.calls (wrap64 (Int.tdiv a0 1000)) t137 _ A4.out (LaidT.below HL.out (by repeat (first | (with_reducible first | exact HB.out | apply below_alloc | apply pw_below_drewN | apply below_drew1) | exact HB.out)))).mono ?_); rintro e w9 ⟨rfl, hb⟩; refine ⟨_, rfl, ?_⟩; have n0_ := Aside0.mk (below_step (by repeat (first | (with_reducible first | exact HB.out | apply below_alloc | apply pw_below_drewN | apply below_drew1) | exact HB.out)) hb); clear HB; have HB := n0_; clear n0_; (try clear hb); (try clear hb2); (try clear hk); (try clear hi)) | ((with_reducible refine gate_callee (f := 26) rfl ?_); refine goesL_ (some 13) rfl rfl Tryd.func26 (by kernel_rfl) rfl #[.int .i64 (wrap64 (1000 + (Int.tmod a0 1000)))] rfl (by (try simp only [List.map_toArray, List.map_cons, List.map_nil]); first | done | rfl | (simp only [List.length_drop, List.length_take]; rfl)) ?_; (with_reducible refine (impl_decimal.calls (wrap64 (1000 + (Int.tmod a0 1000))) t138 _ A6.out (LaidT.below HL.out (by repeat (first | (with_reducible first | exact HB.out | apply below_alloc | apply pw_below_drewN | apply below_drew1) | exact HB.out)))).mono ?_); rintro e w10 ⟨rfl, hb⟩; refine ⟨_, rfl, ?_⟩; have n0_ := Aside0.mk (below_step (by repeat (first | (with_reducible first | exact HB.out | apply below_alloc | apply pw_below_drewN | apply below_drew1) | exact HB.out)) hb); clear HB; have HB := n0_; clear n0_; (try clear hb); (try clear hb2); (try clear hk); (try clear hi)))
          go_ret
          exact ⟨by first | rfl | (simp [errW_none, errW_some] <;> rfl) | (simp [*, errW_none, errW_some] <;> rfl), by repeat (first | (with_reducible first | exact HB.out | apply below_alloc | apply pw_below_drewN | apply below_drew1) | exact HB.out)⟩
        · rw [if_neg c8] at H
          exact absurd H (by simp)
      · rw [if_neg c7] at H
        exact absurd H (by simp)
    · rw [if_neg c5] at H
      exact absurd H (by simp)
  · replace c3 := Bool.eq_false_iff.mpr c3
    subst c3
    have H1 : (some (⟨#[]⟩ : ByteArray)) = some r := by rw [if_neg (show ¬ (false = true) by decide)] at H; exact H
    clear H
    have H := H1
    clear H1
    obtain rfl := Option.some.inj H
    go_enter Tryd.func8, Tryd.ntmps8
    go_wp2_with (first | ((with_reducible refine gate_callee (f := 19) rfl ?_); refine goesL_ (some 4) rfl rfl Tryd.func19 (by kernel_rfl) rfl #[.int .i64 a0] rfl (by (try simp only [List.map_toArray, List.map_cons, List.map_nil]); first | done | rfl | (simp only [List.length_drop, List.length_take]; rfl)) ?_; (with_reducible refine (impl_TickOk.calls a0 false _ A2.out).mono ?_); rintro e w' ⟨rfl, ⟨nd, rfl⟩⟩; refine ⟨_, rfl, ?_⟩))
    go_ret
    exact ⟨by first | rfl | (simp [errW_none, errW_some] <;> rfl) | (simp [*, errW_none, errW_some] <;> rfl), by repeat (first | (with_reducible first | exact HB.out | apply below_alloc | apply pw_below_drewN | apply below_drew1) | exact HB.out)⟩

-- NOT PRINTED: function 70 (bytealg_IndexByteString)

-- NOT PRINTED: function 58 (stringslite_IndexByte)

-- NOT PRINTED: function 59 (bytealg_IndexString)

-- NOT PRINTED: function 60 (bytealg_Cutover)

-- NOT PRINTED: function 71 (bytealg_hashStr_string)

-- NOT PRINTED: function 61 (bytealg_IndexRabinKarp_string)

-- NOT PRINTED: function 50 (stringslite_Index)

-- NOT PRINTED: function 43 (stringslite_Cut)

-- NOT PRINTED: function 31 (strings_Cut)

-- NOT PRINTED: function 72 (strconv_lower)

-- NOT PRINTED: function 73 (strconv_underscoreOK)

-- NOT PRINTED: function 62 (strconv_ParseUint)

-- NOT PRINTED: function 51 (strconv_ParseInt)

-- NOT PRINTED: function 44 (strconv_Atoi_44)

-- NOT PRINTED: function 63 (stringslite_Clone)

-- NOT PRINTED: function 52 (strconv_syntaxError)

-- NOT PRINTED: function 53 (strconv_rangeError)

-- NOT PRINTED: function 64 (errors_New)

-- NOT PRINTED: function 54 (strconv_baseError)

-- NOT PRINTED: function 55 (strconv_bitSizeError)

-- NOT PRINTED: function 45 (strconv_toError)

-- NOT PRINTED: function 32 (strconv_Atoi_32)

/-! ### impl_ParseTick: function 13, over the shelf's contracts -/
def impl_ParseTick.g (a0 : ByteArray) : Lib.NumEnd Int → Option (Int × Bool)
  | .ok v => (impl_TickText.f v).bind fun t => some (if t.toList = a0.toList then (v, true) else (0, false))
  | _ => some (0, false)
def impl_ParseTick.f (a0 : ByteArray) : Option (Int × Bool) := if a0.size ≤ 1048576 then impl_ParseTick.g a0 (Lib.atoiAll ((Lib.cut a0.data.toList [46]).1 ++ (Lib.cut a0.data.toList [46]).2.1)) else none
theorem cut_len (l : List UInt8) : (Lib.cut l [46]).1.length + (Lib.cut l [46]).2.1.length ≤ l.length := by
  unfold Lib.cut
  split
  · simp only [List.length_take, List.length_drop]; omega
  · simp
/-- Atoi's answer, as the walk hands it on: the number and whether there is an error. -/
def AtoiSays (W : World) (N : Lib.NumEnd Int) (e : Ending) (w' : World) : Prop := (∃ (v : Int) (x : Value), e = .returned (.tuple #[.int .i64 v, x]) ∧ ((N = .ok v ∧ x = .nilIface) ∨ ((∀ u, N ≠ .ok u) ∧ ∃ b : Nat, x = .iface 62 (.pointer (some ⟨b, 0, none⟩))))) ∧ Below W.heap.size W w'
theorem atoi_says (s : ByteArray) (hs : s.size ≤ 2000000) (w : World) (hL : LaidW w) : Calls Tryd.prog 32 #[.string s] w (AtoiSays w (Lib.atoiAll s.data.toList)) := by
  cases h : Lib.atoiAll s.data.toList with
  | ok v =>
    refine (Tryd.strconv_Atoi_ok s (by omega) v h w).mono ?_
    rintro e w' ⟨rfl, hw⟩
    refine ⟨⟨v, _, rfl, .inl ⟨rfl, rfl⟩⟩, ?_⟩
    rcases hw with rfl | ⟨t, rfl⟩
    · exact Below.refl _ _
    · exact Lib.bytesWorld_below _ _ _
  | «syntax» =>
    obtain ⟨tp, p, hv⟩ := hL.syn
    refine (Tryd.strconv_Atoi_syntax_var s (by omega) h tp p w hv).mono ?_
    rintro e w' ⟨N, rfl, _, _, hb⟩
    exact ⟨⟨_, _, rfl, .inr ⟨fun u hu => (by cases hu), N, rfl⟩⟩, hb⟩
  | range =>
    obtain ⟨tp, p, hv⟩ := hL.rng
    refine (Tryd.strconv_Atoi_range_var s (by omega) h tp p w hv).mono ?_
    rintro e w' ⟨N, rfl, _, _, hb⟩
    exact ⟨⟨_, _, rfl, .inr ⟨fun u hu => (by cases hu), N, rfl⟩⟩, hb⟩
set_option maxHeartbeats 2000000 in
set_option maxRecDepth 100000 in
theorem impl_ParseTick.calls (a0 : ByteArray) (r1 : Int) (r2 : Bool) (w : World) (h : impl_ParseTick.f a0 = some (r1, r2)) (hL : LaidW w) :
    Calls Tryd.prog 13 #[.string a0] w fun e w' => e = .returned (.tuple #[.int .i64 r1, .bool r2]) ∧ Below w.heap.size w w' := by
  unfold impl_ParseTick.f at h
  by_cases hs : a0.size ≤ 1048576
  · rw [if_pos hs] at h
    have hcl := cut_len a0.data.toList
    have hal : a0.data.toList.length = a0.size := data_length a0
    obtain ⟨m, hm⟩ := hL.max
    have HC := Aside0.mk (Tryd.strings_Cut a0 ⟨#[46]⟩ m w (by omega) hm)
    have hsep : (⟨#[46]⟩ : ByteArray).data.toList = [46] := rfl
    rw [hsep] at HC
    generalize (Lib.cut a0.data.toList [46]).2.2 = fnd at HC
    generalize (Lib.cut a0.data.toList [46]).1 = l1 at HC h hcl
    generalize (Lib.cut a0.data.toList [46]).2.1 = l2 at HC h hcl
    obtain ⟨s1, hs1⟩ : ∃ s : ByteArray, s = ⟨l1.toArray⟩ := ⟨_, rfl⟩
    obtain ⟨s2, hs2⟩ : ∃ s : ByteArray, s = ⟨l2.toArray⟩ := ⟨_, rfl⟩
    have z1 : s1.size = l1.length := by rw [hs1]; simp [ByteArray.size]
    have z2 : s2.size = l2.length := by rw [hs2]; simp [ByteArray.size]
    have hd : (s1 ++ s2).data.toList = l1 ++ l2 := by rw [hs1, hs2, ByteArray.data_append, Array.toList_append]
    have hz : (9223372036854775807 < s1.size + s2.size) = False := eq_false (by omega)
    have hz2 : (s1 ++ s2).size ≤ 2000000 := by rw [ByteArray.size_append]; omega
    have HC2 : Aside0 (Calls Tryd.prog 31 #[.string a0, .string ⟨#[46]⟩] w fun e w' => e = .returned (.tuple #[.string s1, .string s2, .bool fnd]) ∧ ∃ n, w' = w.drewN n) := ⟨by rw [hs1, hs2]; exact HC.out⟩
    have HA : Aside0 (∀ W, Below w.heap.size w W → Calls Tryd.prog 32 #[.string (s1 ++ s2)] W (AtoiSays W (Lib.atoiAll (l1 ++ l2)))) := ⟨fun W hb => by have := atoi_says (s1 ++ s2) hz2 W (hL.below hb); rw [hd] at this; exact this⟩
    have HL := Aside0.mk hL
    clear hs1 hs2 z1 z2 hd HC hcl hal hm hL hsep hz2
    generalize Lib.atoiAll (l1 ++ l2) = N at h HA
    have H := Aside0.mk h
    clear h hs
    go_enter Tryd.func13, Tryd.ntmps13
    go_wp2_with (first | (go_at_call 31; refine HC2.out.mono ?_; rintro e w' ⟨rfl, n1, rfl⟩) | (go_at_call 32; refine (HA.out _ (pw_below_drewN (Below.refl _ _) _)).mono ?_; rintro e W2 ⟨⟨v, x, rfl, hx⟩, hb2⟩; refine Hid.out ?_))
    refine Lib.hid ?_
    have HB := Aside0.mk (below_step (pw_below_drewN (Below.refl w.heap.size w) n1) hb2)
    clear hb2 HA HC2
    rcases hx with ⟨rfl, rfl⟩ | ⟨hne, b, rfl⟩
    · have h := H.out
      clear H
      unfold impl_ParseTick.g at h
      obtain ⟨t, ht, h⟩ := Option.bind_eq_some_iff.mp h
      have HT := Aside0.mk ht
      have H := Aside0.mk (Option.some.inj h)
      clear h ht
      by_cases hc : t.toList = a0.toList
      · have HH := H.out
        rw [if_pos hc] at HH
        injection HH with h1 h2
        subst h1
        subst h2
        have hc2 : (t.toList == a0.toList) = true := beq_iff_eq.mpr hc
        have hc3 : (t.toList != a0.toList) = false := bne_eq_false_iff_eq.mpr hc
        clear H hc
        go_wp2_with (go_at_call 8; refine (impl_TickText.calls _ _ _ HT.out (HL.out.below HB.out).t).mono ?_; rintro e W3 ⟨rfl, hb3⟩)
        go_ret2
        exact ⟨rfl, below_step HB.out hb3⟩
      · have HH := H.out
        rw [if_neg hc] at HH
        injection HH with h1 h2
        subst h1
        subst h2
        have hc2 : (t.toList == a0.toList) = false := beq_eq_false_iff_ne.mpr hc
        have hc3 : (t.toList != a0.toList) = true := bne_iff_ne.mpr hc
        clear H hc
        go_wp2_with (go_at_call 8; refine (impl_TickText.calls _ _ _ HT.out (HL.out.below HB.out).t).mono ?_; rintro e W3 ⟨rfl, hb3⟩)
        go_ret2
        exact ⟨rfl, below_step HB.out hb3⟩
    · have h : (0, false) = (r1, r2) := by
        have h := H.out
        cases N with
        | ok u => exact absurd rfl (hne u)
        | «syntax» => exact Option.some.inj h
        | range => exact Option.some.inj h
      injection h with h1 h2
      subst h1
      subst h2
      clear H hne
      go_wp2
      go_ret2
      exact ⟨rfl, HB.out⟩
  · rw [if_neg hs] at h
    cases h

/-! ### laws_FnExactParseTick: function 5 -/
def laws_FnExactParseTick.f (k : Nat) (a0 : ByteArray) : Option (Bool) := if (a0.size : Int) > 1048576 then (some true) else ((spec_ParseTick.f k a0).bind fun bt139 => ((impl_ParseTick.f a0).bind fun bt141 => (if bt141.1 = bt139.1 then (if (bt141.2 != bt139.2) = true then (some false) else (some true)) else (some false))))
theorem laws_FnExactParseTick.mono : ∀ a0 k, LeO (laws_FnExactParseTick.f k a0) (laws_FnExactParseTick.f (k + 1) a0) := by
  intro a0 k
  unfold laws_FnExactParseTick.f
  repeat' first
      | (with_reducible exact spec_ParseTick.mono _ _)
      | (with_reducible exact LeO.refl _)
      | (with_reducible exact LeO.none _)
      | (with_reducible refine LeO.ite ?_ ?_)
      | (with_reducible refine LeO.bind ?_ (fun _ => ?_))
      | exact spec_ParseTick.mono _ _
      | exact LeO.none _
      | refine LeO.ite ?_ ?_
      | refine LeO.bind ?_ (fun _ => ?_)
set_option maxHeartbeats 8000000 in
set_option maxRecDepth 100000 in
theorem laws_FnExactParseTick.calls (k : Nat) (a0 : ByteArray) (r : Bool) (w : World) (hT : Aside0 (r = true)) (h : laws_FnExactParseTick.f k a0 = some r) (hL : LaidW w) :
    Calls Tryd.prog 5 #[.string a0] w fun e w' => e = .returned (.bool r) ∧ Below w.heap.size w w' := by
  have HL := Aside0.mk hL
  clear hL
  have HB := Aside0.mk (Below.refl w.heap.size w)
  have H : (if (a0.size : Int) > 1048576 then (some true) else ((spec_ParseTick.f k a0).bind fun bt139 => ((impl_ParseTick.f a0).bind fun bt141 => (if bt141.1 = bt139.1 then (if (bt141.2 != bt139.2) = true then (some false) else (some true)) else (some false))))) = some r := h
  clear h
  by_cases c2 : (a0.size : Int) > 1048576
  · rw [if_pos c2] at H
    have c2b0 : decide (1048576 < (a0.size : Int)) = true := decide_eq_true c2
    have c2b1 : decide (1048576 < a0.size) = true := decide_eq_true (by omega)
    clear c2
    obtain rfl := Option.some.inj H
    go_enter Tryd.func5, Tryd.ntmps5
    go_wp2
    go_ret
    exact ⟨by first | rfl | (simp [errW_none, errW_some] <;> rfl) | (simp [*, errW_none, errW_some] <;> rfl), by repeat (first | (with_reducible first | exact HB.out | apply below_alloc | apply pw_below_drewN | apply below_drew1) | exact HB.out)⟩
  · rw [if_neg c2] at H
    have c2b0 : decide (1048576 < (a0.size : Int)) = false := decide_eq_false c2
    have c2b1 : decide (1048576 < a0.size) = false := decide_eq_false (by omega)
    clear c2
    replace H := Option.bind_eq_some_iff.mp H
    obtain ⟨⟨t139, t140⟩, A30, H⟩ := H
    replace H : ((impl_ParseTick.f a0).bind fun bt141 => (if bt141.1 = t139 then (if (bt141.2 != t140) = true then (some false) else (some true)) else (some false))) = some r := H
    have A3 := Aside0.mk A30
    clear A30
    replace H := Option.bind_eq_some_iff.mp H
    obtain ⟨⟨t141, t142⟩, A40, H⟩ := H
    replace H : (if t141 = t139 then (if (t142 != t140) = true then (some false) else (some true)) else (some false)) = some r := H
    have A4 := Aside0.mk A40
    clear A40
    by_cases c5 : t141 = t139
    · rw [if_pos c5] at H
      have c5b0 : (t141 == t139) = true := beq_iff_eq.mpr c5
      have c5b1 : (t141 != t139) = false := bne_eq_false_iff_eq.mpr c5
      clear c5
      by_cases c6 : (t142 != t140) = true
      · rw [if_pos c6] at H
        have c6b0 : (t142 != t140) = true := c6
        (try (have c6b1 : decide (t142 = t140) = false := by simpa using c6))
        (try (have c6b2 : (t142 == t140) = false := by simpa using c6))
        (try (have c6b3 : ¬ (t142 = t140) := by simpa using c6))
        clear c6
        exact absurd ((Option.some.inj H).trans hT.out) (by decide)
      · rw [if_neg c6] at H
        have c6b0 : (t142 != t140) = false := by simpa using c6
        (try (have c6b1 : decide (t142 = t140) = true := by simpa using c6))
        (try (have c6b2 : (t142 == t140) = true := by simpa using c6))
        clear c6
        obtain rfl := Option.some.inj H
        go_enter Tryd.func5, Tryd.ntmps5
        go_wp2_with (first | ((with_reducible refine gate_callee (f := 12) rfl ?_); refine goesL_ (some 12) rfl rfl Tryd.func12 (by kernel_rfl) rfl #[.string a0] rfl (by (try simp only [List.map_toArray, List.map_cons, List.map_nil]); first | done | rfl | (simp only [List.length_drop, List.length_take]; rfl)) ?_; (with_reducible refine (spec_ParseTick.calls k a0 t139 t140 _ A3.out).mono ?_); rintro e w7 ⟨rfl, hb⟩; refine ⟨_, rfl, ?_⟩; have n0_ := Aside0.mk (below_step (by repeat (first | (with_reducible first | exact HB.out | apply below_alloc | apply pw_below_drewN | apply below_drew1) | exact HB.out)) hb); clear HB; have HB := n0_; clear n0_; (try clear hb); (try clear hb2); (try clear hk); (try clear hi)) | ((with_reducible refine gate_callee (f := 13) rfl ?_); refine goesL_ (some 17) rfl rfl Tryd.func13 (by kernel_rfl) rfl #[.string a0] rfl (by (try simp only [List.map_toArray, List.map_cons, List.map_nil]); first | done | rfl | (simp only [List.length_drop, List.length_take]; rfl)) ?_; (with_reducible refine (impl_ParseTick.calls a0 t141 t142 _ A4.out (LaidW.below HL.out (by repeat (first | (with_reducible first | exact HB.out | apply below_alloc | apply pw_below_drewN | apply below_drew1) | exact HB.out)))).mono ?_); rintro e w8 ⟨rfl, hb⟩; refine ⟨_, rfl, ?_⟩; have n0_ := Aside0.mk (below_step (by repeat (first | (with_reducible first | exact HB.out | apply below_alloc | apply pw_below_drewN | apply below_drew1) | exact HB.out)) hb); clear HB; have HB := n0_; clear n0_; (try clear hb); (try clear hb2); (try clear hk); (try clear hi)))
        go_ret
        exact ⟨by first | rfl | (simp [errW_none, errW_some] <;> rfl) | (simp [*, errW_none, errW_some] <;> rfl), by repeat (first | (with_reducible first | exact HB.out | apply below_alloc | apply pw_below_drewN | apply below_drew1) | exact HB.out)⟩
    · rw [if_neg c5] at H
      have c5b0 : (t141 == t139) = false := beq_eq_false_iff_ne.mpr c5
      have c5b1 : (t141 != t139) = true := bne_iff_ne.mpr c5
      exact absurd ((Option.some.inj H).trans hT.out) (by decide)

/-- THE ONE PURE STATEMENT of laws_FnExactParseTick: yours. -/
def laws_FnExactParseTick.Pure : Prop := ∀ (a0 : ByteArray), a0.size ≤ 140737488351232 → ∃ k, laws_FnExactParseTick.f k a0 = some true
theorem laws_FnExactParseTick.walk (P : laws_FnExactParseTick.Pure) (a0 : ByteArray) (w : World) (w0 : a0.size ≤ 140737488351232) (hL : LaidW w) :
    Calls Tryd.prog 5 #[.string a0] w fun e w' => e = .returned (.bool true) ∧ Below w.heap.size w w' := by
  obtain ⟨k, h⟩ := P a0 w0
  refine (laws_FnExactParseTick.calls k a0 true w (Aside0.mk rfl) h hL).mono ?_
  rintro e w' ⟨rfl, hd⟩
  exact ⟨rfl, hd⟩

end Go.Proofs.YtkbgphdepkjccaaDoor.QFnExactParseTick
