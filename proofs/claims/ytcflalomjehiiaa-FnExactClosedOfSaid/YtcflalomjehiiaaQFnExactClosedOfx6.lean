/- The machine side of a law: Lean functions with the Go functions' answers and the walks that show it. No condition. -/
import Derived.Test.YtcflalomjehiiaaQFnExactClosedOfx0
import Derived.Test.YtcflalomjehiiaaQFnExactClosedOfx4
import Derived.Test.YtcflalomjehiiaaQFnExactClosedOfx5
namespace Go.Proofs.Ytcflalomjehiiaa.QFnExactClosedOf
open Go.RowKit Go.Proofs.YtcflalomjehiiaaW.PrintWords Go.Proofs.YtcflalomjehiiaaW.PrintLast Go.Proofs.YtcflalomjehiiaaW.PrintMore
attribute [local go_sem] max2_int min2_int max_two min_two max_three min_three max_four min_four   -- for this text's walks alone
set_option linter.unusedVariables false
set_option linter.unusedSimpArgs false


theorem zeroCells_len (z : Array Value) (hz : 0 < z.size) (m : Nat) : (Builtin.zeroCells z m).size = m * z.size := by
 simp [Builtin.zeroCells]
theorem zeroCells_one (z : Array Value) (hz : ∀ i : Fin z.size, z[i].oneCell' = true) (m : Nat) : ∀ u ∈ (Builtin.zeroCells z m).toList, u.oneCell' = true := by
 intro u hu
 simp [Builtin.zeroCells] at hu
 obtain ⟨a, ha, rfl⟩ := hu
 have hs : 0 < z.size := by
  rcases Nat.eq_zero_or_pos z.size with h | h
  ·
   rw [h, Nat.mul_zero] at ha
   omega
  ·
   exact h
 have hlt := Nat.mod_lt a hs
 have := hz ⟨a % z.size, hlt⟩
 rw [getElem!_pos z _ hlt]
 exact this
theorem R_clear_run {P : Program} {α : Type} (d : Kd α) {W : World} (base : Nat) (t ty e : TypeId) (z : Value) (ht : P.underlying t = some (.slice e)) (hz : (zeroValue e).run P W = .ok z W) (hzs : z.cells.size = d.sz) (hs0 : 0 < d.sz)
  (hz1 : ∀ m, ∀ u ∈ (Builtin.zeroCells z.cells m).toList, u.oneCell' = true) {g n c m c2 : Nat} {xs : List α} {ok : Nat → Prop} (HO : d.R e W base ok (.slice (some ⟨g, 0, none⟩) n c) xs) (hnm : n + m ≤ c) (hm : 0 < m) :
  ∃ w1, (Builtin.clear_ #[t] ty #[.slice (some ⟨g, n * d.sz, none⟩) m c2]).run P W = .ok (.tuple #[]) w1 ∧ d.R e w1 base ok (.slice (some ⟨g, 0, none⟩) n c) xs ∧ W.grownBy w1 (some g) := by
 obtain ⟨hn, hnc, _⟩ := Kd.R_reads' HO
 obtain ⟨hok, inner, hown, hr⟩ := HO
 subst hn
 rcases hown.2 with ⟨hv, _⟩ | ⟨g', cap', cur, hv, hb, hh, hcn, hcm, hcs, htake⟩
 ·
  cases hv
 injection hv with ha _ hc
 injection ha with ha
 injection ha with ha
 subst ha
 subst hc
 obtain ⟨m, rfl⟩ : ∃ k, m = k + 1 := ⟨m - 1, by omega⟩
 obtain ⟨vs, hvs⟩ : ∃ vs, vs = (Builtin.zeroCells z.cells (m + 1)).toList := ⟨_, rfl⟩
 have hlen : vs.length = (m + 1) * d.sz := by rw [hvs, Array.length_toList, zeroCells_len _ (by omega), hzs]
 have hfit : xs.length * d.sz + 0 + vs.length ≤ cur.size := by
  rw [hcs, hlen, Nat.add_zero, ← Nat.add_mul]
  exact Nat.mul_le_mul_right _ hnm
 have hrun := run_storeCells_at P g (xs.length * d.sz) e vs 0 cur W hh hfit (by rw [hvs]; exact hz1 _)
 obtain ⟨cur2, hcur2⟩ : ∃ cur2, cur2 = (cur.toList.take (xs.length * d.sz + 0) ++ vs ++ cur.toList.drop (xs.length * d.sz + 0 + vs.length)).toArray := ⟨_, rfl⟩
 rw [← hcur2] at hrun
 have hother : ∀ k, k ≠ g → (W.setRow g cur2).heap[k]? = W.heap[k]? := fun k hk => setRow_other W g k cur2 hk
 refine ⟨W.setRow g cur2, ?_, ⟨hok, inner, ⟨hown.1, .inr ⟨g, c, cur2, rfl, hb, setRow_heap W g cur cur2 e (0, 0) hh, hcn, hcm, ?_, ?_⟩⟩, ?_⟩, ?_⟩
 ·
  rw [hvs] at hrun
  simp [Builtin.clear_, run_underlying ht, hz, hrun]
 ·
  rw [hcur2, List.size_toArray]
  simp only [List.length_append, List.length_take, List.length_drop, Array.length_toList]
  omega
 ·
  rw [hcur2, ← htake]
  have hl : (cur.toList.take (xs.length * d.sz)).length = xs.length * d.sz := by
   have hl2 : cur.toList.length = c * d.sz := hcs
   rw [List.length_take, hl2]; exact Nat.min_eq_left (Nat.mul_le_mul_right _ hcn)
  simp only [Nat.add_zero, List.append_assoc]
  rw [List.take_append_of_le_length (by omega), List.take_of_length_le (by omega)]
 ·
  exact hr.imp_ (fun x cs hx => d.M_move (fun k hk => hother k (fun e_ => hk.2 (by rw [e_]; rfl))) hx)
 ·
  exact ⟨rfl, rfl, rfl, by simp, fun k _ hne => hother k (fun e_ => hne (by rw [e_]))⟩
/-- The same, in every world in which all but what S names lies unturned. -/
def PaysK80 (P : Program) (p : S80 → Option Bool) (g : Nat) (lb : Array Value) (w : World) (S : Nat → Prop) : Prop :=
 (∀ args W, (callFunc g args).run P W = .ok (.enter g args) W) ∧ ∀ (W : World) (x : S80) (b : Bool), Kept w W S → p x = some b →
  Calls P g (#[.agg #[.int .i64 x.f0, .int .i64 x.f1, .int .i64 x.f2, .int .i64 x.f3, .int .i64 x.f4, .int .i64 x.f5]] ++ lb) W fun e W' => e = .returned (.bool b) ∧ Below W.heap.size W W'
theorem PaysK80.pays {P : Program} {p : S80 → Option Bool} {g : Nat} {lb : Array Value} {w : World} {S : Nat → Prop} (h : PaysK80 P p g lb w S) : Pays80 P p g lb w := ⟨h.1, fun W x b hb hp => h.2 W x b (Kept.of_below hb S) hp⟩

def sure80 (p : S80 → Option Bool) (x : S80) : Bool := !((p x).getD false)
def delf80 (l0 : List S80) (p : S80 → Option Bool) : Option (List S80) := if (l0.all fun x => (p x).isSome) = true then some (l0.filter (sure80 p)) else none
theorem sure80_of {p : S80 → Option Bool} {x : S80} (h : (p x).isSome = true) : p x = some (!(sure80 p x)) := by
 obtain ⟨b, hb⟩ := Option.isSome_iff_exists.1 h
 unfold sure80
 rw [hb]
 cases b <;> rfl
/-- What IndexFunc finds. -/
theorem idx80_found {p : S80 → Option Bool} : ∀ (l : List S80) (i : Nat), (∀ x ∈ l, (p x).isSome = true) →
  (idx80 p l i = some (-1) ∧ l.filter (sure80 p) = l) ∨ ∃ j, j < l.length ∧ idx80 p l i = some ((i + j : Nat) : Int) ∧ (l.take (j + 1)).filter (sure80 p) = l.take j := by
 intro l
 induction l with
 | nil => intro i _; exact .inl ⟨rfl, rfl⟩
 | cons x xs ih =>
  intro i h
  have hx := sure80_of (h x (by simp))
  unfold idx80
  rw [hx, Option.bind_some]
  cases hs : sure80 p x with
  | false => exact .inr ⟨0, by simp, by simp, by simp [hs]⟩
  | true =>
   simp only [Bool.not_true, Bool.false_eq_true, if_false]
   rcases ih (i + 1) (fun y hy => h y (by simp [hy])) with ⟨e1, e2⟩ | ⟨j, h1, e1, e2⟩
   ·
    exact .inl ⟨e1, by rw [List.filter_cons, if_pos hs, e2]⟩
   ·
    exact .inr ⟨j + 1, by simp; omega, by rw [e1]; congr 2; omega, by rw [List.take_succ_cons, List.filter_cons, if_pos hs, e2, List.take_succ_cons]⟩
theorem rdT80_get {l : List S80} {k : Nat} (h : k < l.length) : rd_T80 l (k : Int) = l[k] := by simp [rd_T80, List.getD_eq_getElem?_getD, List.getElem?_eq_getElem h]
theorem rdT80_drop {l L : List S80} {k : Nat} (hL : L.length = l.length) (h : k < l.length) (hd : L.drop k = l.drop k) : rd_T80 L (k : Int) = rd_T80 l (k : Int) := by
 rw [rdT80_get h, rdT80_get (by omega)]
 have h1 := List.drop_eq_getElem_cons (l := L) (i := k) (by omega)
 have h2 := List.drop_eq_getElem_cons (l := l) (i := k) h
 rw [hd, h2] at h1
 exact (List.cons.inj h1).1.symm
/-- How the row stands when j elements have been seen, i of them kept. -/
def Del80 (p : S80 → Option Bool) (l L : List S80) (i j : Nat) : Prop := L.length = l.length ∧ i < j ∧ j ≤ l.length ∧ L.take i = (l.take j).filter (sure80 p) ∧ L.drop j = l.drop j
theorem Del80.skip {p : S80 → Option Bool} {l L : List S80} {i j : Nat} (h : Del80 p l L i j) (hj : j < l.length) (hs : sure80 p (rd_T80 l (j : Int)) = false) : Del80 p l L i (j + 1) := by
 obtain ⟨h1, h2, h3, h4, h5⟩ := h
 refine ⟨h1, by omega, by omega, ?_, ?_⟩
 ·
  rw [List.take_succ_eq_append_getElem hj, List.filter_append, ← rdT80_get hj, List.filter_cons, if_neg (by rw [hs]; simp), List.filter_nil, List.append_nil, h4]
 ·
  rw [← List.drop_drop, ← List.drop_drop, h5]
theorem Del80.keep {p : S80 → Option Bool} {l L : List S80} {i j : Nat} (h : Del80 p l L i j) (hj : j < l.length) (hs : sure80 p (rd_T80 l (j : Int)) = true) : Del80 p l (L.set i (rd_T80 l (j : Int))) (i + 1) (j + 1) := by
 obtain ⟨h1, h2, h3, h4, h5⟩ := h
 refine ⟨by rw [List.length_set, h1], by omega, by omega, ?_, ?_⟩
 ·
  rw [List.take_succ_eq_append_getElem hj, List.filter_append, ← rdT80_get hj, List.filter_cons, if_pos hs, List.filter_nil, ← h4, List.take_succ_eq_append_getElem (by rw [List.length_set]; omega), List.take_set_of_le (Nat.le_refl _)]
  simp
 ·
  rw [List.drop_set_of_lt (by omega), ← List.drop_drop, ← List.drop_drop, h5]
set_option maxHeartbeats 4000000 in
set_option maxRecDepth 100000 in
theorem delf80_calls (P0_ : Nat → Prop) (u9000_ : Value) (l0 : List S80) (p : S80 → Option Bool) (g : Nat) (lb : Array Value) (r : List S80) (w0 w : World) (hB : Below w0.heap.size w0 w) (ho0 : Kd.R k80 80 w w0.heap.size P0_ u9000_ l0) (hp : PaysK80 Try.prog p g lb w (fun k_ => P0_ k_)) (h : delf80 l0 p = some r) :
  Calls Try.prog 114 #[u9000_, .func (.func g) #[] lb] w fun e w' => ∃ v0_ : Value, e = .returned v0_ ∧ Kd.R k80 80 w' w0.heap.size (fun k_ => (P0_ k_ ∨ w.heap.size ≤ k_)) v0_ r ∧ Below w0.heap.size w0 w' ∧ Kept w w' (fun k_ => P0_ k_) := by
 unfold delf80 at h
 by_cases ha : (l0.all fun x => (p x).isSome) = true
 ·
  rw [if_pos ha] at h
  obtain rfl := Option.some.inj h
  have hall : ∀ x ∈ l0, (p x).isSome = true := by simpa [List.all_eq_true] using ha
  obtain ⟨A0, c, rfl⟩ := Kd.R_slice ho0
  obtain ⟨_, hnc, hC⟩ := Kd.R_reads' ho0
  have hbase : w0.heap.size ≤ w.heap.size := hB.size
  have eg := hp.1
  have HP := Aside0.mk hp
  have HO0 := Aside0.mk ho0
  have HB := Aside0.mk hB
  rcases idx80_found l0 0 hall with ⟨e1, e2⟩ | ⟨i0, hi0, e1, e2⟩
  ·
   have HI := am_ (idx80_calls A0 c l0 p g lb (-1) w hC hnc hp.pays e1)
   have E2 := Aside0.mk e2
   clear ha h hall hp ho0 hB hC e1 e2
   go_enter Try.func114, Try.ntmps114
   go_wp2_with (go_at_call 140; refine HI.out.mono ?_; rintro e w' ⟨rfl, hb'⟩)
   go_ret
   refine ⟨_, rfl, ?_, below_then HB.out hbase hb', Kept.of_below hb' _⟩
   rw [E2.out]
   exact Kd.R_mono (Kd.R_below HO0.out hb') (fun _ hk => .inl hk)
  ·
   have HI := am_ (idx80_calls A0 c l0 p g lb _ w hC hnc hp.pays e1)
   have HS := am_ (show Del80 p l0 l0 i0 (i0 + 1) from ⟨rfl, by omega, by omega, e2.symm, rfl⟩)
   obtain ⟨gr, hAd, hcm⟩ : ∃ g, A0 = some ⟨g, 0, none⟩ ∧ c ≤ maxLen := by
    rcases ho0.2 with ⟨inner, hown, _⟩
    rcases hown.2 with ⟨hv, hz⟩ | ⟨g', cap', cur, hv, hb, hh, hcn, hcm, hcs, htake⟩
    ·
     omega
    ·
     injection hv with ha _ hc
     exact ⟨g', ha, by rw [hc]; exact hcm⟩
   subst hAd
   unfold maxLen at hcm
   have HA := Aside0.mk hall
   have hi0' : (i0 : Int) < (l0.length : Int) := by omega
   clear ha h hall hp ho0 hB hC e1 e2
   go_enter Try.func114, Try.ntmps114
   go_wp2_with (go_at_call 140; refine HI.out.mono ?_; rintro e w' ⟨rfl, hb'⟩)
   have HR1 := am_ (Kd.R_below HO0.out hb')
   have HB1 := am_ (below_then HB.out hbase hb')
   have HK1 := am_ (Kept.of_below hb' (fun k_ => P0_ k_))
   clear hb' HO0 HB
   go_loopg [5, 6] l0.length (fun gg v5 v6 W => ∃ (i j : Nat) (L : List S80), v5 = .int .i64 i ∧ v6 = .int .i64 j ∧ l0.length - j ≤ gg ∧ Aside0 (Del80 p l0 L i j) ∧ Aside0 (Kd.R k80 80 W w0.heap.size P0_ (.slice (some ⟨gr, 0, none⟩) l0.length c) L) ∧ Aside0 (Below w0.heap.size w0 W) ∧ Aside0 (Kept w W (fun k_ => P0_ k_)))
   case atStart => exact ⟨i0, i0 + 1, l0, rfl, by go_num, by omega, HS, HR1, HB1, HK1⟩
   case round =>
    clear HS HR1 HB1 HK1 HI
    obtain ⟨i, j, L, rfl, rfl, hg, HS, HR, HBw, HKw⟩ := hrel
    have hL := HS.out.1
    have hij : i < j := HS.out.2.1
    have hjn : j ≤ l0.length := HS.out.2.2.1
    have HL := Aside0.mk hL
    clear hL
    by_cases hlt : j < l0.length
    ·
     have hltz : (j : Int) < (l0.length : Int) := by omega
     have hil : i < l0.length := by omega
     have hilz : (i : Int) < (l0.length : Int) := by omega
     have hx : rd_T80 L (j : Int) = rd_T80 l0 (j : Int) := rdT80_drop HL.out hlt HS.out.2.2.2.2
     have hmem : rd_T80 l0 (j : Int) ∈ l0 := by rw [rdT80_get hlt]; exact List.getElem_mem _
     have hpx := sure80_of (HA.out _ hmem)
     obtain ⟨ce, hcl, hM, hcc, hfr⟩ := Kd.R_elem HR.out z80 (j : Int) (by omega) hltz
     obtain rfl := k80_openM hM
     have hM' : L.getD (j : Int).toNat z80 = rd_T80 l0 (j : Int) := hx
     rw [hM'] at hcc
     have hx0 : wr.cell? ⟨gr, j * 6, none⟩ = some (.int .i64 (rd_T80 l0 (j : Int)).f0) := hcc 0 _ rfl
     have hx1 : wr.cell? ⟨gr, j * 6 + 1, none⟩ = some (.int .i64 (rd_T80 l0 (j : Int)).f1) := hcc 1 _ rfl
     have hx2 : wr.cell? ⟨gr, j * 6 + 2, none⟩ = some (.int .i64 (rd_T80 l0 (j : Int)).f2) := hcc 2 _ rfl
     have hx3 : wr.cell? ⟨gr, j * 6 + 3, none⟩ = some (.int .i64 (rd_T80 l0 (j : Int)).f3) := hcc 3 _ rfl
     have hx4 : wr.cell? ⟨gr, j * 6 + 4, none⟩ = some (.int .i64 (rd_T80 l0 (j : Int)).f4) := hcc 4 _ rfl
     have hx5 : wr.cell? ⟨gr, j * 6 + 5, none⟩ = some (.int .i64 (rd_T80 l0 (j : Int)).f5) := hcc 5 _ rfl
     clear hcc hfr hM hcl hM' hx hmem
     have HX := Aside0.mk hpx
     clear hpx
     have HS2 := am_ (fun b (e : sure80 p (rd_T80 l0 (j : Int)) = b) => (⟨fun e2 => HS.out.skip hlt (e.trans e2), fun e2 => HS.out.keep hlt (e.trans e2)⟩ : (b = false → Del80 p l0 L i (j + 1)) ∧ (b = true → Del80 p l0 (L.set i (rd_T80 l0 (j : Int))) (i + 1) (j + 1))))
     generalize hb_ : sure80 p (rd_T80 l0 (j : Int)) = b at HX
     have HS3 := am_ (HS2.out b hb_)
     clear hb_ HS2
     generalize rd_T80 l0 (j : Int) = x at HX HS3 hx0 hx1 hx2 hx3 hx4 hx5
     cases b with
     | false =>
      have HS4 := am_ (HS3.out.1 rfl)
      clear HS3
      go_wp2_with (go_at_fn g; refine (HP.out.2 _ x true ?hk HX.out).mono ?_; (case hk => exact Kept.alloc HKw.out _); rintro e w' ⟨rfl, hb'⟩)
      have HRn := am_ (Kd.R_below (Kd.R_alloc HR.out _) hb')
      have HBn := am_ (below_then (below_then HBw.out HBw.out.size (below_alloc (Below.refl _ _) _)) (Nat.le_trans HBw.out.size (below_alloc (Below.refl _ _) _).size) hb')
      have HKn := am_ ((HKw.out.alloc _).below hb')
      clear HR HBw HKw hb'
      go_roundg (l0.length - (j + 1))
      case measure => omega
      case rel => exact ⟨i, j + 1, L, rfl, by go_num, Nat.le_refl _, HS4, HRn, HBn, HKn⟩
     | true =>
      have HS4 := am_ (HS3.out.2 rfl)
      clear HS3
      have HRa := am_ (fun (o : Obj) (w' : World) (hb' : Below (wr.alloc o).heap.size (wr.alloc o) w') => Kd.R_elem (Kd.R_below (Kd.R_alloc HR.out o) hb') z80 (i : Int) (by omega) hilz)
      have hxz : (Value.agg #[.int .i64 x.f0, .int .i64 x.f1, .int .i64 x.f2, .int .i64 x.f3, .int .i64 x.f4, .int .i64 x.f5]).cells.toList = [.int .i64 x.f0, .int .i64 x.f1, .int .i64 x.f2, .int .i64 x.f3, .int .i64 x.f4, .int .i64 x.f5] := rfl
      go_wp2_with (first | (go_at_fn g; refine (HP.out.2 _ x false ?hk HX.out).mono ?_; (case hk => exact Kept.alloc HKw.out _); rintro e w' ⟨rfl, hb'⟩; have hy := blk_below (blk_new wr _) hb'; have hy0 := blk_cell hy 0; have hy1 := blk_cell hy 1; have hy2 := blk_cell hy 2; have hy3 := blk_cell hy 3; have hy4 := blk_cell hy 4; have hy5 := blk_cell hy 5; simp at hy0 hy1 hy2 hy3 hy4 hy5; obtain ⟨ci, hcli, hMi, hcci, hfri⟩ := HRa.out _ w' hb'; obtain rfl := k80_openM hMi; have HRn := am_ (Kd.R_below (Kd.R_alloc HR.out _) hb'); have HBn := am_ (below_then (below_then HBw.out HBw.out.size (below_alloc (Below.refl _ _) _)) (Nat.le_trans HBw.out.size (below_alloc (Below.refl _ _) _).size) hb'); have HKn := am_ ((HKw.out.alloc _).below hb')) | ((with_reducible refine gate_store (t := 80) (p := 33) rfl ?_); refine Kd.R_store k80 (w0 := w0) w0.heap.size (by rfl) rfl 80 (.tmp 33) (.tmp 32) (by rfl) 80 (g := gr) (n := l0.length) (cap := c) (o' := i * 6) (i : Int) 0 L x (.agg #[.int .i64 x.f0, .int .i64 x.f1, .int .i64 x.f2, .int .i64 x.f3, .int .i64 x.f4, .int .i64 x.f5]) _ _ P0_ (fun _ => False) (by rfl) (by rfl) (by rfl) hxz (by kernel_rfl) (by simp [Value.oneCell']) HRn.out (by omega) hilz hcli hcci (show 0 + 6 ≤ 6 from by decide) (k80_mkM _ _ _ x) (fun _ hk => hk.elim) HBn.out ?_; intro w9 ho9 hb9 hg9))
      have HRq := Aside0.mk ho9
      have HBq := Aside0.mk hb9
      have HKq := am_ (Kept.of_grown hg9 HKn.out (fun k hk => by injection hk with hk; subst hk; exact .inl (HRn.out.1 gr rfl)))
      clear HR HBw HKw hb' HRn HBn HKn ho9 hb9 hg9 hcli hMi hcci hfri HRa
      go_roundg (l0.length - (j + 1))
      case measure => omega
      case rel => exact ⟨i + 1, j + 1, L.set i x, by go_num, by go_num, Nat.le_refl _, HS4, HRq, HBq, HKq⟩
    ·
     have hltz : ¬ (j : Int) < (l0.length : Int) := by omega
     obtain rfl : j = l0.length := by omega
     have hil : i < l0.length := by omega
     have hic : i ≤ c := by omega
     have hnei : ¬ c = i := by omega
     have hile : (i : Int) ≤ (l0.length : Int) := by omega
     have hicz : (i : Int) ≤ (c : Int) := by omega
     have hi0 : (0 : Int) ≤ (i : Int) := by omega
     have hT := HS.out.2.2.2.1
     rw [List.take_length] at hT
     have Rt := Kd.R_take HR.out (m := i) (by have := HL.out; omega)
     rw [hT] at Rt
     obtain ⟨w2, hrun, ho2, hg2⟩ := R_clear_run (P := Try.prog) k80 w0.heap.size 40 0 80 (.agg #[.int .i64 0, .int .i64 0, .int .i64 0, .int .i64 0, .int .i64 0, .int .i64 0]) Try.underlying40 (by kernel_rfl) rfl (by decide) (zeroCells_one _ (by decide)) (g := gr) (n := i) (c := c) (m := l0.length - i) (c2 := c - i) Rt (by omega) (by omega)
     have hrun' : (Builtin.clear_ #[40] 0 #[.slice (some ⟨gr, i * 6, none⟩) (l0.length - i) (c - i)]).run Try.prog wr = .ok (.tuple #[]) w2 := hrun
     have F : Aside0 (Kd.R k80 80 w2 w0.heap.size (fun k_ => (P0_ k_ ∨ w.heap.size ≤ k_)) (.slice (some ⟨gr, 0, none⟩) i c) (l0.filter (sure80 p)) ∧ Below w0.heap.size w0 w2 ∧ Kept w w2 (fun k_ => P0_ k_)) :=
      ⟨Kd.R_mono ho2 (fun _ hk => .inl hk), HBw.out.grown hg2 HBw.out.size (fun k hk => by injection hk with hk; subst hk; exact Kd.R_base HR.out gr rfl),
       Kept.of_grown hg2 HKw.out (fun k hk => by injection hk with hk; subst hk; exact .inl (HR.out.1 gr rfl))⟩
     clear HS HR HBw HKw hT Rt hrun ho2 hg2
     go_wp2
     go_ret
     exact ⟨_, rfl, F.out⟩
 ·
  rw [if_neg ha] at h
  cases h
/-! ### slices_DeleteFunc_impl_Agg_impl_Agg: function 114 -/
def slices_DeleteFunc_impl_Agg_impl_Agg.f (l0 : List S80) (p : S80 → Option Bool) : Option (List S80) := delf80 l0 p
theorem slices_DeleteFunc_impl_Agg_impl_Agg.calls (P0_ : Nat → Prop) (u9000_ : Value) (l0 : List S80) (p : S80 → Option Bool) (g : Nat) (lb : Array Value) (r : List S80) (w0 w : World) (hB : Below w0.heap.size w0 w) (ho0 : Kd.R k80 80 w w0.heap.size P0_ u9000_ l0) (hp : PaysK80 Try.prog p g lb w (fun k_ => P0_ k_)) (h : slices_DeleteFunc_impl_Agg_impl_Agg.f l0 p = some r) :
  Calls Try.prog 114 #[u9000_, .func (.func g) #[] lb] w fun e w' => ∃ v0_ : Value, e = .returned v0_ ∧ Kd.R k80 80 w' w0.heap.size (fun k_ => (P0_ k_ ∨ w.heap.size ≤ k_)) v0_ r ∧ Below w0.heap.size w0 w' ∧ Kept w w' (fun k_ => P0_ k_) := delf80_calls P0_ u9000_ l0 p g lb r w0 w hB ho0 hp h

/-! ### slices_Clone_impl_Agg_impl_Agg: function 115 -/
def slices_Clone_impl_Agg_impl_Agg.f (l0 : List (S80)) : Option ((List (S80))) := (some (([] : List (S80)) : List (S80))).bind fun y210 => (if y210.length + l0.length < 2932031007402 then (some (y210 ++ l0)) else (none))
set_option maxHeartbeats 8000000 in
set_option maxRecDepth 100000 in
theorem slices_Clone_impl_Agg_impl_Agg.calls (A0 : Option Addr) (c0 : Nat) (l0 : List (S80)) (r : List (S80)) (w : World) (hr0 : Kd.C k80 w A0 l0.length l0) (hc0 : l0.length ≤ c0) (h : slices_Clone_impl_Agg_impl_Agg.f l0 = some r) :
  Calls Try.prog 115 #[.slice A0 l0.length c0] w fun e w' => ∃ v0_ : Value, e = .returned (v0_) ∧ Kd.R k80 80 w' w.heap.size (fun _ => True) v0_ r ∧ Below w.heap.size w w' := by
 have HR0 := Aside0.mk hr0
 have HC0 := Aside0.mk hc0
 clear hr0 hc0
 have HB := am_ (Below.refl w.heap.size w)
 have H : ((some (([] : List (S80)) : List (S80))).bind fun y210 => (if y210.length + l0.length < 2932031007402 then (some (y210 ++ l0)) else (none))) = some r := h
 clear h
 obtain ⟨y210, hy210⟩ : ∃ y_ : List (S80), y_ = (([] : List (S80))) := ⟨_, rfl⟩
 replace H : (if y210.length + l0.length < 2932031007402 then (some (y210 ++ l0)) else (none)) = some r := by first | (rw [hy210]; with_reducible exact H) | (have H2_ := (Option.bind_some _ _).symm.trans H; rw [hy210]; with_reducible exact H2_) | (have H2_ := (Option.bind_some _ _).symm.trans H; with_reducible exact H2_) | with_reducible exact H | (rw [hy210]; exact H) | exact H
 have Ny210 := Aside0.mk hy210
 clear hy210
 by_cases c2 : y210.length + l0.length < 2932031007402
 ·
  rw [if_pos c2] at H
  have LMc2 := Aside0.mk c2
  clear c2
  obtain ⟨y213, hy213⟩ : ∃ y_ : List (S80), y_ = (y210 ++ l0) := ⟨_, rfl⟩
  replace H : (some y213) = some r := by first | (rw [hy213]; with_reducible exact H) | (have H2_ := (Option.bind_some _ _).symm.trans H; rw [hy213]; with_reducible exact H2_) | (have H2_ := (Option.bind_some _ _).symm.trans H; with_reducible exact H2_) | with_reducible exact H | (rw [hy213]; exact H) | exact H
  have Ny213 := Aside0.mk hy213
  clear hy213
  obtain rfl := Option.some.inj H
  have qn_ : ∀ (w : World) (a : Option Addr) (n c n' c' : Nat), (binOp .eql 40 (.slice a n c) (.slice none n' c')).run Try.prog w = .ok (.bool a.isNone) w := fun w a n c n' c' => Go.Lib.run_eql_slice_nil w _ _ a n c n' c' Try.underlying40
  cases A0 with
  | none =>
   have e0 : l0 = [] := by
    by_cases hz : 0 < l0.length
    ·
     obtain ⟨ad, e, _⟩ := HR0.out.2.2 hz
     cases e
    ·
     exact List.eq_nil_of_length_eq_zero (by omega)
   have e1 : y213 = [] := by rw [Ny213.out, Ny210.out, e0]; rfl
   go_enter Try.func115, Try.ntmps115
   go_wp2
   go_ret
   exact ⟨_, rfl, by first | exact Kd.R_nil _ _ _ _ _ | (rw [e1]; exact Kd.R_nil _ _ _ _ _), ue_ HB.out⟩
  | some A1 =>
   go_enter Try.func115, Try.ntmps115
   go_wp2_with (first | ((with_reducible refine gate_dst (N := 5) rfl ?_); refine Kd.R_lit k80 _ 80 ?hg (N := 5) ?hd (xs := ([] : List (S80))) (inner := []) (ok := fun _ => True) (okp := fun _ => True) ?hr ?hp (fun _ hk => hk) trivial (Below.refl _ _) (Nat.le_refl _) (by simp) ?_; (case hd => rfl); (case hg => rfl); (case hr => first | (go_simp; done) | (go_simp; rfl)); (case hp => exact (Reps.none _ _)); intro v211 w3 ho4 hb hg_ hnew_; clear hg_ hnew_; (first | rw [← Ny210.out] at ho4 | (simp only [Int.reduceToNat] at ho4; rw [← Ny210.out] at ho4)); have n0_ := am_ (Kd.R_lower ho4 (below_size (ue_ HB.out))); have n1_ := am_ (below_step (ue_ HB.out) hb); clear HB; have HO212 := n0_; have HB := n1_; clear n0_ n1_; clear hb ho4) | ((with_reducible refine gate_builtin (b := .append) (xs := #[.tmp 5, .tmp 6]) rfl ?_); at_builtin; refine Kd.R_append_rows k80 (w0 := w) w.heap.size rfl (.tmp 5) (.tmp 6) 40 80 (.agg #[(.int .i64 0), (.int .i64 0), (.int .i64 0), (.int .i64 0), (.int .i64 0), (.int .i64 0)]) 48 rfl Try.underlying40 info80 rfl (by decide) (by omega) v211 y210 l0 _ _ _ (fun _ => True) (fun _ => False) rfl rfl ?aO ?aR (fun _ _ h => h) (fun _ h => h.elim) ?aF ?aB ?aS ?aL ?_; (case aR => repeat (first | exact (Kd.C_below HR0.out HB.out) | (with_reducible refine Kd.C_alloc ?_ _) | (with_reducible refine Kd.C_drewN ?_ _) | (with_reducible refine Kd.C_drew ?_))); (case aB => exact (ue_ HB.out)); (case aF => exact (fun _ _ => trivial)); (case aO => exact (ur_ HO212.out)); (case aS => exact (below_size (ue_ HB.out))); (case aL => have := LMc2.out; omega); intro v214 w5 ho hb hg hat; rw [← Ny213.out] at ho; have n0_ := am_ (hb); have n1_ := am_ (ho); clear HB HO212; have HB := n0_; have HO215 := n1_; clear n0_ n1_; clear ho hb hg hat))
   go_ret
   exact ⟨_, ew_, by (with_reducible repeat (first | apply Kd.R_alloc | apply Kd.R_drewN | apply Kd.R_drew)); exact HO215.out, ue_ HB.out⟩
 ·
  rw [if_neg c2] at H
  exact absurd H (by simp)

/-! ### impl_WindowEnd: function 165 -/
def impl_WindowEnd.f (a0 : Int) (a1 : Int) : Option (Int) := (impl_isTime.f a0).bind fun t216 => (if t216 = true then ((impl_isSize.f a1).bind fun t217 => (if t217 = true then (some (wrap64 ((wrap64 ((wrap64 (a0 + 1)) * a1)) - 1))) else (some (-1)))) else (some (-1)))
set_option maxHeartbeats 8000000 in
set_option maxRecDepth 100000 in
theorem impl_WindowEnd.calls (a0 : Int) (a1 : Int) (r : Int) (w : World) (h : impl_WindowEnd.f a0 a1 = some r) :
  Calls Try.prog 165 #[.int .i64 a0, .int .i64 a1] w fun e w' => e = .returned (.int .i64 r) ∧ Drawn0 w w' := by
 have H : ((impl_isTime.f a0).bind fun t216 => (if t216 = true then ((impl_isSize.f a1).bind fun t217 => (if t217 = true then (some (wrap64 ((wrap64 ((wrap64 (a0 + 1)) * a1)) - 1))) else (some (-1)))) else (some (-1)))) = some r := h
 clear h
 replace H := Option.bind_eq_some_iff.mp H
 obtain ⟨t216, A30, H⟩ := H
 replace H : (if t216 = true then ((impl_isSize.f a1).bind fun t217 => (if t217 = true then (some (wrap64 ((wrap64 ((wrap64 (a0 + 1)) * a1)) - 1))) else (some (-1)))) else (some (-1))) = some r := H
 have A3 := Aside0.mk A30
 clear A30
 by_cases c4 : t216 = true
 ·
  subst c4
  have H1 : ((impl_isSize.f a1).bind fun t217 => (if t217 = true then (some (wrap64 ((wrap64 ((wrap64 (a0 + 1)) * a1)) - 1))) else (some (-1)))) = some r := by rw [if_pos rfl] at H; exact H
  clear H
  have H := H1
  clear H1
  replace H := Option.bind_eq_some_iff.mp H
  obtain ⟨t217, A50, H⟩ := H
  replace H : (if t217 = true then (some (wrap64 ((wrap64 ((wrap64 (a0 + 1)) * a1)) - 1))) else (some (-1))) = some r := H
  have A5 := Aside0.mk A50
  clear A50
  by_cases c6 : t217 = true
  ·
   subst c6
   have H1 : (some (wrap64 ((wrap64 ((wrap64 (a0 + 1)) * a1)) - 1))) = some r := by rw [if_pos rfl] at H; exact H
   clear H
   have H := H1
   clear H1
   obtain rfl := Option.some.inj H
   go_enter Try.func165, Try.ntmps165
   go_wp2_with (first | ((with_reducible refine gate_callee (f := 168) rfl ?_); refine goesL_ (some 6) rfl rfl Try.func168 (by kernel_rfl) rfl #[.int .i64 a0] rfl ul_ ?_; (with_reducible refine (impl_isTime.calls a0 true _ A3.out).mono ?_); rintro e w' ⟨rfl, ⟨nd, rfl⟩⟩; refine ⟨_, rfl, ?_⟩) | (go_at_call 113; (with_reducible refine (impl_isSize.calls a1 true _ A5.out).mono ?_); rintro e w' ⟨rfl, ⟨nd, rfl⟩⟩))
   go_ret
   exact ⟨by first | rfl | (simp; done) | (simp [*]; done), by repeat (first | exact Drawn0.refl _ | apply Drawn0.step)⟩
  ·
   replace c6 := Bool.eq_false_iff.mpr c6
   subst c6
   have H1 : (some (-1)) = some r := by rw [if_neg (show ¬ (false = true) by decide)] at H; exact H
   clear H
   have H := H1
   clear H1
   obtain rfl := Option.some.inj H
   go_enter Try.func165, Try.ntmps165
   go_wp2_with (first | ((with_reducible refine gate_callee (f := 168) rfl ?_); refine goesL_ (some 6) rfl rfl Try.func168 (by kernel_rfl) rfl #[.int .i64 a0] rfl ul_ ?_; (with_reducible refine (impl_isTime.calls a0 true _ A3.out).mono ?_); rintro e w' ⟨rfl, ⟨nd, rfl⟩⟩; refine ⟨_, rfl, ?_⟩) | (go_at_call 113; (with_reducible refine (impl_isSize.calls a1 false _ A5.out).mono ?_); rintro e w' ⟨rfl, ⟨nd, rfl⟩⟩))
   go_ret
   exact ⟨by first | rfl | (simp; done) | (simp [*]; done), by repeat (first | exact Drawn0.refl _ | apply Drawn0.step)⟩
 ·
  replace c4 := Bool.eq_false_iff.mpr c4
  subst c4
  have H1 : (some (-1)) = some r := by rw [if_neg (show ¬ (false = true) by decide)] at H; exact H
  clear H
  have H := H1
  clear H1
  obtain rfl := Option.some.inj H
  go_enter Try.func165, Try.ntmps165
  go_wp2_with (first | ((with_reducible refine gate_callee (f := 168) rfl ?_); refine goesL_ (some 6) rfl rfl Try.func168 (by kernel_rfl) rfl #[.int .i64 a0] rfl ul_ ?_; (with_reducible refine (impl_isTime.calls a0 false _ A3.out).mono ?_); rintro e w' ⟨rfl, ⟨nd, rfl⟩⟩; refine ⟨_, rfl, ?_⟩))
  go_ret
  exact ⟨by first | rfl | (simp; done) | (simp [*]; done), by repeat (first | exact Drawn0.refl _ | apply Drawn0.step)⟩


set_option maxHeartbeats 2000000 in
set_option maxRecDepth 100000 in
theorem closedAt_calls (g : Nat) (v0 v2 v3 : Value) (mark : Int) (a0 a1 a2 a3 a4 a5 : Int) (size r : Int) (w : World) (hb : w.heap[g]? = some (.cells #[v0, .int .i64 mark, v2, v3] 42 (0, 0))) (h : impl_WindowEnd.f a0 size = some r) :
  Calls Try.prog 117 #[.pointer (some ⟨g, 0, none⟩), .agg #[.int .i64 a0, .int .i64 a1, .int .i64 a2, .int .i64 a3, .int .i64 a4, .int .i64 a5], .int .i64 size] w fun e w' => e = .returned (.bool (decide (r ≤ mark))) ∧ Below w.heap.size w w' := by
 have hc : w.cell? ⟨g, 1, none⟩ = some (.int .i64 mark) := (blk_cell hb 1).trans rfl
 have hg : g < w.heap.size := blk_lt hb
 have HC := am_ (fun W => impl_WindowEnd.calls a0 size r W h)
 clear h hb
 go_enter Try.func117, Try.ntmps117
 go_wp2
 go_quiet ((go_at_call 165; exact Calls.quiet_of ((HC.out _).mono fun _ _ ⟨he, hd⟩ => ⟨he, hd.out⟩)))
 go_wp2
 go_ret
 exact ⟨rfl, by repeat (first | exact Below.refl _ _ | apply below_alloc | apply pw_below_drewN | apply below_drew1)⟩

/-! ### impl_ClosedOf_1: function 116 -/
def impl_ClosedOf_1.f (mark size : Int) (a0 a1 a2 a3 a4 a5 : Int) : Option Bool := (impl_WindowEnd.f a0 size).bind fun r => some (!(decide (r ≤ mark)))
set_option maxHeartbeats 2000000 in
set_option maxRecDepth 100000 in
theorem impl_ClosedOf_1.calls (g2 g3 : Nat) (v0 v2 v3 : Value) (mark size : Int) (a0 a1 a2 a3 a4 a5 : Int) (r : Bool) (w : World) (h2 : w.heap[g2]? = some (.cells #[v0, .int .i64 mark, v2, v3] 42 (0, 0)))
  (h3 : w.heap[g3]? = some (.cells #[.int .i64 size] 3 (0, 0))) (h : impl_ClosedOf_1.f mark size a0 a1 a2 a3 a4 a5 = some r) :
  Calls Try.prog 116 #[.agg #[.int .i64 a0, .int .i64 a1, .int .i64 a2, .int .i64 a3, .int .i64 a4, .int .i64 a5], .pointer (some ⟨g2, 0, none⟩), .pointer (some ⟨g3, 0, none⟩)] w fun e w' => e = .returned (.bool r) ∧ Below w.heap.size w w' := by
 have c3 : w.cell? ⟨g3, 0, none⟩ = some (.int .i64 size) := (blk_cell h3 0).trans rfl
 have l2 := blk_lt h2
 have l3 := blk_lt h3
 unfold impl_ClosedOf_1.f at h
 obtain ⟨t, ht, h⟩ := Option.bind_eq_some_iff.mp h
 obtain rfl := Option.some.inj h
 have H2 := Aside0.mk h2
 have HT := Aside0.mk ht
 clear h h2 h3 ht
 go_enter Try.func116, Try.ntmps116
 go_wp2_with (go_at_call 117; refine (closedAt_calls g2 v0 v2 v3 mark a0 a1 a2 a3 a4 a5 size t _ (blk_alloc H2.out _) HT.out).mono ?_; rintro e w' ⟨rfl, hb'⟩)
 go_ret
 exact ⟨rfl, below_step (below_alloc (Below.refl _ _) _) hb'⟩
theorem impl_ClosedOf_1.paysK {g2 g3 : Nat} {v0 v2 v3 : Value} {mark size : Int} {w : World} {S : Nat → Prop} (h2 : w.heap[g2]? = some (.cells #[v0, .int .i64 mark, v2, v3] 42 (0, 0)))
  (h3 : w.heap[g3]? = some (.cells #[.int .i64 size] 3 (0, 0))) (n2 : ¬ S g2) (n3 : ¬ S g3) : PaysK80 Try.prog (fun x => impl_ClosedOf_1.f mark size x.f0 x.f1 x.f2 x.f3 x.f4 x.f5) 116 #[.pointer (some ⟨g2, 0, none⟩), .pointer (some ⟨g3, 0, none⟩)] w S :=
 ⟨fun args W => enters_ Try.func116 (by kernel_rfl) rfl args W, fun W x b hb h => impl_ClosedOf_1.calls g2 g3 v0 v2 v3 mark size x.f0 x.f1 x.f2 x.f3 x.f4 x.f5 b W (blk_kept h2 hb n2) (blk_kept h3 hb n3) h⟩

/-! ### impl_ClosedOf: function 39 -/
def impl_ClosedOf.j0 : Nat → Bool → List (S80) → Int → Int → Int → Int → Option ((List (S80)))
 | 0, _, _, _, _, _, _ => none
 | k + 1, x12, x219000, x219001, x219002, x219003, x220000 => if x12 = true then (some ([] : List (S80))) else ((slices_Clone_impl_Agg_impl_Agg.f x219000).bind fun t222 => ((slices_DeleteFunc_impl_Agg_impl_Agg.f t222 (fun x => impl_ClosedOf_1.f x219001 x220000 x.f0 x.f1 x.f2 x.f3 x.f4 x.f5)).bind fun t225 => (some t225)))
def impl_ClosedOf.f (k : Nat) (l0_0 : List (S80)) (a0_1 : Int) (a0_2 : Int) (a0_3 : Int) (a1 : Int) : Option ((List (S80))) := (impl_ShardOk.f k l0_0 a0_1 a0_2 a0_3).bind fun t220 => (if t220 = true then ((impl_isSize.f a1).bind fun t221 => (impl_ClosedOf.j0 k (!t221) l0_0 a0_1 a0_2 a0_3 a1)) else (impl_ClosedOf.j0 k true l0_0 a0_1 a0_2 a0_3 a1))
theorem impl_ClosedOf.mono_l : ∀ k, (∀ y0 y1 y2 y3 y4 y5, LeO (impl_ClosedOf.j0 k y0 y1 y2 y3 y4 y5) (impl_ClosedOf.j0 (k + 1) y0 y1 y2 y3 y4 y5))
 | 0 => fun _ _ _ _ _ _ r h => by simp [impl_ClosedOf.j0] at h
 | k + 1 => by
  have ih0 := impl_ClosedOf.mono_l k
  ·
   intro y0 y1 y2 y3 y4 y5
   unfold impl_ClosedOf.j0
   repeat' first
   | (with_reducible exact ih0 _ _ _ _ _ _)
   | (with_reducible exact impl_ShardOk.mono _ _ _ _ _)
   | (with_reducible exact LeO.refl _)
   | (with_reducible exact LeO.none _)
   | (with_reducible refine LeO.ite ?_ ?_)
   | (with_reducible refine LeO.bind ?_ (fun _ => ?_))
   | exact ih0 _ _ _ _ _ _
   | exact impl_ShardOk.mono _ _ _ _ _
   | exact LeO.none _
   | refine LeO.ite ?_ ?_
   | refine LeO.bind ?_ (fun _ => ?_)
theorem impl_ClosedOf.mono : ∀ a0 a1 a2 a3 a4 k, LeO (impl_ClosedOf.f k a0 a1 a2 a3 a4) (impl_ClosedOf.f (k + 1) a0 a1 a2 a3 a4) := by
 intro a0 a1 a2 a3 a4 k
 have ih0 := impl_ClosedOf.mono_l k
 unfold impl_ClosedOf.f
 repeat' first
   | (with_reducible exact ih0 _ _ _ _ _ _)
   | (with_reducible exact impl_ShardOk.mono _ _ _ _ _)
   | (with_reducible exact LeO.refl _)
   | (with_reducible exact LeO.none _)
   | (with_reducible refine LeO.ite ?_ ?_)
   | (with_reducible refine LeO.bind ?_ (fun _ => ?_))
   | exact ih0 _ _ _ _ _ _
   | exact impl_ShardOk.mono _ _ _ _ _
   | exact LeO.none _
   | refine LeO.ite ?_ ?_
   | refine LeO.bind ?_ (fun _ => ?_)
set_option maxHeartbeats 8000000 in
set_option maxRecDepth 100000 in
theorem impl_ClosedOf.calls (k : Nat) (A0_0 : Option Addr) (c0_0 : Nat) (l0_0 : List (S80)) (a0_1 : Int) (a0_2 : Int) (a0_3 : Int) (a1 : Int) (r : List (S80)) (w : World) (hr0_0 : Kd.C k80 w A0_0 l0_0.length l0_0) (hc0_0 : l0_0.length ≤ c0_0) (h : impl_ClosedOf.f k l0_0 a0_1 a0_2 a0_3 a1 = some r) :
  Calls Try.prog 39 #[.agg #[.slice A0_0 l0_0.length c0_0, .int .i64 a0_1, .int .i64 a0_2, .int .i64 a0_3], .int .i64 a1] w fun e w' => ∃ v0_ : Value, e = .returned (v0_) ∧ Kd.R k80 80 w' w.heap.size (fun _ => True) v0_ r ∧ Below w.heap.size w w' := by
 have hu42 := Try.underlying42
 have HR0_0 := Aside0.mk hr0_0
 have HC0_0 := Aside0.mk hc0_0
 clear hr0_0 hc0_0
 have HB := am_ (Below.refl w.heap.size w)
 have H : ((impl_ShardOk.f k l0_0 a0_1 a0_2 a0_3).bind fun t220 => (if t220 = true then ((impl_isSize.f a1).bind fun t221 => (impl_ClosedOf.j0 k (!t221) l0_0 a0_1 a0_2 a0_3 a1)) else (impl_ClosedOf.j0 k true l0_0 a0_1 a0_2 a0_3 a1))) = some r := h
 clear h
 have HC3 := Aside0.mk H
 clear H
 go_enter Try.func39, Try.ntmps39
 go_upto_region 1 with (first | ((with_reducible refine gate_dst (N := 2) rfl ?_); refine box_event ?hg (N := 2) ?hd (cs := #[.slice A0_0 l0_0.length c0_0, .int .i64 a0_1, .int .i64 a0_2, .int .i64 a0_3]) (t := 42) ?hr ?_; (case hd => rfl); (case hg => rfl); (case hr => first | (go_simp; done) | (go_simp; rfl)); intro gb218 hg w4 hbox hb; have n0_ := am_ (below_step (ue_ HB.out) hb); have n1_ := am_ (hbox); have n2_ := am_ ((by rw [hg]; exact (below_size (ue_ HB.out)) : w.heap.size ≤ gb218)); have n3_ := am_ ((by rw [hg]; exact (below_size (ue_ HB.out)) : w.heap.size ≤ gb218)); clear HB; have HB := n0_; have BK218 := n1_; have GW218 := n2_; have GE218 := n3_; clear n0_ n1_ n2_ n3_; clear hb hbox hg) | ((with_reducible refine gate_dst (N := 3) rfl ?_); refine box_event ?hg (N := 3) ?hd (cs := #[.int .i64 a1]) (t := 3) ?hr ?_; (case hd => rfl); (case hg => rfl); (case hr => first | (go_simp; done) | (go_simp; rfl)); intro gb219 hg w5 hbox hb; have n0_ := am_ (bb_ BK218.out hb); have n1_ := am_ (below_step (ue_ HB.out) hb); have n2_ := am_ (hbox); have n3_ := am_ ((by rw [hg]; exact (below_size (ue_ HB.out)) : w.heap.size ≤ gb219)); have n4_ := am_ ((by rw [hg]; exact (below_size (ue_ HB.out)) : w.heap.size ≤ gb219)); have n5_ := am_ ((by rw [hg]; exact Nat.ne_of_lt (bl_ BK218.out) : gb218 ≠ gb219)); have n6_ := am_ ((by rw [hg]; exact Nat.ne_of_gt (bl_ BK218.out) : gb219 ≠ gb218)); clear BK218 HB; have BK218 := n0_; have HB := n1_; have BK219 := n2_; have GW219 := n3_; have GE219 := n4_; have NB218_219 := n5_; have NB219_218 := n6_; clear n0_ n1_ n2_ n3_ n4_ n5_ n6_; clear hb hbox hg))
 (try simp only [Act.put, List.setIfInBounds_toArray, List.set_cons_zero, List.set_cons_succ])
 go_cut [12] (fun v12 wc => ∃ (kq : Nat) (x12_2 : Bool), v12 = .bool x12_2 ∧ Aside0 (impl_ClosedOf.j0 kq x12_2 l0_0 a0_1 a0_2 a0_3 a1 = some r) ∧ Aside0 (kq ≤ k) ∧ Aside0 (wc.heap[gb218]? = some (.cells #[(.slice A0_0 l0_0.length c0_0), .int .i64 a0_1, .int .i64 a0_2, .int .i64 a0_3] 42 (0, 0))) ∧ Aside0 (wc.heap[gb219]? = some (.cells #[.int .i64 a1] 3 (0, 0))) ∧ Aside0 (Below w.heap.size w wc))
 case first =>
  have H := HC3.out
  clear HC3
  replace H := Option.bind_eq_some_iff.mp H
  obtain ⟨t220, A60, H⟩ := H
  replace H : (if t220 = true then ((impl_isSize.f a1).bind fun t221 => (impl_ClosedOf.j0 k (!t221) l0_0 a0_1 a0_2 a0_3 a1)) else (impl_ClosedOf.j0 k true l0_0 a0_1 a0_2 a0_3 a1)) = some r := H
  have A6 := Aside0.mk A60
  clear A60
  by_cases c7 : t220 = true
  ·
   subst c7
   have H1 : ((impl_isSize.f a1).bind fun t221 => (impl_ClosedOf.j0 k (!t221) l0_0 a0_1 a0_2 a0_3 a1)) = some r := by rw [if_pos rfl] at H; exact H
   clear H
   have H := H1
   clear H1
   replace H := Option.bind_eq_some_iff.mp H
   obtain ⟨t221, A80, H⟩ := H
   replace H : (impl_ClosedOf.j0 k (!t221) l0_0 a0_1 a0_2 a0_3 a1) = some r := H
   have A8 := Aside0.mk A80
   clear A80
   have H' := Aside0.mk H
   clear H
   have hnb9 := NB218_219.out
   have hnc9 := NB219_218.out
   have hcz10_0 := cb_ BK218.out 0 rfl
   have hcz10_1 := cb_ BK218.out 1 rfl
   have hcz10_2 := cb_ BK218.out 2 rfl
   have hcz10_3 := cb_ BK218.out 3 rfl
   have hfz10_0 := blk_frozen BK218.out 0
   have hfz10_1 := blk_frozen BK218.out 1
   have hfz10_2 := blk_frozen BK218.out 2
   have hfz10_3 := blk_frozen BK218.out 3
   go_wp2_with (first | ((with_reducible refine gate_callee (f := 98) rfl ?_); refine goesL_ (some 6) rfl rfl Try.func98 (by kernel_rfl) rfl #[.agg #[.slice A0_0 l0_0.length c0_0, .int .i64 a0_1, .int .i64 a0_2, .int .i64 a0_3]] rfl ul_ ?_; (with_reducible refine (impl_ShardOk.calls k _ _ l0_0 a0_1 a0_2 a0_3 true _ ?side1 ?side2 A6.out).mono ?_); (case side1 => repeat (first | exact (Kd.C_below HR0_0.out HB.out) | (with_reducible refine Kd.C_alloc ?_ _) | (with_reducible refine Kd.C_drewN ?_ _) | (with_reducible refine Kd.C_drew ?_))); (case side2 => exact HC0_0.out); rintro e w11 ⟨rfl, hb⟩; refine ⟨_, rfl, ?_⟩; have n0_ := am_ (bb_ BK218.out hb); have n1_ := am_ (bb_ BK219.out hb); have n2_ := am_ (below_step (ue_ HB.out) hb); clear BK218 BK219 HB; have BK218 := n0_; have BK219 := n1_; have HB := n2_; clear n0_ n1_ n2_; (try clear hb); (try clear hb2); (try clear hk); (try clear hi); have hcz12_0 := cb_ BK219.out 0 rfl; have hfz12_0 := blk_frozen BK219.out 0) | (go_at_call 113; (with_reducible refine (impl_isSize.calls a1 t221 _ A8.out).mono ?_); rintro e w' ⟨rfl, ⟨nd, rfl⟩⟩))
   go_meet
   case rel => exact ⟨_, (!t221), (by first | rfl | (simp; done) | (simp [*]; done)), H', ⟨by first | omega | exact Nat.le_refl _⟩, ⟨by (with_reducible repeat first|apply bn_|apply bd_|apply ba_); exact BK218.out⟩, ⟨by (with_reducible repeat first|apply bn_|apply bd_|apply ba_); exact BK219.out⟩, ⟨ue_ HB.out⟩⟩
  ·
   replace c7 := Bool.eq_false_iff.mpr c7
   subst c7
   have H1 : (impl_ClosedOf.j0 k true l0_0 a0_1 a0_2 a0_3 a1) = some r := by rw [if_neg (show ¬ (false = true) by decide)] at H; exact H
   clear H
   have H := H1
   clear H1
   have H' := Aside0.mk H
   clear H
   have hnb13 := NB218_219.out
   have hnc13 := NB219_218.out
   have hcz14_0 := cb_ BK218.out 0 rfl
   have hcz14_1 := cb_ BK218.out 1 rfl
   have hcz14_2 := cb_ BK218.out 2 rfl
   have hcz14_3 := cb_ BK218.out 3 rfl
   have hfz14_0 := blk_frozen BK218.out 0
   have hfz14_1 := blk_frozen BK218.out 1
   have hfz14_2 := blk_frozen BK218.out 2
   have hfz14_3 := blk_frozen BK218.out 3
   go_wp2_with (first | ((with_reducible refine gate_callee (f := 98) rfl ?_); refine goesL_ (some 6) rfl rfl Try.func98 (by kernel_rfl) rfl #[.agg #[.slice A0_0 l0_0.length c0_0, .int .i64 a0_1, .int .i64 a0_2, .int .i64 a0_3]] rfl ul_ ?_; (with_reducible refine (impl_ShardOk.calls k _ _ l0_0 a0_1 a0_2 a0_3 false _ ?side1 ?side2 A6.out).mono ?_); (case side1 => repeat (first | exact (Kd.C_below HR0_0.out HB.out) | (with_reducible refine Kd.C_alloc ?_ _) | (with_reducible refine Kd.C_drewN ?_ _) | (with_reducible refine Kd.C_drew ?_))); (case side2 => exact HC0_0.out); rintro e w15 ⟨rfl, hb⟩; refine ⟨_, rfl, ?_⟩; have n0_ := am_ (bb_ BK218.out hb); have n1_ := am_ (bb_ BK219.out hb); have n2_ := am_ (below_step (ue_ HB.out) hb); clear BK218 BK219 HB; have BK218 := n0_; have BK219 := n1_; have HB := n2_; clear n0_ n1_ n2_; (try clear hb); (try clear hb2); (try clear hk); (try clear hi)))
   go_meet
   case rel => exact ⟨_, (true), (by first | rfl | (simp; done) | (simp [*]; done)), H', ⟨by first | omega | exact Nat.le_refl _⟩, ⟨by (with_reducible repeat first|apply bn_|apply bd_|apply ba_); exact BK218.out⟩, ⟨by (with_reducible repeat first|apply bn_|apply bd_|apply ba_); exact BK219.out⟩, ⟨ue_ HB.out⟩⟩
 case rest =>
  clear HC3
  try clear c1
  try clear p2
  try clear c3
  try clear c7
  try clear c9
  try clear c13
  try clear hcz10_0
  try clear hcz10_1
  try clear hcz10_2
  try clear hcz10_3
  try clear hcz12_0
  try clear hcz14_0
  try clear hcz14_1
  try clear hcz14_2
  try clear hcz14_3
  try clear hfz10_0
  try clear hfz10_1
  try clear hfz10_2
  try clear hfz10_3
  try clear hfz12_0
  try clear hfz14_0
  try clear hfz14_1
  try clear hfz14_2
  try clear hfz14_3
  obtain ⟨kq, x12_2, rfl, HA, HJ2, BK218, BK219, HB⟩ := hcut
  cases kq with
  | zero => exact absurd HA.out (by simp [impl_ClosedOf.j0])
  | succ kj2 =>
   have H := HA.out
   clear HA
   simp only [impl_ClosedOf.j0] at H
   by_cases c16 : x12_2 = true
   ·
    subst c16
    have H1 : (some ([] : List (S80))) = some r := by rw [if_pos rfl] at H; exact H
    clear H
    have H := H1
    clear H1
    obtain rfl := Option.some.inj H
    go_wp2
    go_ret
    exact ⟨_, ew_, by first | exact Kd.R_nil _ _ _ _ _ | exact Kd.N_nil _ _ _ _ _ | exact Kd.V_nil _ _ _ _ _ | exact Kd.Q_nil _ _ _ _ _ | exact Kd.S_nil _ _ _ _ _, ue_ HB.out⟩
   ·
    replace c16 := Bool.eq_false_iff.mpr c16
    subst c16
    have H1 : ((slices_Clone_impl_Agg_impl_Agg.f l0_0).bind fun t222 => ((slices_DeleteFunc_impl_Agg_impl_Agg.f t222 (fun x => impl_ClosedOf_1.f a0_1 a1 x.f0 x.f1 x.f2 x.f3 x.f4 x.f5)).bind fun t225 => (some t225))) = some r := by rw [if_neg (show ¬ (false = true) by decide)] at H; exact H
    clear H
    have H := H1
    clear H1
    replace H := Option.bind_eq_some_iff.mp H
    obtain ⟨t222, A170, H⟩ := H
    replace H : ((slices_DeleteFunc_impl_Agg_impl_Agg.f t222 (fun x => impl_ClosedOf_1.f a0_1 a1 x.f0 x.f1 x.f2 x.f3 x.f4 x.f5)).bind fun t225 => (some t225)) = some r := H
    have A17 := Aside0.mk A170
    clear A170
    replace H := Option.bind_eq_some_iff.mp H
    obtain ⟨t225, A180, H⟩ := H
    replace H : (some t225) = some r := H
    have A18 := Aside0.mk A180
    clear A180
    obtain rfl := Option.some.inj H
    have hnb19 := NB218_219.out
    have hnc19 := NB219_218.out
    have hcz20_0 := cb_ BK218.out 0 rfl
    have hcz20_1 := cb_ BK218.out 1 rfl
    have hcz20_2 := cb_ BK218.out 2 rfl
    have hcz20_3 := cb_ BK218.out 3 rfl
    have hfz20_0 := blk_frozen BK218.out 0
    have hfz20_1 := blk_frozen BK218.out 1
    have hfz20_2 := blk_frozen BK218.out 2
    have hfz20_3 := blk_frozen BK218.out 3
    go_wp2_with (first | ((with_reducible refine gate_callee (f := 115) rfl ?_); refine goesL_ (some 15) rfl rfl Try.func115 (by kernel_rfl) rfl #[.slice A0_0 l0_0.length c0_0] rfl ul_ ?_; (with_reducible refine (slices_Clone_impl_Agg_impl_Agg.calls _ _ l0_0 t222 _ ?side1 ?side2 A17.out).mono ?_); (case side1 => repeat (first | exact (Kd.C_below HR0_0.out HB.out) | (with_reducible refine Kd.C_alloc ?_ _) | (with_reducible refine Kd.C_drewN ?_ _) | (with_reducible refine Kd.C_drew ?_))); (case side2 => exact HC0_0.out); rintro e w21 ⟨v223, rfl, ho0, hb⟩; refine ⟨_, rfl, ?_⟩; have n0_ := am_ (Kd.R_lower ho0 (below_size (ue_ HB.out))); have n1_ := am_ (bb_ BK218.out hb); have n2_ := am_ (bb_ BK219.out hb); have n3_ := am_ (below_step (ue_ HB.out) hb); clear BK218 BK219 HB; have HO224 := n0_; have BK218 := n1_; have BK219 := n2_; have HB := n3_; clear n0_ n1_ n2_ n3_; (try clear hb); (try clear hb2); (try clear hk); (try clear hi); (try clear ho0); obtain ⟨Ao22, co22, eo22⟩ := Kd.R_slice HO224.out; subst eo22) | ((with_reducible refine gate_callee (f := 114) rfl ?_); refine goesL_ (some 17) rfl rfl Try.func114 (by kernel_rfl) rfl #[.slice Ao22 t222.length co22, .func (.func 116) #[] #[.pointer (some ⟨gb218, 0, none⟩), .pointer (some ⟨gb219, 0, none⟩)]] rfl ul_ ?_; (with_reducible refine (slices_DeleteFunc_impl_Agg_impl_Agg.calls (fun k_ => some k_ = (.slice Ao22 t222.length co22 : Value).ownBlock) (.slice Ao22 t222.length co22) t222 (fun x => impl_ClosedOf_1.f a0_1 a1 x.f0 x.f1 x.f2 x.f3 x.f4 x.f5) 116 #[.pointer (some ⟨gb218, 0, none⟩), .pointer (some ⟨gb219, 0, none⟩)] t225 w _ ?side1 ?side2 ?side3 A18.out).mono ?_); (case side1 => repeat (first | (with_reducible first | exact HB.out | apply below_alloc | apply pw_below_drewN | apply below_drew1 | refine below_set ?_ GE218.out | refine below_set ?_ GE219.out) | exact HB.out)); (case side2 => exact Kd.R_tight rfl HO224.out); (case side3 => exact impl_ClosedOf_1.paysK (ub_ BK218.out) (ub_ BK219.out) (fun hs_ => (fun e_ => (Kd.R_ne HO224.out BK218.out (by decide)) e_) hs_) (fun hs_ => (fun e_ => (Kd.R_ne HO224.out BK219.out (by decide)) e_) hs_)); rintro e w23 ⟨v226, rfl, ho0, hb, hkp⟩; refine ⟨_, rfl, ?_⟩; have n0_ := am_ (blk_kept (g := gb218) (o := .cells #[.slice A0_0 l0_0.length c0_0, .int .i64 a0_1, .int .i64 a0_2, .int .i64 a0_3] 42 (0, 0)) (ub_ BK218.out) hkp (fun hs_ => (fun e_ => (Kd.R_ne HO224.out BK218.out (by decide)) e_) hs_)); have n1_ := am_ (blk_kept (g := gb219) (o := .cells #[.int .i64 a1] 3 (0, 0)) (ub_ BK219.out) hkp (fun hs_ => (fun e_ => (Kd.R_ne HO224.out BK219.out (by decide)) e_) hs_)); have n2_ := am_ (Kd.R_mono (ok' := fun k_ => True) ho0 (fun k_ hk_ => trivial)); have n3_ := am_ (hb); clear BK218 BK219 HB HO224; have BK218 := n0_; have BK219 := n1_; have HO227 := n2_; have HB := n3_; clear n0_ n1_ n2_ n3_; (try clear hb); (try clear hkp); (try clear ho0)))
    go_ret
    exact ⟨_, ew_, by (with_reducible repeat (first | apply Kd.R_alloc | apply Kd.R_drewN | apply Kd.R_drew)); exact HO227.out, ue_ HB.out⟩

/-! ### laws_heldAggS: function 42 -/
def laws_heldAggS.l0 : Nat → List (S80) → Int → Int → Option (Int)
 | 0, _, _, _ => none
 | k + 1, x0, x1, x5 => if x5 < (x0.length : Int) then (if 0 ≤ x5 then (if ((rd_T80 x0 x5).f0) = x1 then (if ((rd_T80 x0 x5).f1) = (wrap64 (x1 + 1)) then (if ((rd_T80 x0 x5).f2) = (wrap64 ((wrap64 (x1 + 1)) + 1)) then (if ((rd_T80 x0 x5).f3) = (wrap64 ((wrap64 ((wrap64 (x1 + 1)) + 1)) + 1)) then (if ((rd_T80 x0 x5).f4) = (wrap64 ((wrap64 ((wrap64 ((wrap64 (x1 + 1)) + 1)) + 1)) + 1)) then (if ((rd_T80 x0 x5).f5) = (wrap64 ((wrap64 ((wrap64 ((wrap64 ((wrap64 (x1 + 1)) + 1)) + 1)) + 1)) + 1)) then (laws_heldAggS.l0 k x0 (wrap64 ((wrap64 ((wrap64 ((wrap64 ((wrap64 ((wrap64 (x1 + 1)) + 1)) + 1)) + 1)) + 1)) + 1)) (wrap64 (x5 + 1))) else (some (-1))) else (some (-1))) else (some (-1))) else (some (-1))) else (some (-1))) else (some (-1))) else (none)) else (some x1)
def laws_heldAggS.f (k : Nat) (l0 : List (S80)) (a1 : Int) : Option (Int) := laws_heldAggS.l0 k l0 a1 0
theorem laws_heldAggS.mono_l : ∀ k, (∀ y0 y1 y2, LeO (laws_heldAggS.l0 k y0 y1 y2) (laws_heldAggS.l0 (k + 1) y0 y1 y2))
 | 0 => fun _ _ _ r h => by simp [laws_heldAggS.l0] at h
 | k + 1 => by
  have ih0 := laws_heldAggS.mono_l k
  ·
   intro y0 y1 y2
   unfold laws_heldAggS.l0
   repeat' first
   | (with_reducible exact ih0 _ _ _)
   | (with_reducible exact LeO.refl _)
   | (with_reducible exact LeO.none _)
   | (with_reducible refine LeO.ite ?_ ?_)
   | (with_reducible refine LeO.bind ?_ (fun _ => ?_))
   | exact ih0 _ _ _
   | exact LeO.none _
   | refine LeO.ite ?_ ?_
   | refine LeO.bind ?_ (fun _ => ?_)
theorem laws_heldAggS.mono : ∀ a0 a1 k, LeO (laws_heldAggS.f k a0 a1) (laws_heldAggS.f (k + 1) a0 a1) := by
 intro a0 a1 k
 have ih0 := laws_heldAggS.mono_l k
 unfold laws_heldAggS.f
 repeat' first
   | (with_reducible exact ih0 _ _ _)
   | (with_reducible exact LeO.refl _)
   | (with_reducible exact LeO.none _)
   | (with_reducible refine LeO.ite ?_ ?_)
   | (with_reducible refine LeO.bind ?_ (fun _ => ?_))
   | exact ih0 _ _ _
   | exact LeO.none _
   | refine LeO.ite ?_ ?_
   | refine LeO.bind ?_ (fun _ => ?_)
set_option maxHeartbeats 8000000 in
set_option maxRecDepth 100000 in
theorem laws_heldAggS.calls (k : Nat) (A0 : Option Addr) (c0 : Nat) (l0 : List (S80)) (a1 : Int) (r : Int) (w : World) (hr0 : Kd.C k80 w A0 l0.length l0) (hc0 : l0.length ≤ c0) (h : laws_heldAggS.f k l0 a1 = some r) :
  Calls Try.prog 42 #[.slice A0 l0.length c0, .int .i64 a1] w fun e w' => e = .returned (.int .i64 r) ∧ Drawn0 w w' := by
 have HR0 := Aside0.mk hr0
 have HC0 := Aside0.mk hc0
 clear hr0 hc0
 have H : (laws_heldAggS.l0 k l0 a1 0) = some r := h
 clear h
 have H' := Aside0.mk H
 clear H
 go_enter Try.func42, Try.ntmps42
 go_wp2
 (try simp only [Act.put, List.setIfInBounds_toArray, List.set_cons_zero, List.set_cons_succ])
 go_loopg [1, 5] k (fun kq v1 v5 w' => ∃ (x1_1 : Int) (x5_1 : Int), v1 = .int .i64 x1_1 ∧ v5 = .int .i64 x5_1 ∧ Aside0 (laws_heldAggS.l0 kq l0 x1_1 x5_1 = some r) ∧ Aside0 (kq ≤ k) ∧ Drawn0 w w')
 case atStart => exact ⟨(a1), (0), (by first | rfl | (simp; done) | (simp [*]; done)), (by first | rfl | (simp; done) | (simp [*]; done)), H', ⟨Nat.le_refl _⟩, by repeat (first | exact Drawn0.refl _ | apply Drawn0.step)⟩
 case round =>
  clear H'
  try clear p2
  obtain ⟨x1_1, x5_1, rfl, rfl, HA, HK1, ⟨m1, rfl⟩⟩ := hrel
  cases gk with
  | zero => exact absurd HA.out (by simp [laws_heldAggS.l0])
  | succ k1 =>
   have H := HA.out
   clear HA
   simp only [laws_heldAggS.l0] at H
   by_cases c3 : x5_1 < (l0.length : Int)
   ·
    rw [if_pos c3] at H
    have c3b0 : decide (x5_1 < (l0.length : Int)) = true := decide_eq_true c3
    clear c3
    by_cases c4 : 0 ≤ x5_1
    ·
     rw [if_pos c4] at H
     have c4b0 : decide (0 ≤ x5_1) = true := decide_eq_true c4
     clear c4
     by_cases c5 : ((rd_T80 l0 x5_1).f0) = x1_1
     ·
      rw [if_pos c5] at H
      have c5b0 : (((rd_T80 l0 x5_1).f0) == x1_1) = true := beq_iff_eq.mpr c5
      have c5b1 : (((rd_T80 l0 x5_1).f0) != x1_1) = false := bne_eq_false_iff_eq.mpr c5
      clear c5
      by_cases c6 : ((rd_T80 l0 x5_1).f1) = (wrap64 (x1_1 + 1))
      ·
       rw [if_pos c6] at H
       have c6b0 : (((rd_T80 l0 x5_1).f1) == (wrap64 (x1_1 + 1))) = true := beq_iff_eq.mpr c6
       have c6b1 : (((rd_T80 l0 x5_1).f1) != (wrap64 (x1_1 + 1))) = false := bne_eq_false_iff_eq.mpr c6
       clear c6
       by_cases c7 : ((rd_T80 l0 x5_1).f2) = (wrap64 ((wrap64 (x1_1 + 1)) + 1))
       ·
        rw [if_pos c7] at H
        have c7b0 : (((rd_T80 l0 x5_1).f2) == (wrap64 ((wrap64 (x1_1 + 1)) + 1))) = true := beq_iff_eq.mpr c7
        have c7b1 : (((rd_T80 l0 x5_1).f2) != (wrap64 ((wrap64 (x1_1 + 1)) + 1))) = false := bne_eq_false_iff_eq.mpr c7
        clear c7
        by_cases c8 : ((rd_T80 l0 x5_1).f3) = (wrap64 ((wrap64 ((wrap64 (x1_1 + 1)) + 1)) + 1))
        ·
         rw [if_pos c8] at H
         have c8b0 : (((rd_T80 l0 x5_1).f3) == (wrap64 ((wrap64 ((wrap64 (x1_1 + 1)) + 1)) + 1))) = true := beq_iff_eq.mpr c8
         have c8b1 : (((rd_T80 l0 x5_1).f3) != (wrap64 ((wrap64 ((wrap64 (x1_1 + 1)) + 1)) + 1))) = false := bne_eq_false_iff_eq.mpr c8
         clear c8
         by_cases c9 : ((rd_T80 l0 x5_1).f4) = (wrap64 ((wrap64 ((wrap64 ((wrap64 (x1_1 + 1)) + 1)) + 1)) + 1))
         ·
          rw [if_pos c9] at H
          have c9b0 : (((rd_T80 l0 x5_1).f4) == (wrap64 ((wrap64 ((wrap64 ((wrap64 (x1_1 + 1)) + 1)) + 1)) + 1))) = true := beq_iff_eq.mpr c9
          have c9b1 : (((rd_T80 l0 x5_1).f4) != (wrap64 ((wrap64 ((wrap64 ((wrap64 (x1_1 + 1)) + 1)) + 1)) + 1))) = false := bne_eq_false_iff_eq.mpr c9
          clear c9
          by_cases c10 : ((rd_T80 l0 x5_1).f5) = (wrap64 ((wrap64 ((wrap64 ((wrap64 ((wrap64 (x1_1 + 1)) + 1)) + 1)) + 1)) + 1))
          ·
           rw [if_pos c10] at H
           have c10b0 : (((rd_T80 l0 x5_1).f5) == (wrap64 ((wrap64 ((wrap64 ((wrap64 ((wrap64 (x1_1 + 1)) + 1)) + 1)) + 1)) + 1))) = true := beq_iff_eq.mpr c10
           have c10b1 : (((rd_T80 l0 x5_1).f5) != (wrap64 ((wrap64 ((wrap64 ((wrap64 ((wrap64 (x1_1 + 1)) + 1)) + 1)) + 1)) + 1))) = false := bne_eq_false_iff_eq.mpr c10
           clear c10
           have H' := Aside0.mk H
           clear H
           have p228 : 0 ≤ (x5_1 : Int) := of_decide_eq_true ua_
           have q228 : x5_1 < (l0.length : Int) := of_decide_eq_true ua_
           obtain ⟨ad228, e228, hx228_0, hx228_1, hx228_2, hx228_3, hx228_4, hx228_5⟩ := at_T80 HR0.out x5_1 p228 q228
           cases e228
           replace p228 := eq_true p228
           replace q228 := eq_true q228
           have p229 : 0 ≤ (x5_1 : Int) := of_decide_eq_true ua_
           have q229 : x5_1 < (l0.length : Int) := of_decide_eq_true ua_
           obtain ⟨ad229, e229, hx229_0, hx229_1, hx229_2, hx229_3, hx229_4, hx229_5⟩ := at_T80 HR0.out x5_1 p229 q229
           obtain rfl : ad228 = ad229 := (by injection e229)
           replace p229 := eq_true p229
           replace q229 := eq_true q229
           have p230 : 0 ≤ (x5_1 : Int) := of_decide_eq_true ua_
           have q230 : x5_1 < (l0.length : Int) := of_decide_eq_true ua_
           obtain ⟨ad230, e230, hx230_0, hx230_1, hx230_2, hx230_3, hx230_4, hx230_5⟩ := at_T80 HR0.out x5_1 p230 q230
           obtain rfl : ad228 = ad230 := (by injection e230)
           replace p230 := eq_true p230
           replace q230 := eq_true q230
           have p231 : 0 ≤ (x5_1 : Int) := of_decide_eq_true ua_
           have q231 : x5_1 < (l0.length : Int) := of_decide_eq_true ua_
           obtain ⟨ad231, e231, hx231_0, hx231_1, hx231_2, hx231_3, hx231_4, hx231_5⟩ := at_T80 HR0.out x5_1 p231 q231
           obtain rfl : ad228 = ad231 := (by injection e231)
           replace p231 := eq_true p231
           replace q231 := eq_true q231
           have p232 : 0 ≤ (x5_1 : Int) := of_decide_eq_true ua_
           have q232 : x5_1 < (l0.length : Int) := of_decide_eq_true ua_
           obtain ⟨ad232, e232, hx232_0, hx232_1, hx232_2, hx232_3, hx232_4, hx232_5⟩ := at_T80 HR0.out x5_1 p232 q232
           obtain rfl : ad228 = ad232 := (by injection e232)
           replace p232 := eq_true p232
           replace q232 := eq_true q232
           have p233 : 0 ≤ (x5_1 : Int) := of_decide_eq_true ua_
           have q233 : x5_1 < (l0.length : Int) := of_decide_eq_true ua_
           obtain ⟨ad233, e233, hx233_0, hx233_1, hx233_2, hx233_3, hx233_4, hx233_5⟩ := at_T80 HR0.out x5_1 p233 q233
           obtain rfl : ad228 = ad233 := (by injection e233)
           replace p233 := eq_true p233
           replace q233 := eq_true q233
           go_wp2
           go_roundg k1
           case measure => have := HK1.out; omega
           case rel => exact ⟨(wrap64 ((wrap64 ((wrap64 ((wrap64 ((wrap64 ((wrap64 (x1_1 + 1)) + 1)) + 1)) + 1)) + 1)) + 1)), (wrap64 (x5_1 + 1)), (by first | rfl | (simp; done) | (simp [*]; done)), (by first | rfl | (simp; done) | (simp [*]; done)), H', ⟨by have := HK1.out; omega⟩, by repeat (first | exact Drawn0.refl _ | apply Drawn0.step)⟩
          ·
           rw [if_neg c10] at H
           have c10b0 : (((rd_T80 l0 x5_1).f5) == (wrap64 ((wrap64 ((wrap64 ((wrap64 ((wrap64 (x1_1 + 1)) + 1)) + 1)) + 1)) + 1))) = false := beq_eq_false_iff_ne.mpr c10
           have c10b1 : (((rd_T80 l0 x5_1).f5) != (wrap64 ((wrap64 ((wrap64 ((wrap64 ((wrap64 (x1_1 + 1)) + 1)) + 1)) + 1)) + 1))) = true := bne_iff_ne.mpr c10
           obtain rfl := Option.some.inj H
           have p228 : 0 ≤ (x5_1 : Int) := of_decide_eq_true ua_
           have q228 : x5_1 < (l0.length : Int) := of_decide_eq_true ua_
           obtain ⟨ad228, e228, hx228_0, hx228_1, hx228_2, hx228_3, hx228_4, hx228_5⟩ := at_T80 HR0.out x5_1 p228 q228
           cases e228
           replace p228 := eq_true p228
           replace q228 := eq_true q228
           have p229 : 0 ≤ (x5_1 : Int) := of_decide_eq_true ua_
           have q229 : x5_1 < (l0.length : Int) := of_decide_eq_true ua_
           obtain ⟨ad229, e229, hx229_0, hx229_1, hx229_2, hx229_3, hx229_4, hx229_5⟩ := at_T80 HR0.out x5_1 p229 q229
           obtain rfl : ad228 = ad229 := (by injection e229)
           replace p229 := eq_true p229
           replace q229 := eq_true q229
           have p230 : 0 ≤ (x5_1 : Int) := of_decide_eq_true ua_
           have q230 : x5_1 < (l0.length : Int) := of_decide_eq_true ua_
           obtain ⟨ad230, e230, hx230_0, hx230_1, hx230_2, hx230_3, hx230_4, hx230_5⟩ := at_T80 HR0.out x5_1 p230 q230
           obtain rfl : ad228 = ad230 := (by injection e230)
           replace p230 := eq_true p230
           replace q230 := eq_true q230
           have p231 : 0 ≤ (x5_1 : Int) := of_decide_eq_true ua_
           have q231 : x5_1 < (l0.length : Int) := of_decide_eq_true ua_
           obtain ⟨ad231, e231, hx231_0, hx231_1, hx231_2, hx231_3, hx231_4, hx231_5⟩ := at_T80 HR0.out x5_1 p231 q231
           obtain rfl : ad228 = ad231 := (by injection e231)
           replace p231 := eq_true p231
           replace q231 := eq_true q231
           have p232 : 0 ≤ (x5_1 : Int) := of_decide_eq_true ua_
           have q232 : x5_1 < (l0.length : Int) := of_decide_eq_true ua_
           obtain ⟨ad232, e232, hx232_0, hx232_1, hx232_2, hx232_3, hx232_4, hx232_5⟩ := at_T80 HR0.out x5_1 p232 q232
           obtain rfl : ad228 = ad232 := (by injection e232)
           replace p232 := eq_true p232
           replace q232 := eq_true q232
           have p233 : 0 ≤ (x5_1 : Int) := of_decide_eq_true ua_
           have q233 : x5_1 < (l0.length : Int) := of_decide_eq_true ua_
           obtain ⟨ad233, e233, hx233_0, hx233_1, hx233_2, hx233_3, hx233_4, hx233_5⟩ := at_T80 HR0.out x5_1 p233 q233
           obtain rfl : ad228 = ad233 := (by injection e233)
           replace p233 := eq_true p233
           replace q233 := eq_true q233
           go_wp2
           go_ret
           exact ⟨by first | rfl | (simp; done) | (simp [*]; done), by repeat (first | exact Drawn0.refl _ | apply Drawn0.step)⟩
         ·
          rw [if_neg c9] at H
          have c9b0 : (((rd_T80 l0 x5_1).f4) == (wrap64 ((wrap64 ((wrap64 ((wrap64 (x1_1 + 1)) + 1)) + 1)) + 1))) = false := beq_eq_false_iff_ne.mpr c9
          have c9b1 : (((rd_T80 l0 x5_1).f4) != (wrap64 ((wrap64 ((wrap64 ((wrap64 (x1_1 + 1)) + 1)) + 1)) + 1))) = true := bne_iff_ne.mpr c9
          obtain rfl := Option.some.inj H
          have p228 : 0 ≤ (x5_1 : Int) := of_decide_eq_true ua_
          have q228 : x5_1 < (l0.length : Int) := of_decide_eq_true ua_
          obtain ⟨ad228, e228, hx228_0, hx228_1, hx228_2, hx228_3, hx228_4, hx228_5⟩ := at_T80 HR0.out x5_1 p228 q228
          cases e228
          replace p228 := eq_true p228
          replace q228 := eq_true q228
          have p229 : 0 ≤ (x5_1 : Int) := of_decide_eq_true ua_
          have q229 : x5_1 < (l0.length : Int) := of_decide_eq_true ua_
          obtain ⟨ad229, e229, hx229_0, hx229_1, hx229_2, hx229_3, hx229_4, hx229_5⟩ := at_T80 HR0.out x5_1 p229 q229
          obtain rfl : ad228 = ad229 := (by injection e229)
          replace p229 := eq_true p229
          replace q229 := eq_true q229
          have p230 : 0 ≤ (x5_1 : Int) := of_decide_eq_true ua_
          have q230 : x5_1 < (l0.length : Int) := of_decide_eq_true ua_
          obtain ⟨ad230, e230, hx230_0, hx230_1, hx230_2, hx230_3, hx230_4, hx230_5⟩ := at_T80 HR0.out x5_1 p230 q230
          obtain rfl : ad228 = ad230 := (by injection e230)
          replace p230 := eq_true p230
          replace q230 := eq_true q230
          have p231 : 0 ≤ (x5_1 : Int) := of_decide_eq_true ua_
          have q231 : x5_1 < (l0.length : Int) := of_decide_eq_true ua_
          obtain ⟨ad231, e231, hx231_0, hx231_1, hx231_2, hx231_3, hx231_4, hx231_5⟩ := at_T80 HR0.out x5_1 p231 q231
          obtain rfl : ad228 = ad231 := (by injection e231)
          replace p231 := eq_true p231
          replace q231 := eq_true q231
          have p232 : 0 ≤ (x5_1 : Int) := of_decide_eq_true ua_
          have q232 : x5_1 < (l0.length : Int) := of_decide_eq_true ua_
          obtain ⟨ad232, e232, hx232_0, hx232_1, hx232_2, hx232_3, hx232_4, hx232_5⟩ := at_T80 HR0.out x5_1 p232 q232
          obtain rfl : ad228 = ad232 := (by injection e232)
          replace p232 := eq_true p232
          replace q232 := eq_true q232
          go_wp2
          go_ret
          exact ⟨by first | rfl | (simp; done) | (simp [*]; done), by repeat (first | exact Drawn0.refl _ | apply Drawn0.step)⟩
        ·
         rw [if_neg c8] at H
         have c8b0 : (((rd_T80 l0 x5_1).f3) == (wrap64 ((wrap64 ((wrap64 (x1_1 + 1)) + 1)) + 1))) = false := beq_eq_false_iff_ne.mpr c8
         have c8b1 : (((rd_T80 l0 x5_1).f3) != (wrap64 ((wrap64 ((wrap64 (x1_1 + 1)) + 1)) + 1))) = true := bne_iff_ne.mpr c8
         obtain rfl := Option.some.inj H
         have p228 : 0 ≤ (x5_1 : Int) := of_decide_eq_true ua_
         have q228 : x5_1 < (l0.length : Int) := of_decide_eq_true ua_
         obtain ⟨ad228, e228, hx228_0, hx228_1, hx228_2, hx228_3, hx228_4, hx228_5⟩ := at_T80 HR0.out x5_1 p228 q228
         cases e228
         replace p228 := eq_true p228
         replace q228 := eq_true q228
         have p229 : 0 ≤ (x5_1 : Int) := of_decide_eq_true ua_
         have q229 : x5_1 < (l0.length : Int) := of_decide_eq_true ua_
         obtain ⟨ad229, e229, hx229_0, hx229_1, hx229_2, hx229_3, hx229_4, hx229_5⟩ := at_T80 HR0.out x5_1 p229 q229
         obtain rfl : ad228 = ad229 := (by injection e229)
         replace p229 := eq_true p229
         replace q229 := eq_true q229
         have p230 : 0 ≤ (x5_1 : Int) := of_decide_eq_true ua_
         have q230 : x5_1 < (l0.length : Int) := of_decide_eq_true ua_
         obtain ⟨ad230, e230, hx230_0, hx230_1, hx230_2, hx230_3, hx230_4, hx230_5⟩ := at_T80 HR0.out x5_1 p230 q230
         obtain rfl : ad228 = ad230 := (by injection e230)
         replace p230 := eq_true p230
         replace q230 := eq_true q230
         have p231 : 0 ≤ (x5_1 : Int) := of_decide_eq_true ua_
         have q231 : x5_1 < (l0.length : Int) := of_decide_eq_true ua_
         obtain ⟨ad231, e231, hx231_0, hx231_1, hx231_2, hx231_3, hx231_4, hx231_5⟩ := at_T80 HR0.out x5_1 p231 q231
         obtain rfl : ad228 = ad231 := (by injection e231)
         replace p231 := eq_true p231
         replace q231 := eq_true q231
         go_wp2
         go_ret
         exact ⟨by first | rfl | (simp; done) | (simp [*]; done), by repeat (first | exact Drawn0.refl _ | apply Drawn0.step)⟩
       ·
        rw [if_neg c7] at H
        have c7b0 : (((rd_T80 l0 x5_1).f2) == (wrap64 ((wrap64 (x1_1 + 1)) + 1))) = false := beq_eq_false_iff_ne.mpr c7
        have c7b1 : (((rd_T80 l0 x5_1).f2) != (wrap64 ((wrap64 (x1_1 + 1)) + 1))) = true := bne_iff_ne.mpr c7
        obtain rfl := Option.some.inj H
        have p228 : 0 ≤ (x5_1 : Int) := of_decide_eq_true ua_
        have q228 : x5_1 < (l0.length : Int) := of_decide_eq_true ua_
        obtain ⟨ad228, e228, hx228_0, hx228_1, hx228_2, hx228_3, hx228_4, hx228_5⟩ := at_T80 HR0.out x5_1 p228 q228
        cases e228
        replace p228 := eq_true p228
        replace q228 := eq_true q228
        have p229 : 0 ≤ (x5_1 : Int) := of_decide_eq_true ua_
        have q229 : x5_1 < (l0.length : Int) := of_decide_eq_true ua_
        obtain ⟨ad229, e229, hx229_0, hx229_1, hx229_2, hx229_3, hx229_4, hx229_5⟩ := at_T80 HR0.out x5_1 p229 q229
        obtain rfl : ad228 = ad229 := (by injection e229)
        replace p229 := eq_true p229
        replace q229 := eq_true q229
        have p230 : 0 ≤ (x5_1 : Int) := of_decide_eq_true ua_
        have q230 : x5_1 < (l0.length : Int) := of_decide_eq_true ua_
        obtain ⟨ad230, e230, hx230_0, hx230_1, hx230_2, hx230_3, hx230_4, hx230_5⟩ := at_T80 HR0.out x5_1 p230 q230
        obtain rfl : ad228 = ad230 := (by injection e230)
        replace p230 := eq_true p230
        replace q230 := eq_true q230
        go_wp2
        go_ret
        exact ⟨by first | rfl | (simp; done) | (simp [*]; done), by repeat (first | exact Drawn0.refl _ | apply Drawn0.step)⟩
      ·
       rw [if_neg c6] at H
       have c6b0 : (((rd_T80 l0 x5_1).f1) == (wrap64 (x1_1 + 1))) = false := beq_eq_false_iff_ne.mpr c6
       have c6b1 : (((rd_T80 l0 x5_1).f1) != (wrap64 (x1_1 + 1))) = true := bne_iff_ne.mpr c6
       obtain rfl := Option.some.inj H
       have p228 : 0 ≤ (x5_1 : Int) := of_decide_eq_true ua_
       have q228 : x5_1 < (l0.length : Int) := of_decide_eq_true ua_
       obtain ⟨ad228, e228, hx228_0, hx228_1, hx228_2, hx228_3, hx228_4, hx228_5⟩ := at_T80 HR0.out x5_1 p228 q228
       cases e228
       replace p228 := eq_true p228
       replace q228 := eq_true q228
       have p229 : 0 ≤ (x5_1 : Int) := of_decide_eq_true ua_
       have q229 : x5_1 < (l0.length : Int) := of_decide_eq_true ua_
       obtain ⟨ad229, e229, hx229_0, hx229_1, hx229_2, hx229_3, hx229_4, hx229_5⟩ := at_T80 HR0.out x5_1 p229 q229
       obtain rfl : ad228 = ad229 := (by injection e229)
       replace p229 := eq_true p229
       replace q229 := eq_true q229
       go_wp2
       go_ret
       exact ⟨by first | rfl | (simp; done) | (simp [*]; done), by repeat (first | exact Drawn0.refl _ | apply Drawn0.step)⟩
     ·
      rw [if_neg c5] at H
      have c5b0 : (((rd_T80 l0 x5_1).f0) == x1_1) = false := beq_eq_false_iff_ne.mpr c5
      have c5b1 : (((rd_T80 l0 x5_1).f0) != x1_1) = true := bne_iff_ne.mpr c5
      obtain rfl := Option.some.inj H
      have p228 : 0 ≤ (x5_1 : Int) := of_decide_eq_true ua_
      have q228 : x5_1 < (l0.length : Int) := of_decide_eq_true ua_
      obtain ⟨ad228, e228, hx228_0, hx228_1, hx228_2, hx228_3, hx228_4, hx228_5⟩ := at_T80 HR0.out x5_1 p228 q228
      cases e228
      replace p228 := eq_true p228
      replace q228 := eq_true q228
      go_wp2
      go_ret
      exact ⟨by first | rfl | (simp; done) | (simp [*]; done), by repeat (first | exact Drawn0.refl _ | apply Drawn0.step)⟩
    ·
     rw [if_neg c4] at H
     exact absurd H (by simp)
   ·
    rw [if_neg c3] at H
    have c3b0 : decide (x5_1 < (l0.length : Int)) = false := decide_eq_false c3
    clear c3
    obtain rfl := Option.some.inj H
    go_wp2
    go_ret
    exact ⟨by first | rfl | (simp; done) | (simp [*]; done), by repeat (first | exact Drawn0.refl _ | apply Drawn0.step)⟩

end Go.Proofs.Ytcflalomjehiiaa.QFnExactClosedOf
