/- A number of a byte; rows that a call makes. -/
import Derived.Test.YtpfmoolpeecobaaP1
namespace Go.Proofs.Ytpfmoolpeecobaa
open Go Go.Proofs Go.Proofs.Ytpfmoolpeecobaa.Ev
set_option linter.unusedVariables false
set_option linter.unusedSimpArgs false
set_option maxRecDepth 100000
set_option maxHeartbeats 4000000

theorem rcell_low {nx : Nat} {v : V} (h : v.low nx = true) : (rcell v).low nx :=
  ⟨rfl, fun e l hl => by
    rw [T.get_set] at hl
    split at hl
    · injection hl with hl; subst hl; simp [V.lows, h]
    · simp [T.get_leaf] at hl⟩
/-- a call that reads: all that it leaves is the reader's cell -/
theorem tidyR {L L1 : Heap} {c : Nat} {v : V} (hc : c < L.next) (hv : v.low L.next = true) (h1 : L1.t.get c = some (rcell v)) (hk : ∀ n, n < L.next → n ≠ c → L1.t.get n = L.t.get n) : Tidy2 L L1 (setRd L c v) [] := by
  refine Tidy2.zero (T0 := L.t.set c (rcell v)) ?_ ?_ ?_
  · intro n hn
    rw [T.get_set]
    split
    · rename_i e; subst e; exact h1.symm
    · rename_i e; exact (hk n hn e).symm
  · intro n b hn hb
    by_cases e : n = c
    · subst e; rw [h1] at hb; injection hb with hb; subst hb; exact .inr (rcell_low hv)
    · rw [hk n hn e] at hb; exact .inl hb
  · intro n hn
    exact T.get_set_ne _ _ (by omega)
/-- the block of a boxed reader -/
noncomputable def boxB (c : Nat) : Blk := .cells (T.set .leaf 0 [.func 65 [] [.ptr c 0], .func 66 [] [.ptr c 0]]) 1 2 false false
theorem Bs.next_low {c : Nat} {L : Heap} {v : V} {bs : List Int} (h : Bs c L v bs) : (nextV v).low L.next = true := by
  have := h.next.low; exact this
theorem below_ok {L : Heap} {c : Nat} {v : V} {bs : List Int} (h : Rd L c v bs) (m : Int) (hm : 0 < m) : ACall Try.prog 67 [rdV c, .int .i64 m] L (.int .i64 (hd0 bs % m)) (setRd L c (nextV v)) := by
  have hr := h.new (boxB c)
  have hn := next_ok hr
  have hhd := h.head
  have hmod : (hd0 bs).tmod m = hd0 bs % m := Int.tmod_eq_emod_of_nonneg hhd.1
  have hm0 : m ≠ 0 := by omega
  unfold rdV
  refine ACall.of_body2 Try.func67 rfl ?_
  refine ACode.seq (ACode.regS noT_ok names_ok mix (t' := ?_) (L' := ?_) [0, 1] (by rfl) ?_ ?_)
  rotate_left 2
  · iterate 2 (refine seqE_cons rfl rfl rfl (by simp (config := {decide := false}) [Nat.add_assoc, Go.IntWalk.i64_in, Go.IntWalk.i32_in, Go.IntWalk.u8_in, Go.IntWalk.u64_in, Ev.T.set_set, Ev.seqE, Ev.drawE, Ev.fits, Ev.wantedE, Ev.oneE, Ev.cls, Ev.quiet, Ev.making, Ev.setParts, Ev.rowOf, Ev.loud, Ev.opd, Ev.opds, Ev.optOpd, Ev.pairs, Ev.ofVal_bool, Ev.ofVal_int, Ev.ofVal_str, Ev.ofVal_nils, Ev.ofVal_nilp, Ev.putD, Ev.guardO_true, Ev.guardO_false, Ev.builtinQ, Ev.tget_set, Ev.argsT, Ev.V.beq_refl, Ev.isAnc, Ev.tb, Ev.ble_dec, Ev.blt_dec, Ev.beq_dec, Ev.bne_dec, Ev.idx_nat, Ev.idx_0, Ev.idx_1, Ev.idx_2, Ev.idx_3, Ev.idx_4, Ev.idx_5, Ev.idx_6, Ev.idx_7, Ev.idx_8, Ev.idx_9, Ev.index, Ev.indexAddr, Ev.sliceOp, Ev.bound, Ev.NV.mk, Ev.Heap.load, Ev.Heap.store, Ev.Heap.elem, Ev.T.get_set, Ev.T.get_leaf, Ev.V.cells, Ev.V.scalar, Ev.V.asPtr, Ev.V.asBool, Ev.V.asInt, Ev.V.asStr, Ev.V.asAgg, Ev.V.asTup, Ev.V.asMap, Ev.build, Ev.fillCells, Ev.splice, Ev.over, Ev.takeN, Ev.part, Ev.unV, Ev.binV, Ev.isShift, Ev.binI_add, Ev.binI_sub, Ev.binI_mul, Ev.binI_and, Ev.binI_or, Ev.binI_xor, Ev.binI_eql, Ev.binI_neq, Ev.binI_lss, Ev.binI_leq, Ev.binI_gtr, Ev.binI_geq, Ev.binI_quo, Ev.binI_rem, Ev.shiftI_shl, Ev.shiftI_shr, Ev.isConstO, Ev.fieldAddr, Ev.placeS, Ev.placeA, Ev.goal, Ev.recT, Ev.recheck, Ev.undefV, Ev.convQ, Ev.convNew, pz94, ps94, pa94, pz81, ps81, pa81, pz83, ps83, pa83, pz52, ps52, pa52, pz86, ps86, pa86, pz54, ps54, pa54, pz57, ps57, pa57, pz38, ps38, pa38, pz50, ps50, pa50, pz55, ps55, pa55, pz79, ps79, pa79, pz31, ps31, pa31, pz3, ps3, pa3, pz51, ps51, pa51, pz5, ps5, pa5, pz4, ps4, pa4, pz9, ps9, pa9, pt38, pi38, pt50, pi50, pt55, pi55, pt79, pi79, pt3, pt5, pt9, pt31, pt51, pt94, par52, pstr9, pst94, pst54, pst83, pst86, pst57, pst81, Try.underlying94, Try.underlying54, Try.underlying83, Try.underlying86, Try.underlying57, Try.underlying81, Try.underlying52, Try.underlying51, Try.underlying5, Try.underlying9, Try.f67]; rfl) (by rfl) (by simp only [Ev.putD]; rfl) ?_)
    rfl
  change ACode _ _ _ _ _ ⟨L.t.set L.next (boxB c), L.next + 1⟩ _
  have hb : (T.set L.t L.next (boxB c)).get L.next = some (.cells (T.set .leaf 0 [.func 65 [] [.ptr c 0], .func 66 [] [.ptr c 0]]) 1 2 false false) := T.get_set_same _ _ _
  have hk1 := KX.new c L (boxB c)
  have hk2 := KX.setRd c ⟨L.t.set L.next (boxB c), L.next + 1⟩ (nextV v)
  generalize hA : (⟨L.t.set L.next (boxB c), L.next + 1⟩ : Heap) = A at *
  have e1 : L.t.set L.next (boxB c) = A.t := by rw [← hA]
  rw [e1] at hb
  refine ACode.seq (ACode.regS (oneT_okP hn) names_ok mix (t' := ?_) (L' := ?_) [0, 1, 2, 3, 4, 5] (by rfl) ?_ ?_)
  rotate_left 2
  · iterate 6 (refine seqE_cons rfl rfl rfl (by simp (config := {decide := false}) [Nat.add_assoc, Go.IntWalk.i64_in, Go.IntWalk.i32_in, Go.IntWalk.u8_in, Go.IntWalk.u64_in, Ev.T.set_set, Ev.seqE, Ev.drawE, Ev.fits, Ev.wantedE, Ev.oneE, Ev.cls, Ev.quiet, Ev.making, Ev.setParts, Ev.rowOf, Ev.loud, Ev.opd, Ev.opds, Ev.optOpd, Ev.pairs, Ev.ofVal_bool, Ev.ofVal_int, Ev.ofVal_str, Ev.ofVal_nils, Ev.ofVal_nilp, Ev.putD, Ev.guardO_true, Ev.guardO_false, Ev.builtinQ, Ev.tget_set, Ev.argsT, Ev.V.beq_refl, Ev.isAnc, Ev.tb, Ev.ble_dec, Ev.blt_dec, Ev.beq_dec, Ev.bne_dec, Ev.idx_nat, Ev.idx_0, Ev.idx_1, Ev.idx_2, Ev.idx_3, Ev.idx_4, Ev.idx_5, Ev.idx_6, Ev.idx_7, Ev.idx_8, Ev.idx_9, Ev.index, Ev.indexAddr, Ev.sliceOp, Ev.bound, Ev.NV.mk, Ev.Heap.load, Ev.Heap.store, Ev.Heap.elem, Ev.T.get_set, Ev.T.get_leaf, Ev.V.cells, Ev.V.scalar, Ev.V.asPtr, Ev.V.asBool, Ev.V.asInt, Ev.V.asStr, Ev.V.asAgg, Ev.V.asTup, Ev.V.asMap, Ev.build, Ev.fillCells, Ev.splice, Ev.over, Ev.takeN, Ev.part, Ev.unV, Ev.binV, Ev.isShift, Ev.binI_add, Ev.binI_sub, Ev.binI_mul, Ev.binI_and, Ev.binI_or, Ev.binI_xor, Ev.binI_eql, Ev.binI_neq, Ev.binI_lss, Ev.binI_leq, Ev.binI_gtr, Ev.binI_geq, Ev.binI_quo, Ev.binI_rem, Ev.shiftI_shl, Ev.shiftI_shr, Ev.isConstO, Ev.fieldAddr, Ev.placeS, Ev.placeA, Ev.goal, Ev.recT, Ev.recheck, Ev.undefV, Ev.convQ, Ev.convNew, pz94, ps94, pa94, pz81, ps81, pa81, pz83, ps83, pa83, pz52, ps52, pa52, pz86, ps86, pa86, pz54, ps54, pa54, pz57, ps57, pa57, pz38, ps38, pa38, pz50, ps50, pa50, pz55, ps55, pa55, pz79, ps79, pa79, pz31, ps31, pa31, pz3, ps3, pa3, pz51, ps51, pa51, pz5, ps5, pa5, pz4, ps4, pa4, pz9, ps9, pa9, pt38, pi38, pt50, pi50, pt55, pi55, pt79, pi79, pt3, pt5, pt9, pt31, pt51, pt94, par52, pstr9, pst94, pst54, pst83, pst86, pst57, pst81, Try.underlying94, Try.underlying54, Try.underlying83, Try.underlying86, Try.underlying57, Try.underlying81, Try.underlying52, Try.underlying51, Try.underlying5, Try.underlying9, hb, oneT_sameP, hmod, hm0, Try.f67]; rfl) (by rfl) (by simp only [Ev.putD]; rfl) ?_)
    rfl
  have hk := hk1.trans hk2
  exact ACode.ret ⟨.inr rfl, _, [.int .i64 (hd0 bs % m)], [], rfl, by simp [Try.f67, resVals, tget_set], tidyR h.lt h.row.next_low (T.get_set_same _ _ _) hk.2, fun κ1 z hz => VR_plain (κ := κ1) _ _ rfl hz⟩

/-! rows that a call makes -/
theorem rowFrom_getP (l : List (List V)) : ∀ (i e : Nat), (rowFrom l i).get e = if i ≤ e then l[e - i]? else none := by
  induction l with
  | nil => intro i e; simp [rowFrom, T.get_leaf]
  | cons x l ih =>
    intro i e
    rw [rowFrom, T.get_set]
    by_cases h : e = i
    · subst h; simp
    · rw [if_neg h, ih]
      by_cases h2 : i + 1 ≤ e
      · rw [if_pos h2, if_pos (by omega), show e - i = (e - (i + 1)) + 1 by omega, List.getElem?_cons_succ]
      · rw [if_neg h2, if_neg (by omega)]
def nmP : V → Option Nat
  | .slice m _ _ _ _ => some m
  | _ => none
section
variable {α : Type} {f : α → List V} {sz lo : Nat} {L L' : Heap} {v x : V} {l new : List α}
def OwnP (sz : Nat) (f : α → List V) (lo : Nat) (L : Heap) (v : V) (l : List α) : Prop :=
  (v = .nils ∧ l = []) ∨ (l ≠ [] ∧ ∃ m, v = .slice m 0 l.length 0 true ∧ lo ≤ m ∧ m < L.next ∧ L.t.get m = some (.cells (rowFrom (l.map f) 0) l.length sz true false))
theorem OwnP.nm_lt (h : OwnP sz f lo L v l) {m : Nat} (hm : nmP v = some m) : lo ≤ m ∧ m < L.next := by
  rcases h with ⟨rfl, _⟩ | ⟨_, k, rfl, h1, h2, _⟩
  · cases hm
  · simp only [nmP, Option.some.injEq] at hm; subst hm; exact ⟨h1, h2⟩
theorem OwnP.still (h : OwnP sz f lo L v l) (hn : L.next ≤ L'.next) (hk : ∀ m, nmP v = some m → L'.t.get m = L.t.get m) : OwnP sz f lo L' v l := by
  rcases h with h | ⟨hne, m, rfl, h1, h2, h3⟩
  · exact .inl h
  · exact .inr ⟨hne, m, rfl, h1, Nat.lt_of_lt_of_le h2 hn, by rw [hk m rfl, h3]⟩
theorem OwnP.keep {c : Nat} (h : OwnP sz f lo L v l) (hc : c < lo) (hk : KX c L L') : OwnP sz f lo L' v l :=
  h.still hk.1 fun m hm => hk.2 m (h.nm_lt hm).2 (by have := (h.nm_lt hm).1; omega)
theorem takeN_all : ∀ (l : List V), takeN l.length l = some l
  | [] => rfl
  | x :: l => by simp [takeN, takeN_all l]
theorem elems_rowP {m n : Nat} {q r : Bool} (hsz : 0 < sz) (hf : ∀ x, (f x).length = sz) (hb : L.t.get m = some (.cells (rowFrom (l.map f) 0) n sz q r)) :
    ∀ (k o : Nat), o + k = l.length → L.elems m (o * sz) sz k = some ((l.drop o).map f) := by
  intro k
  induction k with
  | zero => intro o h; simp [Heap.elems, List.drop_of_length_le (show l.length ≤ o by omega)]
  | succ k ih =>
    intro o h
    have hlt : o < l.length := by omega
    have he : L.elem m (o * sz) = some (f l[o], 0) := by
      simp [Heap.elem, hb, rowFrom_getP, Nat.mul_div_cancel _ hsz, hlt]
    have ht : takeN sz ((f l[o]).drop 0) = some (f l[o]) := by
      rw [List.drop_zero]; conv => lhs; rw [← hf l[o]]
      exact takeN_all _
    simp only [Heap.elems, he, Option.bind_some, ht, Option.map_some]
    rw [show o * sz + sz = (o + 1) * sz by rw [Nat.succ_mul], ih (o + 1) (by omega), List.drop_eq_getElem_cons hlt]
    rfl
theorem OwnP.src (hsz : 0 < sz) (hf : ∀ x, (f x).length = sz) (h : OwnP sz f lo L v l) : srcElems L sz v = some (l.map f) := by
  rcases h with ⟨rfl, rfl⟩ | ⟨hne, m, rfl, h1, h2, h3⟩
  · rfl
  · have := elems_rowP hsz hf h3 l.length 0 (by simp)
    simpa [srcElems] using this
theorem new_openP {T0 : T Blk} {all : List α} (hne : all ≠ []) (hlo : lo ≤ L.next) : OwnP sz f lo (newOpen sz (all.map f) L T0).2 (newOpen sz (all.map f) L T0).1 all :=
  .inr ⟨hne, L.next, by simp [newOpen], hlo, Nat.lt_succ_self _, by simp [newOpen, T.get_set_same]⟩
theorem append_P (hsz : 0 < sz) (hf : ∀ x, (f x).length = sz) (hsc : ∀ x, (f x).all V.scalar = true) {sT e : TypeId} {by_ : Nat} {z : V} (hts : tySlice Try.prog sT = some e) (hss : sizeT Try.prog e = some sz) (hby : bytesT Try.prog e = some by_) (hb64 : by_ ≤ 65536) (hz : zeroV Try.prog e = some z) (hzl : z.cells.length = sz)
    (h : OwnP sz f lo L v l) (hlo : lo ≤ L.next) (hx : srcElems L sz x = some (new.map f)) (hs : l.length + new.length ≤ 16777216) :
    ∃ v' L', Ev.append Try.prog sT v x L = some (v', L') ∧ OwnP sz f lo L' v' (l ++ new) ∧ L.next ≤ L'.next ∧ (∀ n, n < L.next → nmP v ≠ some n → L'.t.get n = L.t.get n) ∧ (nmP v' = nmP v ∨ nmP v' = some L.next) := by
  have hsm : ∀ k, k ≤ 16777216 → small k by_ = true := fun k hk => by simp [small, ble_dec, hk, hb64]
  have hs0 : (sz != 0 && sz == sz) = true := by simp; omega
  unfold Ev.append
  simp only [hts, hss, hby, hz, Option.bind_some, hx, hzl, hs0, guardO_true]
  rcases h with ⟨rfl, rfl⟩ | ⟨hne, m, rfl, h1, h2, h3⟩
  · cases new with
    | nil => exact ⟨.nils, L, rfl, .inl ⟨rfl, rfl⟩, Nat.le_refl _, fun _ _ _ => rfl, .inl rfl⟩
    | cons a r =>
      refine ⟨_, _, ?_, new_openP (f := f) (L := L) (T0 := L.t) (all := a :: r) (by simp) hlo, Nat.le_succ _, fun n hn _ => T.get_set_ne _ _ (by omega), .inr rfl⟩
      simp only [List.map_cons, List.length_cons, List.length_map]
      rw [hsm _ (by simpa using hs)]
      rfl
  · have hold := elems_rowP hsz hf h3 l.length 0 (by simp)
    rw [List.drop_zero, Nat.zero_mul] at hold
    have g0 : (sz == sz && 0 == 0 * sz) = true := by simp
    cases new with
    | nil =>
      refine ⟨.slice m 0 l.length 0 true, L, ?_, .inr ⟨by simpa using hne, m, by simp, h1, h2, by simpa using h3⟩, Nat.le_refl _, fun _ _ _ => rfl, .inl rfl⟩
      have hb : Nat.ble (0 + (l.length + 0) * sz) (l.length * sz) = true := by rw [ble_dec]; simp
      simp only [h3, Option.bind_some, g0, guardO_true, List.map_nil, List.length_nil, hb, Heap.storeElems]
      rfl
    | cons a r =>
      refine ⟨_, _, ?_, new_openP (f := f) (L := L) (T0 := L.t.del m) (all := l ++ a :: r) (by simp) hlo, Nat.le_succ _, fun n hn hnm => ?_, .inr rfl⟩
      · have hsc' : ((a :: r).map f).all (fun x => x.all V.scalar) = true := by
          rw [List.all_map]
          exact List.all_eq_true.2 fun x _ => hsc x
        have hb : Nat.ble (0 + (l.length + ((a :: r).map f).length) * sz) (l.length * sz) = false := by
          rw [ble_dec]
          have : l.length * sz < (l.length + ((a :: r).map f).length) * sz := Nat.mul_lt_mul_of_pos_right (by simp) hsz
          simp only [decide_eq_false_iff_not]; omega
        have hb2 : (0 + l.length * sz == l.length * sz) = true := by simp
        have hsm2 : small (l.length + ((a :: r).map f).length) by_ = true := hsm _ (by simpa using hs)
        simp only [h3, Option.bind_some, g0, guardO_true, hb, hb2, hsm2, hsc', Bool.and_self, hold, Option.map_some, List.map_append]
      · show T.get _ n = _
        have hnm' : n ≠ m := fun e => hnm (by rw [e]; rfl)
        rw [show (newOpen sz ((l ++ a :: r).map f) L (L.t.del m)).2.t = (L.t.del m).set L.next _ from rfl, T.get_set_ne _ _ (by omega), T.get_del, if_neg hnm']
/-- the row, as a new block of a heap -/
noncomputable def rowsVP (L : Heap) (l : List α) : V := match l with
  | [] => .nils
  | x :: r => .slice L.next 0 (x :: r).length 0 true
noncomputable def rowsHP (sz : Nat) (f : α → List V) (L : Heap) (l : List α) : Heap := match l with
  | [] => L
  | x :: r => ⟨L.t.set L.next (.cells (rowFrom ((x :: r).map f) 0) (x :: r).length sz true false), L.next + 1⟩
end
theorem VR_slice_newP {κ : KM} {nx m : Nat} {o len cap : Nat} {q : Bool} {z : Value} (h : VR κ (.slice m o len cap q) z) : VR (tidyK κ nx [m]) (.slice nx o len cap q) z := by
  simp only [VR] at h ⊢
  obtain ⟨k, a, c, hk, e3⟩ := h
  exact ⟨k, a, c, by simp [tidyK, hk], e3⟩
theorem rows_low {α : Type} {f : α → List V} {nx : Nat} (hf : ∀ x, V.lows nx (f x) = true) (l : List α) (n sz : Nat) (q : Bool) : (Blk.cells (rowFrom (l.map f) 0) n sz q false).low nx :=
  ⟨rfl, fun e x hx => by
    rw [rowFrom_getP] at hx
    simp only [Nat.zero_le, if_true, Nat.sub_zero, List.getElem?_map, Option.map_eq_some_iff] at hx
    obtain ⟨y, _, rfl⟩ := hx
    exact hf y⟩
/-- a call that reads, and hands back a row -/
theorem end_rowsP {α : Type} {f : α → List V} {sz : Nat} {L L1 : Heap} {c : Nat} {v v' : V} {l : List α} (hf : ∀ x, V.lows L.next (f x) = true) (hc : c < L.next) (hv : v.low L.next = true) (h1 : L1.t.get c = some (rcell v)) (hk : ∀ n, n < L.next → n ≠ c → L1.t.get n = L.t.get n) (hO : OwnP sz f L.next L1 v' l) :
    ∃ ms, Tidy2 L L1 (rowsHP sz f (setRd L c v) l) ms ∧ ∀ (κ1 : KM) (z : Value), VR κ1 v' z → VR (tidyK κ1 L.next ms) (rowsVP (setRd L c v) l) z := by
  have h0 := tidyR hc hv h1 hk
  rcases hO with ⟨rfl, rfl⟩ | ⟨hne, m, rfl, h2, h3, h4⟩
  · exact ⟨[], h0, fun κ1 z hz => VR_plain (κ := κ1) _ _ rfl hz⟩
  · cases l with
    | nil => exact absurd rfl hne
    | cons x r => exact ⟨[m], Tidy2.one (T0 := L.t.set c (rcell v)) h0.old h0.chg (fun n hn => T.get_set_ne _ _ (by omega)) h2 h4 (rows_low hf _ _ _ _), fun κ1 z hz => VR_slice_newP hz⟩
end Go.Proofs.Ytpfmoolpeecobaa
