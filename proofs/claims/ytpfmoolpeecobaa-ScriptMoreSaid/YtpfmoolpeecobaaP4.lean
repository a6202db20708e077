/- The text of an event. -/
import Derived.Test.YtpfmoolpeecobaaP3
namespace Go.Proofs.Ytpfmoolpeecobaa
open Go Go.Proofs Go.Proofs.Ytpfmoolpeecobaa.Ev
set_option linter.unusedVariables false
set_option linter.unusedSimpArgs false
set_option maxRecDepth 100000
set_option maxHeartbeats 4000000

mutual
theorem plain_low (nx : Nat) : ∀ (v : V), v.plain = true → v.low nx = true
  | .bool b, h => rfl
  | .int k n, h => rfl
  | .str l, h => rfl
  | .nilp, h => rfl
  | .nils, h => rfl
  | .nilm, h => rfl
  | .nilf, h => rfl
  | .nili, h => rfl
  | .agg cs, h => by simp only [V.low]; exact plains_low nx cs (by simpa [V.plain] using h)
  | .tuple cs, h => by simp only [V.low]; exact plains_low nx cs (by simpa [V.plain] using h)
  | .ptr n o, h => by simp [V.plain] at h
  | .slice n o l c q, h => by simp [V.plain] at h
  | .map n, h => by simp [V.plain] at h
  | .func f a b, h => by simp [V.plain] at h
  | .yield n, h => by simp [V.plain] at h
  | .iface t v, h => by simp [V.plain] at h
theorem plains_low (nx : Nat) : ∀ (l : List V), V.plains l = true → V.lows nx l = true
  | [], h => rfl
  | v :: vs, h => by
    simp only [V.plains, Bool.and_eq_true] at h
    simp only [V.lows, Bool.and_eq_true]
    exact ⟨plain_low nx v h.1, plains_low nx vs h.2⟩
end
/-- the block of an event -/
noncomputable def evB (cs : List V) : Blk := .cells (T.set .leaf 0 cs) 1 9 false false
noncomputable def setRE (L : Heap) (c : Nat) (v : V) (e : Nat) (cs : List V) : Heap := ⟨(L.t.set c (rcell v)).set e (evB cs), L.next⟩
theorem evB_low {nx : Nat} {cs : List V} (h : V.lows nx cs = true) : (evB cs).low nx :=
  ⟨rfl, fun e l hl => by
    rw [T.get_set] at hl
    split at hl
    · injection hl with hl; subst hl; exact h
    · simp [T.get_leaf] at hl⟩
theorem tidyRE {L L1 : Heap} {c e : Nat} {v : V} {cs : List V} (hc : c < L.next) (he : e < L.next) (hne : e ≠ c) (hv : v.low L.next = true) (hcs : V.lows L.next cs = true) (h1 : L1.t.get c = some (rcell v)) (h2 : L1.t.get e = some (evB cs)) (hk : ∀ n, n < L.next → n ≠ c → n ≠ e → L1.t.get n = L.t.get n) : Tidy2 L L1 (setRE L c v e cs) [] := by
  refine Tidy2.zero (T0 := (L.t.set c (rcell v)).set e (evB cs)) ?_ ?_ ?_
  · intro n hn
    rw [T.get_set]
    split
    · rename_i h; subst h; exact h2.symm
    · rename_i h
      rw [T.get_set]
      split
      · rename_i h; subst h; exact h1.symm
      · rename_i h'; exact (hk n hn h' h).symm
  · intro n b hn hb
    by_cases h : n = c
    · subst h; rw [h1] at hb; injection hb with hb; subst hb; exact .inr (rcell_low hv)
    · by_cases h' : n = e
      · subst h'; rw [h2] at hb; injection hb with hb; subst hb; exact .inr (evB_low hcs)
      · rw [hk n hn h h'] at hb; exact .inl hb
  · intro n hn
    rw [T.get_set_ne _ _ (by omega)]; exact T.get_set_ne _ _ (by omega)
theorem rowsHP_keep {α : Type} (c : Nat) (sz : Nat) (f : α → List V) (L : Heap) (l : List α) : KX c L (rowsHP sz f L l) := by
  match l with
  | [] => exact KX.refl c L
  | x :: r => exact KX.new c L _
theorem rowsHP_at {α : Type} {c : Nat} (sz : Nat) (f : α → List V) {L : Heap} (hc : c < L.next) (l : List α) : (rowsHP sz f L l).t.get c = L.t.get c := by
  match l with
  | [] => rfl
  | x :: r => exact T.get_set_ne _ _ (by omega)
theorem rowsVP_own {α : Type} (sz : Nat) (f : α → List V) (L : Heap) (l : List α) : OwnP sz f L.next (rowsHP sz f L l) (rowsVP L l) l := by
  match l with
  | [] => exact .inl ⟨rfl, rfl⟩
  | x :: r => exact .inr ⟨by simp, L.next, rfl, Nat.le_refl _, Nat.lt_succ_self _, T.get_set_same _ _ _⟩
theorem bytes_ofP (l : List Int) (h : ∀ b ∈ l, 0 ≤ b ∧ b ≤ 255) : bytesOf (l.map u8c) = some (l.map Int.toNat) := by
  induction l with
  | nil => rfl
  | cons x l ih =>
    have hx := h x (List.mem_cons_self ..)
    have ih := ih fun b hb => h b (List.mem_cons_of_mem _ hb)
    simp only [List.map_cons, u8c, bytesOf] at ih ⊢
    rw [ih]
    have : (UInt8.ofNat x.toNat).toNat = x.toNat := by simp; omega
    rw [this]
    rfl
theorem conv_rows {L : Heap} {v : V} {lo : Nat} {l : List Int} (h : OwnP 1 u8c lo L v l) (hr : ∀ b ∈ l, 0 ≤ b ∧ b ≤ 255) : convQ Try.prog 38 9 v L = some (.str (l.map Int.toNat)) := by
  rcases h with ⟨rfl, rfl⟩ | ⟨hne, m, rfl, h1, h2, h3⟩
  · simp [convQ, pt38, pstr9, guardO, Try.underlying5]
  · have he := elems_rowP (sz := 1) (f := u8c) (by decide) (fun _ => rfl) h3 l.length 0 (by simp)
    rw [List.drop_zero, Nat.zero_mul] at he
    simp [convQ, pt38, pstr9, guardO, Try.underlying5, he, bytes_ofP l hr]
/-- so many bytes of a text -/
def tlen (bs : List Int) : Nat := (hd0 bs % 64).toNat
def textP (bs : List Int) : List Nat := (takeZ (tlen bs) bs.tail).map Int.toNat
theorem setRE_at {L : Heap} {c e : Nat} {v : V} {cs : List V} (hne : e ≠ c) : (setRE L c v e cs).t.get c = some (rcell v) ∧ (setRE L c v e cs).t.get e = some (evB cs) := by
  refine ⟨?_, T.get_set_same _ _ _⟩
  show T.get (T.set _ _ _) _ = _
  rw [T.get_set_ne _ _ (fun h => hne h.symm)]
  exact T.get_set_same _ _ _

theorem text_ok {L : Heap} {c e : Nat} {v : V} {bs : List Int} (h : Rd L c v bs) {k s b lv r1 r2 r3 r4 wh : V} (he : L.t.get e = some (evB [k, s, b, lv, r1, r2, r3, r4, wh])) (hel : e < L.next) (hce : c < e)
    (hp : V.plains [k, s, b, lv, r1, r2, r3, r4, wh] = true) :
    ACall Try.prog 96 [rdV c, .ptr e 0] L (.tuple []) (setRE L c (advV (1 + tlen bs) v) e [k, s, .str (textP bs), lv, r1, r2, r3, r4, wh]) := by
  have hec : e ≠ c := by omega
  have hk1 := KX.new c L (boxB c)
  have hr := h.new (boxB c)
  have hbx : (T.set L.t L.next (boxB c)).get L.next = some (boxB c) := T.get_set_same _ _ _
  have hhd := h.head
  refine ACall.of_body2 Try.func96 rfl ?_
  unfold rdV
  refine ACode.seq (ACode.regS noT_ok names_ok mix (t' := ?_) (L' := ?_) [0] (by rfl) ?_ ?_)
  rotate_left 2
  · refine seqE_cons rfl rfl rfl (by simp (config := {decide := false}) [Nat.add_assoc, Go.IntWalk.i64_in, Go.IntWalk.i32_in, Go.IntWalk.u8_in, Go.IntWalk.u64_in, Ev.T.set_set, Ev.seqE, Ev.drawE, Ev.fits, Ev.wantedE, Ev.oneE, Ev.cls, Ev.quiet, Ev.making, Ev.setParts, Ev.rowOf, Ev.loud, Ev.opd, Ev.opds, Ev.optOpd, Ev.pairs, Ev.ofVal_bool, Ev.ofVal_int, Ev.ofVal_str, Ev.ofVal_nils, Ev.ofVal_nilp, Ev.putD, Ev.guardO_true, Ev.guardO_false, Ev.builtinQ, Ev.tget_set, Ev.argsT, Ev.V.beq_refl, Ev.isAnc, Ev.tb, Ev.ble_dec, Ev.blt_dec, Ev.beq_dec, Ev.bne_dec, Ev.idx_nat, Ev.idx_0, Ev.idx_1, Ev.idx_2, Ev.idx_3, Ev.idx_4, Ev.idx_5, Ev.idx_6, Ev.idx_7, Ev.idx_8, Ev.idx_9, Ev.index, Ev.indexAddr, Ev.sliceOp, Ev.bound, Ev.NV.mk, Ev.Heap.load, Ev.Heap.store, Ev.Heap.elem, Ev.T.get_set, Ev.T.get_leaf, Ev.V.cells, Ev.V.scalar, Ev.V.asPtr, Ev.V.asBool, Ev.V.asInt, Ev.V.asStr, Ev.V.asAgg, Ev.V.asTup, Ev.V.asMap, Ev.build, Ev.fillCells, Ev.splice, Ev.over, Ev.takeN, Ev.part, Ev.unV, Ev.binV, Ev.isShift, Ev.binI_add, Ev.binI_sub, Ev.binI_mul, Ev.binI_and, Ev.binI_or, Ev.binI_xor, Ev.binI_eql, Ev.binI_neq, Ev.binI_lss, Ev.binI_leq, Ev.binI_gtr, Ev.binI_geq, Ev.binI_quo, Ev.binI_rem, Ev.shiftI_shl, Ev.shiftI_shr, Ev.isConstO, Ev.fieldAddr, Ev.placeS, Ev.placeA, Ev.goal, Ev.recT, Ev.recheck, Ev.undefV, Ev.convQ, Ev.convNew, pz94, ps94, pa94, pz81, ps81, pa81, pz83, ps83, pa83, pz52, ps52, pa52, pz86, ps86, pa86, pz54, ps54, pa54, pz57, ps57, pa57, pz38, ps38, pa38, pz50, ps50, pa50, pz55, ps55, pa55, pz79, ps79, pa79, pz31, ps31, pa31, pz3, ps3, pa3, pz51, ps51, pa51, pz5, ps5, pa5, pz4, ps4, pa4, pz9, ps9, pa9, pt38, pi38, pt50, pi50, pt55, pi55, pt79, pi79, pt3, pt5, pt9, pt31, pt51, pt94, par52, pstr9, pst94, pst54, pst83, pst86, pst57, pst81, Try.underlying94, Try.underlying54, Try.underlying83, Try.underlying86, Try.underlying57, Try.underlying81, Try.underlying52, Try.underlying51, Try.underlying5, Try.underlying9, Try.f96]; rfl) (by rfl) (by simp only [Ev.putD]; rfl) ?_
    rfl
  change ACode _ _ _ _ _ ⟨L.t.set L.next (boxB c), L.next + 1⟩ _
  generalize hA : (⟨L.t.set L.next (boxB c), L.next + 1⟩ : Heap) = A at *
  have e1 : L.t.set L.next (boxB c) = A.t := by rw [← hA]
  have e2 : L.next + 1 = A.next := by rw [← hA]
  rw [e1] at hbx
  have c1 := below_ok hr 64 (by decide)
  have hR1 := hr.next
  have hk2 := KX.setRd c A (nextV v)
  have hbx1 : (setRd A c (nextV v)).t.get L.next = some (boxB c) := by rw [hk2.2 _ (by omega) (by have := h.lt; omega)]; exact hbx
  have htl : hd0 bs % 64 = ((tlen bs : Nat) : Int) := by unfold tlen; omega
  have htl64 : tlen bs < 64 := by unfold tlen; omega
  have c2 := listed_ok hR1 hbx1 (by show L.next < A.next; omega) (by have := h.lt; omega) (tlen bs) (by omega)
  rw [htl] at c1
  have hrow := rowsVP_own 1 u8c (setRd (setRd A c (nextV v)) c (advV (tlen bs) (nextV v))) (takeZ (tlen bs) bs.tail)
  have hconv := conv_rows hrow (takeZ_range (fun x hx => h.range x (List.mem_of_mem_tail hx)) _)
  have hKall : KX c L (rowsHP 1 u8c (setRd (setRd A c (nextV v)) c (advV (tlen bs) (nextV v))) (takeZ (tlen bs) bs.tail)) := hk1.trans (hk2.trans ((KX.setRd c _ _).trans (rowsHP_keep c 1 u8c _ _)))
  have hcell : (rowsHP 1 u8c (setRd (setRd A c (nextV v)) c (advV (tlen bs) (nextV v))) (takeZ (tlen bs) bs.tail)).t.get c = some (rcell (advV (1 + tlen bs) v)) := by
    rw [rowsHP_at (c := c) (L := setRd (setRd A c (nextV v)) c (advV (tlen bs) (nextV v))) 1 u8c (show c < A.next by have := h.lt; omega)]
    have : advV (tlen bs) (nextV v) = advV (1 + tlen bs) v := advV_add 1 v _
    rw [this]
    exact T.get_set_same _ _ _
  change convQ _ _ _ _ _ = some (.str (textP bs)) at hconv
  generalize rowsVP (setRd (setRd A c (nextV v)) c (advV (tlen bs) (nextV v))) (takeZ (tlen bs) bs.tail) = vr at *
  generalize rowsHP 1 u8c (setRd (setRd A c (nextV v)) c (advV (tlen bs) (nextV v))) (takeZ (tlen bs) bs.tail) = A2 at *
  have he2 : A2.t.get e = some (evB [k, s, b, lv, r1, r2, r3, r4, wh]) := by rw [hKall.2 e hel hec]; exact he
  have hbx' := hbx
  unfold boxB at hbx'
  unfold evB at he2
  unfold rdV at c1
  refine ACode.regS ((oneT_okP c1).or (oneT_okP c2)) names_ok mix (t' := ?_) (L' := ?_) [0, 1, 2, 3, 4, 5, 6, 7, 8] (by rfl) ?_ ?_
  rotate_left 2
  · iterate 9 (refine seqE_cons rfl rfl rfl (by simp (config := {decide := false}) [Nat.add_assoc, Go.IntWalk.i64_in, Go.IntWalk.i32_in, Go.IntWalk.u8_in, Go.IntWalk.u64_in, Ev.T.set_set, Ev.seqE, Ev.drawE, Ev.fits, Ev.wantedE, Ev.oneE, Ev.cls, Ev.quiet, Ev.making, Ev.setParts, Ev.rowOf, Ev.loud, Ev.opd, Ev.opds, Ev.optOpd, Ev.pairs, Ev.ofVal_bool, Ev.ofVal_int, Ev.ofVal_str, Ev.ofVal_nils, Ev.ofVal_nilp, Ev.putD, Ev.guardO_true, Ev.guardO_false, Ev.builtinQ, Ev.tget_set, Ev.argsT, Ev.V.beq_refl, Ev.isAnc, Ev.tb, Ev.ble_dec, Ev.blt_dec, Ev.beq_dec, Ev.bne_dec, Ev.idx_nat, Ev.idx_0, Ev.idx_1, Ev.idx_2, Ev.idx_3, Ev.idx_4, Ev.idx_5, Ev.idx_6, Ev.idx_7, Ev.idx_8, Ev.idx_9, Ev.index, Ev.indexAddr, Ev.sliceOp, Ev.bound, Ev.NV.mk, Ev.Heap.load, Ev.Heap.store, Ev.Heap.elem, Ev.T.get_set, Ev.T.get_leaf, Ev.V.cells, Ev.V.scalar, Ev.V.asPtr, Ev.V.asBool, Ev.V.asInt, Ev.V.asStr, Ev.V.asAgg, Ev.V.asTup, Ev.V.asMap, Ev.build, Ev.fillCells, Ev.splice, Ev.over, Ev.takeN, Ev.part, Ev.unV, Ev.binV, Ev.isShift, Ev.binI_add, Ev.binI_sub, Ev.binI_mul, Ev.binI_and, Ev.binI_or, Ev.binI_xor, Ev.binI_eql, Ev.binI_neq, Ev.binI_lss, Ev.binI_leq, Ev.binI_gtr, Ev.binI_geq, Ev.binI_quo, Ev.binI_rem, Ev.shiftI_shl, Ev.shiftI_shr, Ev.isConstO, Ev.fieldAddr, Ev.placeS, Ev.placeA, Ev.goal, Ev.recT, Ev.recheck, Ev.undefV, Ev.convNew, pz94, ps94, pa94, pz81, ps81, pa81, pz83, ps83, pa83, pz52, ps52, pa52, pz86, ps86, pa86, pz54, ps54, pa54, pz57, ps57, pa57, pz38, ps38, pa38, pz50, ps50, pa50, pz55, ps55, pa55, pz79, ps79, pa79, pz31, ps31, pa31, pz3, ps3, pa3, pz51, ps51, pa51, pz5, ps5, pa5, pz4, ps4, pa4, pz9, ps9, pa9, pt38, pi38, pt50, pi50, pt55, pi55, pt79, pi79, pt3, pt5, pt9, pt31, pt51, pt94, par52, pstr9, pst94, pst54, pst83, pst86, pst57, pst81, Try.underlying94, Try.underlying54, Try.underlying83, Try.underlying86, Try.underlying57, Try.underlying81, Try.underlying52, Try.underlying51, Try.underlying5, Try.underlying9, hbx', orT, oneT_sameP, oneT_neP, hconv, he2, Try.f96]; rfl) (by rfl) (by simp only [Ev.putD]; rfl) ?_)
    rfl
  refine ⟨.inl rfl, ⟨A2.t.set e (evB [k, s, .str (textP bs), lv, r1, r2, r3, r4, wh]), A2.next⟩, [], [], rfl, by simp [Try.f96, resVals], ?_, fun κ1 z hz => VR_plain (κ := κ1) _ _ rfl hz⟩
  refine tidyRE h.lt hel hec (by rw [advV_low]; exact h.low) ?_ ?_ (T.get_set_same _ _ _) ?_
  · refine plains_low _ _ ?_
    simp only [V.plains, Bool.and_eq_true] at hp ⊢
    simp only [hp, V.plain, and_self]
  · show T.get (T.set _ _ _) _ = _
    rw [T.get_set_ne _ _ (fun h => hec h.symm)]; exact hcell
  · intro n hn hc hne
    show T.get (T.set _ _ _) _ = _
    rw [T.get_set_ne _ _ hne]; exact hKall.2 n hn hc
end Go.Proofs.Ytpfmoolpeecobaa
