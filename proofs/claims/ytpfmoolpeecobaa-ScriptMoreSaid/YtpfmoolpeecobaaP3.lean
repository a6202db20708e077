/- So many bytes of a reader. -/
import Derived.Test.YtpfmoolpeecobaaP2
namespace Go.Proofs.Ytpfmoolpeecobaa
open Go Go.Proofs Go.Proofs.Ytpfmoolpeecobaa.Ev
set_option linter.unusedVariables false
set_option linter.unusedSimpArgs false
set_option maxRecDepth 100000
set_option maxHeartbeats 4000000

/-- so many bytes on -/
def advV : Nat → V → V
  | 0, v => v
  | k + 1, v => nextV (advV k v)
/-- so many of the next bytes; noughts behind their end -/
def takeZ (k : Nat) (bs : List Int) : List Int := (List.range k).map fun j => bs.getD j 0
theorem takeZ_len (k : Nat) (bs : List Int) : (takeZ k bs).length = k := by simp [takeZ]
theorem takeZ_succ (k : Nat) (bs : List Int) : takeZ (k + 1) bs = takeZ k bs ++ [hd0 (bs.drop k)] := by
  simp only [takeZ, List.range_succ, List.map_append, List.map_cons, List.map_nil]
  congr 2
  simp [hd0, List.getD, List.headD_eq_head?_getD]
theorem takeZ_range {bs : List Int} (h : ∀ x ∈ bs, 0 ≤ x ∧ x ≤ 255) (k : Nat) : ∀ x ∈ takeZ k bs, 0 ≤ x ∧ x ≤ 255 := by
  intro x hx
  simp only [takeZ, List.mem_map] at hx
  obtain ⟨j, _, rfl⟩ := hx
  cases hj : bs[j]? with
  | none => simp [List.getD, hj]
  | some y => simp [List.getD, hj]; exact h y (List.mem_of_getElem? hj)
theorem nextV_low (v : V) (nx : Nat) : (nextV v).low nx = v.low nx := by
  unfold nextV
  split
  · split
    · rfl
    · split <;> rfl
  · rfl
theorem advV_low (k : Nat) (v : V) (nx : Nat) : (advV k v).low nx = v.low nx := by
  induction k with
  | zero => rfl
  | succ k ih => rw [advV, nextV_low, ih]
theorem Bs.adv {c : Nat} {L : Heap} {v : V} {bs : List Int} (h : Bs c L v bs) : ∀ k, Bs c L (advV k v) (bs.drop k)
  | 0 => by simpa [advV] using h
  | k + 1 => by
    have := (Bs.adv h k).next
    rw [List.tail_drop] at this
    exact this
theorem Rd.adv {L A : Heap} {c : Nat} {v : V} {bs : List Int} (h : Rd L c v bs) (k : Nat) (hk : KX c L A) (hc : A.t.get c = some (rcell (advV k v))) : Rd A c (advV k v) (bs.drop k) :=
  ⟨hc, Nat.lt_of_lt_of_le h.lt hk.1, (h.row.adv k).keep hk, fun x hx => h.range x (List.mem_of_mem_drop hx)⟩
theorem advV_add (i : Nat) (v : V) : ∀ j, advV j (advV i v) = advV (i + j) v
  | 0 => rfl
  | j + 1 => by rw [advV, advV_add i v j]; rfl
def u8c (x : Int) : List V := [.int .u8 x]
theorem Rd.low {L : Heap} {c : Nat} {v : V} {bs : List Int} (h : Rd L c v bs) : v.low L.next = true := h.row.low
theorem setRd_setRd (L : Heap) (c : Nat) (v v' : V) : setRd (setRd L c v) c v' = setRd L c v' := by
  unfold setRd; simp only [T.set_set]

theorem textOne_ok {L : Heap} {c r : Nat} {v : V} {bs : List Int} (h : Rd L c v bs) (hr : L.t.get r = some (boxB c)) : ACall Try.prog 114 [.ptr r 0] L (.int .u8 (hd0 bs)) (setRd L c (nextV v)) := by
  have hn := next_ok h
  have hhd := h.head
  have hw : IntKind.u8.wrap (hd0 bs) = hd0 bs := Go.IntWalk.u8_in _ (by omega)
  unfold boxB at hr
  refine ACall.of_body_same Try.func114 rfl ?_
  refine ACode.seq (ACode.regS noT_ok names_ok mix (t' := ?_) (L' := ?_) [0] (by rfl) ?_ ?_)
  rotate_left 2
  · refine seqE_cons rfl rfl rfl (by simp (config := {decide := false}) [Nat.add_assoc, Go.IntWalk.i64_in, Go.IntWalk.i32_in, Go.IntWalk.u8_in, Go.IntWalk.u64_in, Ev.T.set_set, Ev.seqE, Ev.drawE, Ev.fits, Ev.wantedE, Ev.oneE, Ev.cls, Ev.quiet, Ev.making, Ev.setParts, Ev.rowOf, Ev.loud, Ev.opd, Ev.opds, Ev.optOpd, Ev.pairs, Ev.ofVal_bool, Ev.ofVal_int, Ev.ofVal_str, Ev.ofVal_nils, Ev.ofVal_nilp, Ev.putD, Ev.guardO_true, Ev.guardO_false, Ev.builtinQ, Ev.tget_set, Ev.argsT, Ev.V.beq_refl, Ev.isAnc, Ev.tb, Ev.ble_dec, Ev.blt_dec, Ev.beq_dec, Ev.bne_dec, Ev.idx_nat, Ev.idx_0, Ev.idx_1, Ev.idx_2, Ev.idx_3, Ev.idx_4, Ev.idx_5, Ev.idx_6, Ev.idx_7, Ev.idx_8, Ev.idx_9, Ev.index, Ev.indexAddr, Ev.sliceOp, Ev.bound, Ev.NV.mk, Ev.Heap.load, Ev.Heap.store, Ev.Heap.elem, Ev.T.get_set, Ev.T.get_leaf, Ev.V.cells, Ev.V.scalar, Ev.V.asPtr, Ev.V.asBool, Ev.V.asInt, Ev.V.asStr, Ev.V.asAgg, Ev.V.asTup, Ev.V.asMap, Ev.build, Ev.fillCells, Ev.splice, Ev.over, Ev.takeN, Ev.part, Ev.unV, Ev.binV, Ev.isShift, Ev.binI_add, Ev.binI_sub, Ev.binI_mul, Ev.binI_and, Ev.binI_or, Ev.binI_xor, Ev.binI_eql, Ev.binI_neq, Ev.binI_lss, Ev.binI_leq, Ev.binI_gtr, Ev.binI_geq, Ev.binI_quo, Ev.binI_rem, Ev.shiftI_shl, Ev.shiftI_shr, Ev.isConstO, Ev.fieldAddr, Ev.placeS, Ev.placeA, Ev.goal, Ev.recT, Ev.recheck, Ev.undefV, Ev.convQ, Ev.convNew, pz94, ps94, pa94, pz81, ps81, pa81, pz83, ps83, pa83, pz52, ps52, pa52, pz86, ps86, pa86, pz54, ps54, pa54, pz57, ps57, pa57, pz38, ps38, pa38, pz50, ps50, pa50, pz55, ps55, pa55, pz79, ps79, pa79, pz31, ps31, pa31, pz3, ps3, pa3, pz51, ps51, pa51, pz5, ps5, pa5, pz4, ps4, pa4, pz9, ps9, pa9, pt38, pi38, pt50, pi50, pt55, pi55, pt79, pi79, pt3, pt5, pt9, pt31, pt51, pt94, par52, pstr9, pst94, pst54, pst83, pst86, pst57, pst81, Try.underlying94, Try.underlying54, Try.underlying83, Try.underlying86, Try.underlying57, Try.underlying81, Try.underlying52, Try.underlying51, Try.underlying5, Try.underlying9, Try.f114]; rfl) (by rfl) (by simp only [Ev.putD]; rfl) ?_
    rfl
  refine ACode.seq (ACode.regS (oneT_okP hn) names_ok mix (t' := ?_) (L' := ?_) [0, 1, 2, 3, 4] (by rfl) ?_ ?_)
  rotate_left 2
  · iterate 5 (refine seqE_cons rfl rfl rfl (by simp (config := {decide := false}) [Nat.add_assoc, Go.IntWalk.i64_in, Go.IntWalk.i32_in, Go.IntWalk.u8_in, Go.IntWalk.u64_in, Ev.T.set_set, Ev.seqE, Ev.drawE, Ev.fits, Ev.wantedE, Ev.oneE, Ev.cls, Ev.quiet, Ev.making, Ev.setParts, Ev.rowOf, Ev.loud, Ev.opd, Ev.opds, Ev.optOpd, Ev.pairs, Ev.ofVal_bool, Ev.ofVal_int, Ev.ofVal_str, Ev.ofVal_nils, Ev.ofVal_nilp, Ev.putD, Ev.guardO_true, Ev.guardO_false, Ev.builtinQ, Ev.tget_set, Ev.argsT, Ev.V.beq_refl, Ev.isAnc, Ev.tb, Ev.ble_dec, Ev.blt_dec, Ev.beq_dec, Ev.bne_dec, Ev.idx_nat, Ev.idx_0, Ev.idx_1, Ev.idx_2, Ev.idx_3, Ev.idx_4, Ev.idx_5, Ev.idx_6, Ev.idx_7, Ev.idx_8, Ev.idx_9, Ev.index, Ev.indexAddr, Ev.sliceOp, Ev.bound, Ev.NV.mk, Ev.Heap.load, Ev.Heap.store, Ev.Heap.elem, Ev.T.get_set, Ev.T.get_leaf, Ev.V.cells, Ev.V.scalar, Ev.V.asPtr, Ev.V.asBool, Ev.V.asInt, Ev.V.asStr, Ev.V.asAgg, Ev.V.asTup, Ev.V.asMap, Ev.build, Ev.fillCells, Ev.splice, Ev.over, Ev.takeN, Ev.part, Ev.unV, Ev.binV, Ev.isShift, Ev.binI_add, Ev.binI_sub, Ev.binI_mul, Ev.binI_and, Ev.binI_or, Ev.binI_xor, Ev.binI_eql, Ev.binI_neq, Ev.binI_lss, Ev.binI_leq, Ev.binI_gtr, Ev.binI_geq, Ev.binI_quo, Ev.binI_rem, Ev.shiftI_shl, Ev.shiftI_shr, Ev.isConstO, Ev.fieldAddr, Ev.placeS, Ev.placeA, Ev.goal, Ev.recT, Ev.recheck, Ev.undefV, Ev.convQ, Ev.convNew, pz94, ps94, pa94, pz81, ps81, pa81, pz83, ps83, pa83, pz52, ps52, pa52, pz86, ps86, pa86, pz54, ps54, pa54, pz57, ps57, pa57, pz38, ps38, pa38, pz50, ps50, pa50, pz55, ps55, pa55, pz79, ps79, pa79, pz31, ps31, pa31, pz3, ps3, pa3, pz51, ps51, pa51, pz5, ps5, pa5, pz4, ps4, pa4, pz9, ps9, pa9, pt38, pi38, pt50, pi50, pt55, pi55, pt79, pi79, pt3, pt5, pt9, pt31, pt51, pt94, par52, pstr9, pst94, pst54, pst83, pst86, pst57, pst81, Try.underlying94, Try.underlying54, Try.underlying83, Try.underlying86, Try.underlying57, Try.underlying81, Try.underlying52, Try.underlying51, Try.underlying5, Try.underlying9, hr, oneT_sameP, hw, pu3, Try.f114]; rfl) (by rfl) (by simp only [Ev.putD]; rfl) ?_)
    rfl
  exact ACode.ret ⟨.inr rfl, [.int .u8 (hd0 bs)], rfl, by simp [Try.f114, resVals, tget_set], rfl⟩

theorem listed_ok {L : Heap} {c r : Nat} {v : V} {bs : List Int} (h : Rd L c v bs) (hr : L.t.get r = some (boxB c)) (hrn : r < L.next) (hrc : r ≠ c) (k : Nat) (hk : k ≤ 1000) :
    ACall Try.prog 113 [.int .i64 (k : Int), .func 114 [] [.ptr r 0]] L (rowsVP (setRd L c (advV k v)) (takeZ k bs)) (rowsHP 1 u8c (setRd L c (advV k v)) (takeZ k bs)) := by
  refine ACall.of_body2 Try.func113 rfl ?_
  refine ACode.seq (ACode.regS noT_ok names_ok mix (t' := ?_) (L' := ?_) [0] (by rfl) ?_ ?_)
  rotate_left 2
  · refine seqE_cons rfl rfl rfl (by simp (config := {decide := false}) [Nat.add_assoc, Go.IntWalk.i64_in, Go.IntWalk.i32_in, Go.IntWalk.u8_in, Go.IntWalk.u64_in, Ev.T.set_set, Ev.seqE, Ev.drawE, Ev.fits, Ev.wantedE, Ev.oneE, Ev.cls, Ev.quiet, Ev.making, Ev.setParts, Ev.rowOf, Ev.loud, Ev.opd, Ev.opds, Ev.optOpd, Ev.pairs, Ev.ofVal_bool, Ev.ofVal_int, Ev.ofVal_str, Ev.ofVal_nils, Ev.ofVal_nilp, Ev.putD, Ev.guardO_true, Ev.guardO_false, Ev.builtinQ, Ev.tget_set, Ev.argsT, Ev.V.beq_refl, Ev.isAnc, Ev.tb, Ev.ble_dec, Ev.blt_dec, Ev.beq_dec, Ev.bne_dec, Ev.idx_nat, Ev.idx_0, Ev.idx_1, Ev.idx_2, Ev.idx_3, Ev.idx_4, Ev.idx_5, Ev.idx_6, Ev.idx_7, Ev.idx_8, Ev.idx_9, Ev.index, Ev.indexAddr, Ev.sliceOp, Ev.bound, Ev.NV.mk, Ev.Heap.load, Ev.Heap.store, Ev.Heap.elem, Ev.T.get_set, Ev.T.get_leaf, Ev.V.cells, Ev.V.scalar, Ev.V.asPtr, Ev.V.asBool, Ev.V.asInt, Ev.V.asStr, Ev.V.asAgg, Ev.V.asTup, Ev.V.asMap, Ev.build, Ev.fillCells, Ev.splice, Ev.over, Ev.takeN, Ev.part, Ev.unV, Ev.binV, Ev.isShift, Ev.binI_add, Ev.binI_sub, Ev.binI_mul, Ev.binI_and, Ev.binI_or, Ev.binI_xor, Ev.binI_eql, Ev.binI_neq, Ev.binI_lss, Ev.binI_leq, Ev.binI_gtr, Ev.binI_geq, Ev.binI_quo, Ev.binI_rem, Ev.shiftI_shl, Ev.shiftI_shr, Ev.isConstO, Ev.fieldAddr, Ev.placeS, Ev.placeA, Ev.goal, Ev.recT, Ev.recheck, Ev.undefV, Ev.convQ, Ev.convNew, pz94, ps94, pa94, pz81, ps81, pa81, pz83, ps83, pa83, pz52, ps52, pa52, pz86, ps86, pa86, pz54, ps54, pa54, pz57, ps57, pa57, pz38, ps38, pa38, pz50, ps50, pa50, pz55, ps55, pa55, pz79, ps79, pa79, pz31, ps31, pa31, pz3, ps3, pa3, pz51, ps51, pa51, pz5, ps5, pa5, pz4, ps4, pa4, pz9, ps9, pa9, pt38, pi38, pt50, pi50, pt55, pi55, pt79, pi79, pt3, pt5, pt9, pt31, pt51, pt94, par52, pstr9, pst94, pst54, pst83, pst86, pst57, pst81, Try.underlying94, Try.underlying54, Try.underlying83, Try.underlying86, Try.underlying57, Try.underlying81, Try.underlying52, Try.underlying51, Try.underlying5, Try.underlying9, Try.f113]; rfl) (by rfl) (by simp only [Ev.putD]; rfl) ?_
    rfl
  refine ACode.seq ?_
  refine ACode.seq (ACode.regS noT_ok names_ok mix (t' := ?_) (L' := ?_) [0, 1] (by rfl) ?_ ?_)
  rotate_left 2
  · iterate 2 (refine seqE_cons rfl rfl rfl (by simp (config := {decide := false}) [Nat.add_assoc, Go.IntWalk.i64_in, Go.IntWalk.i32_in, Go.IntWalk.u8_in, Go.IntWalk.u64_in, Ev.T.set_set, Ev.seqE, Ev.drawE, Ev.fits, Ev.wantedE, Ev.oneE, Ev.cls, Ev.quiet, Ev.making, Ev.setParts, Ev.rowOf, Ev.loud, Ev.opd, Ev.opds, Ev.optOpd, Ev.pairs, Ev.ofVal_bool, Ev.ofVal_int, Ev.ofVal_str, Ev.ofVal_nils, Ev.ofVal_nilp, Ev.putD, Ev.guardO_true, Ev.guardO_false, Ev.builtinQ, Ev.tget_set, Ev.argsT, Ev.V.beq_refl, Ev.isAnc, Ev.tb, Ev.ble_dec, Ev.blt_dec, Ev.beq_dec, Ev.bne_dec, Ev.idx_nat, Ev.idx_0, Ev.idx_1, Ev.idx_2, Ev.idx_3, Ev.idx_4, Ev.idx_5, Ev.idx_6, Ev.idx_7, Ev.idx_8, Ev.idx_9, Ev.index, Ev.indexAddr, Ev.sliceOp, Ev.bound, Ev.NV.mk, Ev.Heap.load, Ev.Heap.store, Ev.Heap.elem, Ev.T.get_set, Ev.T.get_leaf, Ev.V.cells, Ev.V.scalar, Ev.V.asPtr, Ev.V.asBool, Ev.V.asInt, Ev.V.asStr, Ev.V.asAgg, Ev.V.asTup, Ev.V.asMap, Ev.build, Ev.fillCells, Ev.splice, Ev.over, Ev.takeN, Ev.part, Ev.unV, Ev.binV, Ev.isShift, Ev.binI_add, Ev.binI_sub, Ev.binI_mul, Ev.binI_and, Ev.binI_or, Ev.binI_xor, Ev.binI_eql, Ev.binI_neq, Ev.binI_lss, Ev.binI_leq, Ev.binI_gtr, Ev.binI_geq, Ev.binI_quo, Ev.binI_rem, Ev.shiftI_shl, Ev.shiftI_shr, Ev.isConstO, Ev.fieldAddr, Ev.placeS, Ev.placeA, Ev.goal, Ev.recT, Ev.recheck, Ev.undefV, Ev.convQ, Ev.convNew, pz94, ps94, pa94, pz81, ps81, pa81, pz83, ps83, pa83, pz52, ps52, pa52, pz86, ps86, pa86, pz54, ps54, pa54, pz57, ps57, pa57, pz38, ps38, pa38, pz50, ps50, pa50, pz55, ps55, pa55, pz79, ps79, pa79, pz31, ps31, pa31, pz3, ps3, pa3, pz51, ps51, pa51, pz5, ps5, pa5, pz4, ps4, pa4, pz9, ps9, pa9, pt38, pi38, pt50, pi50, pt55, pi55, pt79, pi79, pt3, pt5, pt9, pt31, pt51, pt94, par52, pstr9, pst94, pst54, pst83, pst86, pst57, pst81, Try.underlying94, Try.underlying54, Try.underlying83, Try.underlying86, Try.underlying57, Try.underlying81, Try.underlying52, Try.underlying51, Try.underlying5, Try.underlying9, Try.f113]; rfl) (by rfl) (by simp only [Ev.putD]; rfl) ?_)
    rfl
  refine ACode.block (ACode.loop (fun t d A N => d = [] ∧ ∃ i, i ≤ k ∧ N = k - i ∧ tget t 1 = .func 114 [] [.ptr r 0] ∧ tget t 5 = .int .i64 (k : Int) ∧ tget t 6 = .int .i64 (i : Int) ∧
    Rd A c (advV i v) (bs.drop i) ∧ KX c L A ∧ OwnP 1 u8c L.next A (tget t 4) (takeZ i bs)) (N := k)
    ⟨rfl, 0, Nat.zero_le _, by omega, by simp [tget_set, argsT], by simp [tget_set], by simp [tget_set], by simpa [advV] using h, KX.refl c L, .inl ⟨by simp [tget_set], rfl⟩⟩ ?_)
  rintro t d A N ⟨rfl, i, hi, rfl, t1, t5, t6, hR, hK, hO⟩
  refine ACode.seq (ACode.regS noT_ok names_ok mix (t' := ?_) (L' := ?_) [0] (by rfl) ?_ ?_)
  rotate_left 2
  · refine seqE_cons rfl rfl rfl (by simp (config := {decide := false}) [Nat.add_assoc, Go.IntWalk.i64_in, Go.IntWalk.i32_in, Go.IntWalk.u8_in, Go.IntWalk.u64_in, Ev.T.set_set, Ev.seqE, Ev.drawE, Ev.fits, Ev.wantedE, Ev.oneE, Ev.cls, Ev.quiet, Ev.making, Ev.setParts, Ev.rowOf, Ev.loud, Ev.opd, Ev.opds, Ev.optOpd, Ev.pairs, Ev.ofVal_bool, Ev.ofVal_int, Ev.ofVal_str, Ev.ofVal_nils, Ev.ofVal_nilp, Ev.putD, Ev.guardO_true, Ev.guardO_false, Ev.builtinQ, Ev.tget_set, Ev.argsT, Ev.V.beq_refl, Ev.isAnc, Ev.tb, Ev.ble_dec, Ev.blt_dec, Ev.beq_dec, Ev.bne_dec, Ev.idx_nat, Ev.idx_0, Ev.idx_1, Ev.idx_2, Ev.idx_3, Ev.idx_4, Ev.idx_5, Ev.idx_6, Ev.idx_7, Ev.idx_8, Ev.idx_9, Ev.index, Ev.indexAddr, Ev.sliceOp, Ev.bound, Ev.NV.mk, Ev.Heap.load, Ev.Heap.store, Ev.Heap.elem, Ev.T.get_set, Ev.T.get_leaf, Ev.V.cells, Ev.V.scalar, Ev.V.asPtr, Ev.V.asBool, Ev.V.asInt, Ev.V.asStr, Ev.V.asAgg, Ev.V.asTup, Ev.V.asMap, Ev.build, Ev.fillCells, Ev.splice, Ev.over, Ev.takeN, Ev.part, Ev.unV, Ev.binV, Ev.isShift, Ev.binI_add, Ev.binI_sub, Ev.binI_mul, Ev.binI_and, Ev.binI_or, Ev.binI_xor, Ev.binI_eql, Ev.binI_neq, Ev.binI_lss, Ev.binI_leq, Ev.binI_gtr, Ev.binI_geq, Ev.binI_quo, Ev.binI_rem, Ev.shiftI_shl, Ev.shiftI_shr, Ev.isConstO, Ev.fieldAddr, Ev.placeS, Ev.placeA, Ev.goal, Ev.recT, Ev.recheck, Ev.undefV, Ev.convQ, Ev.convNew, pz94, ps94, pa94, pz81, ps81, pa81, pz83, ps83, pa83, pz52, ps52, pa52, pz86, ps86, pa86, pz54, ps54, pa54, pz57, ps57, pa57, pz38, ps38, pa38, pz50, ps50, pa50, pz55, ps55, pa55, pz79, ps79, pa79, pz31, ps31, pa31, pz3, ps3, pa3, pz51, ps51, pa51, pz5, ps5, pa5, pz4, ps4, pa4, pz9, ps9, pa9, pt38, pi38, pt50, pi50, pt55, pi55, pt79, pi79, pt3, pt5, pt9, pt31, pt51, pt94, par52, pstr9, pst94, pst54, pst83, pst86, pst57, pst81, Try.underlying94, Try.underlying54, Try.underlying83, Try.underlying86, Try.underlying57, Try.underlying81, Try.underlying52, Try.underlying51, Try.underlying5, Try.underlying9, t5, t6, Try.f113]; rfl) (by rfl) (by simp only [Ev.putD]; rfl) ?_
    rfl
  refine ACode.seq (ACode.cond (p := (i : Int) < (k : Int)) (by simp [tget_set, opd]) (fun hil => ACode.skip ?_) (fun hge => ACode.exit ?_))
  rotate_left 1
  ·
    show ACode _ _ _ _ _ _ _
    obtain rfl : i = k := by omega
    refine ACode.seq (ACode.regS noT_ok names_ok mix (t' := ?_) (L' := ?_) [0, 1] (by rfl) ?_ ?_)
    rotate_left 2
    · iterate 2 (refine seqE_cons rfl rfl rfl (by simp (config := {decide := false}) [Nat.add_assoc, Go.IntWalk.i64_in, Go.IntWalk.i32_in, Go.IntWalk.u8_in, Go.IntWalk.u64_in, Ev.T.set_set, Ev.seqE, Ev.drawE, Ev.fits, Ev.wantedE, Ev.oneE, Ev.cls, Ev.quiet, Ev.making, Ev.setParts, Ev.rowOf, Ev.loud, Ev.opd, Ev.opds, Ev.optOpd, Ev.pairs, Ev.ofVal_bool, Ev.ofVal_int, Ev.ofVal_str, Ev.ofVal_nils, Ev.ofVal_nilp, Ev.putD, Ev.guardO_true, Ev.guardO_false, Ev.builtinQ, Ev.tget_set, Ev.argsT, Ev.V.beq_refl, Ev.isAnc, Ev.tb, Ev.ble_dec, Ev.blt_dec, Ev.beq_dec, Ev.bne_dec, Ev.idx_nat, Ev.idx_0, Ev.idx_1, Ev.idx_2, Ev.idx_3, Ev.idx_4, Ev.idx_5, Ev.idx_6, Ev.idx_7, Ev.idx_8, Ev.idx_9, Ev.index, Ev.indexAddr, Ev.sliceOp, Ev.bound, Ev.NV.mk, Ev.Heap.load, Ev.Heap.store, Ev.Heap.elem, Ev.T.get_set, Ev.T.get_leaf, Ev.V.cells, Ev.V.scalar, Ev.V.asPtr, Ev.V.asBool, Ev.V.asInt, Ev.V.asStr, Ev.V.asAgg, Ev.V.asTup, Ev.V.asMap, Ev.build, Ev.fillCells, Ev.splice, Ev.over, Ev.takeN, Ev.part, Ev.unV, Ev.binV, Ev.isShift, Ev.binI_add, Ev.binI_sub, Ev.binI_mul, Ev.binI_and, Ev.binI_or, Ev.binI_xor, Ev.binI_eql, Ev.binI_neq, Ev.binI_lss, Ev.binI_leq, Ev.binI_gtr, Ev.binI_geq, Ev.binI_quo, Ev.binI_rem, Ev.shiftI_shl, Ev.shiftI_shr, Ev.isConstO, Ev.fieldAddr, Ev.placeS, Ev.placeA, Ev.goal, Ev.recT, Ev.recheck, Ev.undefV, Ev.convQ, Ev.convNew, pz94, ps94, pa94, pz81, ps81, pa81, pz83, ps83, pa83, pz52, ps52, pa52, pz86, ps86, pa86, pz54, ps54, pa54, pz57, ps57, pa57, pz38, ps38, pa38, pz50, ps50, pa50, pz55, ps55, pa55, pz79, ps79, pa79, pz31, ps31, pa31, pz3, ps3, pa3, pz51, ps51, pa51, pz5, ps5, pa5, pz4, ps4, pa4, pz9, ps9, pa9, pt38, pi38, pt50, pi50, pt55, pi55, pt79, pi79, pt3, pt5, pt9, pt31, pt51, pt94, par52, pstr9, pst94, pst54, pst83, pst86, pst57, pst81, Try.underlying94, Try.underlying54, Try.underlying83, Try.underlying86, Try.underlying57, Try.underlying81, Try.underlying52, Try.underlying51, Try.underlying5, Try.underlying9, Try.f113]; rfl) (by rfl) (by simp only [Ev.putD]; rfl) ?_)
      rfl
    obtain ⟨ms, hT, hV⟩ := end_rowsP (sz := 1) (f := u8c) (fun _ => rfl) h.lt (by rw [advV_low]; exact h.low) hR.cell hK.2 hO
    exact ACode.ret ⟨.inr rfl, _, [tget t 4], ms, rfl, by simp [Try.f113, resVals, tget_set], hT, hV⟩
  have hil' : i < k := by omega
  have hrA : A.t.get r = some (boxB c) := by rw [hK.2 r hrn hrc]; exact hr
  have hcall := textOne_ok hR hrA
  have hR1 := hR.next
  have hK1 := KX.setRd c A (nextV (advV i v))
  have hw6 : IntKind.i64.wrap ((i : Int) + 1) = (i : Int) + 1 := Go.IntWalk.i64_in _ (by omega)
  have hO1 := hO.keep (f := u8c) (show c < L.next from h.lt) hK1
  generalize hb : hd0 (bs.drop i) = b at *
  generalize hA1 : setRd A c (nextV (advV i v)) = A1 at *
  have hK2 := KX.new c A1 (.cells (T.set .leaf 0 [.int .u8 b]) 1 1 false false)
  have hR2 := hR1.new (.cells (T.set .leaf 0 [.int .u8 b]) 1 1 false false)
  have hO2 := hO1.keep (show c < L.next from h.lt) hK2
  have hsrc : srcElems ⟨A1.t.set A1.next (.cells (T.set .leaf 0 [.int .u8 b]) 1 1 false false), A1.next + 1⟩ 1 (.slice A1.next 0 1 1 false) = some ([b].map u8c) := by
    simp [srcElems, Heap.elems, Heap.elem, T.get_set, takeN, u8c]
  obtain ⟨v4, A3, ha, hO3, hn3, hk3, _⟩ := append_P (sz := 1) (f := u8c) (by decide) (fun _ => rfl) (fun _ => rfl) pt38 ps5 pb5 (by decide) pz5 rfl hO2 (by have := hK.1; have := hK1.1; simp only; omega) hsrc (by rw [takeZ_len]; simp; omega)
  rw [← hb, ← takeZ_succ] at hO3
  have hcne : nmP (tget t 4) ≠ some c := fun e => by have := (hO.nm_lt e).1; have := h.lt; omega
  have hK3 : KX c L A3 := by
    refine ⟨by have := hK.1; have := hK1.1; have := hn3; simp only at this; omega, fun n hn hc => ?_⟩
    have hlt : n < A.next := Nat.lt_of_lt_of_le hn hK.1
    rw [hk3 n (by have := hK1.1; simp only; omega) (fun e => by have := (hO.nm_lt e).1; omega), hK2.2 n (by have := hK1.1; omega) hc, hK1.2 n hlt hc, hK.2 n hn hc]
  have hR3 : Rd A3 c (advV (i + 1) v) (bs.drop (i + 1)) := by
    refine h.adv (i + 1) hK3 ?_
    rw [hk3 c hR2.lt hcne]; exact hR2.cell
  refine ACode.seq (ACode.block ?_)
  refine ACode.regS (oneT_okP hcall) names_ok mix (t' := ?_) (L' := ?_) [0, 1, 2, 3, 4, 5] (by rfl) ?_ ?_
  rotate_left 2
  · iterate 6 (refine seqE_cons rfl rfl rfl (by simp (config := {decide := false}) [Nat.add_assoc, Go.IntWalk.i64_in, Go.IntWalk.i32_in, Go.IntWalk.u8_in, Go.IntWalk.u64_in, Ev.T.set_set, Ev.seqE, Ev.drawE, Ev.fits, Ev.wantedE, Ev.oneE, Ev.cls, Ev.quiet, Ev.making, Ev.setParts, Ev.rowOf, Ev.loud, Ev.opd, Ev.opds, Ev.optOpd, Ev.pairs, Ev.ofVal_bool, Ev.ofVal_int, Ev.ofVal_str, Ev.ofVal_nils, Ev.ofVal_nilp, Ev.putD, Ev.guardO_true, Ev.guardO_false, Ev.builtinQ, Ev.tget_set, Ev.argsT, Ev.V.beq_refl, Ev.isAnc, Ev.tb, Ev.ble_dec, Ev.blt_dec, Ev.beq_dec, Ev.bne_dec, Ev.idx_nat, Ev.idx_0, Ev.idx_1, Ev.idx_2, Ev.idx_3, Ev.idx_4, Ev.idx_5, Ev.idx_6, Ev.idx_7, Ev.idx_8, Ev.idx_9, Ev.index, Ev.indexAddr, Ev.sliceOp, Ev.bound, Ev.NV.mk, Ev.Heap.load, Ev.Heap.store, Ev.Heap.elem, Ev.T.get_set, Ev.T.get_leaf, Ev.V.cells, Ev.V.scalar, Ev.V.asPtr, Ev.V.asBool, Ev.V.asInt, Ev.V.asStr, Ev.V.asAgg, Ev.V.asTup, Ev.V.asMap, Ev.build, Ev.fillCells, Ev.splice, Ev.over, Ev.takeN, Ev.part, Ev.unV, Ev.binV, Ev.isShift, Ev.binI_add, Ev.binI_sub, Ev.binI_mul, Ev.binI_and, Ev.binI_or, Ev.binI_xor, Ev.binI_eql, Ev.binI_neq, Ev.binI_lss, Ev.binI_leq, Ev.binI_gtr, Ev.binI_geq, Ev.binI_quo, Ev.binI_rem, Ev.shiftI_shl, Ev.shiftI_shr, Ev.isConstO, Ev.fieldAddr, Ev.placeS, Ev.placeA, Ev.goal, Ev.recT, Ev.recheck, Ev.undefV, Ev.convQ, Ev.convNew, pz94, ps94, pa94, pz81, ps81, pa81, pz83, ps83, pa83, pz52, ps52, pa52, pz86, ps86, pa86, pz54, ps54, pa54, pz57, ps57, pa57, pz38, ps38, pa38, pz50, ps50, pa50, pz55, ps55, pa55, pz79, ps79, pa79, pz31, ps31, pa31, pz3, ps3, pa3, pz51, ps51, pa51, pz5, ps5, pa5, pz4, ps4, pa4, pz9, ps9, pa9, pt38, pi38, pt50, pi50, pt55, pi55, pt79, pi79, pt3, pt5, pt9, pt31, pt51, pt94, par52, pstr9, pst94, pst54, pst83, pst86, pst57, pst81, Try.underlying94, Try.underlying54, Try.underlying83, Try.underlying86, Try.underlying57, Try.underlying81, Try.underlying52, Try.underlying51, Try.underlying5, Try.underlying9, t1, ha, pi38, oneT_sameP, Try.f113]; rfl) (by rfl) (by simp only [Ev.putD]; rfl) ?_)
    rfl
  show ACode _ _ _ _ _ _ _
  refine ACode.regS noT_ok names_ok mix (t' := ?_) (L' := ?_) [0, 1] (by rfl) ?_ ?_
  rotate_left 2
  · iterate 2 (refine seqE_cons rfl rfl rfl (by simp (config := {decide := false}) [Nat.add_assoc, Go.IntWalk.i64_in, Go.IntWalk.i32_in, Go.IntWalk.u8_in, Go.IntWalk.u64_in, Ev.T.set_set, Ev.seqE, Ev.drawE, Ev.fits, Ev.wantedE, Ev.oneE, Ev.cls, Ev.quiet, Ev.making, Ev.setParts, Ev.rowOf, Ev.loud, Ev.opd, Ev.opds, Ev.optOpd, Ev.pairs, Ev.ofVal_bool, Ev.ofVal_int, Ev.ofVal_str, Ev.ofVal_nils, Ev.ofVal_nilp, Ev.putD, Ev.guardO_true, Ev.guardO_false, Ev.builtinQ, Ev.tget_set, Ev.argsT, Ev.V.beq_refl, Ev.isAnc, Ev.tb, Ev.ble_dec, Ev.blt_dec, Ev.beq_dec, Ev.bne_dec, Ev.idx_nat, Ev.idx_0, Ev.idx_1, Ev.idx_2, Ev.idx_3, Ev.idx_4, Ev.idx_5, Ev.idx_6, Ev.idx_7, Ev.idx_8, Ev.idx_9, Ev.index, Ev.indexAddr, Ev.sliceOp, Ev.bound, Ev.NV.mk, Ev.Heap.load, Ev.Heap.store, Ev.Heap.elem, Ev.T.get_set, Ev.T.get_leaf, Ev.V.cells, Ev.V.scalar, Ev.V.asPtr, Ev.V.asBool, Ev.V.asInt, Ev.V.asStr, Ev.V.asAgg, Ev.V.asTup, Ev.V.asMap, Ev.build, Ev.fillCells, Ev.splice, Ev.over, Ev.takeN, Ev.part, Ev.unV, Ev.binV, Ev.isShift, Ev.binI_add, Ev.binI_sub, Ev.binI_mul, Ev.binI_and, Ev.binI_or, Ev.binI_xor, Ev.binI_eql, Ev.binI_neq, Ev.binI_lss, Ev.binI_leq, Ev.binI_gtr, Ev.binI_geq, Ev.binI_quo, Ev.binI_rem, Ev.shiftI_shl, Ev.shiftI_shr, Ev.isConstO, Ev.fieldAddr, Ev.placeS, Ev.placeA, Ev.goal, Ev.recT, Ev.recheck, Ev.undefV, Ev.convQ, Ev.convNew, pz94, ps94, pa94, pz81, ps81, pa81, pz83, ps83, pa83, pz52, ps52, pa52, pz86, ps86, pa86, pz54, ps54, pa54, pz57, ps57, pa57, pz38, ps38, pa38, pz50, ps50, pa50, pz55, ps55, pa55, pz79, ps79, pa79, pz31, ps31, pa31, pz3, ps3, pa3, pz51, ps51, pa51, pz5, ps5, pa5, pz4, ps4, pa4, pz9, ps9, pa9, pt38, pi38, pt50, pi50, pt55, pi55, pt79, pi79, pt3, pt5, pt9, pt31, pt51, pt94, par52, pstr9, pst94, pst54, pst83, pst86, pst57, pst81, Try.underlying94, Try.underlying54, Try.underlying83, Try.underlying86, Try.underlying57, Try.underlying81, Try.underlying52, Try.underlying51, Try.underlying5, Try.underlying9, t6, hw6, Try.f113]; rfl) (by rfl) (by simp only [Ev.putD]; rfl) ?_)
    rfl
  exact ⟨k - (i + 1), by omega, rfl, i + 1, by omega, rfl, by simp [tget_set, t1], by simp [tget_set, t5], by simp [tget_set], hR3, hK3, by simpa [tget_set] using hO3⟩
end Go.Proofs.Ytpfmoolpeecobaa
