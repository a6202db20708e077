/- Rows of bytes, cut and joined. -/
import Derived.Test.YtpfmoolpeecobaaP14
import Derived.Test.YtpfmoolpeecobaaW2
namespace Go.Proofs.Ytpfmoolpeecobaa
open Go Go.Proofs Go.Proofs.Ytpfmoolpeecobaa.Ev
set_option linter.unusedVariables false
set_option linter.unusedSimpArgs false
set_option maxRecDepth 100000
set_option maxHeartbeats 4000000

theorem Bs.take {c : Nat} {L : Heap} {v : V} {bs : List Int} (h : Bs c L v bs) {j : Nat} (hj : j ≤ bs.length) :
    ∃ v', Ev.sliceOp Try.prog 38 v none (some (.int .i64 (j : Int))) none = some v' ∧ Bs c L v' (bs.take j) := by
  rcases h with ⟨rfl, rfl⟩ | ⟨n, o, cap, q, rfl, hn, hnc, hc, hx⟩
  · simp at hj
    subst hj
    exact ⟨.nils, by simp only [Ev.sliceOp, pt38, ps5, Option.bind_some]; rfl, .inl ⟨rfl, by simp⟩⟩
  · have hl : (bs.take j).length = j := by rw [List.length_take]; omega
    have hg : ∀ (i : Nat) (x : Int), (bs.take j)[i]? = some x → Heap.load Try.prog L 5 n (o + i) = some (.int .u8 x) := by
      intro i x hi
      have hlt := (List.getElem?_eq_some_iff.1 hi).1
      rw [hl] at hlt
      rw [List.getElem?_take_of_lt hlt] at hi
      exact hx i x hi
    cases q with
    | true =>
      have e2 : Nat.blt j (bs.length + 1) = true := by rw [blt_dec]; simp; omega
      refine ⟨.slice n o j cap true, by simp [Ev.sliceOp, pt38, ps5, guardO, Ev.bound, idx_nat, e2], .inr ⟨n, o, cap, true, by rw [hl], hn, hnc, fun h => (by cases h), hg⟩⟩
    | false =>
      have hc := hc rfl
      have e2 : Nat.blt j (cap + 1) = true := by rw [blt_dec]; simp; omega
      refine ⟨.slice n o j cap false, by simp [Ev.sliceOp, pt38, ps5, guardO, Ev.bound, idx_nat, e2], .inr ⟨n, o, cap, false, by rw [hl], hn, hnc, fun _ => by rw [hl]; omega, hg⟩⟩
theorem Bs.src {c : Nat} {L : Heap} {v : V} {bs : List Int} (h : Bs c L v bs) : srcElems L 1 v = some (bs.map u8c) := by
  rcases h with ⟨rfl, rfl⟩ | ⟨n, o, cap, q, rfl, hn, hnc, hc, hx⟩
  · rfl
  · have key : ∀ (k i : Nat), i + k = bs.length → L.elems n (o + i) 1 k = some ((bs.drop i).map u8c) := by
      intro k
      induction k with
      | zero => intro i hi; simp [Heap.elems, List.drop_of_length_le (show bs.length ≤ i by omega)]
      | succ k ih =>
        intro i hi
        have hlt : i < bs.length := by omega
        have hl := hx i bs[i] (by simp [hlt])
        simp only [Heap.load, Option.bind_eq_some_iff] at hl
        obtain ⟨p, hp, hl⟩ := hl
        simp only [Ev.part, pa5, ps5] at hl
        have ht : takeN 1 (p.1.drop p.2) = some [.int .u8 bs[i]] := by
          have h2 : p.1[p.2]? = some (.int .u8 bs[i]) := by simpa using hl
          have hlt2 := (List.getElem?_eq_some_iff.1 h2)
          rw [List.drop_eq_getElem_cons hlt2.1, hlt2.2]
          rfl
        simp only [Heap.elems, hp, Option.bind_some, ht, Option.map_some]
        rw [Nat.add_assoc, ih (i + 1) (by omega), List.drop_eq_getElem_cons hlt]
        rfl
    have := key bs.length 0 (by omega)
    simpa [srcElems] using this
theorem fewS_ok {L : Heap} {c : Nat} {v : V} {bs : List Int} (h : Bs c L v bs) (m : Nat) : ∃ v', ACall Try.prog 29 [v, .int .i64 (m : Int)] L v' L ∧ Bs c L v' (bs.take m) := by
  obtain ⟨v', hs, hb⟩ := h.take (j := min m bs.length) (by omega)
  have htk : bs.take (min m bs.length) = bs.take m := List.take_eq_take_min.symm
  rw [htk] at hb
  have hlen := h.len
  have hmin : ∀ L, Ev.builtinQ Try.prog .min #[3, 3] [.int .i64 (bs.length : Int), .int .i64 (m : Int)] L = some (.int .i64 ((min m bs.length : Nat) : Int)) := by
    intro L
    have : (if (m : Int) < (bs.length : Int) then (m : Int) else (bs.length : Int)) = ((min m bs.length : Nat) : Int) := by split <;> omega
    simp only [Ev.builtinQ, Ev.V.asInt, Ev.minL, Option.bind_some, Option.map_some, this]
  refine ⟨v', ?_, hb⟩
  refine ACall.of_body_same Try.func29 rfl ?_
  refine ACode.seq (ACode.regS noT_ok names_ok mix (t' := ?_) (L' := ?_) [0] (by rfl) ?_ ?_)
  rotate_left 2
  · refine seqE_cons rfl rfl rfl (by simp (config := {decide := false}) [Nat.add_assoc, Go.IntWalk.i64_in, Go.IntWalk.i32_in, Go.IntWalk.u8_in, Go.IntWalk.u64_in, Ev.T.set_set, Ev.seqE, Ev.drawE, Ev.fits, Ev.wantedE, Ev.oneE, Ev.cls, Ev.quiet, Ev.making, Ev.setParts, Ev.rowOf, Ev.loud, Ev.opd, Ev.opds, Ev.optOpd, Ev.pairs, Ev.ofVal_bool, Ev.ofVal_int, Ev.ofVal_str, Ev.ofVal_nils, Ev.ofVal_nilp, Ev.putD, Ev.guardO_true, Ev.guardO_false, Ev.builtinQ, Ev.tget_set, Ev.argsT, Ev.V.beq_refl, Ev.isAnc, Ev.tb, Ev.ble_dec, Ev.blt_dec, Ev.beq_dec, Ev.bne_dec, Ev.idx_nat, Ev.idx_0, Ev.idx_1, Ev.idx_2, Ev.idx_3, Ev.idx_4, Ev.idx_5, Ev.idx_6, Ev.idx_7, Ev.idx_8, Ev.idx_9, Ev.index, Ev.indexAddr, Ev.sliceOp, Ev.bound, Ev.NV.mk, Ev.Heap.load, Ev.Heap.store, Ev.Heap.elem, Ev.T.get_set, Ev.T.get_leaf, Ev.V.cells, Ev.V.scalar, Ev.V.asPtr, Ev.V.asBool, Ev.V.asInt, Ev.V.asStr, Ev.V.asAgg, Ev.V.asTup, Ev.V.asMap, Ev.build, Ev.fillCells, Ev.splice, Ev.over, Ev.takeN, Ev.part, Ev.unV, Ev.binV, Ev.isShift, Ev.binI_add, Ev.binI_sub, Ev.binI_mul, Ev.binI_and, Ev.binI_or, Ev.binI_xor, Ev.binI_eql, Ev.binI_neq, Ev.binI_lss, Ev.binI_leq, Ev.binI_gtr, Ev.binI_geq, Ev.binI_quo, Ev.binI_rem, Ev.shiftI_shl, Ev.shiftI_shr, Ev.isConstO, Ev.fieldAddr, Ev.placeS, Ev.placeA, Ev.goal, Ev.recT, Ev.recheck, Ev.undefV, Ev.convQ, Ev.convNew, pz94, ps94, pa94, pz81, ps81, pa81, pz83, ps83, pa83, pz52, ps52, pa52, pz86, ps86, pa86, pz54, ps54, pa54, pz57, ps57, pa57, pz38, ps38, pa38, pz50, ps50, pa50, pz55, ps55, pa55, pz79, ps79, pa79, pz31, ps31, pa31, pz3, ps3, pa3, pz51, ps51, pa51, pz5, ps5, pa5, pz4, ps4, pa4, pz9, ps9, pa9, pt38, pi38, pt50, pi50, pt55, pi55, pt79, pi79, pt3, pt5, pt9, pt31, pt51, pt94, par52, pstr9, pst94, pst54, pst83, pst86, pst57, pst81, Try.underlying94, Try.underlying54, Try.underlying83, Try.underlying86, Try.underlying57, Try.underlying81, Try.underlying52, Try.underlying51, Try.underlying5, Try.underlying9, Try.f29]; rfl) (by rfl) (by simp only [Ev.putD]; rfl) ?_
    rfl
  refine ACode.seq (ACode.regS noT_ok names_ok mix (t' := ?_) (L' := ?_) [0, 1, 2, 3, 4, 5, 6] (by rfl) ?_ ?_)
  rotate_left 2
  · iterate 7 (refine seqE_cons rfl rfl rfl (by simp (config := {decide := false}) [Nat.add_assoc, Go.IntWalk.i64_in, Go.IntWalk.i32_in, Go.IntWalk.u8_in, Go.IntWalk.u64_in, Ev.T.set_set, Ev.seqE, Ev.drawE, Ev.fits, Ev.wantedE, Ev.oneE, Ev.cls, Ev.quiet, Ev.making, Ev.setParts, Ev.rowOf, Ev.loud, Ev.opd, Ev.opds, Ev.optOpd, Ev.pairs, Ev.ofVal_bool, Ev.ofVal_int, Ev.ofVal_str, Ev.ofVal_nils, Ev.ofVal_nilp, Ev.putD, Ev.guardO_true, Ev.guardO_false, Ev.tget_set, Ev.argsT, Ev.V.beq_refl, Ev.isAnc, Ev.tb, Ev.ble_dec, Ev.blt_dec, Ev.beq_dec, Ev.bne_dec, Ev.idx_nat, Ev.idx_0, Ev.idx_1, Ev.idx_2, Ev.idx_3, Ev.idx_4, Ev.idx_5, Ev.idx_6, Ev.idx_7, Ev.idx_8, Ev.idx_9, Ev.index, Ev.indexAddr, Ev.bound, Ev.NV.mk, Ev.Heap.load, Ev.Heap.store, Ev.Heap.elem, Ev.T.get_set, Ev.T.get_leaf, Ev.V.cells, Ev.V.scalar, Ev.V.asPtr, Ev.V.asBool, Ev.V.asInt, Ev.V.asStr, Ev.V.asAgg, Ev.V.asTup, Ev.V.asMap, Ev.build, Ev.fillCells, Ev.splice, Ev.over, Ev.takeN, Ev.part, Ev.unV, Ev.binV, Ev.isShift, Ev.binI_add, Ev.binI_sub, Ev.binI_mul, Ev.binI_and, Ev.binI_or, Ev.binI_xor, Ev.binI_eql, Ev.binI_neq, Ev.binI_lss, Ev.binI_leq, Ev.binI_gtr, Ev.binI_geq, Ev.binI_quo, Ev.binI_rem, Ev.shiftI_shl, Ev.shiftI_shr, Ev.isConstO, Ev.fieldAddr, Ev.placeS, Ev.placeA, Ev.goal, Ev.recT, Ev.recheck, Ev.undefV, Ev.convQ, Ev.convNew, pz94, ps94, pa94, pz81, ps81, pa81, pz83, ps83, pa83, pz52, ps52, pa52, pz86, ps86, pa86, pz54, ps54, pa54, pz57, ps57, pa57, pz38, ps38, pa38, pz50, ps50, pa50, pz55, ps55, pa55, pz79, ps79, pa79, pz31, ps31, pa31, pz3, ps3, pa3, pz51, ps51, pa51, pz5, ps5, pa5, pz4, ps4, pa4, pz9, ps9, pa9, pt38, pi38, pt50, pi50, pt55, pi55, pt79, pi79, pt3, pt5, pt9, pt31, pt51, pt94, par52, pstr9, pst94, pst54, pst83, pst86, pst57, pst81, Try.underlying94, Try.underlying54, Try.underlying83, Try.underlying86, Try.underlying57, Try.underlying81, Try.underlying52, Try.underlying51, Try.underlying5, Try.underlying9, hlen, hmin, hs, Try.f29]; rfl) (by rfl) (by simp only [Ev.putD]; rfl) ?_)
    rfl
  exact ACode.ret ⟨.inr rfl, [v'], rfl, by simp [Try.f29, resVals, tget_set], rfl⟩

theorem srcs_slP (L : Heap) (bs : List Int) : SlP 6 83 srcF (rowsHP 6 srcF L (suSrcs bs)) (rowsVP L (suSrcs bs)) (suSrcs bs) := rows_slP (z := .nils) ps83 pa83 (by decide) (fun _ => rfl) _
theorem rowsHP_next {α : Type} (sz : Nat) (f : α → List V) (L : Heap) (l : List α) : L.next ≤ (rowsHP sz f L l).next := (rowsHP_keep 0 sz f L l).1
theorem rowsHP_old {α : Type} (sz : Nat) (f : α → List V) (L : Heap) (l : List α) {n : Nat} (hn : n < L.next) : (rowsHP sz f L l).t.get n = L.t.get n := by
  match l with
  | [] => rfl
  | x :: r => exact T.get_set_ne _ _ (by omega)
/-- the events of a script of bytes -/
def scEvs (bs : List Int) : List Evt := (evsP 40 (bs.drop (5 + suN bs))).1
theorem evs_le : ∀ (m : Nat) (bs : List Int), (evsP m bs).1.length ≤ m
  | 0, _ => Nat.le_refl _
  | m + 1, [] => Nat.zero_le _
  | m + 1, b :: t => by
    have := evs_le m ((b :: t).drop (evP (b :: t)).2)
    simp only [evsP, List.length_cons]
    omega
/-- Parse, as the laws use it -/
theorem parse_at {L : Heap} {v : V} {bs : List Int} (h : Bs L.next L v bs) (hr : ∀ x ∈ bs, 0 ≤ x ∧ x ≤ 255) (hlen : bs.length ≤ 1000000) :
    ∃ A sv ev, ACall Try.prog 30 [v] L (.tuple [.agg (scL (suRows bs) (suCols bs) sv (suBits bs % 2) (suBits bs / 2 % 2) (suBits bs / 4 % 2) (suBits bs / 8 % 2) (suBits bs / 16 % 2) (suRing bs) ev), .int .i64 ((min (scN bs) bs.length : Nat) : Int)]) A ∧
      L.next ≤ A.next ∧ (∀ n, n < L.next → A.t.get n = L.t.get n) ∧ SlP 6 83 srcF A sv (suSrcs bs) ∧ SlP 9 86 evF A ev (scEvs bs) := by
  have hp := parse_ok h hr hlen
  have hn : (bs.length : Int) - (((bs.drop (scN bs)).length : Nat) : Int) = ((min (scN bs) bs.length : Nat) : Int) := by rw [List.length_drop]; omega
  rw [hn] at hp
  refine ⟨_, _, _, hp, ?_, ?_, ?_, ?_⟩
  · exact Nat.le_trans (rowsHP_next 6 srcF L _) (rowsHP_next 9 evF _ _)
  · intro n hlt
    have h1 : (scH L bs).t.get n = (rowsHP 6 srcF L (suSrcs bs)).t.get n := rowsHP_old 9 evF _ _ (Nat.lt_of_lt_of_le hlt (rowsHP_next 6 srcF L _))
    rw [h1]
    exact rowsHP_old 6 srcF L _ hlt
  · exact (srcs_slP L bs).keep (rowsHP_next 9 evF _ _) (fun n hlt => rowsHP_old 9 evF _ _ hlt)
  · exact rows_slP (z := .nils) ps86 pa86 (by decide) (fun _ => rfl) _
/-- bytes, as a new row -/
theorem append_new {L : Heap} {m : Nat} {x : V} {new : List Int} (hx : srcElems L 1 x = some (new.map u8c)) (hne : new ≠ []) (hs : new.length ≤ 16777216) :
    Ev.append Try.prog 38 (.slice m 0 0 0 false) x L = some (.slice L.next 0 new.length 0 true, ⟨L.t.set L.next (.cells (rowFrom (new.map u8c) 0) new.length 1 true false), L.next + 1⟩) := by
  have hsm : small (0 + new.length) 1 = true := by simp [small, ble_dec]; omega
  have hb : Nat.ble (0 + new.length) 0 = false := by
    rw [ble_dec]; cases new with
    | nil => exact absurd rfl hne
    | cons a r => simp
  unfold Ev.append
  simp only [pt38, ps5, pb5, pz5, Option.bind_some, hx]
  rw [show (1 != 0 && (V.int IntKind.u8 0).cells.length == 1) = true from rfl]
  simp only [guardO_true, List.length_map, hb, hsm, Heap.elems, Option.map_some, List.nil_append, newOpen]
end Go.Proofs.Ytpfmoolpeecobaa
