/- The parts of a script, to be laid. -/
import Derived.Test.YtpfmoolpeecobaaQ15
namespace Go.Proofs.Ytpfmoolpeecobaa
open Go Go.Proofs Go.Proofs.Ytpfmoolpeecobaa.Ev
set_option linter.unusedVariables false
set_option linter.unusedSimpArgs false
set_option maxRecDepth 100000
set_option maxHeartbeats 4000000

theorem pt107 : tySlice Try.prog 107 = none := by kernel_rfl
section
variable {L : Heap} {W : Nat} {v : V} {bad : Bool} {l : List Int} {sl : Nat} {r c ring g0 g1 g2 g3 g4 : Int} {sv ev : V} {srcs : List SrcG} {evs : List Evt} {ps : List (Int × Int × Int × Int)}
/-- a call of laying$1$1: the setup -/
theorem lay73_ok {S : Nat} (h : Wr L W v bad l sl) (hsl : sl ≤ 1) (hl : l.length ≤ 1000000) (hS : L.t.get S = some (scB (scL r c sv g0 g1 g2 g3 g4 ring ev))) (hSW : S ≠ W) (hSlt : S < L.next)
    (hs : SlP 6 83 srcG L sv srcs) (hap : Ap W v sv) (he : SlP 9 86 evF L ev evs) (hn : srcs.length ≤ 1000) (hps : ps.length ≤ 1000) (hr : -1000 ≤ r ∧ r ≤ 1000) (hc : -1000 ≤ c ∧ c ≤ 1000) (hg : ∀ g ∈ [g0, g1, g2, g3, g4], 0 ≤ g ∧ g ≤ 255)
    (hstr : ∀ B : Heap, ∃ pv B', ACall Try.prog 68 [.int .i64 r, .int .i64 c, .int .i64 (srcs.length : Int)] B pv B' ∧ SlP 4 81 rectV B' pv ps ∧ B.next ≤ B'.next ∧ (∀ n, n < B.next → B'.t.get n = B.t.get n) ∧ ∀ m, nmP pv = some m → B.next ≤ m) :
    ∃ L' v', ACall Try.prog 73 [.ptr W 0, .ptr S 0] L (.tuple []) L' ∧ Wr L' W v' (bad || suBadG r c ring [g0, g1, g2, g3, g4] srcs ps || decide (40 < evs.length)) (l ++ suB r c ring [g0, g1, g2, g3, g4] srcs) 0 ∧ Old W v L L' v' := by
  obtain ⟨A1, v1, c1, w1, o1⟩ := wsetup_ok h hsl hl hs hap hn hps hr hc hg hstr
  have hS1 := o1.at h.row hS hSlt hSW
  generalize hb1 : (bad || suBadG r c ring [g0, g1, g2, g3, g4] srcs ps) = b1 at *
  have w2 := w1.bad (b1 || decide (40 < evs.length))
  refine ⟨_, v1, ?_, w2, o1.trans (Old.put W v1 A1 _)⟩
  have hW1 := w1.cell
  have hcs := w1.row.cells
  have hlen := he.len pt55
  have hst : ∀ b, b = (b1 || decide (40 < evs.length)) → (⟨A1.t.set W (.cells (T.set .leaf 0 [v1, .bool b]) 1 2 false false), A1.next⟩ : Heap) = ⟨A1.t.set W (wB v1 (b1 || decide (40 < evs.length))), A1.next⟩ := fun b e => by rw [e]; rfl
  have hld : Heap.load Try.prog L 54 S 0 = some (.agg (suCs r c sv g0 g1 g2 g3 g4 ring)) := by
    unfold scB scL at hS
    simp [Heap.load, Heap.elem, hS, T.get_set, Ev.part, pa54, ps54, takeN, suCs]
  have hle : Heap.load Try.prog A1 55 S 9 = some ev := by
    unfold scL at hS1
    simp [Heap.load, Heap.elem, hS1, T.get_set, Ev.part, pa55, ps55]
  unfold wB at hW1
  have hlW : Heap.load Try.prog A1 4 W 1 = some (.bool b1) := by simp [Heap.load, Heap.elem, hW1, T.get_set, Ev.part, pa4]
  have hgt : decide ((40 : Int) < (evs.length : Int)) = decide (40 < evs.length) := decide_eq_decide.2 (by omega)
  refine ACall.of_body_same Try.func73 rfl ?_
  refine ACode.seq (ACode.regS (oneT_okP c1) names_ok mix (t' := ?_) (L' := ?_) [0, 1, 2, 3] (by rfl) ?_ ?_)
  rotate_left 2
  · iterate 4 (refine seqE_cons rfl rfl rfl (by simp (config := {decide := false}) [EVT, Ev.seqE, Ev.drawE, Ev.fits, Ev.wantedE, Ev.oneE, Ev.cls, Ev.quiet, Ev.making, Ev.setParts, Ev.rowOf, Ev.loud, Ev.opd, Ev.opds, Ev.optOpd, Ev.pairs, Ev.putD, Ev.builtinQ, Ev.argsT, Ev.isAnc, Ev.index, Ev.indexAddr, Ev.sliceOp, Ev.bound, Ev.NV.mk, Ev.Heap.store, Ev.Heap.elem, Ev.V.cells, Ev.V.scalar, Ev.V.asPtr, Ev.V.asBool, Ev.V.asInt, Ev.V.asStr, Ev.V.asAgg, Ev.V.asTup, Ev.V.asMap, Ev.build, Ev.fillCells, Ev.splice, Ev.over, Ev.takeN, Ev.part, Ev.unV, Ev.binV, Ev.isShift, Ev.isConstO, Ev.fieldAddr, Ev.placeS, Ev.placeA, Ev.goal, Ev.recT, Ev.recR, Ev.recheck, Ev.undefV, Ev.convQ, Ev.convNew, TYA, TYB, hld, oneT_sameP, Try.f73]; rfl) (by rfl) (by simp only [Ev.putD]; rfl) ?_)
    rfl
  cases b1 with
  | true =>
    refine ACode.regS noT_ok names_ok mix (t' := ?_) (L' := ?_) [0, 1, 2, 3, 4, 5, 6, 7, 8, 9, 10, 11, 12, 13] (by rfl) ?_ ?_
    rotate_left 2
    · iterate 6 (refine seqE_cons rfl rfl rfl (by simp (config := {decide := false}) [EVT, Ev.seqE, Ev.drawE, Ev.fits, Ev.wantedE, Ev.oneE, Ev.cls, Ev.quiet, Ev.making, Ev.setParts, Ev.rowOf, Ev.loud, Ev.opd, Ev.opds, Ev.optOpd, Ev.pairs, Ev.putD, Ev.argsT, Ev.isAnc, Ev.index, Ev.indexAddr, Ev.sliceOp, Ev.bound, Ev.NV.mk, Ev.Heap.store, Ev.Heap.elem, Ev.V.cells, Ev.V.scalar, Ev.V.asPtr, Ev.V.asBool, Ev.V.asInt, Ev.V.asStr, Ev.V.asAgg, Ev.V.asTup, Ev.V.asMap, Ev.build, Ev.fillCells, Ev.splice, Ev.over, Ev.takeN, Ev.part, Ev.unV, Ev.binV, Ev.isShift, Ev.isConstO, Ev.fieldAddr, Ev.placeS, Ev.placeA, Ev.goal, Ev.recT, Ev.recR, Ev.recheck, Ev.undefV, Ev.convQ, Ev.convNew, TYA, TYB, hW1, hlW, hcs, Try.f73]; rfl) (by rfl) (by simp only [Ev.putD]; rfl) ?_)
      iterate 4 (refine seqE_skip rfl rfl (by simp [EVT, Ev.seqE, Ev.drawE, Ev.fits, Ev.wantedE, Ev.oneE, Ev.cls, Ev.quiet, Ev.making, Ev.setParts, Ev.rowOf, Ev.loud, Ev.opd, Ev.opds, Ev.optOpd, Ev.pairs, Ev.putD, Ev.argsT, Ev.isAnc, Ev.index, Ev.indexAddr, Ev.sliceOp, Ev.bound, Ev.NV.mk, Ev.Heap.store, Ev.Heap.elem, Ev.V.cells, Ev.V.scalar, Ev.V.asPtr, Ev.V.asBool, Ev.V.asInt, Ev.V.asStr, Ev.V.asAgg, Ev.V.asTup, Ev.V.asMap, Ev.build, Ev.fillCells, Ev.splice, Ev.over, Ev.takeN, Ev.part, Ev.unV, Ev.binV, Ev.isShift, Ev.isConstO, Ev.fieldAddr, Ev.placeS, Ev.placeA, Ev.goal, Ev.recT, Ev.recR, Ev.recheck, Ev.undefV, Ev.convQ, Ev.convNew, TYA, TYB, hW1, hlW, hcs, Try.f73]) (by simp only [Ev.putD]; rfl) ?_)
      iterate 4 (refine seqE_cons rfl rfl rfl (by simp (config := {decide := false}) [EVT, Ev.seqE, Ev.drawE, Ev.fits, Ev.wantedE, Ev.oneE, Ev.cls, Ev.quiet, Ev.making, Ev.setParts, Ev.rowOf, Ev.loud, Ev.opd, Ev.opds, Ev.optOpd, Ev.pairs, Ev.putD, Ev.argsT, Ev.isAnc, Ev.index, Ev.indexAddr, Ev.sliceOp, Ev.bound, Ev.NV.mk, Ev.Heap.store, Ev.Heap.elem, Ev.V.cells, Ev.V.scalar, Ev.V.asPtr, Ev.V.asBool, Ev.V.asInt, Ev.V.asStr, Ev.V.asAgg, Ev.V.asTup, Ev.V.asMap, Ev.build, Ev.fillCells, Ev.splice, Ev.over, Ev.takeN, Ev.part, Ev.unV, Ev.binV, Ev.isShift, Ev.isConstO, Ev.fieldAddr, Ev.placeS, Ev.placeA, Ev.goal, Ev.recT, Ev.recR, Ev.recheck, Ev.undefV, Ev.convQ, Ev.convNew, TYA, TYB, hW1, hlW, hcs, Try.f73]; rfl) (by rfl) (by simp only [Ev.putD]; rfl) ?_)
      rfl
    exact ⟨.inl rfl, [], by rw [hst true rfl]; rfl, by simp [Try.f73, resVals], rfl⟩
  | false =>
    refine ACode.regS noT_ok names_ok mix (t' := ?_) (L' := ?_) [0, 1, 2, 3, 4, 5, 6, 7, 8, 9, 10, 11, 12, 13] (by rfl) ?_ ?_
    rotate_left 2
    · iterate 6 (refine seqE_cons rfl rfl rfl (by simp (config := {decide := false}) [EVT, Ev.seqE, Ev.drawE, Ev.fits, Ev.wantedE, Ev.oneE, Ev.cls, Ev.quiet, Ev.making, Ev.setParts, Ev.rowOf, Ev.loud, Ev.opd, Ev.opds, Ev.optOpd, Ev.pairs, Ev.putD, Ev.argsT, Ev.isAnc, Ev.index, Ev.indexAddr, Ev.sliceOp, Ev.bound, Ev.NV.mk, Ev.Heap.store, Ev.Heap.elem, Ev.V.cells, Ev.V.scalar, Ev.V.asPtr, Ev.V.asBool, Ev.V.asInt, Ev.V.asStr, Ev.V.asAgg, Ev.V.asTup, Ev.V.asMap, Ev.build, Ev.fillCells, Ev.splice, Ev.over, Ev.takeN, Ev.part, Ev.unV, Ev.binV, Ev.isShift, Ev.isConstO, Ev.fieldAddr, Ev.placeS, Ev.placeA, Ev.goal, Ev.recT, Ev.recR, Ev.recheck, Ev.undefV, Ev.convQ, Ev.convNew, TYA, TYB, hW1, hlW, hle, hlen, hcs, Try.f73]; rfl) (by rfl) (by simp only [Ev.putD]; rfl) ?_)
      iterate 4 (refine seqE_cons rfl rfl (by simp [EVT, Ev.seqE, Ev.drawE, Ev.fits, Ev.wantedE, Ev.oneE, Ev.cls, Ev.quiet, Ev.making, Ev.setParts, Ev.rowOf, Ev.loud, Ev.opd, Ev.opds, Ev.optOpd, Ev.pairs, Ev.putD, Ev.argsT, Ev.isAnc, Ev.index, Ev.indexAddr, Ev.sliceOp, Ev.bound, Ev.NV.mk, Ev.Heap.store, Ev.Heap.elem, Ev.V.cells, Ev.V.scalar, Ev.V.asPtr, Ev.V.asBool, Ev.V.asInt, Ev.V.asStr, Ev.V.asAgg, Ev.V.asTup, Ev.V.asMap, Ev.build, Ev.fillCells, Ev.splice, Ev.over, Ev.takeN, Ev.part, Ev.unV, Ev.binV, Ev.isShift, Ev.isConstO, Ev.fieldAddr, Ev.placeS, Ev.placeA, Ev.goal, Ev.recT, Ev.recR, Ev.recheck, Ev.undefV, Ev.convQ, Ev.convNew, TYA, TYB, hW1, hlW, hle, hlen, hcs, Try.f73]) (by simp (config := {decide := false}) [EVT, Ev.seqE, Ev.drawE, Ev.fits, Ev.wantedE, Ev.oneE, Ev.cls, Ev.quiet, Ev.making, Ev.setParts, Ev.rowOf, Ev.loud, Ev.opd, Ev.opds, Ev.optOpd, Ev.pairs, Ev.putD, Ev.argsT, Ev.isAnc, Ev.index, Ev.indexAddr, Ev.sliceOp, Ev.bound, Ev.NV.mk, Ev.Heap.store, Ev.Heap.elem, Ev.V.cells, Ev.V.scalar, Ev.V.asPtr, Ev.V.asBool, Ev.V.asInt, Ev.V.asStr, Ev.V.asAgg, Ev.V.asTup, Ev.V.asMap, Ev.build, Ev.fillCells, Ev.splice, Ev.over, Ev.takeN, Ev.part, Ev.unV, Ev.binV, Ev.isShift, Ev.isConstO, Ev.fieldAddr, Ev.placeS, Ev.placeA, Ev.goal, Ev.recT, Ev.recR, Ev.recheck, Ev.undefV, Ev.convQ, Ev.convNew, TYA, TYB, hW1, hlW, hle, hlen, hcs, Try.f73]; rfl) (by rfl) (by simp only [Ev.putD]; rfl) ?_)
      iterate 4 (refine seqE_cons rfl rfl rfl (by simp (config := {decide := false}) [EVT, Ev.seqE, Ev.drawE, Ev.fits, Ev.wantedE, Ev.oneE, Ev.cls, Ev.quiet, Ev.making, Ev.setParts, Ev.rowOf, Ev.loud, Ev.opd, Ev.opds, Ev.optOpd, Ev.pairs, Ev.putD, Ev.argsT, Ev.isAnc, Ev.index, Ev.indexAddr, Ev.sliceOp, Ev.bound, Ev.NV.mk, Ev.Heap.store, Ev.Heap.elem, Ev.V.cells, Ev.V.scalar, Ev.V.asPtr, Ev.V.asBool, Ev.V.asInt, Ev.V.asStr, Ev.V.asAgg, Ev.V.asTup, Ev.V.asMap, Ev.build, Ev.fillCells, Ev.splice, Ev.over, Ev.takeN, Ev.part, Ev.unV, Ev.binV, Ev.isShift, Ev.isConstO, Ev.fieldAddr, Ev.placeS, Ev.placeA, Ev.goal, Ev.recT, Ev.recR, Ev.recheck, Ev.undefV, Ev.convQ, Ev.convNew, TYA, TYB, hW1, hlW, hle, hlen, hcs, Try.f73]; rfl) (by rfl) (by simp only [Ev.putD]; rfl) ?_)
      rfl
    exact ⟨.inl rfl, [], by rw [hst _ (by simpa using hgt)]; rfl, by simp [Try.f73, resVals], rfl⟩
/-- of laying$1$2: an event -/
theorem lay75_ok {X : Nat} {e : Evt} (h : Wr L W v bad l sl) (hsl : sl ≤ 1) (hl : l.length ≤ 1000000) (hX : L.t.get X = some (evB (evF e))) (hr : EvR e) :
    ∃ L' v' sl', ACall Try.prog 75 [.ptr W 0, .ptr X 0] L (.tuple []) L' ∧ Wr L' W v' (bad || wBad e) (l ++ wBytes e) sl' ∧ sl' ≤ 1 ∧ Old W v L L' v' := by
  obtain ⟨L', v', sl', c1, w1, s1, o1⟩ := wevent_ok h hsl hr hl
  refine ⟨L', v', sl', ?_, w1, s1, o1⟩
  have hld : Heap.load Try.prog L 86 X 0 = some (.agg (evF e)) := by
    unfold evB evF at hX
    simp [Heap.load, Heap.elem, hX, T.get_set, Ev.part, pa86, ps86, takeN, evF]
  refine ACall.of_body_same Try.func75 rfl ?_
  refine ACode.regS (oneT_okP c1) names_ok mix (t' := ?_) (L' := ?_) [0, 1, 2] (by rfl) ?_ ?_
  rotate_left 2
  · iterate 3 (refine seqE_cons rfl rfl rfl (by simp (config := {decide := false}) [EVT, Ev.seqE, Ev.drawE, Ev.fits, Ev.wantedE, Ev.oneE, Ev.cls, Ev.quiet, Ev.making, Ev.setParts, Ev.rowOf, Ev.loud, Ev.opd, Ev.opds, Ev.optOpd, Ev.pairs, Ev.putD, Ev.builtinQ, Ev.argsT, Ev.isAnc, Ev.index, Ev.indexAddr, Ev.sliceOp, Ev.bound, Ev.NV.mk, Ev.Heap.store, Ev.Heap.elem, Ev.V.cells, Ev.V.scalar, Ev.V.asPtr, Ev.V.asBool, Ev.V.asInt, Ev.V.asStr, Ev.V.asAgg, Ev.V.asTup, Ev.V.asMap, Ev.build, Ev.fillCells, Ev.splice, Ev.over, Ev.takeN, Ev.part, Ev.unV, Ev.binV, Ev.isShift, Ev.isConstO, Ev.fieldAddr, Ev.placeS, Ev.placeA, Ev.goal, Ev.recT, Ev.recR, Ev.recheck, Ev.undefV, Ev.convQ, Ev.convNew, TYA, TYB, hld, oneT_sameP, Try.f75]; rfl) (by rfl) (by simp only [Ev.putD]; rfl) ?_)
    rfl
  exact ⟨.inl rfl, [], rfl, by simp [Try.f75, resVals], rfl⟩
theorem ofVal_nilf : Ev.ofVal .nilFunc = some .nilf := rfl
theorem laying_ok (L : Heap) (cs : List V) (hcs : cs.length = 10) : ACall Try.prog 50 [.agg cs] L (.func 72 [] [.ptr L.next 0]) ⟨L.t.set L.next (scB cs), L.next + 1⟩ := by
  have hb : scB cs = .cells (T.set .leaf 0 cs) 1 cs.length false false := by rw [hcs]; rfl
  rw [hb]
  refine ACall.of_body_same Try.func50 rfl ?_
  refine ACode.seq (ACode.regS noT_ok names_ok mix (t' := ?_) (L' := ?_) [0, 1] (by rfl) ?_ ?_)
  rotate_left 2
  · iterate 2 (refine seqE_cons rfl rfl rfl (by simp (config := {decide := false}) [EVT, Ev.seqE, Ev.drawE, Ev.fits, Ev.wantedE, Ev.oneE, Ev.cls, Ev.quiet, Ev.making, Ev.setParts, Ev.rowOf, Ev.loud, Ev.opd, Ev.opds, Ev.optOpd, Ev.pairs, Ev.putD, Ev.builtinQ, Ev.argsT, Ev.isAnc, Ev.index, Ev.indexAddr, Ev.sliceOp, Ev.bound, Ev.NV.mk, Ev.Heap.load, Ev.Heap.store, Ev.Heap.elem, Ev.V.cells, Ev.V.scalar, Ev.V.asPtr, Ev.V.asBool, Ev.V.asInt, Ev.V.asStr, Ev.V.asAgg, Ev.V.asTup, Ev.V.asMap, Ev.build, Ev.fillCells, Ev.splice, Ev.over, Ev.takeN, Ev.part, Ev.unV, Ev.binV, Ev.isShift, Ev.isConstO, Ev.fieldAddr, Ev.placeS, Ev.placeA, Ev.goal, Ev.recT, Ev.recR, Ev.recheck, Ev.undefV, Ev.convQ, Ev.convNew, TYA, TYB, ofVal_nilf, Try.f50]; rfl) (by rfl) (by simp only [Ev.putD]; rfl) ?_)
    rfl
  refine ACode.seq (ACode.regS noT_ok names_ok mix (t' := ?_) (L' := ?_) [0, 1] (by rfl) ?_ ?_)
  rotate_left 2
  · iterate 2 (refine seqE_cons rfl rfl rfl (by simp (config := {decide := false}) [EVT, Ev.seqE, Ev.drawE, Ev.fits, Ev.wantedE, Ev.oneE, Ev.cls, Ev.quiet, Ev.making, Ev.setParts, Ev.rowOf, Ev.loud, Ev.opd, Ev.opds, Ev.optOpd, Ev.pairs, Ev.putD, Ev.builtinQ, Ev.argsT, Ev.isAnc, Ev.index, Ev.indexAddr, Ev.sliceOp, Ev.bound, Ev.NV.mk, Ev.Heap.load, Ev.Heap.store, Ev.Heap.elem, Ev.V.cells, Ev.V.scalar, Ev.V.asPtr, Ev.V.asBool, Ev.V.asInt, Ev.V.asStr, Ev.V.asAgg, Ev.V.asTup, Ev.V.asMap, Ev.build, Ev.fillCells, Ev.splice, Ev.over, Ev.takeN, Ev.part, Ev.unV, Ev.binV, Ev.isShift, Ev.isConstO, Ev.fieldAddr, Ev.placeS, Ev.placeA, Ev.goal, Ev.recT, Ev.recR, Ev.recheck, Ev.undefV, Ev.convQ, Ev.convNew, TYA, TYB, Try.f50]; rfl) (by rfl) (by simp only [Ev.putD]; rfl) ?_)
    rfl
  exact ACode.ret ⟨.inr rfl, [_], rfl, by simp [Try.f50, resVals, tget_set], rfl⟩
end
end Go.Proofs.Ytpfmoolpeecobaa
