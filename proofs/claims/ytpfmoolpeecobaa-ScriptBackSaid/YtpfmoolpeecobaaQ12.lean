/- An event that is laid. -/
import Derived.Test.YtpfmoolpeecobaaQ11
namespace Go.Proofs.Ytpfmoolpeecobaa
open Go Go.Proofs Go.Proofs.Ytpfmoolpeecobaa.Ev
set_option linter.unusedVariables false
set_option linter.unusedSimpArgs false
set_option maxRecDepth 100000
set_option maxHeartbeats 4000000

/-- what is laid behind an event's first byte -/
def wTail (e : Evt) : List Int :=
  if e.k = 3 then lowB e.lv :: lowB e.t.length :: natI e.t
  else if e.k = 0 ∨ e.k = 4 then lowB e.t.length :: natI e.t
  else if e.k = 5 then [lowB e.r1, lowB e.r2, lowB e.r3, lowB e.r4]
  else if e.k = 6 then [lowB e.r3, lowB e.r4]
  else if e.k = 7 then [lowB e.w]
  else []
def wBytes (e : Evt) : List Int := lowB (e.k + 9 * e.s) :: wTail e
/-- an event's own parts -/
def wOwn (e : Evt) : Evt :=
  if e.k = 3 then ⟨e.k, e.s, e.t, e.lv, 0, 0, 0, 0, 0⟩
  else if e.k = 0 ∨ e.k = 4 then ⟨e.k, e.s, e.t, 0, 0, 0, 0, 0, 0⟩
  else if e.k = 5 then ⟨e.k, e.s, [], 0, e.r1, e.r2, e.r3, e.r4, 0⟩
  else if e.k = 6 then ⟨e.k, e.s, [], 0, 0, 0, e.r3, e.r4, 0⟩
  else if e.k = 7 then ⟨e.k, e.s, [], 0, 0, 0, 0, 0, e.w⟩
  else ⟨e.k, e.s, [], 0, 0, 0, 0, 0, 0⟩
def out (m n : Int) : Bool := decide (n < 0) || decide (m ≤ n)
def wBad (e : Evt) : Bool :=
  out 9 e.k || out 5 e.s ||
    (if e.k = 3 then out 3 e.lv || out 64 e.t.length
     else if e.k = 0 ∨ e.k = 4 then out 64 e.t.length
     else if e.k = 5 then out 16 e.r1 || out 48 e.r2 || out 16 e.r3 || out 48 e.r4
     else if e.k = 6 then out 16 e.r3 || out 48 e.r4
     else if e.k = 7 then out 8 e.w
     else false) || decide (wOwn e ≠ e)
structure EvR (e : Evt) : Prop where
  k : -1000 ≤ e.k ∧ e.k ≤ 1000
  s : -1000 ≤ e.s ∧ e.s ≤ 1000
  lv : 0 ≤ e.lv ∧ e.lv ≤ 255
  t : e.t.length ≤ 1000
theorem or_same {a b c : Bool} (h : b = c) : (a || b) = (a || c) := by rw [h]
section
variable {L : Heap} {W : Nat} {v : V} {bad : Bool} {l : List Int} {sl : Nat} {e : Evt}
theorem wevent_k3 (h : Wr L W v bad l sl) (hsl : sl ≤ 1) (hr : EvR e) (hl : l.length ≤ 1000000) (hk : e.k = 3) :
    ∃ L' v' sl', ACall Try.prog 76 [.ptr W 0, .agg (evF e)] L (.tuple []) L' ∧ Wr L' W v' (bad || wBad e) (l ++ wBytes e) sl' ∧ sl' ≤ 1 ∧ Old W v L L' v' := by
  obtain ⟨A, v1, E, O, hES, hpre⟩ := wevent_pre h hsl e hr.k hr.s hl
  obtain ⟨f00, f01, f02, f03, f04, f05, f06, f07, f08⟩ := ld86 hES.ev
  obtain ⟨A1, v2, s1, h1⟩ := wpaste_ok hES hr.lv (by simp; omega)
  obtain ⟨A2, v3, s2, h2⟩ := wtext_ok h1 (by omega) (by simp; omega) hr.t
  refine ⟨⟨A2.t.set W (wB v3 (bad || decide (e.k < 0) || decide (9 ≤ e.k) || decide (e.s < 0) || decide (5 ≤ e.s) || decide (e.lv < 0) || decide (3 ≤ e.lv) || decide ((e.t.length : Int) < 0) || decide (64 ≤ (e.t.length : Int)) || decide ((⟨e.k, e.s, e.t, e.lv, 0, 0, 0, 0, 0⟩ : Evt) ≠ e))), A2.next⟩, v3, 0, hpre _ ?_, ?_, by omega, h2.old.trans (Old.put _ _ _ _)⟩
  rotate_left 1
  ·
    rw [show (bad || wBad e) = (bad || decide (e.k < 0) || decide (9 ≤ e.k) || decide (e.s < 0) || decide (5 ≤ e.s) || decide (e.lv < 0) || decide (3 ≤ e.lv) || decide ((e.t.length : Int) < 0) || decide (64 ≤ (e.t.length : Int)) || decide (wOwn e ≠ e)) from by simp [wBad, out, hk, Bool.or_assoc], show l ++ wBytes e = l ++ [lowB (e.k + 9 * e.s)] ++ [lowB e.lv] ++ [lowB (e.t.length : Int)] ++ natI e.t from by simp [wBytes, wTail, hk], show wOwn e = ⟨e.k, e.s, e.t, e.lv, 0, 0, 0, 0, 0⟩ from by simp [wOwn, hk]]
    exact h2.wr.bad _
  intro t t0 t3 t4
  show ACode _ _ (Code.seq (Code.seq (Code.region _ _ _) _) _) _ _ _ _
  refine ACode.seq ?_
  refine ACode.seq (ACode.regS noT_ok names_ok mix (t' := ?_) (L' := ?_) [0, 1] (by rfl) ?_ ?_)
  rotate_left 2
  · iterate 2 (refine seqE_cons rfl rfl rfl (by simp (config := {decide := false}) [EVT, Ev.seqE, Ev.drawE, Ev.fits, Ev.wantedE, Ev.oneE, Ev.cls, Ev.quiet, Ev.making, Ev.setParts, Ev.rowOf, Ev.loud, Ev.opd, Ev.opds, Ev.optOpd, Ev.pairs, Ev.putD, Ev.builtinQ, Ev.argsT, Ev.isAnc, Ev.index, Ev.indexAddr, Ev.sliceOp, Ev.bound, Ev.NV.mk, Ev.Heap.store, Ev.Heap.elem, Ev.V.cells, Ev.V.scalar, Ev.V.asPtr, Ev.V.asBool, Ev.V.asInt, Ev.V.asStr, Ev.V.asAgg, Ev.V.asTup, Ev.V.asMap, Ev.build, Ev.fillCells, Ev.splice, Ev.over, Ev.takeN, Ev.part, Ev.unV, Ev.binV, Ev.isShift, Ev.isConstO, Ev.fieldAddr, Ev.placeS, Ev.placeA, Ev.goal, Ev.recT, Ev.recR, Ev.recheck, Ev.undefV, Ev.convQ, Ev.convNew, TYA, TYB, t0, t3, t4, f00, hk, Try.f76]; rfl) (by rfl) (by simp only [Ev.putD]; rfl) ?_)
    rfl
  refine ACode.block (ACode.seq (ACode.block (ACode.seq (ACode.block (ACode.seq (ACode.block (ACode.seq (ACode.block (ACode.seq (ACode.block (ACode.seq (ACode.seq ?_))))))))))))
  refine ACode.seq (ACode.regS noT_ok names_ok mix (t' := ?_) (L' := ?_) [0, 1] (by rfl) ?_ ?_)
  rotate_left 2
  · iterate 2 (refine seqE_cons rfl rfl rfl (by simp (config := {decide := false}) [EVT, Ev.seqE, Ev.drawE, Ev.fits, Ev.wantedE, Ev.oneE, Ev.cls, Ev.quiet, Ev.making, Ev.setParts, Ev.rowOf, Ev.loud, Ev.opd, Ev.opds, Ev.optOpd, Ev.pairs, Ev.putD, Ev.builtinQ, Ev.argsT, Ev.isAnc, Ev.index, Ev.indexAddr, Ev.sliceOp, Ev.bound, Ev.NV.mk, Ev.Heap.store, Ev.Heap.elem, Ev.V.cells, Ev.V.scalar, Ev.V.asPtr, Ev.V.asBool, Ev.V.asInt, Ev.V.asStr, Ev.V.asAgg, Ev.V.asTup, Ev.V.asMap, Ev.build, Ev.fillCells, Ev.splice, Ev.over, Ev.takeN, Ev.part, Ev.unV, Ev.binV, Ev.isShift, Ev.isConstO, Ev.fieldAddr, Ev.placeS, Ev.placeA, Ev.goal, Ev.recT, Ev.recR, Ev.recheck, Ev.undefV, Ev.convQ, Ev.convNew, TYA, TYB, t0, t3, t4, f00, hk, Try.f76]; rfl) (by rfl) (by simp only [Ev.putD]; rfl) ?_)
    rfl
  refine ACode.condT (by simp [tget_set, opd]) (ACode.exit ?_)
  show ACode _ _ cPaste _ _ _ _
  refine (s1 _ (by simp [tget_set, t0]) (by simp [tget_set, t3]) (by simp [tget_set, t4])).mono ?_
  clear t0 t3 t4
  rintro x t' d' A' ⟨rfl, rfl, rfl, t0, t3, t4⟩
  show ACode _ _ (Code.seq cText (Code.exit 0)) _ _ _ _
  refine ACode.seq ((s2 _ (by simp [tget_set, t0]) (by simp [tget_set, t3]) (by simp [tget_set, t4])).mono ?_)
  clear t0 t3 t4
  rintro x t' d' A' ⟨rfl, rfl, rfl, t0, t3, t4⟩
  refine ACode.exit ?_
  show ACode _ _ (cSnd sfx76) _ _ _ _
  exact wevent_end h2 _ (by simp [tget_set, t0]) (by simp [tget_set, t3]) (by simp [tget_set, t4])
theorem wevent_k0 (h : Wr L W v bad l sl) (hsl : sl ≤ 1) (hr : EvR e) (hl : l.length ≤ 1000000) (hk : e.k = 0) :
    ∃ L' v' sl', ACall Try.prog 76 [.ptr W 0, .agg (evF e)] L (.tuple []) L' ∧ Wr L' W v' (bad || wBad e) (l ++ wBytes e) sl' ∧ sl' ≤ 1 ∧ Old W v L L' v' := by
  obtain ⟨A, v1, E, O, hES, hpre⟩ := wevent_pre h hsl e hr.k hr.s hl
  obtain ⟨f00, f01, f02, f03, f04, f05, f06, f07, f08⟩ := ld86 hES.ev
  obtain ⟨A1, v2, s1, h1⟩ := wtext_ok hES (by omega) (by simp; omega) hr.t
  refine ⟨⟨A1.t.set W (wB v2 (bad || decide (e.k < 0) || decide (9 ≤ e.k) || decide (e.s < 0) || decide (5 ≤ e.s) || decide ((e.t.length : Int) < 0) || decide (64 ≤ (e.t.length : Int)) || decide ((⟨e.k, e.s, e.t, 0, 0, 0, 0, 0, 0⟩ : Evt) ≠ e))), A1.next⟩, v2, 0, hpre _ ?_, ?_, by omega, h1.old.trans (Old.put _ _ _ _)⟩
  rotate_left 1
  ·
    rw [show (bad || wBad e) = (bad || decide (e.k < 0) || decide (9 ≤ e.k) || decide (e.s < 0) || decide (5 ≤ e.s) || decide ((e.t.length : Int) < 0) || decide (64 ≤ (e.t.length : Int)) || decide (wOwn e ≠ e)) from by simp [wBad, out, hk, Bool.or_assoc], show l ++ wBytes e = l ++ [lowB (e.k + 9 * e.s)] ++ [lowB (e.t.length : Int)] ++ natI e.t from by simp [wBytes, wTail, hk], show wOwn e = ⟨e.k, e.s, e.t, 0, 0, 0, 0, 0, 0⟩ from by simp [wOwn, hk]]
    exact h1.wr.bad _
  intro t t0 t3 t4
  show ACode _ _ (Code.seq (Code.seq (Code.region _ _ _) _) _) _ _ _ _
  refine ACode.seq ?_
  refine ACode.seq (ACode.regS noT_ok names_ok mix (t' := ?_) (L' := ?_) [0, 1] (by rfl) ?_ ?_)
  rotate_left 2
  · iterate 2 (refine seqE_cons rfl rfl rfl (by simp (config := {decide := false}) [EVT, Ev.seqE, Ev.drawE, Ev.fits, Ev.wantedE, Ev.oneE, Ev.cls, Ev.quiet, Ev.making, Ev.setParts, Ev.rowOf, Ev.loud, Ev.opd, Ev.opds, Ev.optOpd, Ev.pairs, Ev.putD, Ev.builtinQ, Ev.argsT, Ev.isAnc, Ev.index, Ev.indexAddr, Ev.sliceOp, Ev.bound, Ev.NV.mk, Ev.Heap.store, Ev.Heap.elem, Ev.V.cells, Ev.V.scalar, Ev.V.asPtr, Ev.V.asBool, Ev.V.asInt, Ev.V.asStr, Ev.V.asAgg, Ev.V.asTup, Ev.V.asMap, Ev.build, Ev.fillCells, Ev.splice, Ev.over, Ev.takeN, Ev.part, Ev.unV, Ev.binV, Ev.isShift, Ev.isConstO, Ev.fieldAddr, Ev.placeS, Ev.placeA, Ev.goal, Ev.recT, Ev.recR, Ev.recheck, Ev.undefV, Ev.convQ, Ev.convNew, TYA, TYB, t0, t3, t4, f00, hk, Try.f76]; rfl) (by rfl) (by simp only [Ev.putD]; rfl) ?_)
    rfl
  refine ACode.block (ACode.seq (ACode.block (ACode.seq (ACode.block (ACode.seq (ACode.block (ACode.seq (ACode.block (ACode.seq (ACode.block (ACode.seq (ACode.seq ?_))))))))))))
  refine ACode.seq (ACode.regS noT_ok names_ok mix (t' := ?_) (L' := ?_) [0, 1] (by rfl) ?_ ?_)
  rotate_left 2
  · iterate 2 (refine seqE_cons rfl rfl rfl (by simp (config := {decide := false}) [EVT, Ev.seqE, Ev.drawE, Ev.fits, Ev.wantedE, Ev.oneE, Ev.cls, Ev.quiet, Ev.making, Ev.setParts, Ev.rowOf, Ev.loud, Ev.opd, Ev.opds, Ev.optOpd, Ev.pairs, Ev.putD, Ev.builtinQ, Ev.argsT, Ev.isAnc, Ev.index, Ev.indexAddr, Ev.sliceOp, Ev.bound, Ev.NV.mk, Ev.Heap.store, Ev.Heap.elem, Ev.V.cells, Ev.V.scalar, Ev.V.asPtr, Ev.V.asBool, Ev.V.asInt, Ev.V.asStr, Ev.V.asAgg, Ev.V.asTup, Ev.V.asMap, Ev.build, Ev.fillCells, Ev.splice, Ev.over, Ev.takeN, Ev.part, Ev.unV, Ev.binV, Ev.isShift, Ev.isConstO, Ev.fieldAddr, Ev.placeS, Ev.placeA, Ev.goal, Ev.recT, Ev.recR, Ev.recheck, Ev.undefV, Ev.convQ, Ev.convNew, TYA, TYB, t0, t3, t4, f00, hk, Try.f76]; rfl) (by rfl) (by simp only [Ev.putD]; rfl) ?_)
    rfl
  refine ACode.condF (by simp [tget_set, opd]) (ACode.skip ?_)
  show ACode _ _ _ _ _ _ _
  refine ACode.seq (ACode.seq ?_)
  refine ACode.seq (ACode.regS noT_ok names_ok mix (t' := ?_) (L' := ?_) [0, 1] (by rfl) ?_ ?_)
  rotate_left 2
  · iterate 2 (refine seqE_cons rfl rfl rfl (by simp (config := {decide := false}) [EVT, Ev.seqE, Ev.drawE, Ev.fits, Ev.wantedE, Ev.oneE, Ev.cls, Ev.quiet, Ev.making, Ev.setParts, Ev.rowOf, Ev.loud, Ev.opd, Ev.opds, Ev.optOpd, Ev.pairs, Ev.putD, Ev.builtinQ, Ev.argsT, Ev.isAnc, Ev.index, Ev.indexAddr, Ev.sliceOp, Ev.bound, Ev.NV.mk, Ev.Heap.store, Ev.Heap.elem, Ev.V.cells, Ev.V.scalar, Ev.V.asPtr, Ev.V.asBool, Ev.V.asInt, Ev.V.asStr, Ev.V.asAgg, Ev.V.asTup, Ev.V.asMap, Ev.build, Ev.fillCells, Ev.splice, Ev.over, Ev.takeN, Ev.part, Ev.unV, Ev.binV, Ev.isShift, Ev.isConstO, Ev.fieldAddr, Ev.placeS, Ev.placeA, Ev.goal, Ev.recT, Ev.recR, Ev.recheck, Ev.undefV, Ev.convQ, Ev.convNew, TYA, TYB, t0, t3, t4, f00, hk, Try.f76]; rfl) (by rfl) (by simp only [Ev.putD]; rfl) ?_)
    rfl
  refine ACode.condT (by simp [tget_set, opd]) (ACode.skip ?_)
  show ACode _ _ _ _ _ _ _
  refine ACode.condT (by simp [tget_set, opd]) (ACode.exit ?_)
  show ACode _ _ (Code.seq cText (Code.exit 0)) _ _ _ _
  refine ACode.seq ((s1 _ (by simp [tget_set, t0]) (by simp [tget_set, t3]) (by simp [tget_set, t4])).mono ?_)
  clear t0 t3 t4
  rintro x t' d' A' ⟨rfl, rfl, rfl, t0, t3, t4⟩
  refine ACode.exit ?_
  show ACode _ _ (cSnd sfx76) _ _ _ _
  exact wevent_end h1 _ (by simp [tget_set, t0]) (by simp [tget_set, t3]) (by simp [tget_set, t4])
theorem wevent_k4 (h : Wr L W v bad l sl) (hsl : sl ≤ 1) (hr : EvR e) (hl : l.length ≤ 1000000) (hk : e.k = 4) :
    ∃ L' v' sl', ACall Try.prog 76 [.ptr W 0, .agg (evF e)] L (.tuple []) L' ∧ Wr L' W v' (bad || wBad e) (l ++ wBytes e) sl' ∧ sl' ≤ 1 ∧ Old W v L L' v' := by
  obtain ⟨A, v1, E, O, hES, hpre⟩ := wevent_pre h hsl e hr.k hr.s hl
  obtain ⟨f00, f01, f02, f03, f04, f05, f06, f07, f08⟩ := ld86 hES.ev
  obtain ⟨A1, v2, s1, h1⟩ := wtext_ok hES (by omega) (by simp; omega) hr.t
  refine ⟨⟨A1.t.set W (wB v2 (bad || decide (e.k < 0) || decide (9 ≤ e.k) || decide (e.s < 0) || decide (5 ≤ e.s) || decide ((e.t.length : Int) < 0) || decide (64 ≤ (e.t.length : Int)) || decide ((⟨e.k, e.s, e.t, 0, 0, 0, 0, 0, 0⟩ : Evt) ≠ e))), A1.next⟩, v2, 0, hpre _ ?_, ?_, by omega, h1.old.trans (Old.put _ _ _ _)⟩
  rotate_left 1
  ·
    rw [show (bad || wBad e) = (bad || decide (e.k < 0) || decide (9 ≤ e.k) || decide (e.s < 0) || decide (5 ≤ e.s) || decide ((e.t.length : Int) < 0) || decide (64 ≤ (e.t.length : Int)) || decide (wOwn e ≠ e)) from by simp [wBad, out, hk, Bool.or_assoc], show l ++ wBytes e = l ++ [lowB (e.k + 9 * e.s)] ++ [lowB (e.t.length : Int)] ++ natI e.t from by simp [wBytes, wTail, hk], show wOwn e = ⟨e.k, e.s, e.t, 0, 0, 0, 0, 0, 0⟩ from by simp [wOwn, hk]]
    exact h1.wr.bad _
  intro t t0 t3 t4
  show ACode _ _ (Code.seq (Code.seq (Code.region _ _ _) _) _) _ _ _ _
  refine ACode.seq ?_
  refine ACode.seq (ACode.regS noT_ok names_ok mix (t' := ?_) (L' := ?_) [0, 1] (by rfl) ?_ ?_)
  rotate_left 2
  · iterate 2 (refine seqE_cons rfl rfl rfl (by simp (config := {decide := false}) [EVT, Ev.seqE, Ev.drawE, Ev.fits, Ev.wantedE, Ev.oneE, Ev.cls, Ev.quiet, Ev.making, Ev.setParts, Ev.rowOf, Ev.loud, Ev.opd, Ev.opds, Ev.optOpd, Ev.pairs, Ev.putD, Ev.builtinQ, Ev.argsT, Ev.isAnc, Ev.index, Ev.indexAddr, Ev.sliceOp, Ev.bound, Ev.NV.mk, Ev.Heap.store, Ev.Heap.elem, Ev.V.cells, Ev.V.scalar, Ev.V.asPtr, Ev.V.asBool, Ev.V.asInt, Ev.V.asStr, Ev.V.asAgg, Ev.V.asTup, Ev.V.asMap, Ev.build, Ev.fillCells, Ev.splice, Ev.over, Ev.takeN, Ev.part, Ev.unV, Ev.binV, Ev.isShift, Ev.isConstO, Ev.fieldAddr, Ev.placeS, Ev.placeA, Ev.goal, Ev.recT, Ev.recR, Ev.recheck, Ev.undefV, Ev.convQ, Ev.convNew, TYA, TYB, t0, t3, t4, f00, hk, Try.f76]; rfl) (by rfl) (by simp only [Ev.putD]; rfl) ?_)
    rfl
  refine ACode.block (ACode.seq (ACode.block (ACode.seq (ACode.block (ACode.seq (ACode.block (ACode.seq (ACode.block (ACode.seq (ACode.block (ACode.seq (ACode.seq ?_))))))))))))
  refine ACode.seq (ACode.regS noT_ok names_ok mix (t' := ?_) (L' := ?_) [0, 1] (by rfl) ?_ ?_)
  rotate_left 2
  · iterate 2 (refine seqE_cons rfl rfl rfl (by simp (config := {decide := false}) [EVT, Ev.seqE, Ev.drawE, Ev.fits, Ev.wantedE, Ev.oneE, Ev.cls, Ev.quiet, Ev.making, Ev.setParts, Ev.rowOf, Ev.loud, Ev.opd, Ev.opds, Ev.optOpd, Ev.pairs, Ev.putD, Ev.builtinQ, Ev.argsT, Ev.isAnc, Ev.index, Ev.indexAddr, Ev.sliceOp, Ev.bound, Ev.NV.mk, Ev.Heap.store, Ev.Heap.elem, Ev.V.cells, Ev.V.scalar, Ev.V.asPtr, Ev.V.asBool, Ev.V.asInt, Ev.V.asStr, Ev.V.asAgg, Ev.V.asTup, Ev.V.asMap, Ev.build, Ev.fillCells, Ev.splice, Ev.over, Ev.takeN, Ev.part, Ev.unV, Ev.binV, Ev.isShift, Ev.isConstO, Ev.fieldAddr, Ev.placeS, Ev.placeA, Ev.goal, Ev.recT, Ev.recR, Ev.recheck, Ev.undefV, Ev.convQ, Ev.convNew, TYA, TYB, t0, t3, t4, f00, hk, Try.f76]; rfl) (by rfl) (by simp only [Ev.putD]; rfl) ?_)
    rfl
  refine ACode.condF (by simp [tget_set, opd]) (ACode.skip ?_)
  show ACode _ _ _ _ _ _ _
  refine ACode.seq (ACode.seq ?_)
  refine ACode.seq (ACode.regS noT_ok names_ok mix (t' := ?_) (L' := ?_) [0, 1] (by rfl) ?_ ?_)
  rotate_left 2
  · iterate 2 (refine seqE_cons rfl rfl rfl (by simp (config := {decide := false}) [EVT, Ev.seqE, Ev.drawE, Ev.fits, Ev.wantedE, Ev.oneE, Ev.cls, Ev.quiet, Ev.making, Ev.setParts, Ev.rowOf, Ev.loud, Ev.opd, Ev.opds, Ev.optOpd, Ev.pairs, Ev.putD, Ev.builtinQ, Ev.argsT, Ev.isAnc, Ev.index, Ev.indexAddr, Ev.sliceOp, Ev.bound, Ev.NV.mk, Ev.Heap.store, Ev.Heap.elem, Ev.V.cells, Ev.V.scalar, Ev.V.asPtr, Ev.V.asBool, Ev.V.asInt, Ev.V.asStr, Ev.V.asAgg, Ev.V.asTup, Ev.V.asMap, Ev.build, Ev.fillCells, Ev.splice, Ev.over, Ev.takeN, Ev.part, Ev.unV, Ev.binV, Ev.isShift, Ev.isConstO, Ev.fieldAddr, Ev.placeS, Ev.placeA, Ev.goal, Ev.recT, Ev.recR, Ev.recheck, Ev.undefV, Ev.convQ, Ev.convNew, TYA, TYB, t0, t3, t4, f00, hk, Try.f76]; rfl) (by rfl) (by simp only [Ev.putD]; rfl) ?_)
    rfl
  refine ACode.condF (by simp [tget_set, opd]) ?_
  refine ACode.regS noT_ok names_ok mix (t' := ?_) (L' := ?_) [0, 1] (by rfl) ?_ ?_
  rotate_left 2
  · iterate 2 (refine seqE_cons rfl rfl rfl (by simp (config := {decide := false}) [EVT, Ev.seqE, Ev.drawE, Ev.fits, Ev.wantedE, Ev.oneE, Ev.cls, Ev.quiet, Ev.making, Ev.setParts, Ev.rowOf, Ev.loud, Ev.opd, Ev.opds, Ev.optOpd, Ev.pairs, Ev.putD, Ev.builtinQ, Ev.argsT, Ev.isAnc, Ev.index, Ev.indexAddr, Ev.sliceOp, Ev.bound, Ev.NV.mk, Ev.Heap.load, Ev.Heap.store, Ev.Heap.elem, Ev.V.cells, Ev.V.scalar, Ev.V.asPtr, Ev.V.asBool, Ev.V.asInt, Ev.V.asStr, Ev.V.asAgg, Ev.V.asTup, Ev.V.asMap, Ev.build, Ev.fillCells, Ev.splice, Ev.over, Ev.takeN, Ev.part, Ev.unV, Ev.binV, Ev.isShift, Ev.isConstO, Ev.fieldAddr, Ev.placeS, Ev.placeA, Ev.goal, Ev.recT, Ev.recR, Ev.recheck, Ev.undefV, Ev.convQ, Ev.convNew, TYA, TYB, hk, Try.f76]; rfl) (by rfl) (by simp only [Ev.putD]; rfl) ?_)
    rfl
  show ACode _ _ _ _ _ _ _
  refine ACode.condT (by simp [tget_set, opd]) (ACode.exit ?_)
  show ACode _ _ (Code.seq cText (Code.exit 0)) _ _ _ _
  refine ACode.seq ((s1 _ (by simp [tget_set, t0]) (by simp [tget_set, t3]) (by simp [tget_set, t4])).mono ?_)
  clear t0 t3 t4
  rintro x t' d' A' ⟨rfl, rfl, rfl, t0, t3, t4⟩
  refine ACode.exit ?_
  show ACode _ _ (cSnd sfx76) _ _ _ _
  exact wevent_end h1 _ (by simp [tget_set, t0]) (by simp [tget_set, t3]) (by simp [tget_set, t4])
theorem wevent_k5 (h : Wr L W v bad l sl) (hsl : sl ≤ 1) (hr : EvR e) (hl : l.length ≤ 1000000) (hk : e.k = 5) :
    ∃ L' v' sl', ACall Try.prog 76 [.ptr W 0, .agg (evF e)] L (.tuple []) L' ∧ Wr L' W v' (bad || wBad e) (l ++ wBytes e) sl' ∧ sl' ≤ 1 ∧ Old W v L L' v' := by
  obtain ⟨A, v1, E, O, hES, hpre⟩ := wevent_pre h hsl e hr.k hr.s hl
  obtain ⟨f00, f01, f02, f03, f04, f05, f06, f07, f08⟩ := ld86 hES.ev
  obtain ⟨A1, v2, s1, h1⟩ := wmove_ok hES (by simp; omega)
  obtain ⟨A2, v3, s2, h2⟩ := wsize_ok h1 (by simp; omega)
  refine ⟨⟨A2.t.set W (wB v3 (bad || decide (e.k < 0) || decide (9 ≤ e.k) || decide (e.s < 0) || decide (5 ≤ e.s) || decide (e.r1 < 0) || decide (16 ≤ e.r1) || decide (e.r2 < 0) || decide (48 ≤ e.r2) || decide (e.r3 < 0) || decide (16 ≤ e.r3) || decide (e.r4 < 0) || decide (48 ≤ e.r4) || decide ((⟨e.k, e.s, [], 0, e.r1, e.r2, e.r3, e.r4, 0⟩ : Evt) ≠ e))), A2.next⟩, v3, (1 - 1 - 1 - 1 - 1), hpre _ ?_, ?_, by omega, h2.old.trans (Old.put _ _ _ _)⟩
  rotate_left 1
  ·
    rw [show (bad || wBad e) = (bad || decide (e.k < 0) || decide (9 ≤ e.k) || decide (e.s < 0) || decide (5 ≤ e.s) || decide (e.r1 < 0) || decide (16 ≤ e.r1) || decide (e.r2 < 0) || decide (48 ≤ e.r2) || decide (e.r3 < 0) || decide (16 ≤ e.r3) || decide (e.r4 < 0) || decide (48 ≤ e.r4) || decide (wOwn e ≠ e)) from by simp [wBad, out, hk, Bool.or_assoc], show l ++ wBytes e = l ++ [lowB (e.k + 9 * e.s)] ++ [lowB e.r1] ++ [lowB e.r2] ++ [lowB e.r3] ++ [lowB e.r4] from by simp [wBytes, wTail, hk], show wOwn e = ⟨e.k, e.s, [], 0, e.r1, e.r2, e.r3, e.r4, 0⟩ from by simp [wOwn, hk]]
    exact h2.wr.bad _
  intro t t0 t3 t4
  show ACode _ _ (Code.seq (Code.seq (Code.region _ _ _) _) _) _ _ _ _
  refine ACode.seq ?_
  refine ACode.seq (ACode.regS noT_ok names_ok mix (t' := ?_) (L' := ?_) [0, 1] (by rfl) ?_ ?_)
  rotate_left 2
  · iterate 2 (refine seqE_cons rfl rfl rfl (by simp (config := {decide := false}) [EVT, Ev.seqE, Ev.drawE, Ev.fits, Ev.wantedE, Ev.oneE, Ev.cls, Ev.quiet, Ev.making, Ev.setParts, Ev.rowOf, Ev.loud, Ev.opd, Ev.opds, Ev.optOpd, Ev.pairs, Ev.putD, Ev.builtinQ, Ev.argsT, Ev.isAnc, Ev.index, Ev.indexAddr, Ev.sliceOp, Ev.bound, Ev.NV.mk, Ev.Heap.store, Ev.Heap.elem, Ev.V.cells, Ev.V.scalar, Ev.V.asPtr, Ev.V.asBool, Ev.V.asInt, Ev.V.asStr, Ev.V.asAgg, Ev.V.asTup, Ev.V.asMap, Ev.build, Ev.fillCells, Ev.splice, Ev.over, Ev.takeN, Ev.part, Ev.unV, Ev.binV, Ev.isShift, Ev.isConstO, Ev.fieldAddr, Ev.placeS, Ev.placeA, Ev.goal, Ev.recT, Ev.recR, Ev.recheck, Ev.undefV, Ev.convQ, Ev.convNew, TYA, TYB, t0, t3, t4, f00, hk, Try.f76]; rfl) (by rfl) (by simp only [Ev.putD]; rfl) ?_)
    rfl
  refine ACode.block (ACode.seq (ACode.block (ACode.seq (ACode.block (ACode.seq (ACode.block (ACode.seq (ACode.block (ACode.seq (ACode.block (ACode.seq (ACode.seq ?_))))))))))))
  refine ACode.seq (ACode.regS noT_ok names_ok mix (t' := ?_) (L' := ?_) [0, 1] (by rfl) ?_ ?_)
  rotate_left 2
  · iterate 2 (refine seqE_cons rfl rfl rfl (by simp (config := {decide := false}) [EVT, Ev.seqE, Ev.drawE, Ev.fits, Ev.wantedE, Ev.oneE, Ev.cls, Ev.quiet, Ev.making, Ev.setParts, Ev.rowOf, Ev.loud, Ev.opd, Ev.opds, Ev.optOpd, Ev.pairs, Ev.putD, Ev.builtinQ, Ev.argsT, Ev.isAnc, Ev.index, Ev.indexAddr, Ev.sliceOp, Ev.bound, Ev.NV.mk, Ev.Heap.store, Ev.Heap.elem, Ev.V.cells, Ev.V.scalar, Ev.V.asPtr, Ev.V.asBool, Ev.V.asInt, Ev.V.asStr, Ev.V.asAgg, Ev.V.asTup, Ev.V.asMap, Ev.build, Ev.fillCells, Ev.splice, Ev.over, Ev.takeN, Ev.part, Ev.unV, Ev.binV, Ev.isShift, Ev.isConstO, Ev.fieldAddr, Ev.placeS, Ev.placeA, Ev.goal, Ev.recT, Ev.recR, Ev.recheck, Ev.undefV, Ev.convQ, Ev.convNew, TYA, TYB, t0, t3, t4, f00, hk, Try.f76]; rfl) (by rfl) (by simp only [Ev.putD]; rfl) ?_)
    rfl
  refine ACode.condF (by simp [tget_set, opd]) (ACode.skip ?_)
  show ACode _ _ _ _ _ _ _
  refine ACode.seq (ACode.seq ?_)
  refine ACode.seq (ACode.regS noT_ok names_ok mix (t' := ?_) (L' := ?_) [0, 1] (by rfl) ?_ ?_)
  rotate_left 2
  · iterate 2 (refine seqE_cons rfl rfl rfl (by simp (config := {decide := false}) [EVT, Ev.seqE, Ev.drawE, Ev.fits, Ev.wantedE, Ev.oneE, Ev.cls, Ev.quiet, Ev.making, Ev.setParts, Ev.rowOf, Ev.loud, Ev.opd, Ev.opds, Ev.optOpd, Ev.pairs, Ev.putD, Ev.builtinQ, Ev.argsT, Ev.isAnc, Ev.index, Ev.indexAddr, Ev.sliceOp, Ev.bound, Ev.NV.mk, Ev.Heap.store, Ev.Heap.elem, Ev.V.cells, Ev.V.scalar, Ev.V.asPtr, Ev.V.asBool, Ev.V.asInt, Ev.V.asStr, Ev.V.asAgg, Ev.V.asTup, Ev.V.asMap, Ev.build, Ev.fillCells, Ev.splice, Ev.over, Ev.takeN, Ev.part, Ev.unV, Ev.binV, Ev.isShift, Ev.isConstO, Ev.fieldAddr, Ev.placeS, Ev.placeA, Ev.goal, Ev.recT, Ev.recR, Ev.recheck, Ev.undefV, Ev.convQ, Ev.convNew, TYA, TYB, t0, t3, t4, f00, hk, Try.f76]; rfl) (by rfl) (by simp only [Ev.putD]; rfl) ?_)
    rfl
  refine ACode.condF (by simp [tget_set, opd]) ?_
  refine ACode.regS noT_ok names_ok mix (t' := ?_) (L' := ?_) [0, 1] (by rfl) ?_ ?_
  rotate_left 2
  · iterate 2 (refine seqE_cons rfl rfl rfl (by simp (config := {decide := false}) [EVT, Ev.seqE, Ev.drawE, Ev.fits, Ev.wantedE, Ev.oneE, Ev.cls, Ev.quiet, Ev.making, Ev.setParts, Ev.rowOf, Ev.loud, Ev.opd, Ev.opds, Ev.optOpd, Ev.pairs, Ev.putD, Ev.builtinQ, Ev.argsT, Ev.isAnc, Ev.index, Ev.indexAddr, Ev.sliceOp, Ev.bound, Ev.NV.mk, Ev.Heap.load, Ev.Heap.store, Ev.Heap.elem, Ev.V.cells, Ev.V.scalar, Ev.V.asPtr, Ev.V.asBool, Ev.V.asInt, Ev.V.asStr, Ev.V.asAgg, Ev.V.asTup, Ev.V.asMap, Ev.build, Ev.fillCells, Ev.splice, Ev.over, Ev.takeN, Ev.part, Ev.unV, Ev.binV, Ev.isShift, Ev.isConstO, Ev.fieldAddr, Ev.placeS, Ev.placeA, Ev.goal, Ev.recT, Ev.recR, Ev.recheck, Ev.undefV, Ev.convQ, Ev.convNew, TYA, TYB, hk, Try.f76]; rfl) (by rfl) (by simp only [Ev.putD]; rfl) ?_)
    rfl
  show ACode _ _ _ _ _ _ _
  refine ACode.condF (by simp [tget_set, opd]) (ACode.skip ?_)
  show ACode _ _ _ _ _ _ _
  refine ACode.seq ?_
  refine ACode.seq (ACode.regS noT_ok names_ok mix (t' := ?_) (L' := ?_) [0, 1] (by rfl) ?_ ?_)
  rotate_left 2
  · iterate 2 (refine seqE_cons rfl rfl rfl (by simp (config := {decide := false}) [EVT, Ev.seqE, Ev.drawE, Ev.fits, Ev.wantedE, Ev.oneE, Ev.cls, Ev.quiet, Ev.making, Ev.setParts, Ev.rowOf, Ev.loud, Ev.opd, Ev.opds, Ev.optOpd, Ev.pairs, Ev.putD, Ev.builtinQ, Ev.argsT, Ev.isAnc, Ev.index, Ev.indexAddr, Ev.sliceOp, Ev.bound, Ev.NV.mk, Ev.Heap.store, Ev.Heap.elem, Ev.V.cells, Ev.V.scalar, Ev.V.asPtr, Ev.V.asBool, Ev.V.asInt, Ev.V.asStr, Ev.V.asAgg, Ev.V.asTup, Ev.V.asMap, Ev.build, Ev.fillCells, Ev.splice, Ev.over, Ev.takeN, Ev.part, Ev.unV, Ev.binV, Ev.isShift, Ev.isConstO, Ev.fieldAddr, Ev.placeS, Ev.placeA, Ev.goal, Ev.recT, Ev.recR, Ev.recheck, Ev.undefV, Ev.convQ, Ev.convNew, TYA, TYB, t0, t3, t4, f00, hk, Try.f76]; rfl) (by rfl) (by simp only [Ev.putD]; rfl) ?_)
    rfl
  refine ACode.condT (by simp [tget_set, opd]) (ACode.exit ?_)
  show ACode _ _ cMove _ _ _ _
  refine (s1 _ (by simp [tget_set, t0]) (by simp [tget_set, t3]) (by simp [tget_set, t4])).mono ?_
  clear t0 t3 t4
  rintro x t' d' A' ⟨rfl, rfl, rfl, t0, t3, t4⟩
  show ACode _ _ (Code.seq cSize (Code.exit 0)) _ _ _ _
  refine ACode.seq ((s2 _ (by simp [tget_set, t0]) (by simp [tget_set, t3]) (by simp [tget_set, t4])).mono ?_)
  clear t0 t3 t4
  rintro x t' d' A' ⟨rfl, rfl, rfl, t0, t3, t4⟩
  refine ACode.exit ?_
  show ACode _ _ (cSnd sfx76) _ _ _ _
  exact wevent_end h2 _ (by simp [tget_set, t0]) (by simp [tget_set, t3]) (by simp [tget_set, t4])
theorem wevent_k6 (h : Wr L W v bad l sl) (hsl : sl ≤ 1) (hr : EvR e) (hl : l.length ≤ 1000000) (hk : e.k = 6) :
    ∃ L' v' sl', ACall Try.prog 76 [.ptr W 0, .agg (evF e)] L (.tuple []) L' ∧ Wr L' W v' (bad || wBad e) (l ++ wBytes e) sl' ∧ sl' ≤ 1 ∧ Old W v L L' v' := by
  obtain ⟨A, v1, E, O, hES, hpre⟩ := wevent_pre h hsl e hr.k hr.s hl
  obtain ⟨f00, f01, f02, f03, f04, f05, f06, f07, f08⟩ := ld86 hES.ev
  obtain ⟨A1, v2, s1, h1⟩ := wsize_ok hES (by simp; omega)
  refine ⟨⟨A1.t.set W (wB v2 (bad || decide (e.k < 0) || decide (9 ≤ e.k) || decide (e.s < 0) || decide (5 ≤ e.s) || decide (e.r3 < 0) || decide (16 ≤ e.r3) || decide (e.r4 < 0) || decide (48 ≤ e.r4) || decide ((⟨e.k, e.s, [], 0, 0, 0, e.r3, e.r4, 0⟩ : Evt) ≠ e))), A1.next⟩, v2, (1 - 1 - 1), hpre _ ?_, ?_, by omega, h1.old.trans (Old.put _ _ _ _)⟩
  rotate_left 1
  ·
    rw [show (bad || wBad e) = (bad || decide (e.k < 0) || decide (9 ≤ e.k) || decide (e.s < 0) || decide (5 ≤ e.s) || decide (e.r3 < 0) || decide (16 ≤ e.r3) || decide (e.r4 < 0) || decide (48 ≤ e.r4) || decide (wOwn e ≠ e)) from by simp [wBad, out, hk, Bool.or_assoc], show l ++ wBytes e = l ++ [lowB (e.k + 9 * e.s)] ++ [lowB e.r3] ++ [lowB e.r4] from by simp [wBytes, wTail, hk], show wOwn e = ⟨e.k, e.s, [], 0, 0, 0, e.r3, e.r4, 0⟩ from by simp [wOwn, hk]]
    exact h1.wr.bad _
  intro t t0 t3 t4
  show ACode _ _ (Code.seq (Code.seq (Code.region _ _ _) _) _) _ _ _ _
  refine ACode.seq ?_
  refine ACode.seq (ACode.regS noT_ok names_ok mix (t' := ?_) (L' := ?_) [0, 1] (by rfl) ?_ ?_)
  rotate_left 2
  · iterate 2 (refine seqE_cons rfl rfl rfl (by simp (config := {decide := false}) [EVT, Ev.seqE, Ev.drawE, Ev.fits, Ev.wantedE, Ev.oneE, Ev.cls, Ev.quiet, Ev.making, Ev.setParts, Ev.rowOf, Ev.loud, Ev.opd, Ev.opds, Ev.optOpd, Ev.pairs, Ev.putD, Ev.builtinQ, Ev.argsT, Ev.isAnc, Ev.index, Ev.indexAddr, Ev.sliceOp, Ev.bound, Ev.NV.mk, Ev.Heap.store, Ev.Heap.elem, Ev.V.cells, Ev.V.scalar, Ev.V.asPtr, Ev.V.asBool, Ev.V.asInt, Ev.V.asStr, Ev.V.asAgg, Ev.V.asTup, Ev.V.asMap, Ev.build, Ev.fillCells, Ev.splice, Ev.over, Ev.takeN, Ev.part, Ev.unV, Ev.binV, Ev.isShift, Ev.isConstO, Ev.fieldAddr, Ev.placeS, Ev.placeA, Ev.goal, Ev.recT, Ev.recR, Ev.recheck, Ev.undefV, Ev.convQ, Ev.convNew, TYA, TYB, t0, t3, t4, f00, hk, Try.f76]; rfl) (by rfl) (by simp only [Ev.putD]; rfl) ?_)
    rfl
  refine ACode.block (ACode.seq (ACode.block (ACode.seq (ACode.block (ACode.seq (ACode.block (ACode.seq (ACode.block (ACode.seq (ACode.block (ACode.seq (ACode.seq ?_))))))))))))
  refine ACode.seq (ACode.regS noT_ok names_ok mix (t' := ?_) (L' := ?_) [0, 1] (by rfl) ?_ ?_)
  rotate_left 2
  · iterate 2 (refine seqE_cons rfl rfl rfl (by simp (config := {decide := false}) [EVT, Ev.seqE, Ev.drawE, Ev.fits, Ev.wantedE, Ev.oneE, Ev.cls, Ev.quiet, Ev.making, Ev.setParts, Ev.rowOf, Ev.loud, Ev.opd, Ev.opds, Ev.optOpd, Ev.pairs, Ev.putD, Ev.builtinQ, Ev.argsT, Ev.isAnc, Ev.index, Ev.indexAddr, Ev.sliceOp, Ev.bound, Ev.NV.mk, Ev.Heap.store, Ev.Heap.elem, Ev.V.cells, Ev.V.scalar, Ev.V.asPtr, Ev.V.asBool, Ev.V.asInt, Ev.V.asStr, Ev.V.asAgg, Ev.V.asTup, Ev.V.asMap, Ev.build, Ev.fillCells, Ev.splice, Ev.over, Ev.takeN, Ev.part, Ev.unV, Ev.binV, Ev.isShift, Ev.isConstO, Ev.fieldAddr, Ev.placeS, Ev.placeA, Ev.goal, Ev.recT, Ev.recR, Ev.recheck, Ev.undefV, Ev.convQ, Ev.convNew, TYA, TYB, t0, t3, t4, f00, hk, Try.f76]; rfl) (by rfl) (by simp only [Ev.putD]; rfl) ?_)
    rfl
  refine ACode.condF (by simp [tget_set, opd]) (ACode.skip ?_)
  show ACode _ _ _ _ _ _ _
  refine ACode.seq (ACode.seq ?_)
  refine ACode.seq (ACode.regS noT_ok names_ok mix (t' := ?_) (L' := ?_) [0, 1] (by rfl) ?_ ?_)
  rotate_left 2
  · iterate 2 (refine seqE_cons rfl rfl rfl (by simp (config := {decide := false}) [EVT, Ev.seqE, Ev.drawE, Ev.fits, Ev.wantedE, Ev.oneE, Ev.cls, Ev.quiet, Ev.making, Ev.setParts, Ev.rowOf, Ev.loud, Ev.opd, Ev.opds, Ev.optOpd, Ev.pairs, Ev.putD, Ev.builtinQ, Ev.argsT, Ev.isAnc, Ev.index, Ev.indexAddr, Ev.sliceOp, Ev.bound, Ev.NV.mk, Ev.Heap.store, Ev.Heap.elem, Ev.V.cells, Ev.V.scalar, Ev.V.asPtr, Ev.V.asBool, Ev.V.asInt, Ev.V.asStr, Ev.V.asAgg, Ev.V.asTup, Ev.V.asMap, Ev.build, Ev.fillCells, Ev.splice, Ev.over, Ev.takeN, Ev.part, Ev.unV, Ev.binV, Ev.isShift, Ev.isConstO, Ev.fieldAddr, Ev.placeS, Ev.placeA, Ev.goal, Ev.recT, Ev.recR, Ev.recheck, Ev.undefV, Ev.convQ, Ev.convNew, TYA, TYB, t0, t3, t4, f00, hk, Try.f76]; rfl) (by rfl) (by simp only [Ev.putD]; rfl) ?_)
    rfl
  refine ACode.condF (by simp [tget_set, opd]) ?_
  refine ACode.regS noT_ok names_ok mix (t' := ?_) (L' := ?_) [0, 1] (by rfl) ?_ ?_
  rotate_left 2
  · iterate 2 (refine seqE_cons rfl rfl rfl (by simp (config := {decide := false}) [EVT, Ev.seqE, Ev.drawE, Ev.fits, Ev.wantedE, Ev.oneE, Ev.cls, Ev.quiet, Ev.making, Ev.setParts, Ev.rowOf, Ev.loud, Ev.opd, Ev.opds, Ev.optOpd, Ev.pairs, Ev.putD, Ev.builtinQ, Ev.argsT, Ev.isAnc, Ev.index, Ev.indexAddr, Ev.sliceOp, Ev.bound, Ev.NV.mk, Ev.Heap.load, Ev.Heap.store, Ev.Heap.elem, Ev.V.cells, Ev.V.scalar, Ev.V.asPtr, Ev.V.asBool, Ev.V.asInt, Ev.V.asStr, Ev.V.asAgg, Ev.V.asTup, Ev.V.asMap, Ev.build, Ev.fillCells, Ev.splice, Ev.over, Ev.takeN, Ev.part, Ev.unV, Ev.binV, Ev.isShift, Ev.isConstO, Ev.fieldAddr, Ev.placeS, Ev.placeA, Ev.goal, Ev.recT, Ev.recR, Ev.recheck, Ev.undefV, Ev.convQ, Ev.convNew, TYA, TYB, hk, Try.f76]; rfl) (by rfl) (by simp only [Ev.putD]; rfl) ?_)
    rfl
  show ACode _ _ _ _ _ _ _
  refine ACode.condF (by simp [tget_set, opd]) (ACode.skip ?_)
  show ACode _ _ _ _ _ _ _
  refine ACode.seq ?_
  refine ACode.seq (ACode.regS noT_ok names_ok mix (t' := ?_) (L' := ?_) [0, 1] (by rfl) ?_ ?_)
  rotate_left 2
  · iterate 2 (refine seqE_cons rfl rfl rfl (by simp (config := {decide := false}) [EVT, Ev.seqE, Ev.drawE, Ev.fits, Ev.wantedE, Ev.oneE, Ev.cls, Ev.quiet, Ev.making, Ev.setParts, Ev.rowOf, Ev.loud, Ev.opd, Ev.opds, Ev.optOpd, Ev.pairs, Ev.putD, Ev.builtinQ, Ev.argsT, Ev.isAnc, Ev.index, Ev.indexAddr, Ev.sliceOp, Ev.bound, Ev.NV.mk, Ev.Heap.store, Ev.Heap.elem, Ev.V.cells, Ev.V.scalar, Ev.V.asPtr, Ev.V.asBool, Ev.V.asInt, Ev.V.asStr, Ev.V.asAgg, Ev.V.asTup, Ev.V.asMap, Ev.build, Ev.fillCells, Ev.splice, Ev.over, Ev.takeN, Ev.part, Ev.unV, Ev.binV, Ev.isShift, Ev.isConstO, Ev.fieldAddr, Ev.placeS, Ev.placeA, Ev.goal, Ev.recT, Ev.recR, Ev.recheck, Ev.undefV, Ev.convQ, Ev.convNew, TYA, TYB, t0, t3, t4, f00, hk, Try.f76]; rfl) (by rfl) (by simp only [Ev.putD]; rfl) ?_)
    rfl
  refine ACode.condF (by simp [tget_set, opd]) (ACode.skip ?_)
  show ACode _ _ _ _ _ _ _
  refine ACode.seq ?_
  refine ACode.seq (ACode.regS noT_ok names_ok mix (t' := ?_) (L' := ?_) [0, 1] (by rfl) ?_ ?_)
  rotate_left 2
  · iterate 2 (refine seqE_cons rfl rfl rfl (by simp (config := {decide := false}) [EVT, Ev.seqE, Ev.drawE, Ev.fits, Ev.wantedE, Ev.oneE, Ev.cls, Ev.quiet, Ev.making, Ev.setParts, Ev.rowOf, Ev.loud, Ev.opd, Ev.opds, Ev.optOpd, Ev.pairs, Ev.putD, Ev.builtinQ, Ev.argsT, Ev.isAnc, Ev.index, Ev.indexAddr, Ev.sliceOp, Ev.bound, Ev.NV.mk, Ev.Heap.store, Ev.Heap.elem, Ev.V.cells, Ev.V.scalar, Ev.V.asPtr, Ev.V.asBool, Ev.V.asInt, Ev.V.asStr, Ev.V.asAgg, Ev.V.asTup, Ev.V.asMap, Ev.build, Ev.fillCells, Ev.splice, Ev.over, Ev.takeN, Ev.part, Ev.unV, Ev.binV, Ev.isShift, Ev.isConstO, Ev.fieldAddr, Ev.placeS, Ev.placeA, Ev.goal, Ev.recT, Ev.recR, Ev.recheck, Ev.undefV, Ev.convQ, Ev.convNew, TYA, TYB, t0, t3, t4, f00, hk, Try.f76]; rfl) (by rfl) (by simp only [Ev.putD]; rfl) ?_)
    rfl
  refine ACode.condT (by simp [tget_set, opd]) (ACode.exit ?_)
  show ACode _ _ (Code.seq cSize (Code.exit 0)) _ _ _ _
  refine ACode.seq ((s1 _ (by simp [tget_set, t0]) (by simp [tget_set, t3]) (by simp [tget_set, t4])).mono ?_)
  clear t0 t3 t4
  rintro x t' d' A' ⟨rfl, rfl, rfl, t0, t3, t4⟩
  refine ACode.exit ?_
  show ACode _ _ (cSnd sfx76) _ _ _ _
  exact wevent_end h1 _ (by simp [tget_set, t0]) (by simp [tget_set, t3]) (by simp [tget_set, t4])
theorem wevent_k7 (h : Wr L W v bad l sl) (hsl : sl ≤ 1) (hr : EvR e) (hl : l.length ≤ 1000000) (hk : e.k = 7) :
    ∃ L' v' sl', ACall Try.prog 76 [.ptr W 0, .agg (evF e)] L (.tuple []) L' ∧ Wr L' W v' (bad || wBad e) (l ++ wBytes e) sl' ∧ sl' ≤ 1 ∧ Old W v L L' v' := by
  obtain ⟨A, v1, E, O, hES, hpre⟩ := wevent_pre h hsl e hr.k hr.s hl
  obtain ⟨f00, f01, f02, f03, f04, f05, f06, f07, f08⟩ := ld86 hES.ev
  obtain ⟨A1, v2, s1, h1⟩ := wwhat_ok hES (by simp; omega)
  refine ⟨⟨A1.t.set W (wB v2 (bad || decide (e.k < 0) || decide (9 ≤ e.k) || decide (e.s < 0) || decide (5 ≤ e.s) || decide (e.w < 0) || decide (8 ≤ e.w) || decide ((⟨e.k, e.s, [], 0, 0, 0, 0, 0, e.w⟩ : Evt) ≠ e))), A1.next⟩, v2, (1 - 1), hpre _ ?_, ?_, by omega, h1.old.trans (Old.put _ _ _ _)⟩
  rotate_left 1
  ·
    rw [show (bad || wBad e) = (bad || decide (e.k < 0) || decide (9 ≤ e.k) || decide (e.s < 0) || decide (5 ≤ e.s) || decide (e.w < 0) || decide (8 ≤ e.w) || decide (wOwn e ≠ e)) from by simp [wBad, out, hk, Bool.or_assoc], show l ++ wBytes e = l ++ [lowB (e.k + 9 * e.s)] ++ [lowB e.w] from by simp [wBytes, wTail, hk], show wOwn e = ⟨e.k, e.s, [], 0, 0, 0, 0, 0, e.w⟩ from by simp [wOwn, hk]]
    exact h1.wr.bad _
  intro t t0 t3 t4
  show ACode _ _ (Code.seq (Code.seq (Code.region _ _ _) _) _) _ _ _ _
  refine ACode.seq ?_
  refine ACode.seq (ACode.regS noT_ok names_ok mix (t' := ?_) (L' := ?_) [0, 1] (by rfl) ?_ ?_)
  rotate_left 2
  · iterate 2 (refine seqE_cons rfl rfl rfl (by simp (config := {decide := false}) [EVT, Ev.seqE, Ev.drawE, Ev.fits, Ev.wantedE, Ev.oneE, Ev.cls, Ev.quiet, Ev.making, Ev.setParts, Ev.rowOf, Ev.loud, Ev.opd, Ev.opds, Ev.optOpd, Ev.pairs, Ev.putD, Ev.builtinQ, Ev.argsT, Ev.isAnc, Ev.index, Ev.indexAddr, Ev.sliceOp, Ev.bound, Ev.NV.mk, Ev.Heap.store, Ev.Heap.elem, Ev.V.cells, Ev.V.scalar, Ev.V.asPtr, Ev.V.asBool, Ev.V.asInt, Ev.V.asStr, Ev.V.asAgg, Ev.V.asTup, Ev.V.asMap, Ev.build, Ev.fillCells, Ev.splice, Ev.over, Ev.takeN, Ev.part, Ev.unV, Ev.binV, Ev.isShift, Ev.isConstO, Ev.fieldAddr, Ev.placeS, Ev.placeA, Ev.goal, Ev.recT, Ev.recR, Ev.recheck, Ev.undefV, Ev.convQ, Ev.convNew, TYA, TYB, t0, t3, t4, f00, hk, Try.f76]; rfl) (by rfl) (by simp only [Ev.putD]; rfl) ?_)
    rfl
  refine ACode.block (ACode.seq (ACode.block (ACode.seq (ACode.block (ACode.seq (ACode.block (ACode.seq (ACode.block (ACode.seq (ACode.block (ACode.seq (ACode.seq ?_))))))))))))
  refine ACode.seq (ACode.regS noT_ok names_ok mix (t' := ?_) (L' := ?_) [0, 1] (by rfl) ?_ ?_)
  rotate_left 2
  · iterate 2 (refine seqE_cons rfl rfl rfl (by simp (config := {decide := false}) [EVT, Ev.seqE, Ev.drawE, Ev.fits, Ev.wantedE, Ev.oneE, Ev.cls, Ev.quiet, Ev.making, Ev.setParts, Ev.rowOf, Ev.loud, Ev.opd, Ev.opds, Ev.optOpd, Ev.pairs, Ev.putD, Ev.builtinQ, Ev.argsT, Ev.isAnc, Ev.index, Ev.indexAddr, Ev.sliceOp, Ev.bound, Ev.NV.mk, Ev.Heap.store, Ev.Heap.elem, Ev.V.cells, Ev.V.scalar, Ev.V.asPtr, Ev.V.asBool, Ev.V.asInt, Ev.V.asStr, Ev.V.asAgg, Ev.V.asTup, Ev.V.asMap, Ev.build, Ev.fillCells, Ev.splice, Ev.over, Ev.takeN, Ev.part, Ev.unV, Ev.binV, Ev.isShift, Ev.isConstO, Ev.fieldAddr, Ev.placeS, Ev.placeA, Ev.goal, Ev.recT, Ev.recR, Ev.recheck, Ev.undefV, Ev.convQ, Ev.convNew, TYA, TYB, t0, t3, t4, f00, hk, Try.f76]; rfl) (by rfl) (by simp only [Ev.putD]; rfl) ?_)
    rfl
  refine ACode.condF (by simp [tget_set, opd]) (ACode.skip ?_)
  show ACode _ _ _ _ _ _ _
  refine ACode.seq (ACode.seq ?_)
  refine ACode.seq (ACode.regS noT_ok names_ok mix (t' := ?_) (L' := ?_) [0, 1] (by rfl) ?_ ?_)
  rotate_left 2
  · iterate 2 (refine seqE_cons rfl rfl rfl (by simp (config := {decide := false}) [EVT, Ev.seqE, Ev.drawE, Ev.fits, Ev.wantedE, Ev.oneE, Ev.cls, Ev.quiet, Ev.making, Ev.setParts, Ev.rowOf, Ev.loud, Ev.opd, Ev.opds, Ev.optOpd, Ev.pairs, Ev.putD, Ev.builtinQ, Ev.argsT, Ev.isAnc, Ev.index, Ev.indexAddr, Ev.sliceOp, Ev.bound, Ev.NV.mk, Ev.Heap.store, Ev.Heap.elem, Ev.V.cells, Ev.V.scalar, Ev.V.asPtr, Ev.V.asBool, Ev.V.asInt, Ev.V.asStr, Ev.V.asAgg, Ev.V.asTup, Ev.V.asMap, Ev.build, Ev.fillCells, Ev.splice, Ev.over, Ev.takeN, Ev.part, Ev.unV, Ev.binV, Ev.isShift, Ev.isConstO, Ev.fieldAddr, Ev.placeS, Ev.placeA, Ev.goal, Ev.recT, Ev.recR, Ev.recheck, Ev.undefV, Ev.convQ, Ev.convNew, TYA, TYB, t0, t3, t4, f00, hk, Try.f76]; rfl) (by rfl) (by simp only [Ev.putD]; rfl) ?_)
    rfl
  refine ACode.condF (by simp [tget_set, opd]) ?_
  refine ACode.regS noT_ok names_ok mix (t' := ?_) (L' := ?_) [0, 1] (by rfl) ?_ ?_
  rotate_left 2
  · iterate 2 (refine seqE_cons rfl rfl rfl (by simp (config := {decide := false}) [EVT, Ev.seqE, Ev.drawE, Ev.fits, Ev.wantedE, Ev.oneE, Ev.cls, Ev.quiet, Ev.making, Ev.setParts, Ev.rowOf, Ev.loud, Ev.opd, Ev.opds, Ev.optOpd, Ev.pairs, Ev.putD, Ev.builtinQ, Ev.argsT, Ev.isAnc, Ev.index, Ev.indexAddr, Ev.sliceOp, Ev.bound, Ev.NV.mk, Ev.Heap.load, Ev.Heap.store, Ev.Heap.elem, Ev.V.cells, Ev.V.scalar, Ev.V.asPtr, Ev.V.asBool, Ev.V.asInt, Ev.V.asStr, Ev.V.asAgg, Ev.V.asTup, Ev.V.asMap, Ev.build, Ev.fillCells, Ev.splice, Ev.over, Ev.takeN, Ev.part, Ev.unV, Ev.binV, Ev.isShift, Ev.isConstO, Ev.fieldAddr, Ev.placeS, Ev.placeA, Ev.goal, Ev.recT, Ev.recR, Ev.recheck, Ev.undefV, Ev.convQ, Ev.convNew, TYA, TYB, hk, Try.f76]; rfl) (by rfl) (by simp only [Ev.putD]; rfl) ?_)
    rfl
  show ACode _ _ _ _ _ _ _
  refine ACode.condF (by simp [tget_set, opd]) (ACode.skip ?_)
  show ACode _ _ _ _ _ _ _
  refine ACode.seq ?_
  refine ACode.seq (ACode.regS noT_ok names_ok mix (t' := ?_) (L' := ?_) [0, 1] (by rfl) ?_ ?_)
  rotate_left 2
  · iterate 2 (refine seqE_cons rfl rfl rfl (by simp (config := {decide := false}) [EVT, Ev.seqE, Ev.drawE, Ev.fits, Ev.wantedE, Ev.oneE, Ev.cls, Ev.quiet, Ev.making, Ev.setParts, Ev.rowOf, Ev.loud, Ev.opd, Ev.opds, Ev.optOpd, Ev.pairs, Ev.putD, Ev.builtinQ, Ev.argsT, Ev.isAnc, Ev.index, Ev.indexAddr, Ev.sliceOp, Ev.bound, Ev.NV.mk, Ev.Heap.store, Ev.Heap.elem, Ev.V.cells, Ev.V.scalar, Ev.V.asPtr, Ev.V.asBool, Ev.V.asInt, Ev.V.asStr, Ev.V.asAgg, Ev.V.asTup, Ev.V.asMap, Ev.build, Ev.fillCells, Ev.splice, Ev.over, Ev.takeN, Ev.part, Ev.unV, Ev.binV, Ev.isShift, Ev.isConstO, Ev.fieldAddr, Ev.placeS, Ev.placeA, Ev.goal, Ev.recT, Ev.recR, Ev.recheck, Ev.undefV, Ev.convQ, Ev.convNew, TYA, TYB, t0, t3, t4, f00, hk, Try.f76]; rfl) (by rfl) (by simp only [Ev.putD]; rfl) ?_)
    rfl
  refine ACode.condF (by simp [tget_set, opd]) (ACode.skip ?_)
  show ACode _ _ _ _ _ _ _
  refine ACode.seq ?_
  refine ACode.seq (ACode.regS noT_ok names_ok mix (t' := ?_) (L' := ?_) [0, 1] (by rfl) ?_ ?_)
  rotate_left 2
  · iterate 2 (refine seqE_cons rfl rfl rfl (by simp (config := {decide := false}) [EVT, Ev.seqE, Ev.drawE, Ev.fits, Ev.wantedE, Ev.oneE, Ev.cls, Ev.quiet, Ev.making, Ev.setParts, Ev.rowOf, Ev.loud, Ev.opd, Ev.opds, Ev.optOpd, Ev.pairs, Ev.putD, Ev.builtinQ, Ev.argsT, Ev.isAnc, Ev.index, Ev.indexAddr, Ev.sliceOp, Ev.bound, Ev.NV.mk, Ev.Heap.store, Ev.Heap.elem, Ev.V.cells, Ev.V.scalar, Ev.V.asPtr, Ev.V.asBool, Ev.V.asInt, Ev.V.asStr, Ev.V.asAgg, Ev.V.asTup, Ev.V.asMap, Ev.build, Ev.fillCells, Ev.splice, Ev.over, Ev.takeN, Ev.part, Ev.unV, Ev.binV, Ev.isShift, Ev.isConstO, Ev.fieldAddr, Ev.placeS, Ev.placeA, Ev.goal, Ev.recT, Ev.recR, Ev.recheck, Ev.undefV, Ev.convQ, Ev.convNew, TYA, TYB, t0, t3, t4, f00, hk, Try.f76]; rfl) (by rfl) (by simp only [Ev.putD]; rfl) ?_)
    rfl
  refine ACode.condF (by simp [tget_set, opd]) (ACode.skip ?_)
  show ACode _ _ _ _ _ _ _
  refine ACode.seq (ACode.regS noT_ok names_ok mix (t' := ?_) (L' := ?_) [0, 1] (by rfl) ?_ ?_)
  rotate_left 2
  · iterate 2 (refine seqE_cons rfl rfl rfl (by simp (config := {decide := false}) [EVT, Ev.seqE, Ev.drawE, Ev.fits, Ev.wantedE, Ev.oneE, Ev.cls, Ev.quiet, Ev.making, Ev.setParts, Ev.rowOf, Ev.loud, Ev.opd, Ev.opds, Ev.optOpd, Ev.pairs, Ev.putD, Ev.builtinQ, Ev.argsT, Ev.isAnc, Ev.index, Ev.indexAddr, Ev.sliceOp, Ev.bound, Ev.NV.mk, Ev.Heap.store, Ev.Heap.elem, Ev.V.cells, Ev.V.scalar, Ev.V.asPtr, Ev.V.asBool, Ev.V.asInt, Ev.V.asStr, Ev.V.asAgg, Ev.V.asTup, Ev.V.asMap, Ev.build, Ev.fillCells, Ev.splice, Ev.over, Ev.takeN, Ev.part, Ev.unV, Ev.binV, Ev.isShift, Ev.isConstO, Ev.fieldAddr, Ev.placeS, Ev.placeA, Ev.goal, Ev.recT, Ev.recR, Ev.recheck, Ev.undefV, Ev.convQ, Ev.convNew, TYA, TYB, t0, t3, t4, f00, hk, Try.f76]; rfl) (by rfl) (by simp only [Ev.putD]; rfl) ?_)
    rfl
  refine ACode.condT (by simp [tget_set, opd]) (ACode.exit ?_)
  show ACode _ _ (Code.seq cWhat (Code.exit 0)) _ _ _ _
  refine ACode.seq ((s1 _ (by simp [tget_set, t0]) (by simp [tget_set, t3]) (by simp [tget_set, t4])).mono ?_)
  clear t0 t3 t4
  rintro x t' d' A' ⟨rfl, rfl, rfl, t0, t3, t4⟩
  refine ACode.exit ?_
  show ACode _ _ (cSnd sfx76) _ _ _ _
  exact wevent_end h1 _ (by simp [tget_set, t0]) (by simp [tget_set, t3]) (by simp [tget_set, t4])
theorem wevent_kx (h : Wr L W v bad l sl) (hsl : sl ≤ 1) (hr : EvR e) (hl : l.length ≤ 1000000) (h0 : ¬ e.k = 0) (h3 : ¬ e.k = 3) (h4 : ¬ e.k = 4) (h5 : ¬ e.k = 5) (h6 : ¬ e.k = 6) (h7 : ¬ e.k = 7) :
    ∃ L' v' sl', ACall Try.prog 76 [.ptr W 0, .agg (evF e)] L (.tuple []) L' ∧ Wr L' W v' (bad || wBad e) (l ++ wBytes e) sl' ∧ sl' ≤ 1 ∧ Old W v L L' v' := by
  obtain ⟨A, v1, E, O, hES, hpre⟩ := wevent_pre h hsl e hr.k hr.s hl
  obtain ⟨f00, f01, f02, f03, f04, f05, f06, f07, f08⟩ := ld86 hES.ev
  refine ⟨⟨A.t.set W (wB v1 (bad || decide (e.k < 0) || decide (9 ≤ e.k) || decide (e.s < 0) || decide (5 ≤ e.s) || decide ((⟨e.k, e.s, [], 0, 0, 0, 0, 0, 0⟩ : Evt) ≠ e))), A.next⟩, v1, 1, hpre _ ?_, ?_, by omega, hES.old.trans (Old.put _ _ _ _)⟩
  rotate_left 1
  ·
    rw [show (bad || wBad e) = (bad || decide (e.k < 0) || decide (9 ≤ e.k) || decide (e.s < 0) || decide (5 ≤ e.s) || decide (wOwn e ≠ e)) from by simp [wBad, out, h0, h3, h4, h5, h6, h7, Bool.or_assoc], show l ++ wBytes e = l ++ [lowB (e.k + 9 * e.s)] from by simp [wBytes, wTail, h0, h3, h4, h5, h6, h7], show wOwn e = ⟨e.k, e.s, [], 0, 0, 0, 0, 0, 0⟩ from by simp [wOwn, h0, h3, h4, h5, h6, h7]]
    exact hES.wr.bad _
  intro t t0 t3 t4
  show ACode _ _ (Code.seq (Code.seq (Code.region _ _ _) _) _) _ _ _ _
  refine ACode.seq ?_
  refine ACode.seq (ACode.regS noT_ok names_ok mix (t' := ?_) (L' := ?_) [0, 1] (by rfl) ?_ ?_)
  rotate_left 2
  · iterate 2 (refine seqE_cons rfl rfl rfl (by simp (config := {decide := false}) [EVT, Ev.seqE, Ev.drawE, Ev.fits, Ev.wantedE, Ev.oneE, Ev.cls, Ev.quiet, Ev.making, Ev.setParts, Ev.rowOf, Ev.loud, Ev.opd, Ev.opds, Ev.optOpd, Ev.pairs, Ev.putD, Ev.builtinQ, Ev.argsT, Ev.isAnc, Ev.index, Ev.indexAddr, Ev.sliceOp, Ev.bound, Ev.NV.mk, Ev.Heap.store, Ev.Heap.elem, Ev.V.cells, Ev.V.scalar, Ev.V.asPtr, Ev.V.asBool, Ev.V.asInt, Ev.V.asStr, Ev.V.asAgg, Ev.V.asTup, Ev.V.asMap, Ev.build, Ev.fillCells, Ev.splice, Ev.over, Ev.takeN, Ev.part, Ev.unV, Ev.binV, Ev.isShift, Ev.isConstO, Ev.fieldAddr, Ev.placeS, Ev.placeA, Ev.goal, Ev.recT, Ev.recR, Ev.recheck, Ev.undefV, Ev.convQ, Ev.convNew, TYA, TYB, t0, t3, t4, f00, h0, h3, h4, h5, h6, h7, Try.f76]; rfl) (by rfl) (by simp only [Ev.putD]; rfl) ?_)
    rfl
  refine ACode.block (ACode.seq (ACode.block (ACode.seq (ACode.block (ACode.seq (ACode.block (ACode.seq (ACode.block (ACode.seq (ACode.block (ACode.seq (ACode.seq ?_))))))))))))
  refine ACode.seq (ACode.regS noT_ok names_ok mix (t' := ?_) (L' := ?_) [0, 1] (by rfl) ?_ ?_)
  rotate_left 2
  · iterate 2 (refine seqE_cons rfl rfl rfl (by simp (config := {decide := false}) [EVT, Ev.seqE, Ev.drawE, Ev.fits, Ev.wantedE, Ev.oneE, Ev.cls, Ev.quiet, Ev.making, Ev.setParts, Ev.rowOf, Ev.loud, Ev.opd, Ev.opds, Ev.optOpd, Ev.pairs, Ev.putD, Ev.builtinQ, Ev.argsT, Ev.isAnc, Ev.index, Ev.indexAddr, Ev.sliceOp, Ev.bound, Ev.NV.mk, Ev.Heap.store, Ev.Heap.elem, Ev.V.cells, Ev.V.scalar, Ev.V.asPtr, Ev.V.asBool, Ev.V.asInt, Ev.V.asStr, Ev.V.asAgg, Ev.V.asTup, Ev.V.asMap, Ev.build, Ev.fillCells, Ev.splice, Ev.over, Ev.takeN, Ev.part, Ev.unV, Ev.binV, Ev.isShift, Ev.isConstO, Ev.fieldAddr, Ev.placeS, Ev.placeA, Ev.goal, Ev.recT, Ev.recR, Ev.recheck, Ev.undefV, Ev.convQ, Ev.convNew, TYA, TYB, t0, t3, t4, f00, h0, h3, h4, h5, h6, h7, Try.f76]; rfl) (by rfl) (by simp only [Ev.putD]; rfl) ?_)
    rfl
  refine ACode.condF (by simp [tget_set, opd]) (ACode.skip ?_)
  show ACode _ _ _ _ _ _ _
  refine ACode.seq (ACode.seq ?_)
  refine ACode.seq (ACode.regS noT_ok names_ok mix (t' := ?_) (L' := ?_) [0, 1] (by rfl) ?_ ?_)
  rotate_left 2
  · iterate 2 (refine seqE_cons rfl rfl rfl (by simp (config := {decide := false}) [EVT, Ev.seqE, Ev.drawE, Ev.fits, Ev.wantedE, Ev.oneE, Ev.cls, Ev.quiet, Ev.making, Ev.setParts, Ev.rowOf, Ev.loud, Ev.opd, Ev.opds, Ev.optOpd, Ev.pairs, Ev.putD, Ev.builtinQ, Ev.argsT, Ev.isAnc, Ev.index, Ev.indexAddr, Ev.sliceOp, Ev.bound, Ev.NV.mk, Ev.Heap.store, Ev.Heap.elem, Ev.V.cells, Ev.V.scalar, Ev.V.asPtr, Ev.V.asBool, Ev.V.asInt, Ev.V.asStr, Ev.V.asAgg, Ev.V.asTup, Ev.V.asMap, Ev.build, Ev.fillCells, Ev.splice, Ev.over, Ev.takeN, Ev.part, Ev.unV, Ev.binV, Ev.isShift, Ev.isConstO, Ev.fieldAddr, Ev.placeS, Ev.placeA, Ev.goal, Ev.recT, Ev.recR, Ev.recheck, Ev.undefV, Ev.convQ, Ev.convNew, TYA, TYB, t0, t3, t4, f00, h0, h3, h4, h5, h6, h7, Try.f76]; rfl) (by rfl) (by simp only [Ev.putD]; rfl) ?_)
    rfl
  refine ACode.condF (by simp [tget_set, opd]) ?_
  refine ACode.regS noT_ok names_ok mix (t' := ?_) (L' := ?_) [0, 1] (by rfl) ?_ ?_
  rotate_left 2
  · iterate 2 (refine seqE_cons rfl rfl rfl (by simp (config := {decide := false}) [EVT, Ev.seqE, Ev.drawE, Ev.fits, Ev.wantedE, Ev.oneE, Ev.cls, Ev.quiet, Ev.making, Ev.setParts, Ev.rowOf, Ev.loud, Ev.opd, Ev.opds, Ev.optOpd, Ev.pairs, Ev.putD, Ev.builtinQ, Ev.argsT, Ev.isAnc, Ev.index, Ev.indexAddr, Ev.sliceOp, Ev.bound, Ev.NV.mk, Ev.Heap.load, Ev.Heap.store, Ev.Heap.elem, Ev.V.cells, Ev.V.scalar, Ev.V.asPtr, Ev.V.asBool, Ev.V.asInt, Ev.V.asStr, Ev.V.asAgg, Ev.V.asTup, Ev.V.asMap, Ev.build, Ev.fillCells, Ev.splice, Ev.over, Ev.takeN, Ev.part, Ev.unV, Ev.binV, Ev.isShift, Ev.isConstO, Ev.fieldAddr, Ev.placeS, Ev.placeA, Ev.goal, Ev.recT, Ev.recR, Ev.recheck, Ev.undefV, Ev.convQ, Ev.convNew, TYA, TYB, h0, h3, h4, h5, h6, h7, Try.f76]; rfl) (by rfl) (by simp only [Ev.putD]; rfl) ?_)
    rfl
  show ACode _ _ _ _ _ _ _
  refine ACode.condF (by simp [tget_set, opd]) (ACode.skip ?_)
  show ACode _ _ _ _ _ _ _
  refine ACode.seq ?_
  refine ACode.seq (ACode.regS noT_ok names_ok mix (t' := ?_) (L' := ?_) [0, 1] (by rfl) ?_ ?_)
  rotate_left 2
  · iterate 2 (refine seqE_cons rfl rfl rfl (by simp (config := {decide := false}) [EVT, Ev.seqE, Ev.drawE, Ev.fits, Ev.wantedE, Ev.oneE, Ev.cls, Ev.quiet, Ev.making, Ev.setParts, Ev.rowOf, Ev.loud, Ev.opd, Ev.opds, Ev.optOpd, Ev.pairs, Ev.putD, Ev.builtinQ, Ev.argsT, Ev.isAnc, Ev.index, Ev.indexAddr, Ev.sliceOp, Ev.bound, Ev.NV.mk, Ev.Heap.store, Ev.Heap.elem, Ev.V.cells, Ev.V.scalar, Ev.V.asPtr, Ev.V.asBool, Ev.V.asInt, Ev.V.asStr, Ev.V.asAgg, Ev.V.asTup, Ev.V.asMap, Ev.build, Ev.fillCells, Ev.splice, Ev.over, Ev.takeN, Ev.part, Ev.unV, Ev.binV, Ev.isShift, Ev.isConstO, Ev.fieldAddr, Ev.placeS, Ev.placeA, Ev.goal, Ev.recT, Ev.recR, Ev.recheck, Ev.undefV, Ev.convQ, Ev.convNew, TYA, TYB, t0, t3, t4, f00, h0, h3, h4, h5, h6, h7, Try.f76]; rfl) (by rfl) (by simp only [Ev.putD]; rfl) ?_)
    rfl
  refine ACode.condF (by simp [tget_set, opd]) (ACode.skip ?_)
  show ACode _ _ _ _ _ _ _
  refine ACode.seq ?_
  refine ACode.seq (ACode.regS noT_ok names_ok mix (t' := ?_) (L' := ?_) [0, 1] (by rfl) ?_ ?_)
  rotate_left 2
  · iterate 2 (refine seqE_cons rfl rfl rfl (by simp (config := {decide := false}) [EVT, Ev.seqE, Ev.drawE, Ev.fits, Ev.wantedE, Ev.oneE, Ev.cls, Ev.quiet, Ev.making, Ev.setParts, Ev.rowOf, Ev.loud, Ev.opd, Ev.opds, Ev.optOpd, Ev.pairs, Ev.putD, Ev.builtinQ, Ev.argsT, Ev.isAnc, Ev.index, Ev.indexAddr, Ev.sliceOp, Ev.bound, Ev.NV.mk, Ev.Heap.store, Ev.Heap.elem, Ev.V.cells, Ev.V.scalar, Ev.V.asPtr, Ev.V.asBool, Ev.V.asInt, Ev.V.asStr, Ev.V.asAgg, Ev.V.asTup, Ev.V.asMap, Ev.build, Ev.fillCells, Ev.splice, Ev.over, Ev.takeN, Ev.part, Ev.unV, Ev.binV, Ev.isShift, Ev.isConstO, Ev.fieldAddr, Ev.placeS, Ev.placeA, Ev.goal, Ev.recT, Ev.recR, Ev.recheck, Ev.undefV, Ev.convQ, Ev.convNew, TYA, TYB, t0, t3, t4, f00, h0, h3, h4, h5, h6, h7, Try.f76]; rfl) (by rfl) (by simp only [Ev.putD]; rfl) ?_)
    rfl
  refine ACode.condF (by simp [tget_set, opd]) (ACode.skip ?_)
  show ACode _ _ _ _ _ _ _
  refine ACode.seq (ACode.regS noT_ok names_ok mix (t' := ?_) (L' := ?_) [0, 1] (by rfl) ?_ ?_)
  rotate_left 2
  · iterate 2 (refine seqE_cons rfl rfl rfl (by simp (config := {decide := false}) [EVT, Ev.seqE, Ev.drawE, Ev.fits, Ev.wantedE, Ev.oneE, Ev.cls, Ev.quiet, Ev.making, Ev.setParts, Ev.rowOf, Ev.loud, Ev.opd, Ev.opds, Ev.optOpd, Ev.pairs, Ev.putD, Ev.builtinQ, Ev.argsT, Ev.isAnc, Ev.index, Ev.indexAddr, Ev.sliceOp, Ev.bound, Ev.NV.mk, Ev.Heap.store, Ev.Heap.elem, Ev.V.cells, Ev.V.scalar, Ev.V.asPtr, Ev.V.asBool, Ev.V.asInt, Ev.V.asStr, Ev.V.asAgg, Ev.V.asTup, Ev.V.asMap, Ev.build, Ev.fillCells, Ev.splice, Ev.over, Ev.takeN, Ev.part, Ev.unV, Ev.binV, Ev.isShift, Ev.isConstO, Ev.fieldAddr, Ev.placeS, Ev.placeA, Ev.goal, Ev.recT, Ev.recR, Ev.recheck, Ev.undefV, Ev.convQ, Ev.convNew, TYA, TYB, t0, t3, t4, f00, h0, h3, h4, h5, h6, h7, Try.f76]; rfl) (by rfl) (by simp only [Ev.putD]; rfl) ?_)
    rfl
  refine ACode.condF (by simp [tget_set, opd]) (ACode.skip ?_)
  show ACode _ _ _ _ _ _ _
  refine ACode.exit ?_
  show ACode _ _ (cSnd sfx76) _ _ _ _
  exact wevent_end hES _ (by simp [tget_set, t0]) (by simp [tget_set, t3]) (by simp [tget_set, t4])
theorem wevent_ok (h : Wr L W v bad l sl) (hsl : sl ≤ 1) (hr : EvR e) (hl : l.length ≤ 1000000) :
    ∃ L' v' sl', ACall Try.prog 76 [.ptr W 0, .agg (evF e)] L (.tuple []) L' ∧ Wr L' W v' (bad || wBad e) (l ++ wBytes e) sl' ∧ sl' ≤ 1 ∧ Old W v L L' v' := by
  by_cases h3 : e.k = 3
  · exact wevent_k3 h hsl hr hl h3
  by_cases h0 : e.k = 0
  · exact wevent_k0 h hsl hr hl h0
  by_cases h4 : e.k = 4
  · exact wevent_k4 h hsl hr hl h4
  by_cases h5 : e.k = 5
  · exact wevent_k5 h hsl hr hl h5
  by_cases h6 : e.k = 6
  · exact wevent_k6 h hsl hr hl h6
  by_cases h7 : e.k = 7
  · exact wevent_k7 h hsl hr hl h7
  exact wevent_kx h hsl hr hl h0 h3 h4 h5 h6 h7
end
end Go.Proofs.Ytpfmoolpeecobaa
