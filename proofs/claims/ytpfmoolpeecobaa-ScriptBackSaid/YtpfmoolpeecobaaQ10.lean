/- An event that is laid: its beginning. Equal events; the end of one that is laid. -/
import Derived.Test.YtpfmoolpeecobaaQ9
namespace Go.Proofs.Ytpfmoolpeecobaa
open Go Go.Proofs Go.Proofs.Ytpfmoolpeecobaa.Ev
set_option linter.unusedVariables false
set_option linter.unusedSimpArgs false
set_option maxRecDepth 100000
set_option maxHeartbeats 4000000

def cFst : Code → Code
  | .seq a _ => a
  | c => c
def cSnd : Code → Code
  | .seq _ b => b
  | c => c
theorem Old.at {W : Nat} {v v' : V} {L L' : Heap} {l : List Int} {sl : Nat} (h : Old W v L L' v') (hr : RowS L v l sl) {X : Nat} {c : T (List V)} {n sz : Nat} {ro : Bool} (hX : L.t.get X = some (.cells c n sz false ro)) (hlt : X < L.next) (hne : X ≠ W) : L'.t.get X = some (.cells c n sz false ro) := by
  rw [h.old X hlt hne (hr.ne hX)]; exact hX
theorem below_step {A : Heap} {W : Nat} {v : V} {bad : Bool} {l : List Int} {sl : Nat} (h : Wr A W v bad l sl) (most n : Int) (hl : l.length ≤ 10000000) :
    ∃ A2 v', ACall Try.prog 101 [.ptr W 0, .int .i64 most, .slice A.next 0 1 1 false] ⟨A.t.set A.next (.cells (T.set .leaf 0 [.int .i64 n]) 1 1 false false), A.next + 1⟩ (.tuple []) A2 ∧
      Wr A2 W v' (bad || decide (n < 0) || decide (most ≤ n)) (l ++ [lowB n]) (sl - 1) ∧ Old W v A A2 v' := by
  have h1 := h.new (oneB (.int .i64 n))
  obtain ⟨A2, v', hc, hw, ho⟩ := belowW_ok h1 most n (s := A.next) (T.get_set_same _ _ _) (Nat.lt_succ_self _) hl
  exact ⟨A2, v', hc, hw, (Old.new W v A _).trans ho⟩
/-- an event that is laid, and its own parts: two blocks that stand -/
structure ES (L A : Heap) (W : Nat) (v0 v : V) (bad : Bool) (l : List Int) (sl E O : Nat) (ce co : List V) : Prop where
  wr : Wr A W v bad l sl
  ev : A.t.get E = some (evB ce)
  own : A.t.get O = some (evB co)
  elt : E < A.next
  olt : O < A.next
  eW : E ≠ W
  oW : O ≠ W
  eO : E ≠ O
  old : Old W v0 L A v
  oge : L.next ≤ O
theorem ES.step {L A A' : Heap} {W : Nat} {v0 v v' : V} {bad bad' : Bool} {l l' : List Int} {sl sl' E O : Nat} {ce co : List V} (h : ES L A W v0 v bad l sl E O ce co) (hw : Wr A' W v' bad' l' sl') (ho : Old W v A A' v') : ES L A' W v0 v' bad' l' sl' E O ce co :=
  ⟨hw, ho.at h.wr.row h.ev h.elt h.eW, ho.at h.wr.row h.own h.olt h.oW, Nat.lt_of_lt_of_le h.elt ho.next, Nat.lt_of_lt_of_le h.olt ho.next, h.eW, h.oW, h.eO, h.old.trans ho, h.oge⟩
/-- the own event's block is put -/
theorem ES.put {L A : Heap} {W : Nat} {v0 v : V} {bad : Bool} {l : List Int} {sl E O : Nat} {ce co : List V} (h : ES L A W v0 v bad l sl E O ce co) (co' : List V) : ES L ⟨A.t.set O (evB co'), A.next⟩ W v0 v bad l sl E O ce co' := by
  have hne : nmP v ≠ some O := h.wr.row.ne h.own
  refine ⟨⟨by show T.get (T.set _ _ _) _ = _; rw [T.get_set_ne _ _ (fun e => h.oW e.symm)]; exact h.wr.cell, h.wr.lt, h.wr.row.still (Nat.le_refl _) fun m hm => T.get_set_ne _ _ (by rintro rfl; exact hne hm)⟩, by show T.get (T.set _ _ _) _ = _; rw [T.get_set_ne _ _ h.eO]; exact h.ev, T.get_set_same _ _ _, h.elt, h.olt, h.eW, h.oW, h.eO, ?_, h.oge⟩
  exact ⟨h.old.next, fun n hn hw hv => by show T.get (T.set _ _ _) _ = _; rw [T.get_set_ne _ _ (by have := h.oge; omega)]; exact h.old.old n hn hw hv, h.old.nm⟩

/-- the code behind an event's beginning -/
noncomputable def sfx76 : Code := cSnd (cSnd (cSnd (cSnd (cSnd (Try.f76.body.getD .skip)))))
theorem arg5 {x : V} : ([x, V.int .i64 5] : List V) ≠ [x, V.int .i64 9] := by simp
theorem cellsAg (l : List V) : (V.agg l).cells = l := rfl
theorem cellsS (n o l c : Nat) (q : Bool) : (V.slice n o l c q).cells = [V.slice n o l c q] := rfl
theorem wevent_pre {L : Heap} {W : Nat} {v : V} {bad : Bool} {l : List Int} {sl : Nat} (h : Wr L W v bad l sl) (hsl : sl ≤ 1) (e : Evt) (hk : -1000 ≤ e.k ∧ e.k ≤ 1000) (hs : -1000 ≤ e.s ∧ e.s ≤ 1000) (hl : l.length ≤ 1000000) :
    ∃ A v' E O, ES L A W v v' (bad || decide (e.k < 0) || decide (9 ≤ e.k) || decide (e.s < 0) || decide (5 ≤ e.s)) (l ++ [lowB (e.k + 9 * e.s)]) 1 E O (evF e) (evF ⟨e.k, e.s, [], 0, 0, 0, 0, 0, 0⟩) ∧
      ∀ L', (∀ t : T V, tget t 0 = .ptr W 0 → tget t 3 = .ptr E 0 → tget t 4 = .ptr O 0 → ACode Try.prog ⟨none, 148⟩ sfx76 t [] A (fun x _ d A' => x = .normal ∧ d = [] ∧ A' = L')) →
        ACall Try.prog 76 [.ptr W 0, .agg (evF e)] L (.tuple []) L' := by
  have hE : (⟨L.t.set L.next (evB (evF e)), L.next + 1⟩ : Heap).t.get L.next = some (evB (evF e)) := T.get_set_same _ _ _
  have h1 := h.new (evB (evF e))
  have o1 := Old.new W v L (evB (evF e))
  have hEW : L.next ≠ W := by have := h.lt; omega
  have hElt : L.next < (⟨L.t.set L.next (evB (evF e)), L.next + 1⟩ : Heap).next := Nat.lt_succ_self _
  generalize hA1 : (⟨L.t.set L.next (evB (evF e)), L.next + 1⟩ : Heap) = A1 at *
  obtain ⟨A2, v2, c2, w2, o2⟩ := below_step h1 9 e.k (by omega)
  have hE2 := o2.at h1.row hE hElt hEW
  obtain ⟨A3, v3, c3, w3, o3⟩ := below_step w2 5 e.s (by simp; omega)
  have hElt2 := Nat.lt_of_lt_of_le hElt o2.next
  have hE3 := o3.at w2.row hE2 hElt2 hEW
  have hElt3 := Nat.lt_of_lt_of_le hElt2 o3.next
  have hsl0 : sl - 1 - 1 = 0 := by omega
  rw [hsl0] at w3
  generalize (bad || decide (e.k < 0) || decide (9 ≤ e.k) || decide (e.s < 0) || decide (5 ≤ e.s)) = bx at *
  obtain ⟨vc, hcut, hrc, hnm⟩ := cut_S (j := l.length) w3.row (by simp) (by simp)
  have htk : (l ++ [lowB e.k] ++ [lowB e.s]).take l.length = l := by simp
  have hdl : (l ++ [lowB e.k] ++ [lowB e.s]).length - l.length = 1 + 1 := by simp
  rw [htk, hdl] at hrc
  have hb5 : RowS ⟨A3.t.set A3.next (oneB (.int .u8 (lowB (e.k + 9 * e.s)))), A3.next + 1⟩ vc l (1 + 1) := hrc.still (Nat.le_succ _) fun m hm => T.get_set_ne _ _ (by have := hrc.nm_lt hm; omega)
  have hy : (⟨A3.t.set A3.next (oneB (.int .u8 (lowB (e.k + 9 * e.s)))), A3.next + 1⟩ : Heap).t.get A3.next = some (oneB (.int .u8 (lowB (e.k + 9 * e.s)))) := T.get_set_same _ _ _
  have w3b := w3.new (oneB (.int .u8 (lowB (e.k + 9 * e.s))))
  have o3b := Old.new W v3 A3 (oneB (.int .u8 (lowB (e.k + 9 * e.s))))
  generalize hA3b : (⟨A3.t.set A3.next (oneB (.int .u8 (lowB (e.k + 9 * e.s)))), A3.next + 1⟩ : Heap) = A3b at *
  obtain ⟨v4, A4, happ, hr4, hn4, hk4, hm4⟩ := append_one hb5 (oneB_src hy) (by omega)
  rw [hnm] at hk4 hm4
  obtain ⟨w5, o5, hW4⟩ := w3b.app hr4 hn4 hk4 hm4
  have hE5 := (o3b.trans o5).at w3.row hE3 hElt3 hEW
  have hElt5 := Nat.lt_of_lt_of_le hElt3 (o3b.trans o5).next
  have hoall := ((o1.trans o2).trans o3).trans (o3b.trans o5)
  have hWlt5 := w5.lt
  generalize hA5 : (⟨A4.t.set W (wB v4 bx), A4.next⟩ : Heap) = A5 at *
  have hES : ES L ⟨A5.t.set A5.next (evB (evF ⟨e.k, e.s, [], 0, 0, 0, 0, 0, 0⟩)), A5.next + 1⟩ W v v4 bx (l ++ [lowB (e.k + 9 * e.s)]) 1 L.next A5.next (evF e) (evF ⟨e.k, e.s, [], 0, 0, 0, 0, 0, 0⟩) :=
    ⟨w5.new _, (Old.new W v4 A5 _).at w5.row hE5 hElt5 hEW, T.get_set_same _ _ _, Nat.lt_succ_of_lt hElt5, Nat.lt_succ_self _, hEW, by omega, by omega, hoall.trans (Old.new W v4 A5 _), hoall.next⟩
  refine ⟨_, v4, L.next, A5.next, hES, fun L' hsuf => ?_⟩
  have happ' := happ
  rw [← hA3b] at happ'
  unfold oneB at happ'
  have e1 : A1.t = L.t.set L.next (evB (evF e)) := by rw [← hA1]
  have e2 : A1.next = L.next + 1 := by rw [← hA1]
  have hw3c := w3.cell
  have hcs := hr4.cells
  have hlen : ∀ L', Ev.builtinQ Try.prog .len #[38] [v3] L' = some (.int .i64 (((l.length : Nat) : Int) + 2)) := fun L' => by rw [w3.row.len]; simp
  have hwk : IntKind.i64.wrap (9 * e.s) = 9 * e.s := Go.IntWalk.i64_in _ (by omega)
  have hwl : IntKind.i64.wrap (e.k + 9 * e.s) = e.k + 9 * e.s := Go.IntWalk.i64_in _ (by omega)
  have hwj : IntKind.i64.wrap ((l.length : Nat) : Int) = ((l.length : Nat) : Int) := Go.IntWalk.i64_in _ (by omega)
  unfold wB at hw3c hW4
  have hA1E := hE
  simp only [evB, evF] at hA1E hE2 hE3 hE5
  refine ACall.of_body_same Try.func76 rfl ?_
  refine ACode.seq (ACode.regS noT_ok names_ok mix (t' := ?_) (L' := ?_) [0] (by rfl) ?_ ?_)
  rotate_left 2
  · refine seqE_cons rfl rfl rfl (by simp (config := {decide := false}) [EVT, Ev.seqE, Ev.drawE, Ev.fits, Ev.wantedE, Ev.oneE, Ev.cls, Ev.quiet, Ev.making, Ev.setParts, Ev.rowOf, Ev.loud, Ev.opd, Ev.opds, Ev.optOpd, Ev.pairs, Ev.putD, Ev.builtinQ, Ev.argsT, Ev.isAnc, Ev.index, Ev.indexAddr, Ev.sliceOp, Ev.bound, Ev.NV.mk, Ev.Heap.load, Ev.Heap.store, Ev.Heap.elem, Ev.V.cells, Ev.V.scalar, Ev.V.asPtr, Ev.V.asBool, Ev.V.asInt, Ev.V.asStr, Ev.V.asAgg, Ev.V.asTup, Ev.V.asMap, Ev.build, Ev.fillCells, Ev.splice, Ev.over, Ev.takeN, Ev.part, Ev.unV, Ev.binV, Ev.isShift, Ev.isConstO, Ev.fieldAddr, Ev.placeS, Ev.placeA, Ev.goal, Ev.recT, Ev.recR, Ev.recheck, Ev.undefV, Ev.convQ, Ev.convNew, TYA, TYB, Try.f76]; rfl) (by rfl) (by simp only [Ev.putD]; rfl) ?_
    rfl
  change ACode _ _ _ _ _ ⟨L.t.set L.next (evB (evF e)), L.next + 1⟩ _
  rw [hA1]
  refine ACode.seq (ACode.regS (oneT_okP c2) names_ok mix (t' := ?_) (L' := ?_) [0, 1, 2, 3, 4] (by rfl) ?_ ?_)
  rotate_left 2
  · iterate 5 (refine seqE_cons rfl rfl rfl (by simp (config := {decide := false}) [EVT, Ev.seqE, Ev.drawE, Ev.fits, Ev.wantedE, Ev.oneE, Ev.cls, Ev.quiet, Ev.making, Ev.setParts, Ev.rowOf, Ev.loud, Ev.opd, Ev.opds, Ev.optOpd, Ev.pairs, Ev.putD, Ev.builtinQ, Ev.argsT, Ev.isAnc, Ev.index, Ev.indexAddr, Ev.sliceOp, Ev.bound, Ev.NV.mk, Ev.Heap.load, Ev.Heap.store, Ev.Heap.elem, Ev.V.cells, Ev.V.scalar, Ev.V.asPtr, Ev.V.asBool, Ev.V.asInt, Ev.V.asStr, Ev.V.asAgg, Ev.V.asTup, Ev.V.asMap, Ev.build, Ev.fillCells, Ev.splice, Ev.over, Ev.takeN, Ev.part, Ev.unV, Ev.binV, Ev.isShift, Ev.isConstO, Ev.fieldAddr, Ev.placeS, Ev.placeA, Ev.goal, Ev.recT, Ev.recR, Ev.recheck, Ev.undefV, Ev.convQ, Ev.convNew, TYA, TYB, hA1E, oneT_sameP, Try.f76]; rfl) (by rfl) (by simp only [Ev.putD]; rfl) ?_)
    rfl
  refine ACode.seq (ACode.regS (oneT_okP c3) names_ok mix (t' := ?_) (L' := ?_) [0, 1, 2, 3, 4] (by rfl) ?_ ?_)
  rotate_left 2
  · iterate 5 (refine seqE_cons rfl rfl rfl (by simp (config := {decide := false}) [EVT, Ev.seqE, Ev.drawE, Ev.fits, Ev.wantedE, Ev.oneE, Ev.cls, Ev.quiet, Ev.making, Ev.setParts, Ev.rowOf, Ev.loud, Ev.opd, Ev.opds, Ev.optOpd, Ev.pairs, Ev.putD, Ev.builtinQ, Ev.argsT, Ev.isAnc, Ev.index, Ev.indexAddr, Ev.sliceOp, Ev.bound, Ev.NV.mk, Ev.Heap.load, Ev.Heap.store, Ev.Heap.elem, Ev.V.cells, Ev.V.scalar, Ev.V.asPtr, Ev.V.asBool, Ev.V.asInt, Ev.V.asStr, Ev.V.asAgg, Ev.V.asTup, Ev.V.asMap, Ev.build, Ev.fillCells, Ev.splice, Ev.over, Ev.takeN, Ev.part, Ev.unV, Ev.binV, Ev.isShift, Ev.isConstO, Ev.fieldAddr, Ev.placeS, Ev.placeA, Ev.goal, Ev.recT, Ev.recR, Ev.recheck, Ev.undefV, Ev.convQ, Ev.convNew, TYA, TYB, hE2, oneT_sameP, Try.f76]; rfl) (by rfl) (by simp only [Ev.putD]; rfl) ?_)
    rfl
  refine ACode.seq (ACode.regD noT_ok names_ok mix (t' := ?_) (L' := ?_) [0,0,2,6,14,0,32,96,224,480,992,2046,0,4096,0,16384,49152,126976,258048,520192,1048574,2097151,4194303,8388607] [0,1,2,3,4,5,6,7,8,9,10,11,12,13,14,15,16,17,18,19,20,21,22,23] (by decide +kernel) (by decide +kernel) (by decide +kernel) ?_ ?_)
  rotate_left 2
  · iterate 4 (refine drawE_quiet rfl rfl rfl rfl (by simp (config := {decide := false}) [EVT, Ev.seqE, Ev.drawE, Ev.fits, Ev.wantedE, Ev.oneE, Ev.cls, Ev.quiet, Ev.making, Ev.setParts, Ev.rowOf, Ev.loud, Ev.opd, Ev.opds, Ev.optOpd, Ev.pairs, Ev.putD, Ev.argsT, Ev.isAnc, Ev.index, Ev.indexAddr, Ev.bound, Ev.NV.mk, Ev.Heap.load, Ev.Heap.store, Ev.Heap.elem, Ev.V.asPtr, Ev.V.asBool, Ev.V.asInt, Ev.V.asStr, Ev.V.asAgg, Ev.V.asTup, Ev.V.asMap, Ev.build, Ev.fillCells, Ev.splice, Ev.over, Ev.takeN, Ev.part, Ev.unV, Ev.binV, Ev.isShift, Ev.isConstO, Ev.fieldAddr, Ev.placeS, Ev.placeA, Ev.goal, Ev.recT, Ev.recR, Ev.recheck, Ev.undefV, Ev.convQ, Ev.convNew, TYA, TYB, cellsI, scal1, scal2, scal3, hw3c, hE3, hW4, hlen, hwk, hwl, hwj, hcut, hcs, lowB_eq, happ', Try.f76]; rfl) (by simp only [Ev.putD]; rfl) ?_)
    refine drawE_quietR rfl rfl rfl rfl (by simp (config := {decide := false}) [EVT, Ev.seqE, Ev.drawE, Ev.fits, Ev.wantedE, Ev.oneE, Ev.cls, Ev.quiet, Ev.making, Ev.setParts, Ev.rowOf, Ev.loud, Ev.opd, Ev.opds, Ev.optOpd, Ev.pairs, Ev.putD, Ev.argsT, Ev.isAnc, Ev.index, Ev.indexAddr, Ev.bound, Ev.NV.mk, Ev.Heap.load, Ev.Heap.store, Ev.Heap.elem, Ev.V.asPtr, Ev.V.asBool, Ev.V.asInt, Ev.V.asStr, Ev.V.asAgg, Ev.V.asTup, Ev.V.asMap, Ev.build, Ev.fillCells, Ev.splice, Ev.over, Ev.takeN, Ev.part, Ev.unV, Ev.binV, Ev.isShift, Ev.isConstO, Ev.fieldAddr, Ev.placeS, Ev.placeA, Ev.goal, Ev.recT, Ev.recR, Ev.recheck, Ev.undefV, Ev.convQ, Ev.convNew, TYA, TYB, cellsI, scal1, scal2, scal3, hw3c, hE3, hW4, hlen, hwk, hwl, hwj, hcut, hcs, lowB_eq, happ', Try.f76]; rfl) (by simp only [Ev.putD]; rfl) ?_
    iterate 3 (refine drawE_quiet rfl rfl rfl rfl (by simp (config := {decide := false}) [EVT, Ev.seqE, Ev.drawE, Ev.fits, Ev.wantedE, Ev.oneE, Ev.cls, Ev.quiet, Ev.making, Ev.setParts, Ev.rowOf, Ev.loud, Ev.opd, Ev.opds, Ev.optOpd, Ev.pairs, Ev.putD, Ev.argsT, Ev.isAnc, Ev.index, Ev.indexAddr, Ev.bound, Ev.NV.mk, Ev.Heap.load, Ev.Heap.store, Ev.Heap.elem, Ev.V.asPtr, Ev.V.asBool, Ev.V.asInt, Ev.V.asStr, Ev.V.asAgg, Ev.V.asTup, Ev.V.asMap, Ev.build, Ev.fillCells, Ev.splice, Ev.over, Ev.takeN, Ev.part, Ev.unV, Ev.binV, Ev.isShift, Ev.isConstO, Ev.fieldAddr, Ev.placeS, Ev.placeA, Ev.goal, Ev.recT, Ev.recR, Ev.recheck, Ev.undefV, Ev.convQ, Ev.convNew, TYA, TYB, cellsI, scal1, scal2, scal3, hw3c, hE3, hW4, hlen, hwk, hwl, hwj, hcut, hcs, lowB_eq, happ', Try.f76]; rfl) (by simp only [Ev.putD]; rfl) ?_)
    iterate 2 (refine drawE_quietR rfl rfl rfl rfl (by simp (config := {decide := false}) [EVT, Ev.seqE, Ev.drawE, Ev.fits, Ev.wantedE, Ev.oneE, Ev.cls, Ev.quiet, Ev.making, Ev.setParts, Ev.rowOf, Ev.loud, Ev.opd, Ev.opds, Ev.optOpd, Ev.pairs, Ev.putD, Ev.argsT, Ev.isAnc, Ev.index, Ev.indexAddr, Ev.bound, Ev.NV.mk, Ev.Heap.load, Ev.Heap.store, Ev.Heap.elem, Ev.V.asPtr, Ev.V.asBool, Ev.V.asInt, Ev.V.asStr, Ev.V.asAgg, Ev.V.asTup, Ev.V.asMap, Ev.build, Ev.fillCells, Ev.splice, Ev.over, Ev.takeN, Ev.part, Ev.unV, Ev.binV, Ev.isShift, Ev.isConstO, Ev.fieldAddr, Ev.placeS, Ev.placeA, Ev.goal, Ev.recT, Ev.recR, Ev.recheck, Ev.undefV, Ev.convQ, Ev.convNew, TYA, TYB, cellsI, scal1, scal2, scal3, hw3c, hE3, hW4, hlen, hwk, hwl, hwj, hcut, hcs, lowB_eq, happ', Try.f76]; rfl) (by simp only [Ev.putD]; rfl) ?_)
    iterate 3 (refine drawE_quiet rfl rfl rfl rfl (by simp (config := {decide := false}) [EVT, Ev.seqE, Ev.drawE, Ev.fits, Ev.wantedE, Ev.oneE, Ev.cls, Ev.quiet, Ev.making, Ev.setParts, Ev.rowOf, Ev.loud, Ev.opd, Ev.opds, Ev.optOpd, Ev.pairs, Ev.putD, Ev.argsT, Ev.isAnc, Ev.index, Ev.indexAddr, Ev.bound, Ev.NV.mk, Ev.Heap.load, Ev.Heap.store, Ev.Heap.elem, Ev.V.asPtr, Ev.V.asBool, Ev.V.asInt, Ev.V.asStr, Ev.V.asAgg, Ev.V.asTup, Ev.V.asMap, Ev.build, Ev.fillCells, Ev.splice, Ev.over, Ev.takeN, Ev.part, Ev.unV, Ev.binV, Ev.isShift, Ev.isConstO, Ev.fieldAddr, Ev.placeS, Ev.placeA, Ev.goal, Ev.recT, Ev.recR, Ev.recheck, Ev.undefV, Ev.convQ, Ev.convNew, TYA, TYB, cellsI, scal1, scal2, scal3, hw3c, hE3, hW4, hlen, hwk, hwl, hwj, hcut, hcs, lowB_eq, happ', Try.f76]; rfl) (by simp only [Ev.putD]; rfl) ?_)
    refine drawE_quietR rfl rfl rfl rfl (by simp (config := {decide := false}) [EVT, Ev.seqE, Ev.drawE, Ev.fits, Ev.wantedE, Ev.oneE, Ev.cls, Ev.quiet, Ev.making, Ev.setParts, Ev.rowOf, Ev.loud, Ev.opd, Ev.opds, Ev.optOpd, Ev.pairs, Ev.putD, Ev.argsT, Ev.isAnc, Ev.index, Ev.indexAddr, Ev.bound, Ev.NV.mk, Ev.Heap.load, Ev.Heap.store, Ev.Heap.elem, Ev.V.asPtr, Ev.V.asBool, Ev.V.asInt, Ev.V.asStr, Ev.V.asAgg, Ev.V.asTup, Ev.V.asMap, Ev.build, Ev.fillCells, Ev.splice, Ev.over, Ev.takeN, Ev.part, Ev.unV, Ev.binV, Ev.isShift, Ev.isConstO, Ev.fieldAddr, Ev.placeS, Ev.placeA, Ev.goal, Ev.recT, Ev.recR, Ev.recheck, Ev.undefV, Ev.convQ, Ev.convNew, TYA, TYB, cellsI, scal1, scal2, scal3, hw3c, hE3, hW4, hlen, hwk, hwl, hwj, hcut, hcs, lowB_eq, happ', Try.f76]; rfl) (by simp only [Ev.putD]; rfl) ?_
    refine drawE_quiet rfl rfl rfl rfl (by simp (config := {decide := false}) [EVT, Ev.seqE, Ev.drawE, Ev.fits, Ev.wantedE, Ev.oneE, Ev.cls, Ev.quiet, Ev.making, Ev.setParts, Ev.rowOf, Ev.loud, Ev.opd, Ev.opds, Ev.optOpd, Ev.pairs, Ev.putD, Ev.argsT, Ev.isAnc, Ev.index, Ev.indexAddr, Ev.bound, Ev.NV.mk, Ev.Heap.load, Ev.Heap.store, Ev.Heap.elem, Ev.V.asPtr, Ev.V.asBool, Ev.V.asInt, Ev.V.asStr, Ev.V.asAgg, Ev.V.asTup, Ev.V.asMap, Ev.build, Ev.fillCells, Ev.splice, Ev.over, Ev.takeN, Ev.part, Ev.unV, Ev.binV, Ev.isShift, Ev.isConstO, Ev.fieldAddr, Ev.placeS, Ev.placeA, Ev.goal, Ev.recT, Ev.recR, Ev.recheck, Ev.undefV, Ev.convQ, Ev.convNew, TYA, TYB, cellsI, scal1, scal2, scal3, hw3c, hE3, hW4, hlen, hwk, hwl, hwj, hcut, hcs, lowB_eq, happ', Try.f76]; rfl) (by simp only [Ev.putD]; rfl) ?_
    refine drawE_quietR rfl rfl rfl rfl (by simp (config := {decide := false}) [EVT, Ev.seqE, Ev.drawE, Ev.fits, Ev.wantedE, Ev.oneE, Ev.cls, Ev.quiet, Ev.making, Ev.setParts, Ev.rowOf, Ev.loud, Ev.opd, Ev.opds, Ev.optOpd, Ev.pairs, Ev.putD, Ev.argsT, Ev.isAnc, Ev.index, Ev.indexAddr, Ev.bound, Ev.NV.mk, Ev.Heap.load, Ev.Heap.store, Ev.Heap.elem, Ev.V.asPtr, Ev.V.asBool, Ev.V.asInt, Ev.V.asStr, Ev.V.asAgg, Ev.V.asTup, Ev.V.asMap, Ev.build, Ev.fillCells, Ev.splice, Ev.over, Ev.takeN, Ev.part, Ev.unV, Ev.binV, Ev.isShift, Ev.isConstO, Ev.fieldAddr, Ev.placeS, Ev.placeA, Ev.goal, Ev.recT, Ev.recR, Ev.recheck, Ev.undefV, Ev.convQ, Ev.convNew, TYA, TYB, cellsI, scal1, scal2, scal3, hw3c, hE3, hW4, hlen, hwk, hwl, hwj, hcut, hcs, lowB_eq, happ', Try.f76]; rfl) (by simp only [Ev.putD]; rfl) ?_
    iterate 2 (refine drawE_quiet rfl rfl rfl rfl (by simp (config := {decide := false}) [EVT, Ev.seqE, Ev.drawE, Ev.fits, Ev.wantedE, Ev.oneE, Ev.cls, Ev.quiet, Ev.making, Ev.setParts, Ev.rowOf, Ev.loud, Ev.opd, Ev.opds, Ev.optOpd, Ev.pairs, Ev.putD, Ev.argsT, Ev.isAnc, Ev.index, Ev.indexAddr, Ev.bound, Ev.NV.mk, Ev.Heap.load, Ev.Heap.store, Ev.Heap.elem, Ev.V.asPtr, Ev.V.asBool, Ev.V.asInt, Ev.V.asStr, Ev.V.asAgg, Ev.V.asTup, Ev.V.asMap, Ev.build, Ev.fillCells, Ev.splice, Ev.over, Ev.takeN, Ev.part, Ev.unV, Ev.binV, Ev.isShift, Ev.isConstO, Ev.fieldAddr, Ev.placeS, Ev.placeA, Ev.goal, Ev.recT, Ev.recR, Ev.recheck, Ev.undefV, Ev.convQ, Ev.convNew, TYA, TYB, cellsI, scal1, scal2, scal3, hw3c, hE3, hW4, hlen, hwk, hwl, hwj, hcut, hcs, lowB_eq, happ', Try.f76]; rfl) (by simp only [Ev.putD]; rfl) ?_)
    refine drawE_quietR rfl rfl rfl rfl (by simp (config := {decide := false}) [EVT, Ev.seqE, Ev.drawE, Ev.fits, Ev.wantedE, Ev.oneE, Ev.cls, Ev.quiet, Ev.making, Ev.setParts, Ev.rowOf, Ev.loud, Ev.opd, Ev.opds, Ev.optOpd, Ev.pairs, Ev.putD, Ev.argsT, Ev.isAnc, Ev.index, Ev.indexAddr, Ev.bound, Ev.NV.mk, Ev.Heap.load, Ev.Heap.store, Ev.Heap.elem, Ev.V.asPtr, Ev.V.asBool, Ev.V.asInt, Ev.V.asStr, Ev.V.asAgg, Ev.V.asTup, Ev.V.asMap, Ev.build, Ev.fillCells, Ev.splice, Ev.over, Ev.takeN, Ev.part, Ev.unV, Ev.binV, Ev.isShift, Ev.isConstO, Ev.fieldAddr, Ev.placeS, Ev.placeA, Ev.goal, Ev.recT, Ev.recR, Ev.recheck, Ev.undefV, Ev.convQ, Ev.convNew, TYA, TYB, cellsI, scal1, scal2, scal3, hw3c, hE3, hW4, hlen, hwk, hwl, hwj, hcut, hcs, lowB_eq, happ', Try.f76]; rfl) (by simp only [Ev.putD]; rfl) ?_
    refine drawE_make rfl rfl rfl rfl (by simp (config := {decide := false}) [EVT, Ev.seqE, Ev.drawE, Ev.fits, Ev.wantedE, Ev.oneE, Ev.cls, Ev.quiet, Ev.making, Ev.setParts, Ev.rowOf, Ev.loud, Ev.opd, Ev.opds, Ev.optOpd, Ev.pairs, Ev.putD, Ev.argsT, Ev.isAnc, Ev.index, Ev.indexAddr, Ev.bound, Ev.NV.mk, Ev.Heap.load, Ev.Heap.store, Ev.Heap.elem, Ev.V.asPtr, Ev.V.asBool, Ev.V.asInt, Ev.V.asStr, Ev.V.asAgg, Ev.V.asTup, Ev.V.asMap, Ev.build, Ev.fillCells, Ev.splice, Ev.over, Ev.takeN, Ev.part, Ev.unV, Ev.binV, Ev.isShift, Ev.isConstO, Ev.fieldAddr, Ev.placeS, Ev.placeA, Ev.goal, Ev.recT, Ev.recR, Ev.recheck, Ev.undefV, Ev.convQ, Ev.convNew, TYA, TYB, cellsI, scal1, scal2, scal3, hw3c, hE3, hW4, hlen, hwk, hwl, hwj, hcut, hcs, lowB_eq, happ', Try.f76]; rfl) (by rfl) (by simp only [Ev.putD, Ev.NV.mk]; rfl) ?_
    refine drawE_loud rfl rfl rfl rfl (by simp (config := {decide := false}) [EVT, Ev.seqE, Ev.drawE, Ev.fits, Ev.wantedE, Ev.oneE, Ev.cls, Ev.quiet, Ev.making, Ev.setParts, Ev.rowOf, Ev.loud, Ev.opd, Ev.opds, Ev.optOpd, Ev.pairs, Ev.putD, Ev.argsT, Ev.isAnc, Ev.index, Ev.indexAddr, Ev.bound, Ev.NV.mk, Ev.Heap.load, Ev.Heap.store, Ev.Heap.elem, Ev.V.asPtr, Ev.V.asBool, Ev.V.asInt, Ev.V.asStr, Ev.V.asAgg, Ev.V.asTup, Ev.V.asMap, Ev.build, Ev.fillCells, Ev.splice, Ev.over, Ev.takeN, Ev.part, Ev.unV, Ev.binV, Ev.isShift, Ev.isConstO, Ev.fieldAddr, Ev.placeS, Ev.placeA, Ev.goal, Ev.recT, Ev.recR, Ev.recheck, Ev.undefV, Ev.convQ, Ev.convNew, TYA, TYB, cellsI, scal1, scal2, scal3, hw3c, hE3, hW4, hlen, hwk, hwl, hwj, hcut, hcs, lowB_eq, happ', Try.f76]; rfl) (by rfl) (by simp [EVT, Ev.seqE, Ev.drawE, Ev.fits, Ev.wantedE, Ev.oneE, Ev.cls, Ev.quiet, Ev.making, Ev.setParts, Ev.rowOf, Ev.loud, Ev.opd, Ev.opds, Ev.optOpd, Ev.pairs, Ev.putD, Ev.argsT, Ev.isAnc, Ev.index, Ev.indexAddr, Ev.bound, Ev.NV.mk, Ev.Heap.load, Ev.Heap.store, Ev.Heap.elem, Ev.V.asPtr, Ev.V.asBool, Ev.V.asInt, Ev.V.asStr, Ev.V.asAgg, Ev.V.asTup, Ev.V.asMap, Ev.build, Ev.fillCells, Ev.splice, Ev.over, Ev.takeN, Ev.part, Ev.unV, Ev.binV, Ev.isShift, Ev.isConstO, Ev.fieldAddr, Ev.placeS, Ev.placeA, Ev.goal, Ev.recT, Ev.recR, Ev.recheck, Ev.undefV, Ev.convQ, Ev.convNew, TYA, TYB, cellsI, scal1, scal2, scal3, hw3c, hE3, hW4, hlen, hwk, hwl, hwj, hcut, hcs, lowB_eq, happ', Try.f76]) (by simp only [Ev.putD]; rfl) ?_
    iterate 2 (refine drawE_quiet rfl rfl rfl rfl (by simp (config := {decide := false}) [EVT, Ev.seqE, Ev.drawE, Ev.fits, Ev.wantedE, Ev.oneE, Ev.cls, Ev.quiet, Ev.making, Ev.setParts, Ev.rowOf, Ev.loud, Ev.opd, Ev.opds, Ev.optOpd, Ev.pairs, Ev.putD, Ev.argsT, Ev.isAnc, Ev.index, Ev.indexAddr, Ev.bound, Ev.NV.mk, Ev.Heap.load, Ev.Heap.store, Ev.Heap.elem, Ev.V.asPtr, Ev.V.asBool, Ev.V.asInt, Ev.V.asStr, Ev.V.asAgg, Ev.V.asTup, Ev.V.asMap, Ev.build, Ev.fillCells, Ev.splice, Ev.over, Ev.takeN, Ev.part, Ev.unV, Ev.binV, Ev.isShift, Ev.isConstO, Ev.fieldAddr, Ev.placeS, Ev.placeA, Ev.goal, Ev.recT, Ev.recR, Ev.recheck, Ev.undefV, Ev.convQ, Ev.convNew, TYA, TYB, cellsI, scal1, scal2, scal3, hw3c, hE3, hW4, hlen, hwk, hwl, hwj, hcut, hcs, lowB_eq, happ', Try.f76]; rfl) (by simp only [Ev.putD]; rfl) ?_)
    refine drawE_loud rfl rfl rfl rfl (by simp (config := {decide := false}) [EVT, Ev.seqE, Ev.drawE, Ev.fits, Ev.wantedE, Ev.oneE, Ev.cls, Ev.quiet, Ev.making, Ev.setParts, Ev.rowOf, Ev.loud, Ev.opd, Ev.opds, Ev.optOpd, Ev.pairs, Ev.putD, Ev.argsT, Ev.isAnc, Ev.index, Ev.indexAddr, Ev.bound, Ev.NV.mk, Ev.Heap.load, Ev.Heap.store, Ev.Heap.elem, Ev.V.asPtr, Ev.V.asBool, Ev.V.asInt, Ev.V.asStr, Ev.V.asAgg, Ev.V.asTup, Ev.V.asMap, Ev.build, Ev.fillCells, Ev.splice, Ev.over, Ev.takeN, Ev.part, Ev.unV, Ev.binV, Ev.isShift, Ev.isConstO, Ev.fieldAddr, Ev.placeS, Ev.placeA, Ev.goal, Ev.recT, Ev.recR, Ev.recheck, Ev.undefV, Ev.convQ, Ev.convNew, TYA, TYB, cellsI, scal1, scal2, scal3, hw3c, hE3, hW4, hlen, hwk, hwl, hwj, hcut, hcs, lowB_eq, happ', Try.f76]; rfl) (by rfl) (by simp [EVT, Ev.seqE, Ev.drawE, Ev.fits, Ev.wantedE, Ev.oneE, Ev.cls, Ev.quiet, Ev.making, Ev.setParts, Ev.rowOf, Ev.loud, Ev.opd, Ev.opds, Ev.optOpd, Ev.pairs, Ev.putD, Ev.argsT, Ev.isAnc, Ev.index, Ev.indexAddr, Ev.bound, Ev.NV.mk, Ev.Heap.load, Ev.Heap.store, Ev.Heap.elem, Ev.V.asPtr, Ev.V.asBool, Ev.V.asInt, Ev.V.asStr, Ev.V.asAgg, Ev.V.asTup, Ev.V.asMap, Ev.build, Ev.fillCells, Ev.splice, Ev.over, Ev.takeN, Ev.part, Ev.unV, Ev.binV, Ev.isShift, Ev.isConstO, Ev.fieldAddr, Ev.placeS, Ev.placeA, Ev.goal, Ev.recT, Ev.recR, Ev.recheck, Ev.undefV, Ev.convQ, Ev.convNew, TYA, TYB, cellsI, scal1, scal2, scal3, hw3c, hE3, hW4, hlen, hwk, hwl, hwj, hcut, hcs, lowB_eq, happ', Try.f76]) (by simp only [Ev.putD]; rfl) ?_
    rfl
  change ACode _ _ _ _ _ ⟨A4.t.set W (wB v4 bx), A4.next⟩ _
  rw [hA5]
  refine ACode.seq (ACode.regS noT_ok names_ok mix (t' := ?_) (L' := ?_) [0, 1, 2, 3, 4, 5, 6] (by rfl) ?_ ?_)
  rotate_left 2
  · iterate 7 (refine seqE_cons rfl rfl rfl (by simp (config := {decide := false}) [EVT, Ev.seqE, Ev.drawE, Ev.fits, Ev.wantedE, Ev.oneE, Ev.cls, Ev.quiet, Ev.making, Ev.setParts, Ev.rowOf, Ev.loud, Ev.opd, Ev.opds, Ev.optOpd, Ev.pairs, Ev.putD, Ev.builtinQ, Ev.argsT, Ev.isAnc, Ev.index, Ev.indexAddr, Ev.sliceOp, Ev.bound, Ev.NV.mk, Ev.Heap.load, Ev.Heap.store, Ev.Heap.elem, Ev.V.cells, Ev.V.scalar, Ev.V.asPtr, Ev.V.asBool, Ev.V.asInt, Ev.V.asStr, Ev.V.asAgg, Ev.V.asTup, Ev.V.asMap, Ev.build, Ev.fillCells, Ev.splice, Ev.over, Ev.takeN, Ev.part, Ev.unV, Ev.binV, Ev.isShift, Ev.isConstO, Ev.fieldAddr, Ev.placeS, Ev.placeA, Ev.goal, Ev.recT, Ev.recR, Ev.recheck, Ev.undefV, Ev.convQ, Ev.convNew, TYA, TYB, hE5, Try.f76]; rfl) (by rfl) (by simp only [Ev.putD]; rfl) ?_)
    rfl
  refine (hsuf _ ?_ ?_ ?_).mono ?_
  · simp [tget_set, argsT]
  · simp [tget_set, argsT]
  · simp [tget_set, argsT]
  rintro x t' d' A' ⟨rfl, rfl, rfl⟩
  exact ⟨.inl rfl, [], rfl, by simp [Try.f76, resVals], rfl⟩
end Go.Proofs.Ytpfmoolpeecobaa
namespace Go.Proofs.Ytpfmoolpeecobaa
open Go Go.Proofs Go.Proofs.Ytpfmoolpeecobaa.Ev
set_option linter.unusedVariables false
set_option linter.unusedSimpArgs false
set_option maxRecDepth 100000
set_option maxHeartbeats 4000000

instance : DecidableEq Evt := fun a b => decidable_of_iff (a.k = b.k ∧ a.s = b.s ∧ a.t = b.t ∧ a.lv = b.lv ∧ a.r1 = b.r1 ∧ a.r2 = b.r2 ∧ a.r3 = b.r3 ∧ a.r4 = b.r4 ∧ a.w = b.w) (by cases a; cases b; simp)
theorem en3g (f : Nat) (x y : Int) : equalN Try.prog (f + 1) 3 (.int .i64 x) (.int .i64 y) = some (decide (x = y)) := eqN3 f x y
theorem en51g (f : Nat) (x y : Int) : equalN Try.prog (f + 1) 51 (.int .u8 x) (.int .u8 y) = some (decide (x = y)) := by
  simp only [equalN, Try.underlying51]; simp [guardO, beq_dec]
theorem en9g (f : Nat) (x y : List Nat) : equalN Try.prog (f + 1) 9 (.str x) (.str y) = some (decide (x = y)) := by
  simp only [equalN, Try.underlying9]
  by_cases h : x = y
  · rw [Ev.strEq_iff.2 h, decide_eq_true h]
  · cases hs : strEq x y with
    | true => exact absurd (Ev.strEq_iff.1 hs) h
    | false => rw [decide_eq_false h]
theorem en81g (f : Nat) (a b c d a' b' c' d' : Int) : equalN Try.prog (f + 2) 81 (.agg [.int .i64 a, .int .i64 b, .int .i64 c, .int .i64 d]) (.agg [.int .i64 a', .int .i64 b', .int .i64 c', .int .i64 d']) = some (decide (a = a' ∧ b = b' ∧ c = c' ∧ d = d')) := by
  rw [show f + 2 = (f + 1) + 1 from rfl, equalN_struct Try.underlying81]
  simp [ph81, guardO, allR, eqPart, Ev.part, pa3, ps3, en3g]
  by_cases h1 : a = a' <;> by_cases h2 : b = b' <;> by_cases h3 : c = c' <;> by_cases h4 : d = d' <;> simp [h1, h2, h3, h4]
theorem ev86g (cst : Bool) (x y : Evt) : equalV Try.prog 86 cst (.agg (evF x)) (.agg (evF y)) = some (decide (x = y)) := by
  unfold equalV
  simp only [Try.underlying86, pg86, Ev.guardO_true]
  rw [show (20 : Nat) = 19 + 1 from rfl, equalN_struct Try.underlying86]
  cases x with | mk k s t lv r1 r2 r3 r4 w =>
  cases y with | mk k' s' t' lv' r1' r2' r3' r4' w' =>
  rw [show decide (Evt.mk k s t lv r1 r2 r3 r4 w = Evt.mk k' s' t' lv' r1' r2' r3' r4' w') = decide (k = k' ∧ s = s' ∧ t = t' ∧ lv = lv' ∧ (r1 = r1' ∧ r2 = r2' ∧ r3 = r3' ∧ r4 = r4') ∧ w = w') from decide_eq_decide.2 (by simp [and_assoc])]
  simp [ph86, guardO, allR, eqPart, Ev.part, pa3, pa51, pa9, pa81, ps81, takeN, en3g, en51g, en9g, en81g, evF]
  by_cases h1 : k = k' <;> by_cases h2 : s = s' <;> by_cases h3 : t = t' <;> by_cases h4 : lv = lv' <;> by_cases h5 : (r1 = r1' ∧ r2 = r2' ∧ r3 = r3' ∧ r4 = r4') <;> by_cases h6 : w = w' <;> simp [h1, h2, h3, h4, h5, h6] <;> (generalize (decide (r1 = r1') && (decide (r2 = r2') && (decide (r3 = r3') && decide (r4 = r4')))) = q; cases q <;> rfl)

/-- the last look: the own parts are all -/
theorem wevent_end {L A : Heap} {W : Nat} {v0 v : V} {bad : Bool} {l : List Int} {sl E O : Nat} {e o : Evt} (h : ES L A W v0 v bad l sl E O (evF e) (evF o)) (t : T V) (t0 : tget t 0 = .ptr W 0) (t3 : tget t 3 = .ptr E 0) (t4 : tget t 4 = .ptr O 0) :
    ACode Try.prog ⟨none, 148⟩ (cSnd sfx76) t [] A (fun x _ d A' => x = .normal ∧ d = [] ∧ A' = ⟨A.t.set W (wB v (bad || decide (o ≠ e))), A.next⟩) := by
  have hW := h.wr.cell
  have hE := h.ev
  have hO := h.own
  have hev := ev86g false o e
  have hcs := h.wr.row.cells
  have hst : ∀ b, b = (bad || decide (o ≠ e)) → (⟨A.t.set W (.cells (T.set .leaf 0 [v, .bool b]) 1 2 false false), A.next⟩ : Heap) = ⟨A.t.set W (wB v (bad || decide (o ≠ e))), A.next⟩ := fun b e => by rw [e]; rfl
  unfold wB at hW
  unfold evB at hE hO
  have hlE : Heap.load Try.prog A 86 E 0 = some (.agg (evF e)) := by simp [Heap.load, Heap.elem, hE, T.get_set, Ev.part, pa86, ps86, evF, takeN]
  have hlO : Heap.load Try.prog A 86 O 0 = some (.agg (evF o)) := by simp [Heap.load, Heap.elem, hO, T.get_set, Ev.part, pa86, ps86, evF, takeN]
  have hlW : Heap.load Try.prog A 4 W 1 = some (.bool bad) := by simp [Heap.load, Heap.elem, hW, T.get_set, Ev.part, pa4]
  generalize evF e = ce at *
  generalize evF o = co at *
  show ACode _ _ (Code.region 25 _ false) _ _ _ _
  cases bad with
  | true =>
    refine ACode.regS noT_ok names_ok mix (t' := ?_) (L' := ?_) [0, 1, 2, 3, 4, 5, 6, 7, 8, 9, 10, 11, 12] (by rfl) ?_ ?_
    rotate_left 2
    · iterate 6 (refine seqE_cons rfl rfl rfl (by simp (config := {decide := false}) [EVT, Ev.seqE, Ev.drawE, Ev.fits, Ev.wantedE, Ev.oneE, Ev.cls, Ev.quiet, Ev.making, Ev.setParts, Ev.rowOf, Ev.loud, Ev.opd, Ev.opds, Ev.optOpd, Ev.pairs, Ev.putD, Ev.builtinQ, Ev.argsT, Ev.isAnc, Ev.index, Ev.indexAddr, Ev.sliceOp, Ev.bound, Ev.NV.mk, Ev.Heap.store, Ev.Heap.elem, Ev.V.cells, Ev.V.scalar, Ev.V.asPtr, Ev.V.asBool, Ev.V.asInt, Ev.V.asStr, Ev.V.asAgg, Ev.V.asTup, Ev.V.asMap, Ev.build, Ev.fillCells, Ev.splice, Ev.over, Ev.takeN, Ev.part, Ev.unV, Ev.binV, Ev.isShift, Ev.isConstO, Ev.fieldAddr, Ev.placeS, Ev.placeA, Ev.goal, Ev.recT, Ev.recR, Ev.recheck, Ev.undefV, Ev.convQ, Ev.convNew, TYA, TYB, t0, t3, t4, hW, hlW, hlE, hlO, hev, hcs, Try.f76]; rfl) (by rfl) (by simp only [Ev.putD]; rfl) ?_)
      iterate 3 (refine seqE_skip rfl rfl (by simp [EVT, Ev.seqE, Ev.drawE, Ev.fits, Ev.wantedE, Ev.oneE, Ev.cls, Ev.quiet, Ev.making, Ev.setParts, Ev.rowOf, Ev.loud, Ev.opd, Ev.opds, Ev.optOpd, Ev.pairs, Ev.putD, Ev.builtinQ, Ev.argsT, Ev.isAnc, Ev.index, Ev.indexAddr, Ev.sliceOp, Ev.bound, Ev.NV.mk, Ev.Heap.store, Ev.Heap.elem, Ev.V.cells, Ev.V.scalar, Ev.V.asPtr, Ev.V.asBool, Ev.V.asInt, Ev.V.asStr, Ev.V.asAgg, Ev.V.asTup, Ev.V.asMap, Ev.build, Ev.fillCells, Ev.splice, Ev.over, Ev.takeN, Ev.part, Ev.unV, Ev.binV, Ev.isShift, Ev.isConstO, Ev.fieldAddr, Ev.placeS, Ev.placeA, Ev.goal, Ev.recT, Ev.recR, Ev.recheck, Ev.undefV, Ev.convQ, Ev.convNew, TYA, TYB, t0, t3, t4, hW, hlW, hlE, hlO, hev, hcs, Try.f76]) (by simp only [Ev.putD]; rfl) ?_)
      iterate 4 (refine seqE_cons rfl rfl rfl (by simp (config := {decide := false}) [EVT, Ev.seqE, Ev.drawE, Ev.fits, Ev.wantedE, Ev.oneE, Ev.cls, Ev.quiet, Ev.making, Ev.setParts, Ev.rowOf, Ev.loud, Ev.opd, Ev.opds, Ev.optOpd, Ev.pairs, Ev.putD, Ev.builtinQ, Ev.argsT, Ev.isAnc, Ev.index, Ev.indexAddr, Ev.sliceOp, Ev.bound, Ev.NV.mk, Ev.Heap.store, Ev.Heap.elem, Ev.V.cells, Ev.V.scalar, Ev.V.asPtr, Ev.V.asBool, Ev.V.asInt, Ev.V.asStr, Ev.V.asAgg, Ev.V.asTup, Ev.V.asMap, Ev.build, Ev.fillCells, Ev.splice, Ev.over, Ev.takeN, Ev.part, Ev.unV, Ev.binV, Ev.isShift, Ev.isConstO, Ev.fieldAddr, Ev.placeS, Ev.placeA, Ev.goal, Ev.recT, Ev.recR, Ev.recheck, Ev.undefV, Ev.convQ, Ev.convNew, TYA, TYB, t0, t3, t4, hW, hlW, hlE, hlO, hev, hcs, Try.f76]; rfl) (by rfl) (by simp only [Ev.putD]; rfl) ?_)
      rfl
    exact ⟨rfl, rfl, hst _ (by simp)⟩
  | false =>
    refine ACode.regS noT_ok names_ok mix (t' := ?_) (L' := ?_) [0, 1, 2, 3, 4, 5, 6, 7, 8, 9, 10, 11, 12] (by rfl) ?_ ?_
    rotate_left 2
    · iterate 6 (refine seqE_cons rfl rfl rfl (by simp (config := {decide := false}) [EVT, Ev.seqE, Ev.drawE, Ev.fits, Ev.wantedE, Ev.oneE, Ev.cls, Ev.quiet, Ev.making, Ev.setParts, Ev.rowOf, Ev.loud, Ev.opd, Ev.opds, Ev.optOpd, Ev.pairs, Ev.putD, Ev.builtinQ, Ev.argsT, Ev.isAnc, Ev.index, Ev.indexAddr, Ev.sliceOp, Ev.bound, Ev.NV.mk, Ev.Heap.store, Ev.Heap.elem, Ev.V.cells, Ev.V.scalar, Ev.V.asPtr, Ev.V.asBool, Ev.V.asInt, Ev.V.asStr, Ev.V.asAgg, Ev.V.asTup, Ev.V.asMap, Ev.build, Ev.fillCells, Ev.splice, Ev.over, Ev.takeN, Ev.part, Ev.unV, Ev.binV, Ev.isShift, Ev.isConstO, Ev.fieldAddr, Ev.placeS, Ev.placeA, Ev.goal, Ev.recT, Ev.recR, Ev.recheck, Ev.undefV, Ev.convQ, Ev.convNew, TYA, TYB, t0, t3, t4, hW, hlW, hlE, hlO, hev, hcs, Try.f76]; rfl) (by rfl) (by simp only [Ev.putD]; rfl) ?_)
      iterate 3 (refine seqE_cons rfl rfl (by simp [EVT, Ev.seqE, Ev.drawE, Ev.fits, Ev.wantedE, Ev.oneE, Ev.cls, Ev.quiet, Ev.making, Ev.setParts, Ev.rowOf, Ev.loud, Ev.opd, Ev.opds, Ev.optOpd, Ev.pairs, Ev.putD, Ev.builtinQ, Ev.argsT, Ev.isAnc, Ev.index, Ev.indexAddr, Ev.sliceOp, Ev.bound, Ev.NV.mk, Ev.Heap.store, Ev.Heap.elem, Ev.V.cells, Ev.V.scalar, Ev.V.asPtr, Ev.V.asBool, Ev.V.asInt, Ev.V.asStr, Ev.V.asAgg, Ev.V.asTup, Ev.V.asMap, Ev.build, Ev.fillCells, Ev.splice, Ev.over, Ev.takeN, Ev.part, Ev.unV, Ev.binV, Ev.isShift, Ev.isConstO, Ev.fieldAddr, Ev.placeS, Ev.placeA, Ev.goal, Ev.recT, Ev.recR, Ev.recheck, Ev.undefV, Ev.convQ, Ev.convNew, TYA, TYB, t0, t3, t4, hW, hlW, hlE, hlO, hev, hcs, Try.f76]) (by simp (config := {decide := false}) [EVT, Ev.seqE, Ev.drawE, Ev.fits, Ev.wantedE, Ev.oneE, Ev.cls, Ev.quiet, Ev.making, Ev.setParts, Ev.rowOf, Ev.loud, Ev.opd, Ev.opds, Ev.optOpd, Ev.pairs, Ev.putD, Ev.builtinQ, Ev.argsT, Ev.isAnc, Ev.index, Ev.indexAddr, Ev.sliceOp, Ev.bound, Ev.NV.mk, Ev.Heap.store, Ev.Heap.elem, Ev.V.cells, Ev.V.scalar, Ev.V.asPtr, Ev.V.asBool, Ev.V.asInt, Ev.V.asStr, Ev.V.asAgg, Ev.V.asTup, Ev.V.asMap, Ev.build, Ev.fillCells, Ev.splice, Ev.over, Ev.takeN, Ev.part, Ev.unV, Ev.binV, Ev.isShift, Ev.isConstO, Ev.fieldAddr, Ev.placeS, Ev.placeA, Ev.goal, Ev.recT, Ev.recR, Ev.recheck, Ev.undefV, Ev.convQ, Ev.convNew, TYA, TYB, t0, t3, t4, hW, hlW, hlE, hlO, hev, hcs, Try.f76]; rfl) (by rfl) (by simp only [Ev.putD]; rfl) ?_)
      iterate 4 (refine seqE_cons rfl rfl rfl (by simp (config := {decide := false}) [EVT, Ev.seqE, Ev.drawE, Ev.fits, Ev.wantedE, Ev.oneE, Ev.cls, Ev.quiet, Ev.making, Ev.setParts, Ev.rowOf, Ev.loud, Ev.opd, Ev.opds, Ev.optOpd, Ev.pairs, Ev.putD, Ev.builtinQ, Ev.argsT, Ev.isAnc, Ev.index, Ev.indexAddr, Ev.sliceOp, Ev.bound, Ev.NV.mk, Ev.Heap.store, Ev.Heap.elem, Ev.V.cells, Ev.V.scalar, Ev.V.asPtr, Ev.V.asBool, Ev.V.asInt, Ev.V.asStr, Ev.V.asAgg, Ev.V.asTup, Ev.V.asMap, Ev.build, Ev.fillCells, Ev.splice, Ev.over, Ev.takeN, Ev.part, Ev.unV, Ev.binV, Ev.isShift, Ev.isConstO, Ev.fieldAddr, Ev.placeS, Ev.placeA, Ev.goal, Ev.recT, Ev.recR, Ev.recheck, Ev.undefV, Ev.convQ, Ev.convNew, TYA, TYB, t0, t3, t4, hW, hlW, hlE, hlO, hev, hcs, Try.f76]; rfl) (by rfl) (by simp only [Ev.putD]; rfl) ?_)
      rfl
    exact ⟨rfl, rfl, hst _ (by simp)⟩
end Go.Proofs.Ytpfmoolpeecobaa
