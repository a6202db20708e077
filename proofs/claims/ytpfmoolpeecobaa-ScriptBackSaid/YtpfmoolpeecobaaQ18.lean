/- A script's parts, laid one by one. -/
import Derived.Test.YtpfmoolpeecobaaQ17
namespace Go.Proofs.Ytpfmoolpeecobaa
open Go Go.Proofs Go.Proofs.Ytpfmoolpeecobaa.Ev
set_option linter.unusedVariables false
set_option linter.unusedSimpArgs false
set_option maxRecDepth 100000
set_option maxHeartbeats 4000000

section
variable {L0 B : Heap} {N : Nm} {tl : T V} {cs : List V} {v sv ev : V} {bs : List Int} {sl : Nat} {r c ring g0 g1 g2 g3 g4 : Int} {srcs : List SrcG} {evs : List Evt} {ps : List (Int × Int × Int × Int)}
theorem evRound_ok {e : Evt} (h : RL L0 B N tl cs .ready v false bs sl) (hsl : sl ≤ 1) (hl : bs.length ≤ 1000000) (hr : EvR e) :
    ∃ A1 v' sl', ARound Try.prog N.l [.func 75 [] [.ptr B.next 0]] ⟨B.t.set B.next (evB (evF e)), B.next + 1⟩ (.bool (!wBad e)) (endH A1 N tl (wBad e)) ∧ RL L0 A1 N tl cs .busy v' (wBad e) (bs ++ wBytes e) sl' ∧ sl' ≤ 1 := by
  have hA := h.new (evB (evF e))
  have hb := hA.turn .busy
  have hX : (setLp ⟨B.t.set B.next (evB (evF e)), B.next + 1⟩ N tl .busy).t.get B.next = some (evB (evF e)) := by
    show T.get (T.set _ _ _) _ = _
    rw [T.get_set_ne _ _ (by have := h.lts.1; omega)]; exact T.get_set_same _ _ _
  obtain ⟨A1, v', sl', c1, w1, s1, o1⟩ := lay75_ok hb.wr hsl hl hX hr
  rw [Bool.false_or] at w1
  have h1 := hb.step w1 o1
  exact ⟨A1, v', sl', round_ok hA c1 h1, h1, s1⟩
theorem suRound_ok (h : RL L0 B N tl (scL r c sv g0 g1 g2 g3 g4 ring ev) .ready v false [] 0) (hs : SlP 6 83 srcG L0 sv srcs) (he : SlP 9 86 evF L0 ev evs) (hn : srcs.length ≤ 1000) (hps : ps.length ≤ 1000) (hr : -1000 ≤ r ∧ r ≤ 1000) (hc : -1000 ≤ c ∧ c ≤ 1000) (hg : ∀ g ∈ [g0, g1, g2, g3, g4], 0 ≤ g ∧ g ≤ 255)
    (hstr : ∀ B : Heap, ∃ pv B', ACall Try.prog 68 [.int .i64 r, .int .i64 c, .int .i64 (srcs.length : Int)] B pv B' ∧ SlP 4 81 rectV B' pv ps ∧ B.next ≤ B'.next ∧ (∀ n, n < B.next → B'.t.get n = B.t.get n) ∧ ∀ m, nmP pv = some m → B.next ≤ m) :
    ∃ A1 v', ARound Try.prog N.l [.func 73 [] [.ptr N.S 0]] B (.bool (!(suBadG r c ring [g0, g1, g2, g3, g4] srcs ps || decide (40 < evs.length)))) (endH A1 N tl (suBadG r c ring [g0, g1, g2, g3, g4] srcs ps || decide (40 < evs.length))) ∧
      RL L0 A1 N tl (scL r c sv g0 g1 g2 g3 g4 ring ev) .busy v' (suBadG r c ring [g0, g1, g2, g3, g4] srcs ps || decide (40 < evs.length)) (suB r c ring [g0, g1, g2, g3, g4] srcs) 0 := by
  have hb := h.turn .busy
  obtain ⟨A1, v', c1, w1, o1⟩ := lay73_ok hb.wr (Nat.zero_le _) (by simp) hb.s hb.nes.2.2.2.2.2 hb.lts.2.2.2.2.2 (hs.keep hb.base.1 hb.base.2) (hb.ap fun m hm => hs.nm_lt hm) (he.keep hb.base.1 hb.base.2) hn hps hr hc hg hstr
  rw [Bool.false_or, List.nil_append] at w1
  have h1 := hb.step w1 o1
  exact ⟨A1, v', round_ok h c1 h1, h1⟩

theorem lay72_bad (h : RL L0 B N tl (scL r c sv g0 g1 g2 g3 g4 ring ev) .ready v false [] 0) (hs : SlP 6 83 srcG L0 sv srcs) (he : SlP 9 86 evF L0 ev evs) (hn : srcs.length ≤ 1000) (hps : ps.length ≤ 1000) (hr : -1000 ≤ r ∧ r ≤ 1000) (hc : -1000 ≤ c ∧ c ≤ 1000) (hg : ∀ g ∈ [g0, g1, g2, g3, g4], 0 ≤ g ∧ g ≤ 255)
    (hstr : ∀ B : Heap, ∃ pv B', ACall Try.prog 68 [.int .i64 r, .int .i64 c, .int .i64 (srcs.length : Int)] B pv B' ∧ SlP 4 81 rectV B' pv ps ∧ B.next ≤ B'.next ∧ (∀ n, n < B.next → B'.t.get n = B.t.get n) ∧ ∀ m, nmP pv = some m → B.next ≤ m)
    (hbad : (suBadG r c ring [g0, g1, g2, g3, g4] srcs ps || decide (40 < evs.length)) = true) :
    ∃ B', ACall Try.prog 72 [.yield N.l, .ptr N.S 0] B (.tuple []) B' ∧ RB L0 B' N tl := by
  obtain ⟨A1, v1, hR, h1⟩ := suRound_ok h hs he hn hps hr hc hg hstr
  rw [hbad] at hR
  refine ⟨_, ?_, h1.left⟩
  refine ACall.of_body_same Try.func72 rfl ?_
  refine ACode.seq (ACode.regS noT_ok names_ok mix (t' := ?_) (L' := ?_) [0, 1] (by rfl) ?_ ?_)
  rotate_left 2
  · iterate 2 (refine seqE_cons rfl rfl rfl (by simp (config := {decide := false}) [EVT, Ev.seqE, Ev.drawE, Ev.fits, Ev.wantedE, Ev.oneE, Ev.cls, Ev.quiet, Ev.making, Ev.setParts, Ev.rowOf, Ev.loud, Ev.opd, Ev.opds, Ev.optOpd, Ev.pairs, Ev.putD, Ev.builtinQ, Ev.argsT, Ev.isAnc, Ev.index, Ev.indexAddr, Ev.sliceOp, Ev.bound, Ev.NV.mk, Ev.Heap.load, Ev.Heap.store, Ev.Heap.elem, Ev.V.cells, Ev.V.scalar, Ev.V.asPtr, Ev.V.asBool, Ev.V.asInt, Ev.V.asStr, Ev.V.asAgg, Ev.V.asTup, Ev.V.asMap, Ev.build, Ev.fillCells, Ev.splice, Ev.over, Ev.takeN, Ev.part, Ev.unV, Ev.binV, Ev.isShift, Ev.isConstO, Ev.fieldAddr, Ev.placeS, Ev.placeA, Ev.goal, Ev.recT, Ev.recR, Ev.recheck, Ev.undefV, Ev.convQ, Ev.convNew, TYA, TYB, Try.f72]; rfl) (by rfl) (by simp only [Ev.putD]; rfl) ?_)
    rfl
  refine ACode.seq ?_
  refine ACode.seq (ACode.regR noT_ok (oneR_ok hR) names_ok mix (t' := ?_) (L' := ?_) [0, 1, 2, 3] (by rfl) ?_ ?_)
  rotate_left 2
  · iterate 4 (refine seqE_cons rfl rfl rfl (by simp (config := {decide := false}) [EVT, Ev.seqE, Ev.drawE, Ev.fits, Ev.wantedE, Ev.oneE, Ev.cls, Ev.quiet, Ev.making, Ev.setParts, Ev.rowOf, Ev.loud, Ev.opd, Ev.opds, Ev.optOpd, Ev.pairs, Ev.putD, Ev.builtinQ, Ev.argsT, Ev.isAnc, Ev.index, Ev.indexAddr, Ev.sliceOp, Ev.bound, Ev.NV.mk, Ev.Heap.load, Ev.Heap.store, Ev.Heap.elem, Ev.V.cells, Ev.V.scalar, Ev.V.asPtr, Ev.V.asBool, Ev.V.asInt, Ev.V.asStr, Ev.V.asAgg, Ev.V.asTup, Ev.V.asMap, Ev.build, Ev.fillCells, Ev.splice, Ev.over, Ev.takeN, Ev.part, Ev.unV, Ev.binV, Ev.isShift, Ev.isConstO, Ev.fieldAddr, Ev.placeS, Ev.placeA, Ev.goal, Ev.recT, Ev.recR, Ev.recheck, Ev.undefV, Ev.convQ, Ev.convNew, TYA, TYB, oneR_same, Try.f72]; rfl) (by rfl) (by simp only [Ev.putD]; rfl) ?_)
    rfl
  refine ACode.condT (by simp [tget_set, opd]) (ACode.ret ?_)
  exact ⟨.inr rfl, [], rfl, by simp [Try.f72, resVals], rfl⟩
theorem lay72_ok (h : RL L0 B N tl (scL r c sv g0 g1 g2 g3 g4 ring ev) .ready v false [] 0) (hs : SlP 6 83 srcG L0 sv srcs) (he : SlP 9 86 evF L0 ev evs) (hn : srcs.length ≤ 1000) (hps : ps.length ≤ 1000) (hr : -1000 ≤ r ∧ r ≤ 1000) (hc : -1000 ≤ c ∧ c ≤ 1000) (hg : ∀ g ∈ [g0, g1, g2, g3, g4], 0 ≤ g ∧ g ≤ 255)
    (hstr : ∀ B : Heap, ∃ pv B', ACall Try.prog 68 [.int .i64 r, .int .i64 c, .int .i64 (srcs.length : Int)] B pv B' ∧ SlP 4 81 rectV B' pv ps ∧ B.next ≤ B'.next ∧ (∀ n, n < B.next → B'.t.get n = B.t.get n) ∧ ∀ m, nmP pv = some m → B.next ≤ m)
    (hgood : (suBadG r c ring [g0, g1, g2, g3, g4] srcs ps || decide (40 < evs.length)) = false) (hev : ∀ e ∈ evs, EvR e) (j : Nat) (hj : j ≤ evs.length) (hgj : ∀ (i : Nat) (e : Evt), i < j → evs[i]? = some e → wBad e = false)
    (hfin : j = evs.length ∨ ∃ e, evs[j]? = some e ∧ wBad e = true) :
    ∃ B', ACall Try.prog 72 [.yield N.l, .ptr N.S 0] B (.tuple []) B' ∧ (j = evs.length → ∃ v' sl', RL L0 B' N tl (scL r c sv g0 g1 g2 g3 g4 ring ev) .ready v' false (suB r c ring [g0, g1, g2, g3, g4] srcs ++ evs.flatMap wBytes) sl') ∧ (j < evs.length → RB L0 B' N tl) := by
  obtain ⟨A1, v1, hR0, h1⟩ := suRound_ok h hs he hn hps hr hc hg hstr
  have h40 : evs.length ≤ 40 := by simp at hgood; omega
  rw [hgood] at hR0 h1
  have h2 := h1.turn .ready
  have hR0' : ARound Try.prog N.l [.func 73 [] [.ptr N.S 0]] B (.bool true) (setLp A1 N tl .ready) := hR0
  generalize hA2 : setLp A1 N tl .ready = A2 at *
  have hsu : (suB r c ring [g0, g1, g2, g3, g4] srcs).length ≤ 2000 := by simp [suB]; omega
  generalize hcs : scL r c sv g0 g1 g2 g3 g4 ring ev = cs at *
  generalize suB r c ring [g0, g1, g2, g3, g4] srcs = su at *
  have hbl := bytes_le evs hev
  have hlen2 : ∀ i, i ≤ evs.length → (su ++ (evs.take i).flatMap wBytes).length ≤ 1000000 := fun i hi => by
    have := hbl i
    rw [List.length_append]
    have : i * 1010 ≤ 40 * 1010 := Nat.mul_le_mul_right _ (by omega)
    omega
  obtain ⟨H, hH0, hI, hR⟩ := chain (α := Heap × V × Nat) j (fun i a => RL L0 a.1 N tl cs .ready a.2.1 false (su ++ (evs.take i).flatMap wBytes) a.2.2 ∧ a.2.2 ≤ 1)
    (fun i a a' => ∀ e, evs[i]? = some e → ARound Try.prog N.l [.func 75 [] [.ptr a.1.next 0]] ⟨a.1.t.set a.1.next (evB (evF e)), a.1.next + 1⟩ (.bool true) a'.1) (A2, v1, 0)
    ⟨by simpa using h2, Nat.zero_le _⟩ (by
      rintro i ⟨A, vi, si⟩ hi ⟨hw, hsi⟩
      have hxi : evs[i]? = some evs[i] := by simp
      obtain ⟨A', v', sl', hAr, hw', hs'⟩ := evRound_ok (e := evs[i]) hw hsi (hlen2 i (by omega)) (hev _ (List.getElem_mem _))
      rw [hgj i _ hi hxi] at hAr hw'
      refine ⟨(setLp A' N tl .ready, v', sl'), ?_, ?_, hs'⟩
      · intro e hee
        rw [hxi] at hee
        injection hee with hee
        subst hee
        exact hAr
      · have := hw'.turn .ready
        rw [List.take_add_one, hxi]
        simp only [Option.toList_some, List.flatMap_append, List.flatMap_cons, List.flatMap_nil, List.append_nil, ← List.append_assoc]
        exact this)
  obtain ⟨hwj, hsj⟩ := hI j (Nat.le_refl _)
  obtain ⟨Bf, hBf, hres⟩ : ∃ Bf, ((j = evs.length ∧ Bf = (H j).1) ∨ ∃ e, evs[j]? = some e ∧ ARound Try.prog N.l [.func 75 [] [.ptr (H j).1.next 0]] ⟨(H j).1.t.set (H j).1.next (evB (evF e)), (H j).1.next + 1⟩ (.bool false) Bf) ∧
      ((j = evs.length → ∃ v' sl', RL L0 Bf N tl cs .ready v' false (su ++ evs.flatMap wBytes) sl') ∧ (j < evs.length → RB L0 Bf N tl)) := by
    rcases hfin with rfl | ⟨e, hee, hbe⟩
    · rw [List.take_length] at hwj
      exact ⟨_, .inl ⟨rfl, rfl⟩, fun _ => ⟨_, _, hwj⟩, fun h => absurd h (Nat.lt_irrefl _)⟩
    · obtain ⟨A', v', sl', hAr, hw', hs'⟩ := evRound_ok (e := e) hwj hsj (hlen2 j hj) (hev _ (List.mem_of_getElem? hee))
      rw [hbe] at hAr hw'
      have hjl := (List.getElem?_eq_some_iff.1 hee).1
      exact ⟨_, .inr ⟨e, hee, hAr⟩, fun h => by omega, fun _ => hw'.left⟩
  refine ⟨Bf, ?_, hres⟩
  clear hres hwj hsj
  have hS2 := h2.s
  have hld : Heap.load Try.prog A2 55 N.S 9 = some ev := by
    rw [← hcs] at hS2
    unfold scB scL at hS2
    simp [Heap.load, Heap.elem, hS2, T.get_set, Ev.part, pa55, ps55]
  have hlen := he.len pt55
  refine ACall.of_body_same Try.func72 rfl ?_
  refine ACode.seq (ACode.regS noT_ok names_ok mix (t' := ?_) (L' := ?_) [0, 1] (by rfl) ?_ ?_)
  rotate_left 2
  · iterate 2 (refine seqE_cons rfl rfl rfl (by simp (config := {decide := false}) [EVT, Ev.seqE, Ev.drawE, Ev.fits, Ev.wantedE, Ev.oneE, Ev.cls, Ev.quiet, Ev.making, Ev.setParts, Ev.rowOf, Ev.loud, Ev.opd, Ev.opds, Ev.optOpd, Ev.pairs, Ev.putD, Ev.builtinQ, Ev.argsT, Ev.isAnc, Ev.index, Ev.indexAddr, Ev.sliceOp, Ev.bound, Ev.NV.mk, Ev.Heap.load, Ev.Heap.store, Ev.Heap.elem, Ev.V.cells, Ev.V.scalar, Ev.V.asPtr, Ev.V.asBool, Ev.V.asInt, Ev.V.asStr, Ev.V.asAgg, Ev.V.asTup, Ev.V.asMap, Ev.build, Ev.fillCells, Ev.splice, Ev.over, Ev.takeN, Ev.part, Ev.unV, Ev.binV, Ev.isShift, Ev.isConstO, Ev.fieldAddr, Ev.placeS, Ev.placeA, Ev.goal, Ev.recT, Ev.recR, Ev.recheck, Ev.undefV, Ev.convQ, Ev.convNew, TYA, TYB, Try.f72]; rfl) (by rfl) (by simp only [Ev.putD]; rfl) ?_)
    rfl
  refine ACode.seq ?_
  refine ACode.seq (ACode.regR noT_ok (oneR_ok hR0') names_ok mix (t' := ?_) (L' := ?_) [0, 1, 2, 3] (by rfl) ?_ ?_)
  rotate_left 2
  · iterate 4 (refine seqE_cons rfl rfl rfl (by simp (config := {decide := false}) [EVT, Ev.seqE, Ev.drawE, Ev.fits, Ev.wantedE, Ev.oneE, Ev.cls, Ev.quiet, Ev.making, Ev.setParts, Ev.rowOf, Ev.loud, Ev.opd, Ev.opds, Ev.optOpd, Ev.pairs, Ev.putD, Ev.builtinQ, Ev.argsT, Ev.isAnc, Ev.index, Ev.indexAddr, Ev.sliceOp, Ev.bound, Ev.NV.mk, Ev.Heap.load, Ev.Heap.store, Ev.Heap.elem, Ev.V.cells, Ev.V.scalar, Ev.V.asPtr, Ev.V.asBool, Ev.V.asInt, Ev.V.asStr, Ev.V.asAgg, Ev.V.asTup, Ev.V.asMap, Ev.build, Ev.fillCells, Ev.splice, Ev.over, Ev.takeN, Ev.part, Ev.unV, Ev.binV, Ev.isShift, Ev.isConstO, Ev.fieldAddr, Ev.placeS, Ev.placeA, Ev.goal, Ev.recT, Ev.recR, Ev.recheck, Ev.undefV, Ev.convQ, Ev.convNew, TYA, TYB, oneR_same, Try.f72]; rfl) (by rfl) (by simp only [Ev.putD]; rfl) ?_)
    rfl
  refine ACode.condF (by simp [tget_set, opd]) (ACode.skip ?_)
  show ACode _ _ (Code.seq (Code.region _ _ _) _) _ _ _ _
  refine ACode.seq (ACode.regS noT_ok names_ok mix (t' := ?_) (L' := ?_) [0, 1, 2, 3] (by rfl) ?_ ?_)
  rotate_left 2
  · iterate 4 (refine seqE_cons rfl rfl rfl (by simp (config := {decide := false}) [EVT, Ev.seqE, Ev.drawE, Ev.fits, Ev.wantedE, Ev.oneE, Ev.cls, Ev.quiet, Ev.making, Ev.setParts, Ev.rowOf, Ev.loud, Ev.opd, Ev.opds, Ev.optOpd, Ev.pairs, Ev.putD, Ev.argsT, Ev.isAnc, Ev.index, Ev.indexAddr, Ev.sliceOp, Ev.bound, Ev.NV.mk, Ev.Heap.store, Ev.Heap.elem, Ev.V.cells, Ev.V.scalar, Ev.V.asPtr, Ev.V.asBool, Ev.V.asInt, Ev.V.asStr, Ev.V.asAgg, Ev.V.asTup, Ev.V.asMap, Ev.build, Ev.fillCells, Ev.splice, Ev.over, Ev.takeN, Ev.part, Ev.unV, Ev.binV, Ev.isShift, Ev.isConstO, Ev.fieldAddr, Ev.placeS, Ev.placeA, Ev.goal, Ev.recT, Ev.recR, Ev.recheck, Ev.undefV, Ev.convQ, Ev.convNew, TYA, TYB, hld, hlen, Try.f72]; rfl) (by rfl) (by simp only [Ev.putD]; rfl) ?_)
    rfl
  refine ACode.block (ACode.loop (fun t d B' M => d = [] ∧ ∃ i, i ≤ j ∧ M = j - i ∧ B' = (H i).1 ∧ tget t 0 = .yield N.l ∧ tget t 12 = ev ∧ tget t 13 = .int .i64 (evs.length : Int) ∧ tget t 14 = .int .i64 (i : Int)) (N := j)
    ⟨rfl, 0, Nat.zero_le _, by omega, by rw [hH0], by simp [tget_set, argsT], by simp [tget_set], by simp [tget_set], by simp [tget_set]⟩ ?_)
  rintro t d B' M ⟨rfl, i, hi, rfl, rfl, t0, t12, t13, t14⟩
  refine ACode.seq (ACode.regS noT_ok names_ok mix (t' := ?_) (L' := ?_) [0] (by rfl) ?_ ?_)
  rotate_left 2
  · refine seqE_cons rfl rfl rfl (by simp (config := {decide := false}) [EVT, Ev.seqE, Ev.drawE, Ev.fits, Ev.wantedE, Ev.oneE, Ev.cls, Ev.quiet, Ev.making, Ev.setParts, Ev.rowOf, Ev.loud, Ev.opd, Ev.opds, Ev.optOpd, Ev.pairs, Ev.putD, Ev.builtinQ, Ev.argsT, Ev.isAnc, Ev.index, Ev.indexAddr, Ev.sliceOp, Ev.bound, Ev.NV.mk, Ev.Heap.load, Ev.Heap.store, Ev.Heap.elem, Ev.V.cells, Ev.V.scalar, Ev.V.asPtr, Ev.V.asBool, Ev.V.asInt, Ev.V.asStr, Ev.V.asAgg, Ev.V.asTup, Ev.V.asMap, Ev.build, Ev.fillCells, Ev.splice, Ev.over, Ev.takeN, Ev.part, Ev.unV, Ev.binV, Ev.isShift, Ev.isConstO, Ev.fieldAddr, Ev.placeS, Ev.placeA, Ev.goal, Ev.recT, Ev.recR, Ev.recheck, Ev.undefV, Ev.convQ, Ev.convNew, TYA, TYB, t13, t14, Try.f72]; rfl) (by rfl) (by simp only [Ev.putD]; rfl) ?_
    rfl
  refine ACode.seq (ACode.cond (p := (i : Int) < (evs.length : Int)) (by simp [tget_set, opd]) (fun hil => ACode.skip ?_) (fun hge => ACode.exit ?_))
  rotate_left 1
  ·
    have hij : i = evs.length := by omega
    have hjl : j = evs.length := by omega
    have hB : Bf = (H i).1 := by
      rcases hBf with ⟨_, h⟩ | ⟨e, hee, _⟩
      · rw [h, hjl, hij]
      · have := (List.getElem?_eq_some_iff.1 hee).1; omega
    exact ⟨.inl rfl, [], by rw [hB]; rfl, by simp [Try.f72, resVals], rfl⟩
  have hil' : i < evs.length := by omega
  have hxi : evs[i]? = some evs[i] := by simp
  have hw1 : IntKind.i64.wrap ((i : Int) + 1) = ((i + 1 : Nat) : Int) := by rw [Go.IntWalk.i64_in _ (by omega)]; omega
  have hRi := (hI i hi).1
  obtain ⟨n1, off, _, hix, hle⟩ := (he.keep hRi.base.1 hRi.base.2).at' pt55 ps86 hxi
  refine ACode.seq (ACode.block ?_)
  refine ACode.seq (ACode.regS noT_ok names_ok mix (t' := ?_) (L' := ?_) [0, 1, 2, 3] (by rfl) ?_ ?_)
  rotate_left 2
  · iterate 4 (refine seqE_cons rfl rfl rfl (by simp (config := {decide := false}) [EVT, Ev.seqE, Ev.drawE, Ev.fits, Ev.wantedE, Ev.oneE, Ev.cls, Ev.quiet, Ev.making, Ev.setParts, Ev.rowOf, Ev.loud, Ev.opd, Ev.opds, Ev.optOpd, Ev.pairs, Ev.putD, Ev.builtinQ, Ev.argsT, Ev.isAnc, Ev.index, Ev.sliceOp, Ev.bound, Ev.NV.mk, Ev.Heap.store, Ev.Heap.elem, Ev.V.cells, Ev.V.scalar, Ev.V.asPtr, Ev.V.asBool, Ev.V.asInt, Ev.V.asStr, Ev.V.asAgg, Ev.V.asTup, Ev.V.asMap, Ev.build, Ev.fillCells, Ev.splice, Ev.over, Ev.takeN, Ev.part, Ev.unV, Ev.binV, Ev.isShift, Ev.isConstO, Ev.fieldAddr, Ev.placeS, Ev.placeA, Ev.goal, Ev.recT, Ev.recR, Ev.recheck, Ev.undefV, Ev.convQ, Ev.convNew, TYA, TYB, t12, t14, hix, hle, Try.f72]; rfl) (by rfl) (by simp only [Ev.putD]; rfl) ?_)
    rfl
  change ACode _ _ _ _ _ ⟨(H i).1.t.set (H i).1.next (evB (evF evs[i])), (H i).1.next + 1⟩ _
  by_cases hij : i < j
  ·
    have hAr := hR i hij _ hxi
    refine ACode.seq (ACode.regR noT_ok (oneR_ok hAr) names_ok mix (t' := ?_) (L' := ?_) [0, 1, 2, 3] (by rfl) ?_ ?_)
    rotate_left 2
    · iterate 4 (refine seqE_cons rfl rfl rfl (by simp (config := {decide := false}) [EVT, Ev.seqE, Ev.drawE, Ev.fits, Ev.wantedE, Ev.oneE, Ev.cls, Ev.quiet, Ev.making, Ev.setParts, Ev.rowOf, Ev.loud, Ev.opd, Ev.opds, Ev.optOpd, Ev.pairs, Ev.putD, Ev.builtinQ, Ev.argsT, Ev.isAnc, Ev.index, Ev.indexAddr, Ev.sliceOp, Ev.bound, Ev.NV.mk, Ev.Heap.load, Ev.Heap.store, Ev.Heap.elem, Ev.V.cells, Ev.V.scalar, Ev.V.asPtr, Ev.V.asBool, Ev.V.asInt, Ev.V.asStr, Ev.V.asAgg, Ev.V.asTup, Ev.V.asMap, Ev.build, Ev.fillCells, Ev.splice, Ev.over, Ev.takeN, Ev.part, Ev.unV, Ev.binV, Ev.isShift, Ev.isConstO, Ev.fieldAddr, Ev.placeS, Ev.placeA, Ev.goal, Ev.recT, Ev.recR, Ev.recheck, Ev.undefV, Ev.convQ, Ev.convNew, TYA, TYB, t0, oneR_same, Try.f72]; rfl) (by rfl) (by simp only [Ev.putD]; rfl) ?_)
      rfl
    refine ACode.condF (by simp [tget_set, opd]) (ACode.skip ?_)
    show ACode _ _ (Code.region _ _ _) _ _ _ _
    refine ACode.regS noT_ok names_ok mix (t' := ?_) (L' := ?_) [0, 1] (by rfl) ?_ ?_
    rotate_left 2
    · iterate 2 (refine seqE_cons rfl rfl rfl (by simp (config := {decide := false}) [EVT, Ev.seqE, Ev.drawE, Ev.fits, Ev.wantedE, Ev.oneE, Ev.cls, Ev.quiet, Ev.making, Ev.setParts, Ev.rowOf, Ev.loud, Ev.opd, Ev.opds, Ev.optOpd, Ev.pairs, Ev.putD, Ev.builtinQ, Ev.argsT, Ev.isAnc, Ev.index, Ev.indexAddr, Ev.sliceOp, Ev.bound, Ev.NV.mk, Ev.Heap.load, Ev.Heap.store, Ev.Heap.elem, Ev.V.cells, Ev.V.scalar, Ev.V.asPtr, Ev.V.asBool, Ev.V.asInt, Ev.V.asStr, Ev.V.asAgg, Ev.V.asTup, Ev.V.asMap, Ev.build, Ev.fillCells, Ev.splice, Ev.over, Ev.takeN, Ev.part, Ev.unV, Ev.binV, Ev.isShift, Ev.isConstO, Ev.fieldAddr, Ev.placeS, Ev.placeA, Ev.goal, Ev.recT, Ev.recR, Ev.recheck, Ev.undefV, Ev.convQ, Ev.convNew, TYA, TYB, t14, hw1, Try.f72]; rfl) (by rfl) (by simp only [Ev.putD]; rfl) ?_)
      rfl
    exact ⟨j - (i + 1), by omega, rfl, i + 1, by omega, rfl, rfl, by simp [tget_set, t0], by simp [tget_set, t12], by simp [tget_set, t13], by simp [tget_set]⟩
  ·
    have hij' : i = j := by omega
    subst hij'
    rcases hBf with ⟨h, _⟩ | ⟨e, hee, hAr⟩
    · omega
    rw [hxi] at hee
    injection hee with hee
    subst hee
    refine ACode.seq (ACode.regR noT_ok (oneR_ok hAr) names_ok mix (t' := ?_) (L' := ?_) [0, 1, 2, 3] (by rfl) ?_ ?_)
    rotate_left 2
    · iterate 4 (refine seqE_cons rfl rfl rfl (by simp (config := {decide := false}) [EVT, Ev.seqE, Ev.drawE, Ev.fits, Ev.wantedE, Ev.oneE, Ev.cls, Ev.quiet, Ev.making, Ev.setParts, Ev.rowOf, Ev.loud, Ev.opd, Ev.opds, Ev.optOpd, Ev.pairs, Ev.putD, Ev.builtinQ, Ev.argsT, Ev.isAnc, Ev.index, Ev.indexAddr, Ev.sliceOp, Ev.bound, Ev.NV.mk, Ev.Heap.load, Ev.Heap.store, Ev.Heap.elem, Ev.V.cells, Ev.V.scalar, Ev.V.asPtr, Ev.V.asBool, Ev.V.asInt, Ev.V.asStr, Ev.V.asAgg, Ev.V.asTup, Ev.V.asMap, Ev.build, Ev.fillCells, Ev.splice, Ev.over, Ev.takeN, Ev.part, Ev.unV, Ev.binV, Ev.isShift, Ev.isConstO, Ev.fieldAddr, Ev.placeS, Ev.placeA, Ev.goal, Ev.recT, Ev.recR, Ev.recheck, Ev.undefV, Ev.convQ, Ev.convNew, TYA, TYB, t0, oneR_same, Try.f72]; rfl) (by rfl) (by simp only [Ev.putD]; rfl) ?_)
      rfl
    refine ACode.condT (by simp [tget_set, opd]) (ACode.ret ?_)
    exact ⟨.inr rfl, [], rfl, by simp [Try.f72, resVals], rfl⟩
end
end Go.Proofs.Ytpfmoolpeecobaa
