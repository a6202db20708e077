/- Put. -/
import Derived.Test.YtpfmoolpeecobaaQ18
namespace Go.Proofs.Ytpfmoolpeecobaa
open Go Go.Proofs Go.Proofs.Ytpfmoolpeecobaa.Ev
set_option linter.unusedVariables false
set_option linter.unusedSimpArgs false
set_option maxRecDepth 100000
set_option maxHeartbeats 4000000

/-- Put's blocks, ahead of its loop -/
noncomputable def putA (L : Heap) (cs : List V) : Heap :=
  ⟨(((((L.t.set L.next (scB cs)).set (L.next + 1) (oneB .nils)).set (L.next + 2) (oneB (.int .i64 0))).set (L.next + 3) (wB .nils false)).set (L.next + 4) (oneB (.ptr (L.next + 3) 0))).set (L.next + 5) (scB cs), L.next + 6⟩
def putN (L : Heap) : Nm := ⟨L.next + 3, L.next + 7, L.next + 1, L.next + 2, L.next + 4, L.next + 6, L.next + 5⟩
theorem put_pre (L : Heap) (cs : List V) (hcs : cs.length = 10) : ∃ t : T V, (∀ K, ACode Try.prog ⟨none, 22⟩ (cSnd (cFst (cSnd (cSnd b33)))) t [] (putA L cs) (thenK (fun t d A => ACode Try.prog ⟨none, 22⟩ (cSnd (cSnd (cSnd b33))) t d A K) K) → ACode Try.prog ⟨none, 22⟩ b33 (argsT [.agg cs] 0) [] L K) ∧
    tget t 2 = .ptr (L.next + 1) 0 ∧ tget t 3 = .ptr (L.next + 2) 0 ∧ tget t 4 = .ptr (L.next + 4) 0 ∧ tget t 9 = .func 72 [] [.ptr (L.next + 5) 0] := by
  have hb : scB cs = .cells (T.set .leaf 0 cs) 1 cs.length false false := by rw [hcs]; rfl
  have htk : takeN 10 cs = some cs := by rw [← hcs]; exact takeN_all cs
  obtain ⟨A4, hA4⟩ : ∃ A : Heap, A = ⟨((((L.t.set L.next (scB cs)).set (L.next + 1) (oneB .nils)).set (L.next + 2) (oneB (.int .i64 0))).set (L.next + 3) (wB .nils false)).set (L.next + 4) (oneB (.ptr (L.next + 3) 0)), L.next + 5⟩ := ⟨_, rfl⟩
  have c50 := laying_ok A4 cs hcs
  have hld : Heap.load Try.prog A4 57 L.next 0 = some (.agg cs) := by
    have : A4.t.get L.next = some (scB cs) := by
      rw [hA4]
      show T.get (T.set _ _ _) _ = _
      repeat rw [T.get_set_ne _ _ (by omega)]
      exact T.get_set_same _ _ _
    unfold scB at this
    simp [Heap.load, Heap.elem, this, T.get_set, Ev.part, pa57, ps57, htk]
  have hn4 : A4.next = L.next + 5 := by rw [hA4]
  have hfin : putA L cs = ⟨A4.t.set A4.next (scB cs), A4.next + 1⟩ := by rw [hA4]; rfl
  rw [hfin]
  apply Exists.intro
  refine ⟨fun K hK => ?_, ?_⟩
  · show ACode _ _ (Code.seq (Code.region _ _ _) (Code.seq (Code.region _ _ _) (Code.seq (Code.seq (Code.region _ _ _) _) _))) _ _ _ _
    refine ACode.seq (ACode.regS noT_ok names_ok mix (t' := ?_) (L' := ?_) [0, 1, 2] (by rfl) ?_ ?_)
    rotate_left 2
    · iterate 3 (refine seqE_cons rfl rfl rfl (by simp (config := {decide := false}) [EVT, Ev.seqE, Ev.drawE, Ev.fits, Ev.wantedE, Ev.oneE, Ev.cls, Ev.quiet, Ev.making, Ev.setParts, Ev.rowOf, Ev.loud, Ev.opd, Ev.opds, Ev.optOpd, Ev.pairs, Ev.putD, Ev.builtinQ, Ev.argsT, Ev.isAnc, Ev.index, Ev.indexAddr, Ev.sliceOp, Ev.bound, Ev.NV.mk, Ev.Heap.load, Ev.Heap.store, Ev.Heap.elem, Ev.V.cells, Ev.V.scalar, Ev.V.asPtr, Ev.V.asBool, Ev.V.asInt, Ev.V.asStr, Ev.V.asAgg, Ev.V.asTup, Ev.V.asMap, Ev.build, Ev.fillCells, Ev.splice, Ev.over, Ev.takeN, Ev.part, Ev.unV, Ev.binV, Ev.isShift, Ev.isConstO, Ev.fieldAddr, Ev.placeS, Ev.placeA, Ev.goal, Ev.recT, Ev.recR, Ev.recheck, Ev.undefV, Ev.convQ, Ev.convNew, TYA, TYB, Try.f33]; rfl) (by rfl) (by simp only [Ev.putD]; rfl) ?_)
      rfl
    refine ACode.seq (ACode.regS noT_ok names_ok mix (t' := ?_) (L' := ?_) [0, 1, 2, 3] (by rfl) ?_ ?_)
    rotate_left 2
    · iterate 4 (refine seqE_cons rfl rfl rfl (by simp (config := {decide := false}) [EVT, Ev.seqE, Ev.drawE, Ev.fits, Ev.wantedE, Ev.oneE, Ev.cls, Ev.quiet, Ev.making, Ev.setParts, Ev.rowOf, Ev.loud, Ev.opd, Ev.opds, Ev.optOpd, Ev.pairs, Ev.putD, Ev.builtinQ, Ev.argsT, Ev.isAnc, Ev.index, Ev.indexAddr, Ev.sliceOp, Ev.bound, Ev.NV.mk, Ev.Heap.load, Ev.Heap.store, Ev.Heap.elem, Ev.V.cells, Ev.V.scalar, Ev.V.asPtr, Ev.V.asBool, Ev.V.asInt, Ev.V.asStr, Ev.V.asAgg, Ev.V.asTup, Ev.V.asMap, Ev.build, Ev.fillCells, Ev.splice, Ev.over, Ev.takeN, Ev.part, Ev.unV, Ev.binV, Ev.isShift, Ev.isConstO, Ev.fieldAddr, Ev.placeS, Ev.placeA, Ev.goal, Ev.recT, Ev.recR, Ev.recheck, Ev.undefV, Ev.convQ, Ev.convNew, TYA, TYB, Try.f33]; rfl) (by rfl) (by simp only [Ev.putD]; rfl) ?_)
      rfl
    refine ACode.seq ?_
    change ACode _ _ _ _ _ ⟨((((L.t.set L.next (.cells (T.set .leaf 0 cs) 1 cs.length false false)).set (L.next + 1) (oneB .nils)).set (L.next + 2) (oneB (.int .i64 0))).set (L.next + 3) (wB .nils false)).set (L.next + 4) (oneB (.ptr (L.next + 3) 0)), L.next + 5⟩ _
    rw [← hb, ← hA4]
    refine ACode.seq (ACode.regS (oneT_okP c50) names_ok mix (t' := ?_) (L' := ?_) [0, 1] (by rfl) ?_ ?_)
    rotate_left 2
    · iterate 2 (refine seqE_cons rfl rfl rfl (by simp (config := {decide := false}) [EVT, Ev.seqE, Ev.drawE, Ev.fits, Ev.wantedE, Ev.oneE, Ev.cls, Ev.quiet, Ev.making, Ev.setParts, Ev.rowOf, Ev.loud, Ev.opd, Ev.opds, Ev.optOpd, Ev.pairs, Ev.putD, Ev.builtinQ, Ev.argsT, Ev.isAnc, Ev.index, Ev.indexAddr, Ev.sliceOp, Ev.bound, Ev.NV.mk, Ev.Heap.store, Ev.Heap.elem, Ev.V.cells, Ev.V.scalar, Ev.V.asPtr, Ev.V.asBool, Ev.V.asInt, Ev.V.asStr, Ev.V.asAgg, Ev.V.asTup, Ev.V.asMap, Ev.build, Ev.fillCells, Ev.splice, Ev.over, Ev.takeN, Ev.part, Ev.unV, Ev.binV, Ev.isShift, Ev.isConstO, Ev.fieldAddr, Ev.placeS, Ev.placeA, Ev.goal, Ev.recT, Ev.recR, Ev.recheck, Ev.undefV, Ev.convQ, Ev.convNew, TYA, TYB, hld, oneT_sameP, Try.f33]; rfl) (by rfl) (by simp only [Ev.putD]; rfl) ?_)
      rfl
    exact hK
  · simp [tget_set, argsT, hn4]
theorem put_RL (L : Heap) (cs : List V) {t : T V} (t2 : tget t 2 = .ptr (L.next + 1) 0) (t3 : tget t 3 = .ptr (L.next + 2) 0) (t4 : tget t 4 = .ptr (L.next + 4) 0) :
    RL L (rangeH (putA L cs) 22 t [10] as33 bd33) (putN L) t cs .ready .nils false [] 0 := by
  have g : ∀ n, (rangeH (putA L cs) 22 t [10] as33 bd33).t.get n = if n = L.next + 6 + 1 then some (.loop .ready none 22 t [10] as33 bd33 (L.next + 6)) else if n = L.next + 6 then some (.dfr true) else if n = L.next + 5 then some (scB cs) else if n = L.next + 4 then some (oneB (.ptr (L.next + 3) 0)) else if n = L.next + 3 then some (wB .nils false) else if n = L.next + 2 then some (oneB (.int .i64 0)) else if n = L.next + 1 then some (oneB .nils) else if n = L.next then some (scB cs) else L.t.get n := by
    intro n
    simp only [rangeH, putA, T.get_set]
  have hnx : (rangeH (putA L cs) 22 t [10] as33 bd33).next = L.next + 8 := rfl
  generalize rangeH (putA L cs) 22 t [10] as33 bd33 = B at *
  refine ⟨⟨?_, by simp only [putN]; omega, .inl ⟨rfl, rfl, rfl⟩⟩, ?_, ?_, ?_, ?_, ?_, ?_, ?_, ?_, ?_, ?_, ⟨t2, t3, t4⟩, ⟨by omega, fun n hn => ?_⟩, fun m hm => by cases hm⟩
  · rw [g]; simp [putN]
  · rw [g]; simp [putN, lpB]
  · rw [g]; simp [putN]
  · rw [g]; simp [putN]
  · rw [g]; simp [putN]
  · rw [g]; simp [putN]
  · rw [g]; simp [putN]
  · simp only [putN]; omega
  · simp only [putN]; omega
  · simp only [putN]; omega
  · simp only [putN]; omega
  · rw [g]
    repeat rw [if_neg (by omega)]
section
variable {L : Heap} {sv ev : V} {r c ring g0 g1 g2 g3 g4 : Int} {srcs : List SrcG} {evs : List Evt} {ps : List (Int × Int × Int × Int)}
theorem put_ok (hs : SlP 6 83 srcG L sv srcs) (he : SlP 9 86 evF L ev evs) (hn : srcs.length ≤ 1000) (hps : ps.length ≤ 1000) (hr : -1000 ≤ r ∧ r ≤ 1000) (hc : -1000 ≤ c ∧ c ≤ 1000) (hg : ∀ g ∈ [g0, g1, g2, g3, g4], 0 ≤ g ∧ g ≤ 255)
    (hstr : ∀ B : Heap, ∃ pv B', ACall Try.prog 68 [.int .i64 r, .int .i64 c, .int .i64 (srcs.length : Int)] B pv B' ∧ SlP 4 81 rectV B' pv ps ∧ B.next ≤ B'.next ∧ (∀ n, n < B.next → B'.t.get n = B.t.get n) ∧ ∀ m, nmP pv = some m → B.next ≤ m)
    (hgood : (suBadG r c ring [g0, g1, g2, g3, g4] srcs ps || decide (40 < evs.length)) = false) (hev : ∀ e ∈ evs, EvR e) (hgj : ∀ e ∈ evs, wBad e = false) :
    ∃ L' pv sl, ACall Try.prog 33 [.agg (scL r c sv g0 g1 g2 g3 g4 ring ev)] L (.tuple [pv, .int .i64 0]) L' ∧ RowS L' pv (suB r c ring [g0, g1, g2, g3, g4] srcs ++ evs.flatMap wBytes) sl ∧ L.next ≤ L'.next ∧ ∀ n, n < L.next → L'.t.get n = L.t.get n := by
  obtain ⟨t, hpre, t2, t3, t4, t9⟩ := put_pre L (scL r c sv g0 g1 g2 g3 g4 ring ev) rfl
  have hRL := put_RL L (scL r c sv g0 g1 g2 g3 g4 ring ev) t2 t3 t4
  obtain ⟨Bf, c72, hok, _⟩ := lay72_ok hRL hs he hn hps hr hc hg hstr hgood hev evs.length (Nat.le_refl _) (fun i e _ h => hgj e (List.mem_of_getElem? h)) (.inl rfl)
  obtain ⟨pv, sl, hRf⟩ := hok rfl
  have hlp := hRf.lp
  have hRe := hRf.turn .exhausted
  have hm := hRe.m
  have hcW := hRe.wr.cell
  have hc2 := hRe.c2
  have hc3 := hRe.c3
  have hc4 := hRe.c4
  have hbase := hRe.base
  have hrow := hRe.wr.row
  have hcs := hrow.cells
  have hse : setLp Bf (putN L) t .exhausted = ⟨Bf.t.set (L.next + 6 + 1) (.loop .exhausted none 22 t [10] as33 bd33 (L.next + 6)), Bf.next⟩ := rfl
  generalize setLp Bf (putN L) t .exhausted = Be at *
  generalize suB r c ring [g0, g1, g2, g3, g4] srcs ++ evs.flatMap wBytes = by_ at *
  have n2 : nmP pv ≠ some (L.next + 1) := hrow.ne_of hc2 (fun c n => by simp [oneB])
  have n3 : nmP pv ≠ some (L.next + 2) := hrow.ne_of hc3 (fun c n => by simp [oneB])
  have n6 : nmP pv ≠ some (L.next + 6) := hrow.ne_of hm (fun c n => by simp)
  refine ⟨⟨((Be.t.set (L.next + 1) (oneB pv)).set (L.next + 2) (oneB (.int .i64 0))).set (L.next + 6) (.dfr false), Be.next⟩, pv, sl, ?_, hrow.still (Nat.le_refl _) ?_, hbase.1, ?_⟩
  rotate_left 1
  · intro m hmm
    show T.get (T.set _ _ _) _ = _
    rw [T.get_set_ne _ _ (by rintro rfl; exact n6 hmm), T.get_set_ne _ _ (by rintro rfl; exact n3 hmm), T.get_set_ne _ _ (by rintro rfl; exact n2 hmm)]
  · intro n hn
    show T.get (T.set _ _ _) _ = _
    rw [T.get_set_ne _ _ (by omega), T.get_set_ne _ _ (by omega), T.get_set_ne _ _ (by omega)]
    exact hbase.2 n hn
  refine ACall.of_body_same Try.func33 rfl (hpre _ ?_)
  show ACode _ _ (Code.block 0 (Code.rangeFunc (.tmp 9) #[10] as33 bd33)) _ _ _ _
  refine ACode.block ?_
  refine ACode.rangeFunc names_ok (g := 72) (first := []) (cap := [.ptr (L.next + 5) 0]) (v := .tuple []) (L1 := Bf) (by simp [opd, t9]) c72 hlp (by simp) (fun _ => ?_) (fun c h => by cases h)
  show ACode _ _ (Code.seq (Code.region _ _ _) _) _ _ _ _
  rw [show (⟨Bf.t.set ((putA L (scL r c sv g0 g1 g2 g3 g4 ring ev)).next + 1) (.loop .exhausted none 22 t [10] as33 bd33 (putN L).mk0), Bf.next⟩ : Heap) = Be from hse.symm]
  simp only [putN] at hcW hc2 hc3 hc4
  unfold oneB at hc2 hc3 hc4
  unfold wB at hcW
  refine ACode.seq (ACode.regS noT_ok names_ok mix (t' := ?_) (L' := ?_) [0, 1, 2, 3, 4, 5] (by rfl) ?_ ?_)
  rotate_left 2
  · iterate 6 (refine seqE_cons rfl rfl rfl (by simp (config := {decide := false}) [EVT, Ev.seqE, Ev.drawE, Ev.fits, Ev.wantedE, Ev.oneE, Ev.cls, Ev.quiet, Ev.making, Ev.setParts, Ev.rowOf, Ev.loud, Ev.opd, Ev.opds, Ev.optOpd, Ev.pairs, Ev.putD, Ev.builtinQ, Ev.argsT, Ev.isAnc, Ev.index, Ev.indexAddr, Ev.sliceOp, Ev.bound, Ev.NV.mk, Ev.Heap.load, Ev.Heap.store, Ev.Heap.elem, Ev.V.asPtr, Ev.V.asBool, Ev.V.asInt, Ev.V.asStr, Ev.V.asAgg, Ev.V.asTup, Ev.V.asMap, Ev.build, Ev.fillCells, Ev.splice, Ev.over, Ev.takeN, Ev.part, Ev.unV, Ev.binV, Ev.isShift, Ev.isConstO, Ev.fieldAddr, Ev.placeS, Ev.placeA, Ev.goal, Ev.recT, Ev.recR, Ev.recheck, Ev.undefV, Ev.convQ, Ev.convNew, TYA, TYB, cellsI, scal1, t2, t3, t4, hc2, hc3, hc4, hcW, hcs, Try.f33]; rfl) (by rfl) (by simp only [Ev.putD]; rfl) ?_)
    rfl
  have hm2 : ((Be.t.set (L.next + 1) (oneB pv)).set (L.next + 2) (oneB (.int .i64 0))).get (L.next + 6) = some (.dfr true) := by
    rw [T.get_set_ne _ _ (by omega), T.get_set_ne _ _ (by omega)]; exact hm
  have hl2 : Heap.load Try.prog ⟨((Be.t.set (L.next + 1) (oneB pv)).set (L.next + 2) (oneB (.int .i64 0))).set (L.next + 6) (.dfr false), Be.next⟩ 38 (L.next + 1) 0 = some pv := by
    simp [Heap.load, Heap.elem, T.get_set, oneB, Ev.part, pa38, ps38]
  have hl3 : Heap.load Try.prog ⟨((Be.t.set (L.next + 1) (oneB pv)).set (L.next + 2) (oneB (.int .i64 0))).set (L.next + 6) (.dfr false), Be.next⟩ 67 (L.next + 2) 0 = some (.int .i64 0) := by
    simp [Heap.load, Heap.elem, T.get_set, oneB, Ev.part, pa67, ps67]
  refine ACode.ret ⟨.inr rfl, [pv, .int .i64 0], ?_, ?_, rfl⟩
  · show closeMarks ⟨(Be.t.set (L.next + 1) (oneB pv)).set (L.next + 2) (oneB (.int .i64 0)), Be.next⟩ [L.next + 6] = _
    simp only [closeMarks, hm2, Option.bind_some]
  · simp [Try.f33, resVals, tget_set, t2, t3, V.asPtr, hl2, hl3]
theorem put_bad {j : Nat} (hs : SlP 6 83 srcG L sv srcs) (he : SlP 9 86 evF L ev evs) (hn : srcs.length ≤ 1000) (hps : ps.length ≤ 1000) (hr : -1000 ≤ r ∧ r ≤ 1000) (hc : -1000 ≤ c ∧ c ≤ 1000) (hg : ∀ g ∈ [g0, g1, g2, g3, g4], 0 ≤ g ∧ g ≤ 255)
    (hstr : ∀ B : Heap, ∃ pv B', ACall Try.prog 68 [.int .i64 r, .int .i64 c, .int .i64 (srcs.length : Int)] B pv B' ∧ SlP 4 81 rectV B' pv ps ∧ B.next ≤ B'.next ∧ (∀ n, n < B.next → B'.t.get n = B.t.get n) ∧ ∀ m, nmP pv = some m → B.next ≤ m)
    (hev : ∀ e ∈ evs, EvR e) (hbad : (suBadG r c ring [g0, g1, g2, g3, g4] srcs ps || decide (40 < evs.length)) = true ∨ j < evs.length ∧ (∀ (i : Nat) (e : Evt), i < j → evs[i]? = some e → wBad e = false) ∧ ∃ e, evs[j]? = some e ∧ wBad e = true) :
    ∃ L', ACall Try.prog 33 [.agg (scL r c sv g0 g1 g2 g3 g4 ring ev)] L (.tuple [.nils, .int .i64 2]) L' ∧ L.next ≤ L'.next ∧ ∀ n, n < L.next → L'.t.get n = L.t.get n := by
  obtain ⟨t, hpre, t2, t3, t4, t9⟩ := put_pre L (scL r c sv g0 g1 g2 g3 g4 ring ev) rfl
  have hRL := put_RL L (scL r c sv g0 g1 g2 g3 g4 ring ev) t2 t3 t4
  obtain ⟨Bf, c72, hRf⟩ : ∃ B', ACall Try.prog 72 [.yield (putN L).l, .ptr (putN L).S 0] (rangeH (putA L (scL r c sv g0 g1 g2 g3 g4 ring ev)) 22 t [10] as33 bd33) (.tuple []) B' ∧ RB L B' (putN L) t := by
    by_cases hb0 : (suBadG r c ring [g0, g1, g2, g3, g4] srcs ps || decide (40 < evs.length)) = true
    · exact lay72_bad hRL hs he hn hps hr hc hg hstr hb0
    · rcases hbad with h | ⟨hj, hgj, hfin⟩
      · exact absurd h hb0
      · obtain ⟨B', h1, _, h2⟩ := lay72_ok hRL hs he hn hps hr hc hg hstr (by simpa using hb0) hev j (by omega) hgj (.inr hfin)
        exact ⟨B', h1, h2 hj⟩
  have hlp := hRf.lp
  obtain ⟨d1, d2, d4, d6⟩ := hRf.dis
  have hge : ∀ n, n ≠ (putN L).l → (⟨Bf.t.set (L.next + 6 + 1) (.loop .exhausted (some .ret) 22 t [10] as33 bd33 (L.next + 6)), Bf.next⟩ : Heap).t.get n = Bf.t.get n := fun n hn => T.get_set_ne _ _ hn
  have hm := (hge _ d4).trans hRf.m
  have hc2 := (hge _ d1).trans hRf.c2
  have hc3 := (hge _ d2).trans hRf.c3
  have hb2 : ∀ n, n < L.next → (⟨Bf.t.set (L.next + 6 + 1) (.loop .exhausted (some .ret) 22 t [10] as33 bd33 (L.next + 6)), Bf.next⟩ : Heap).t.get n = L.t.get n := fun n hn => (hge n (by simp only [putN]; omega)).trans (hRf.base.2 n hn)
  have hb1 : L.next ≤ (⟨Bf.t.set (L.next + 6 + 1) (.loop .exhausted (some .ret) 22 t [10] as33 bd33 (L.next + 6)), Bf.next⟩ : Heap).next := hRf.base.1
  generalize hBe : (⟨Bf.t.set (L.next + 6 + 1) (.loop .exhausted (some .ret) 22 t [10] as33 bd33 (L.next + 6)), Bf.next⟩ : Heap) = Be at *
  simp only [putN] at hm hc2 hc3
  refine ⟨⟨Be.t.set (L.next + 6) (.dfr false), Be.next⟩, ?_, hb1, fun n hn => by show T.get (T.set _ _ _) _ = _; rw [T.get_set_ne _ _ (by omega)]; exact hb2 n hn⟩
  refine ACall.of_body_same Try.func33 rfl (hpre _ ?_)
  show ACode _ _ (Code.block 0 (Code.rangeFunc (.tmp 9) #[10] as33 bd33)) _ _ _ _
  refine ACode.block ?_
  refine ACode.rangeFunc names_ok (g := 72) (first := []) (cap := [.ptr (L.next + 5) 0]) (v := .tuple []) (L1 := Bf) (by simp [opd, t9]) c72 hlp (by simp) (fun h => by cases h) (fun c h => ⟨by injection h with h; exact h.symm, ?_⟩)
  have hl2 : Heap.load Try.prog ⟨Be.t.set (L.next + 6) (.dfr false), Be.next⟩ 38 (L.next + 1) 0 = some .nils := by
    simp [Heap.load, Heap.elem, T.get_set, hc2, oneB, Ev.part, pa38, ps38]
  have hl3 : Heap.load Try.prog ⟨Be.t.set (L.next + 6) (.dfr false), Be.next⟩ 67 (L.next + 2) 0 = some (.int .i64 2) := by
    simp [Heap.load, Heap.elem, T.get_set, hc3, oneB, Ev.part, pa67, ps67]
  refine ⟨.inr rfl, [.nils, .int .i64 2], ?_, ?_, rfl⟩
  · show closeMarks ⟨Bf.t.set (L.next + 6 + 1) (.loop .exhausted (some .ret) 22 t [10] as33 bd33 (L.next + 6)), Bf.next⟩ [L.next + 6] = _
    rw [hBe]
    simp only [closeMarks, hm, Option.bind_some]
  · simp [Try.f33, resVals, tget_set, t2, t3, V.asPtr, hl2, hl3]
end
end Go.Proofs.Ytpfmoolpeecobaa
