/- A round of Put. Put's loop, left. -/
import Derived.Test.YtpfmoolpeecobaaQ16
namespace Go.Proofs.Ytpfmoolpeecobaa
open Go Go.Proofs Go.Proofs.Ytpfmoolpeecobaa.Ev
set_option linter.unusedVariables false
set_option linter.unusedSimpArgs false
set_option maxRecDepth 100000
set_option maxHeartbeats 4000000

def cAs : Code → Code
  | .rangeFunc _ _ a _ => a
  | c => c
def cBd : Code → Code
  | .rangeFunc _ _ _ b => b
  | c => c
noncomputable def b33 : Code := Try.f33.body.getD .skip
noncomputable def r33 : Code := cBlk (cSnd (cFst (cSnd (cSnd b33))))
noncomputable def as33 : Code := cAs r33
noncomputable def bd33 : Code := cBd r33
theorem RowS.ne_of {L : Heap} {v : V} {l : List Int} {sl m : Nat} (h : RowS L v l sl) {b : Blk} (hb : L.t.get m = some b) (hb' : ∀ c n, b ≠ .cells c n 1 true false) : nmP v ≠ some m := by
  rcases h with ⟨rfl, _⟩ | ⟨k, c', rfl, h1, h2, h3, h4⟩
  · simp [nmP]
  · simp only [nmP, ne_eq, Option.some.injEq]
    rintro rfl
    rw [hb] at h2
    injection h2 with h2
    exact hb' _ _ h2
/-- names of Put's blocks -/
structure Nm where
  W : Nat
  l : Nat
  C2 : Nat
  C3 : Nat
  C4 : Nat
  mk0 : Nat
  S : Nat
noncomputable def lpB (N : Nm) (tl : T V) (st : LoopState) (pend : Option Code) : Blk := .loop st pend 22 tl [10] as33 bd33 N.mk0
/-- Put's loop stands: the blocks, and what was there ahead of the call -/
structure RL (L0 B : Heap) (N : Nm) (tl : T V) (cs : List V) (st : LoopState) (v : V) (bad : Bool) (bs : List Int) (sl : Nat) : Prop where
  wr : Wr B N.W v bad bs sl
  lp : B.t.get N.l = some (lpB N tl st none)
  c2 : B.t.get N.C2 = some (oneB .nils)
  c3 : B.t.get N.C3 = some (oneB (.int .i64 0))
  c4 : B.t.get N.C4 = some (oneB (.ptr N.W 0))
  m : B.t.get N.mk0 = some (.dfr true)
  s : B.t.get N.S = some (scB cs)
  lts : N.l < B.next ∧ N.C2 < B.next ∧ N.C3 < B.next ∧ N.C4 < B.next ∧ N.mk0 < B.next ∧ N.S < B.next
  nes : N.l ≠ N.W ∧ N.C2 ≠ N.W ∧ N.C3 ≠ N.W ∧ N.C4 ≠ N.W ∧ N.mk0 ≠ N.W ∧ N.S ≠ N.W
  dis : N.C2 ≠ N.l ∧ N.C3 ≠ N.l ∧ N.C4 ≠ N.l ∧ N.mk0 ≠ N.l ∧ N.S ≠ N.l ∧ N.C2 ≠ N.C3
  los : L0.next ≤ N.W ∧ L0.next ≤ N.l ∧ L0.next ≤ N.C2 ∧ L0.next ≤ N.C3
  ts : tget tl 2 = .ptr N.C2 0 ∧ tget tl 3 = .ptr N.C3 0 ∧ tget tl 4 = .ptr N.C4 0
  base : L0.next ≤ B.next ∧ ∀ n, n < L0.next → B.t.get n = L0.t.get n
  vlo : ∀ m, nmP v = some m → L0.next ≤ m
section
variable {L0 B B' : Heap} {N : Nm} {tl : T V} {cs : List V} {st : LoopState} {v v' : V} {bad bad' : Bool} {bs bs' : List Int} {sl sl' : Nat}
theorem RL.step (h : RL L0 B N tl cs st v bad bs sl) (hw : Wr B' N.W v' bad' bs' sl') (ho : Old N.W v B B' v') : RL L0 B' N tl cs st v' bad' bs' sl' := by
  obtain ⟨l1, l2, l3, l4, l5, l6⟩ := h.lts
  obtain ⟨n1, n2, n3, n4, n5, n6⟩ := h.nes
  have hx := ho.next
  refine ⟨hw, ?_, ho.at h.wr.row h.c2 l2 n2, ho.at h.wr.row h.c3 l3 n3, ho.at h.wr.row h.c4 l4 n4, ?_, ho.at h.wr.row h.s l6 n6, ⟨by omega, by omega, by omega, by omega, by omega, by omega⟩, h.nes, h.dis, h.los, h.ts, ⟨Nat.le_trans h.base.1 hx, fun n hn => ?_⟩, fun m hm => ?_⟩
  · rw [ho.old _ l1 n1 (h.wr.row.ne_of h.lp (fun c n => by simp [lpB]))]; exact h.lp
  · rw [ho.old _ l5 n5 (h.wr.row.ne_of h.m (fun c n => by simp))]; exact h.m
  · rw [ho.old n (Nat.lt_of_lt_of_le hn h.base.1) (by have := h.los.1; omega) (fun e => by have := h.vlo n e; omega)]; exact h.base.2 n hn
  · rcases ho.nm with e | ⟨k, e, hk⟩
    · exact h.vlo m (by rw [← e]; exact hm)
    · rw [e] at hm; injection hm with hm; have := h.base.1; omega
/-- the loop's own block is set -/
noncomputable def setLp (B : Heap) (N : Nm) (tl : T V) (st : LoopState) : Heap := ⟨B.t.set N.l (lpB N tl st none), B.next⟩
theorem RL.turn (h : RL L0 B N tl cs st v bad bs sl) (st' : LoopState) : RL L0 (setLp B N tl st') N tl cs st' v bad bs sl := by
  obtain ⟨n1, n2, n3, n4, n5, n6⟩ := h.nes
  obtain ⟨d1, d2, d3, d4, d5, d6⟩ := h.dis
  have g : ∀ n, n ≠ N.l → (setLp B N tl st').t.get n = B.t.get n := fun n hn => T.get_set_ne _ _ hn
  have hnm := h.wr.row.ne_of h.lp (fun c n => by simp [lpB])
  exact ⟨⟨by rw [g _ (Ne.symm n1)]; exact h.wr.cell, h.wr.lt, h.wr.row.still (Nat.le_refl _) fun m hm => g _ (by rintro rfl; exact hnm hm)⟩, T.get_set_same _ _ _, by rw [g _ d1]; exact h.c2, by rw [g _ d2]; exact h.c3, by rw [g _ d3]; exact h.c4, by rw [g _ d4]; exact h.m, by rw [g _ d5]; exact h.s,
    h.lts, h.nes, h.dis, h.los, h.ts, ⟨h.base.1, fun n hn => by rw [g _ (by have := h.los.2.1; omega)]; exact h.base.2 n hn⟩, h.vlo⟩
theorem RL.new (h : RL L0 B N tl cs st v bad bs sl) (b : Blk) : RL L0 ⟨B.t.set B.next b, B.next + 1⟩ N tl cs st v bad bs sl := h.step (h.wr.new b) (Old.new _ _ _ _)
/-- what a round leaves -/
noncomputable def endH (B1 : Heap) (N : Nm) (tl : T V) : Bool → Heap
  | false => setLp B1 N tl .ready
  | true => ⟨((B1.t.set N.C2 (oneB .nils)).set N.C3 (oneB (.int .i64 2))).set N.l (lpB N tl .done (some .ret)), B1.next⟩
theorem round_ok {B1 : Heap} {g : FuncId} {c : Nat} (h : RL L0 B N tl cs .ready v bad bs sl) (hc : ACall Try.prog g [.ptr N.W 0, .ptr c 0] (setLp B N tl .busy) (.tuple []) B1) (h1 : RL L0 B1 N tl cs .busy v' bad' bs' sl') :
    ARound Try.prog N.l [.func g [] [.ptr c 0]] B (.bool (!bad')) (endH B1 N tl bad') := by
  have ht0 : setParams 22 tl ([10].zip [V.func g [] [.ptr c 0]]) = some (tl.set 10 (.func g [] [.ptr c 0])) := by
    rfl
  refine ARound.of h.lp rfl ht0 ?_
  show ACode _ _ (Code.region 3 _ false) _ _ _ _
  refine ACode.regS noT_ok names_ok mix (t' := ?_) (L' := ?_) [0] (by rfl) ?_ ?_
  rotate_left 2
  · refine seqE_cons rfl rfl rfl (by simp (config := {decide := false}) [EVT, Ev.seqE, Ev.drawE, Ev.fits, Ev.wantedE, Ev.oneE, Ev.cls, Ev.quiet, Ev.making, Ev.setParts, Ev.rowOf, Ev.loud, Ev.opd, Ev.opds, Ev.optOpd, Ev.pairs, Ev.putD, Ev.builtinQ, Ev.argsT, Ev.isAnc, Ev.index, Ev.indexAddr, Ev.sliceOp, Ev.bound, Ev.NV.mk, Ev.Heap.load, Ev.Heap.store, Ev.Heap.elem, Ev.V.cells, Ev.V.scalar, Ev.V.asPtr, Ev.V.asBool, Ev.V.asInt, Ev.V.asStr, Ev.V.asAgg, Ev.V.asTup, Ev.V.asMap, Ev.build, Ev.fillCells, Ev.splice, Ev.over, Ev.takeN, Ev.part, Ev.unV, Ev.binV, Ev.isShift, Ev.isConstO, Ev.fieldAddr, Ev.placeS, Ev.placeA, Ev.goal, Ev.recT, Ev.recR, Ev.recheck, Ev.undefV, Ev.convQ, Ev.convNew, TYA, TYB, Try.f33]; rfl) (by rfl) (by simp only [Ev.putD]; rfl) ?_
    rfl
  refine ⟨rfl, none, 22, tl, [10], as33, bd33, N.mk0, h.lp, ?_⟩
  show ACode _ _ (Code.block 1 (Code.seq (Code.region _ _ _) _)) _ _ (setLp B N tl .busy) _
  have hb := h.turn .busy
  obtain ⟨t2, t3, t4⟩ := h.ts
  have hc4 := hb.c4
  have hc4' := h1.c4
  have hcW := h1.wr.cell
  have hc2 := h1.c2
  have hc3 := h1.c3
  obtain ⟨d1, d2, d3, d4, d5, d6⟩ := h.dis
  have hlp := h1.lp
  generalize setLp B N tl .busy = Bb at *
  unfold oneB at hc4 hc4' hc2 hc3
  unfold wB at hcW
  refine ACode.block ?_
  refine ACode.seq (ACode.regS (oneT_okP hc) names_ok mix (t' := ?_) (L' := ?_) [0, 1, 2] (by rfl) ?_ ?_)
  rotate_left 2
  · iterate 3 (refine seqE_cons rfl rfl rfl (by simp (config := {decide := false}) [EVT, Ev.seqE, Ev.drawE, Ev.fits, Ev.wantedE, Ev.oneE, Ev.cls, Ev.quiet, Ev.making, Ev.setParts, Ev.rowOf, Ev.loud, Ev.opd, Ev.opds, Ev.optOpd, Ev.pairs, Ev.putD, Ev.builtinQ, Ev.argsT, Ev.isAnc, Ev.index, Ev.indexAddr, Ev.sliceOp, Ev.bound, Ev.NV.mk, Ev.Heap.load, Ev.Heap.store, Ev.Heap.elem, Ev.V.cells, Ev.V.scalar, Ev.V.asPtr, Ev.V.asBool, Ev.V.asInt, Ev.V.asStr, Ev.V.asAgg, Ev.V.asTup, Ev.V.asMap, Ev.build, Ev.fillCells, Ev.splice, Ev.over, Ev.takeN, Ev.part, Ev.unV, Ev.binV, Ev.isShift, Ev.isConstO, Ev.fieldAddr, Ev.placeS, Ev.placeA, Ev.goal, Ev.recT, Ev.recR, Ev.recheck, Ev.undefV, Ev.convQ, Ev.convNew, TYA, TYB, t4, hc4, oneT_sameP, Try.f33]; rfl) (by rfl) (by simp only [Ev.putD]; rfl) ?_)
    rfl
  refine ACode.seq (ACode.regS noT_ok names_ok mix (t' := ?_) (L' := ?_) [0, 1, 2, 3] (by rfl) ?_ ?_)
  rotate_left 2
  · iterate 4 (refine seqE_cons rfl rfl rfl (by simp (config := {decide := false}) [EVT, Ev.seqE, Ev.drawE, Ev.fits, Ev.wantedE, Ev.oneE, Ev.cls, Ev.quiet, Ev.making, Ev.setParts, Ev.rowOf, Ev.loud, Ev.opd, Ev.opds, Ev.optOpd, Ev.pairs, Ev.putD, Ev.builtinQ, Ev.argsT, Ev.isAnc, Ev.index, Ev.indexAddr, Ev.sliceOp, Ev.bound, Ev.NV.mk, Ev.Heap.load, Ev.Heap.store, Ev.Heap.elem, Ev.V.cells, Ev.V.scalar, Ev.V.asPtr, Ev.V.asBool, Ev.V.asInt, Ev.V.asStr, Ev.V.asAgg, Ev.V.asTup, Ev.V.asMap, Ev.build, Ev.fillCells, Ev.splice, Ev.over, Ev.takeN, Ev.part, Ev.unV, Ev.binV, Ev.isShift, Ev.isConstO, Ev.fieldAddr, Ev.placeS, Ev.placeA, Ev.goal, Ev.recT, Ev.recR, Ev.recheck, Ev.undefV, Ev.convQ, Ev.convNew, TYA, TYB, t4, hc4', hcW, Try.f33]; rfl) (by rfl) (by simp only [Ev.putD]; rfl) ?_)
    rfl
  cases bad' with
  | false =>
    refine ACode.condF (by simp [tget_set, opd]) (ACode.skip ?_)
    exact ⟨rfl, .busy, none, 22, tl, [10], as33, bd33, N.mk0, hlp, rfl, rfl⟩
  | true =>
    refine ACode.condT (by simp [tget_set, opd]) ?_
    have hlp2 : ((B1.t.set N.C2 (oneB .nils)).set N.C3 (oneB (.int .i64 2))).get N.l = some (lpB N tl .busy none) := by
      rw [T.get_set_ne _ _ (Ne.symm d2), T.get_set_ne _ _ (Ne.symm d1)]; exact hlp
    have d6s : N.C3 ≠ N.C2 := Ne.symm d6
    refine ACode.seq (ACode.regS noT_ok names_ok mix (t' := ?_) (L' := ?_) [0, 1] (by rfl) ?_ ?_)
    rotate_left 2
    · iterate 2 (refine seqE_cons rfl rfl rfl (by simp (config := {decide := false}) [EVT, Ev.seqE, Ev.drawE, Ev.fits, Ev.wantedE, Ev.oneE, Ev.cls, Ev.quiet, Ev.making, Ev.setParts, Ev.rowOf, Ev.loud, Ev.opd, Ev.opds, Ev.optOpd, Ev.pairs, Ev.putD, Ev.builtinQ, Ev.argsT, Ev.isAnc, Ev.index, Ev.indexAddr, Ev.sliceOp, Ev.bound, Ev.NV.mk, Ev.Heap.load, Ev.Heap.store, Ev.Heap.elem, Ev.V.cells, Ev.V.scalar, Ev.V.asPtr, Ev.V.asBool, Ev.V.asInt, Ev.V.asStr, Ev.V.asAgg, Ev.V.asTup, Ev.V.asMap, Ev.build, Ev.fillCells, Ev.splice, Ev.over, Ev.takeN, Ev.part, Ev.unV, Ev.binV, Ev.isShift, Ev.isConstO, Ev.fieldAddr, Ev.placeS, Ev.placeA, Ev.goal, Ev.recT, Ev.recR, Ev.recheck, Ev.undefV, Ev.convQ, Ev.convNew, TYA, TYB, t2, t3, hc2, hc3, d6s, Try.f33]; rfl) (by rfl) (by simp only [Ev.putD]; rfl) ?_)
      rfl
    refine ACode.ret ?_
    exact ⟨rfl, .busy, none, 22, tl, [10], as33, bd33, N.mk0, hlp2, rfl, rfl⟩
end
end Go.Proofs.Ytpfmoolpeecobaa
namespace Go.Proofs.Ytpfmoolpeecobaa
open Go Go.Proofs Go.Proofs.Ytpfmoolpeecobaa.Ev
set_option linter.unusedVariables false
set_option linter.unusedSimpArgs false
set_option maxRecDepth 100000
set_option maxHeartbeats 4000000

/-- one round that is known -/
noncomputable def oneR (l : Nat) (args : List V) (L : Heap) (v : V) (L' : Heap) : RTab := by
  classical exact fun l' args' L0 => if l' = l ∧ args' = args ∧ L0 = L then some (v, L') else none
theorem oneR_ok {l : Nat} {args : List V} {L : Heap} {v : V} {L' : Heap} (h : ARound Try.prog l args L v L') : RTabOk Try.prog (oneR l args L v L') := by
  intro l' args' L0 v' L1 e
  unfold oneR at e
  split at e
  · rename_i hc
    obtain ⟨rfl, rfl, rfl⟩ := hc
    simp only [Option.some.injEq, Prod.mk.injEq] at e
    obtain ⟨rfl, rfl⟩ := e
    exact h
  · cases e
theorem oneR_same (l : Nat) (args : List V) (L : Heap) (v : V) (L' : Heap) : oneR l args L v L' l args L = some (v, L') := by simp [oneR]

/-- Put's loop was left -/
structure RB (L0 B : Heap) (N : Nm) (tl : T V) : Prop where
  lp : B.t.get N.l = some (lpB N tl .done (some .ret))
  c2 : B.t.get N.C2 = some (oneB .nils)
  c3 : B.t.get N.C3 = some (oneB (.int .i64 2))
  m : B.t.get N.mk0 = some (.dfr true)
  lts : N.l < B.next ∧ N.C2 < B.next ∧ N.C3 < B.next ∧ N.mk0 < B.next
  dis : N.C2 ≠ N.l ∧ N.C3 ≠ N.l ∧ N.mk0 ≠ N.l ∧ N.C2 ≠ N.C3
  ts : tget tl 2 = .ptr N.C2 0 ∧ tget tl 3 = .ptr N.C3 0
  base : L0.next ≤ B.next ∧ ∀ n, n < L0.next → B.t.get n = L0.t.get n
section
variable {L0 B : Heap} {N : Nm} {tl : T V} {cs : List V} {st : LoopState} {v : V} {bad : Bool} {bs : List Int} {sl : Nat}
theorem RL.left (h : RL L0 B N tl cs st v bad bs sl) : RB L0 (endH B N tl true) N tl := by
  obtain ⟨l1, l2, l3, l4, l5, l6⟩ := h.lts
  obtain ⟨d1, d2, d3, d4, d5, d6⟩ := h.dis
  have g : ∀ n, n ≠ N.l → n ≠ N.C2 → n ≠ N.C3 → (endH B N tl true).t.get n = B.t.get n := fun n h1 h2 h3 => by
    show T.get (T.set _ _ _) _ = _
    rw [T.get_set_ne _ _ h1, T.get_set_ne _ _ h3, T.get_set_ne _ _ h2]
  have m2 : N.mk0 ≠ N.C2 := by rintro e; have h1 := h.m; have h2 := h.c2; rw [e, h2] at h1; simp [oneB] at h1
  have m3 : N.mk0 ≠ N.C3 := by rintro e; have h1 := h.m; have h2 := h.c3; rw [e, h2] at h1; simp [oneB] at h1
  refine ⟨T.get_set_same _ _ _, ?_, ?_, by rw [g _ d4 m2 m3]; exact h.m, ⟨l1, l2, l3, l5⟩, ⟨d1, d2, d4, d6⟩, ⟨h.ts.1, h.ts.2.1⟩, h.base.1, fun n hn => ?_⟩
  · show T.get (T.set _ _ _) _ = _
    rw [T.get_set_ne _ _ d1, T.get_set_ne _ _ d6]; exact T.get_set_same _ _ _
  · show T.get (T.set _ _ _) _ = _
    rw [T.get_set_ne _ _ d2]; exact T.get_set_same _ _ _
  · obtain ⟨o1, o2, o3, o4⟩ := h.los
    rw [g n (by omega) (by omega) (by omega)]
    exact h.base.2 n hn
theorem RL.ap (h : RL L0 B N tl cs st v bad bs sl) {x : V} (hx : ∀ m, nmP x = some m → m < L0.next) : Ap N.W v x :=
  fun m hm => ⟨by have := hx m hm; have := h.los.1; omega, fun e => by have := hx m hm; have := h.vlo m e; omega⟩
end
theorem bytes_le (evs : List Evt) (he : ∀ e ∈ evs, EvR e) : ∀ i, ((evs.take i).flatMap wBytes).length ≤ i * 1010 := by
  have h1 : ∀ e ∈ evs, (wBytes e).length ≤ 1010 := by
    intro e hm
    have := (he e hm).t
    unfold wBytes wTail
    split
    · simp [natI]; omega
    split
    · simp [natI]; omega
    split
    · simp
    split
    · simp
    split <;> simp
  intro i
  induction i with
  | zero => simp
  | succ i ih =>
    by_cases hi : i < evs.length
    · have hx : evs[i]? = some evs[i] := by simp [hi]
      rw [List.take_add_one, hx]
      simp only [Option.toList_some, List.flatMap_append, List.flatMap_cons, List.flatMap_nil, List.append_nil, List.length_append]
      have := h1 evs[i] (List.getElem_mem _)
      omega
    · rw [List.take_of_length_le (by omega)]
      rw [List.take_of_length_le (by omega)] at ih
      omega
end Go.Proofs.Ytpfmoolpeecobaa
