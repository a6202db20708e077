/- A round of Put. Put's loop, left. A script's parts, laid one by one. Put. -/
import Derived.Test.YtpfmoolpeecobaaU12
namespace Go.Proofs.Ytpfmoolpeecobaa
open Go Go.Proofs Go.Proofs.Ytpfmoolpeecobaa.Ev
set_option linter.unusedVariables false
set_option linter.unusedSimpArgs false
set_option maxRecDepth 100000
set_option maxHeartbeats 4000000

def cAs : Code → Code
  | .rangeFunc _ _ a _ => a
  | c => c
def cBd : Code → Code
  | .rangeFunc _ _ _ b => b
  | c => c
noncomputable def b33 : Code := Try.f33.body.getD .skip
noncomputable def r33 : Code := cBlk (cSnd (cFst (cSnd (cSnd b33))))
noncomputable def as33 : Code := cAs r33
noncomputable def bd33 : Code := cBd r33
theorem RowS.ne_of {L : Heap} {v : V} {l : List Int} {sl m : Nat} (h : RowS L v l sl) {b : Blk} (hb : L.t.get m = some b) (hb' : ∀ c n, b ≠ .cells c n 1 true false) : nmP v ≠ some m := by
  rcases h with ⟨rfl, _⟩ | ⟨k, c', rfl, h1, h2, h3, h4⟩
  · simp [nmP]
  · simp only [nmP, ne_eq, Option.some.injEq]
    rintro rfl
    rw [hb] at h2
    injection h2 with h2
    exact hb' _ _ h2
/-- names of Put's blocks -/
structure Nm where
  W : Nat
  l : Nat
  C2 : Nat
  C3 : Nat
  C4 : Nat
  mk0 : Nat
  S : Nat
noncomputable def lpB (N : Nm) (tl : T V) (st : LoopState) (pend : Option Code) : Blk := .loop st pend 22 tl [10] as33 bd33 N.mk0
/-- Put's loop stands: the blocks, and what was there ahead of the call -/
structure RL (L0 B : Heap) (N : Nm) (tl : T V) (cs : List V) (st : LoopState) (v : V) (bad : Bool) (bs : List Int) (sl : Nat) : Prop where
  wr : Wr B N.W v bad bs sl
  lp : B.t.get N.l = some (lpB N tl st none)
  c2 : B.t.get N.C2 = some (oneB .nils)
  c3 : B.t.get N.C3 = some (oneB (.int .i64 0))
  c4 : B.t.get N.C4 = some (oneB (.ptr N.W 0))
  m : B.t.get N.mk0 = some (.dfr true)
  s : B.t.get N.S = some (scB cs)
  lts : N.l < B.next ∧ N.C2 < B.next ∧ N.C3 < B.next ∧ N.C4 < B.next ∧ N.mk0 < B.next ∧ N.S < B.next
  nes : N.l ≠ N.W ∧ N.C2 ≠ N.W ∧ N.C3 ≠ N.W ∧ N.C4 ≠ N.W ∧ N.mk0 ≠ N.W ∧ N.S ≠ N.W
  dis : N.C2 ≠ N.l ∧ N.C3 ≠ N.l ∧ N.C4 ≠ N.l ∧ N.mk0 ≠ N.l ∧ N.S ≠ N.l ∧ N.C2 ≠ N.C3
  los : L0.next ≤ N.W ∧ L0.next ≤ N.l ∧ L0.next ≤ N.C2 ∧ L0.next ≤ N.C3
  ts : tget tl 2 = .ptr N.C2 0 ∧ tget tl 3 = .ptr N.C3 0 ∧ tget tl 4 = .ptr N.C4 0
  base : L0.next ≤ B.next ∧ ∀ n, n < L0.next → B.t.get n = L0.t.get n
  vlo : ∀ m, nmP v = some m → L0.next ≤ m
section
variable {L0 B B' : Heap} {N : Nm} {tl : T V} {cs : List V} {st : LoopState} {v v' : V} {bad bad' : Bool} {bs bs' : List Int} {sl sl' : Nat}
theorem RL.step (h : RL L0 B N tl cs st v bad bs sl) (hw : Wr B' N.W v' bad' bs' sl') (ho : Old N.W v B B' v') : RL L0 B' N tl cs st v' bad' bs' sl' := by
  obtain ⟨l1, l2, l3, l4, l5, l6⟩ := h.lts
  obtain ⟨n1, n2, n3, n4, n5, n6⟩ := h.nes
  have hx := ho.next
  refine ⟨hw, ?_, ho.at h.wr.row h.c2 l2 n2, ho.at h.wr.row h.c3 l3 n3, ho.at h.wr.row h.c4 l4 n4, ?_, ho.at h.wr.row h.s l6 n6, ⟨by omega, by omega, by omega, by omega, by omega, by omega⟩, h.nes, h.dis, h.los, h.ts, ⟨Nat.le_trans h.base.1 hx, fun n hn => ?_⟩, fun m hm => ?_⟩
  · rw [ho.old _ l1 n1 (h.wr.row.ne_of h.lp (fun c n => by simp [lpB]))]; exact h.lp
  · rw [ho.old _ l5 n5 (h.wr.row.ne_of h.m (fun c n => by simp))]; exact h.m
  · rw [ho.old n (Nat.lt_of_lt_of_le hn h.base.1) (by have := h.los.1; omega) (fun e => by have := h.vlo n e; omega)]; exact h.base.2 n hn
  · rcases ho.nm with e | ⟨k, e, hk⟩
    · exact h.vlo m (by rw [← e]; exact hm)
    · rw [e] at hm; injection hm with hm; have := h.base.1; omega
/-- the loop's own block is set -/
noncomputable def setLp (B : Heap) (N : Nm) (tl : T V) (st : LoopState) : Heap := ⟨B.t.set N.l (lpB N tl st none), B.next⟩
theorem RL.turn (h : RL L0 B N tl cs st v bad bs sl) (st' : LoopState) : RL L0 (setLp B N tl st') N tl cs st' v bad bs sl := by
  obtain ⟨n1, n2, n3, n4, n5, n6⟩ := h.nes
  obtain ⟨d1, d2, d3, d4, d5, d6⟩ := h.dis
  have g : ∀ n, n ≠ N.l → (setLp B N tl st').t.get n = B.t.get n := fun n hn => T.get_set_ne _ _ hn
  have hnm := h.wr.row.ne_of h.lp (fun c n => by simp [lpB])
  exact ⟨⟨by rw [g _ (Ne.symm n1)]; exact h.wr.cell, h.wr.lt, h.wr.row.still (Nat.le_refl _) fun m hm => g _ (by rintro rfl; exact hnm hm)⟩, T.get_set_same _ _ _, by rw [g _ d1]; exact h.c2, by rw [g _ d2]; exact h.c3, by rw [g _ d3]; exact h.c4, by rw [g _ d4]; exact h.m, by rw [g _ d5]; exact h.s,
    h.lts, h.nes, h.dis, h.los, h.ts, ⟨h.base.1, fun n hn => by rw [g _ (by have := h.los.2.1; omega)]; exact h.base.2 n hn⟩, h.vlo⟩
theorem RL.new (h : RL L0 B N tl cs st v bad bs sl) (b : Blk) : RL L0 ⟨B.t.set B.next b, B.next + 1⟩ N tl cs st v bad bs sl := h.step (h.wr.new b) (Old.new _ _ _ _)
/-- what a round leaves -/
noncomputable def endH (B1 : Heap) (N : Nm) (tl : T V) : Bool → Heap
  | false => setLp B1 N tl .ready
  | true => ⟨((B1.t.set N.C2 (oneB .nils)).set N.C3 (oneB (.int .i64 2))).set N.l (lpB N tl .done (some .ret)), B1.next⟩
theorem round_ok {B1 : Heap} {g : FuncId} {c : Nat} (h : RL L0 B N tl cs .ready v bad bs sl) (hc : ACall Try.prog g [.ptr N.W 0, .ptr c 0] (setLp B N tl .busy) (.tuple []) B1) (h1 : RL L0 B1 N tl cs .busy v' bad' bs' sl') :
    ARound Try.prog N.l [.func g [] [.ptr c 0]] B (.bool (!bad')) (endH B1 N tl bad') := by
  have ht0 : setParams 22 tl ([10].zip [V.func g [] [.ptr c 0]]) = some (tl.set 10 (.func g [] [.ptr c 0])) := by
    rfl
  refine ARound.of h.lp rfl ht0 ?_
  show ACode _ _ (Code.region 3 _ false) _ _ _ _
  refine ACode.regS noT_ok names_ok mix (t' := ?_) (L' := ?_) [0] (by rfl) ?_ ?_
  rotate_left 2
  · refine sq rfl rfl rfl (by simp [go_sem, X, Try.f33]; rfl) ?_
    rfl
  refine ⟨rfl, none, 22, tl, [10], as33, bd33, N.mk0, h.lp, ?_⟩
  show ACode _ _ (Code.block 1 (Code.seq (Code.region _ _ _) _)) _ _ (setLp B N tl .busy) _
  have hb := h.turn .busy
  obtain ⟨t2, t3, t4⟩ := h.ts
  have hc4 := hb.c4
  have hc4' := h1.c4
  have hcW := h1.wr.cell
  have hc2 := h1.c2
  have hc3 := h1.c3
  obtain ⟨d1, d2, d3, d4, d5, d6⟩ := h.dis
  have hlp := h1.lp
  generalize setLp B N tl .busy = Bb at *
  unfold oneB at hc4 hc4' hc2 hc3
  unfold wB at hcW
  refine ACode.block ?_
  refine ACode.seq (ACode.regS (oneT_okP hc) names_ok mix (t' := ?_) (L' := ?_) [0, 1, 2] (by rfl) ?_ ?_)
  rotate_left 2
  · iterate 3 (refine sq rfl rfl rfl (by simp [go_sem, X, t4, hc4, oneT_sameP, Try.f33]; rfl) ?_)
    rfl
  refine ACode.seq (ACode.regS noT_ok names_ok mix (t' := ?_) (L' := ?_) [0, 1, 2, 3] (by rfl) ?_ ?_)
  rotate_left 2
  · iterate 4 (refine sq rfl rfl rfl (by simp [go_sem, X, t4, hc4', hcW, Try.f33]; rfl) ?_)
    rfl
  cases bad' with
  | false =>
    refine ACode.condF (by simp [tget_set, opd]) (ACode.skip ?_)
    exact ⟨rfl, .busy, none, 22, tl, [10], as33, bd33, N.mk0, hlp, rfl, rfl⟩
  | true =>
    refine ACode.condT (by simp [tget_set, opd]) ?_
    have hlp2 : ((B1.t.set N.C2 (oneB .nils)).set N.C3 (oneB (.int .i64 2))).get N.l = some (lpB N tl .busy none) := by
      rw [T.get_set_ne _ _ (Ne.symm d2), T.get_set_ne _ _ (Ne.symm d1)]; exact hlp
    have d6s : N.C3 ≠ N.C2 := Ne.symm d6
    refine ACode.seq (ACode.regS noT_ok names_ok mix (t' := ?_) (L' := ?_) [0, 1] (by rfl) ?_ ?_)
    rotate_left 2
    · iterate 2 (refine sq rfl rfl rfl (by simp [go_sem, X, t2, t3, hc2, hc3, d6s, Try.f33]; rfl) ?_)
      rfl
    refine ACode.ret ?_
    exact ⟨rfl, .busy, none, 22, tl, [10], as33, bd33, N.mk0, hlp2, rfl, rfl⟩
end
end Go.Proofs.Ytpfmoolpeecobaa
namespace Go.Proofs.Ytpfmoolpeecobaa
open Go Go.Proofs Go.Proofs.Ytpfmoolpeecobaa.Ev
set_option linter.unusedVariables false
set_option linter.unusedSimpArgs false
set_option maxRecDepth 100000
set_option maxHeartbeats 4000000

/-- one round that is known -/
noncomputable def oneR (l : Nat) (args : List V) (L : Heap) (v : V) (L' : Heap) : RTab := by
  classical exact fun l' args' L0 => if l' = l ∧ args' = args ∧ L0 = L then some (v, L') else none
theorem oneR_ok {l : Nat} {args : List V} {L : Heap} {v : V} {L' : Heap} (h : ARound Try.prog l args L v L') : RTabOk Try.prog (oneR l args L v L') := by
  intro l' args' L0 v' L1 e
  unfold oneR at e
  split at e
  · rename_i hc
    obtain ⟨rfl, rfl, rfl⟩ := hc
    simp only [Option.some.injEq, Prod.mk.injEq] at e
    obtain ⟨rfl, rfl⟩ := e
    exact h
  · cases e
theorem oneR_same (l : Nat) (args : List V) (L : Heap) (v : V) (L' : Heap) : oneR l args L v L' l args L = some (v, L') := by simp [oneR]

/-- Put's loop was left -/
structure RB (L0 B : Heap) (N : Nm) (tl : T V) : Prop where
  lp : B.t.get N.l = some (lpB N tl .done (some .ret))
  c2 : B.t.get N.C2 = some (oneB .nils)
  c3 : B.t.get N.C3 = some (oneB (.int .i64 2))
  m : B.t.get N.mk0 = some (.dfr true)
  lts : N.l < B.next ∧ N.C2 < B.next ∧ N.C3 < B.next ∧ N.mk0 < B.next
  dis : N.C2 ≠ N.l ∧ N.C3 ≠ N.l ∧ N.mk0 ≠ N.l ∧ N.C2 ≠ N.C3
  ts : tget tl 2 = .ptr N.C2 0 ∧ tget tl 3 = .ptr N.C3 0
  base : L0.next ≤ B.next ∧ ∀ n, n < L0.next → B.t.get n = L0.t.get n
section
variable {L0 B : Heap} {N : Nm} {tl : T V} {cs : List V} {st : LoopState} {v : V} {bad : Bool} {bs : List Int} {sl : Nat}
theorem RL.left (h : RL L0 B N tl cs st v bad bs sl) : RB L0 (endH B N tl true) N tl := by
  obtain ⟨l1, l2, l3, l4, l5, l6⟩ := h.lts
  obtain ⟨d1, d2, d3, d4, d5, d6⟩ := h.dis
  have g : ∀ n, n ≠ N.l → n ≠ N.C2 → n ≠ N.C3 → (endH B N tl true).t.get n = B.t.get n := fun n h1 h2 h3 => by
    show T.get (T.set _ _ _) _ = _
    rw [T.get_set_ne _ _ h1, T.get_set_ne _ _ h3, T.get_set_ne _ _ h2]
  have m2 : N.mk0 ≠ N.C2 := by rintro e; have h1 := h.m; have h2 := h.c2; rw [e, h2] at h1; simp [oneB] at h1
  have m3 : N.mk0 ≠ N.C3 := by rintro e; have h1 := h.m; have h2 := h.c3; rw [e, h2] at h1; simp [oneB] at h1
  refine ⟨T.get_set_same _ _ _, ?_, ?_, by rw [g _ d4 m2 m3]; exact h.m, ⟨l1, l2, l3, l5⟩, ⟨d1, d2, d4, d6⟩, ⟨h.ts.1, h.ts.2.1⟩, h.base.1, fun n hn => ?_⟩
  · show T.get (T.set _ _ _) _ = _
    rw [T.get_set_ne _ _ d1, T.get_set_ne _ _ d6]; exact T.get_set_same _ _ _
  · show T.get (T.set _ _ _) _ = _
    rw [T.get_set_ne _ _ d2]; exact T.get_set_same _ _ _
  · obtain ⟨o1, o2, o3, o4⟩ := h.los
    rw [g n (by omega) (by omega) (by omega)]
    exact h.base.2 n hn
theorem RL.ap (h : RL L0 B N tl cs st v bad bs sl) {x : V} (hx : ∀ m, nmP x = some m → m < L0.next) : Ap N.W v x :=
  fun m hm => ⟨by have := hx m hm; have := h.los.1; omega, fun e => by have := hx m hm; have := h.vlo m e; omega⟩
end
theorem bytes_le (evs : List Evt) (he : ∀ e ∈ evs, EvR e) : ∀ i, ((evs.take i).flatMap wBytes).length ≤ i * 1010 := by
  have h1 : ∀ e ∈ evs, (wBytes e).length ≤ 1010 := by
    intro e hm
    have := (he e hm).t
    unfold wBytes wTail
    split
    · simp [natI]; omega
    split
    · simp [natI]; omega
    split
    · simp
    split
    · simp
    split <;> simp
  intro i
  induction i with
  | zero => simp
  | succ i ih =>
    by_cases hi : i < evs.length
    · have hx : evs[i]? = some evs[i] := by simp [hi]
      rw [List.take_add_one, hx]
      simp only [Option.toList_some, List.flatMap_append, List.flatMap_cons, List.flatMap_nil, List.append_nil, List.length_append]
      have := h1 evs[i] (List.getElem_mem _)
      omega
    · rw [List.take_of_length_le (by omega)]
      rw [List.take_of_length_le (by omega)] at ih
      omega
end Go.Proofs.Ytpfmoolpeecobaa
namespace Go.Proofs.Ytpfmoolpeecobaa
open Go Go.Proofs Go.Proofs.Ytpfmoolpeecobaa.Ev
set_option linter.unusedVariables false
set_option linter.unusedSimpArgs false
set_option maxRecDepth 100000
set_option maxHeartbeats 4000000

section
variable {L0 B : Heap} {N : Nm} {tl : T V} {cs : List V} {v sv ev : V} {bs : List Int} {sl : Nat} {r c ring g0 g1 g2 g3 g4 : Int} {srcs : List SrcG} {evs : List Evt} {ps : List (Int × Int × Int × Int)}
theorem evRound_ok {e : Evt} (h : RL L0 B N tl cs .ready v false bs sl) (hsl : sl ≤ 1) (hl : bs.length ≤ 1000000) (hr : EvR e) :
    ∃ A1 v' sl', ARound Try.prog N.l [.func 75 [] [.ptr B.next 0]] ⟨B.t.set B.next (evB (evF e)), B.next + 1⟩ (.bool (!wBad e)) (endH A1 N tl (wBad e)) ∧ RL L0 A1 N tl cs .busy v' (wBad e) (bs ++ wBytes e) sl' ∧ sl' ≤ 1 := by
  have hA := h.new (evB (evF e))
  have hb := hA.turn .busy
  have hX : (setLp ⟨B.t.set B.next (evB (evF e)), B.next + 1⟩ N tl .busy).t.get B.next = some (evB (evF e)) := by
    show T.get (T.set _ _ _) _ = _
    rw [T.get_set_ne _ _ (by have := h.lts.1; omega)]; exact T.get_set_same _ _ _
  obtain ⟨A1, v', sl', c1, w1, s1, o1⟩ := lay75_ok hb.wr hsl hl hX hr
  rw [Bool.false_or] at w1
  have h1 := hb.step w1 o1
  exact ⟨A1, v', sl', round_ok hA c1 h1, h1, s1⟩
theorem suRound_ok (h : RL L0 B N tl (scL r c sv g0 g1 g2 g3 g4 ring ev) .ready v false [] 0) (hs : SlP 6 83 srcG L0 sv srcs) (he : SlP 9 86 evF L0 ev evs) (hn : srcs.length ≤ 1000) (hps : ps.length ≤ 1000) (hr : -1000 ≤ r ∧ r ≤ 1000) (hc : -1000 ≤ c ∧ c ≤ 1000) (hg : ∀ g ∈ [g0, g1, g2, g3, g4], 0 ≤ g ∧ g ≤ 255)
    (hstr : ∀ B : Heap, ∃ pv B', ACall Try.prog 68 [.int .i64 r, .int .i64 c, .int .i64 (srcs.length : Int)] B pv B' ∧ SlP 4 81 rectV B' pv ps ∧ B.next ≤ B'.next ∧ (∀ n, n < B.next → B'.t.get n = B.t.get n) ∧ ∀ m, nmP pv = some m → B.next ≤ m) :
    ∃ A1 v', ARound Try.prog N.l [.func 73 [] [.ptr N.S 0]] B (.bool (!(suBadG r c ring [g0, g1, g2, g3, g4] srcs ps || decide (40 < evs.length)))) (endH A1 N tl (suBadG r c ring [g0, g1, g2, g3, g4] srcs ps || decide (40 < evs.length))) ∧
      RL L0 A1 N tl (scL r c sv g0 g1 g2 g3 g4 ring ev) .busy v' (suBadG r c ring [g0, g1, g2, g3, g4] srcs ps || decide (40 < evs.length)) (suB r c ring [g0, g1, g2, g3, g4] srcs) 0 := by
  have hb := h.turn .busy
  obtain ⟨A1, v', c1, w1, o1⟩ := lay73_ok hb.wr (Nat.zero_le _) (by simp) hb.s hb.nes.2.2.2.2.2 hb.lts.2.2.2.2.2 (hs.keep hb.base.1 hb.base.2) (hb.ap fun m hm => hs.nm_lt hm) (he.keep hb.base.1 hb.base.2) hn hps hr hc hg hstr
  rw [Bool.false_or, List.nil_append] at w1
  have h1 := hb.step w1 o1
  exact ⟨A1, v', round_ok h c1 h1, h1⟩

theorem lay72_bad (h : RL L0 B N tl (scL r c sv g0 g1 g2 g3 g4 ring ev) .ready v false [] 0) (hs : SlP 6 83 srcG L0 sv srcs) (he : SlP 9 86 evF L0 ev evs) (hn : srcs.length ≤ 1000) (hps : ps.length ≤ 1000) (hr : -1000 ≤ r ∧ r ≤ 1000) (hc : -1000 ≤ c ∧ c ≤ 1000) (hg : ∀ g ∈ [g0, g1, g2, g3, g4], 0 ≤ g ∧ g ≤ 255)
    (hstr : ∀ B : Heap, ∃ pv B', ACall Try.prog 68 [.int .i64 r, .int .i64 c, .int .i64 (srcs.length : Int)] B pv B' ∧ SlP 4 81 rectV B' pv ps ∧ B.next ≤ B'.next ∧ (∀ n, n < B.next → B'.t.get n = B.t.get n) ∧ ∀ m, nmP pv = some m → B.next ≤ m)
    (hbad : (suBadG r c ring [g0, g1, g2, g3, g4] srcs ps || decide (40 < evs.length)) = true) :
    ∃ B', ACall Try.prog 72 [.yield N.l, .ptr N.S 0] B (.tuple []) B' ∧ RB L0 B' N tl := by
  obtain ⟨A1, v1, hR, h1⟩ := suRound_ok h hs he hn hps hr hc hg hstr
  rw [hbad] at hR
  refine ⟨_, ?_, h1.left⟩
  refine ACall.of_body_same Try.func72 rfl ?_
  refine ACode.seq (ACode.regS noT_ok names_ok mix (t' := ?_) (L' := ?_) [0, 1] (by rfl) ?_ ?_)
  rotate_left 2
  · iterate 2 (refine sq rfl rfl rfl (by simp [go_sem, X, Try.f72]; rfl) ?_)
    rfl
  refine ACode.seq ?_
  refine ACode.seq (ACode.regR noT_ok (oneR_ok hR) names_ok mix (t' := ?_) (L' := ?_) [0, 1, 2, 3] (by rfl) ?_ ?_)
  rotate_left 2
  · iterate 4 (refine sq rfl rfl rfl (by simp [go_sem, X, oneR_same, Try.f72]; rfl) ?_)
    rfl
  refine ACode.condT (by simp [tget_set, opd]) (ACode.ret ?_)
  exact ⟨.inr rfl, [], rfl, by simp [Try.f72, resVals], rfl⟩
theorem lay72_ok (h : RL L0 B N tl (scL r c sv g0 g1 g2 g3 g4 ring ev) .ready v false [] 0) (hs : SlP 6 83 srcG L0 sv srcs) (he : SlP 9 86 evF L0 ev evs) (hn : srcs.length ≤ 1000) (hps : ps.length ≤ 1000) (hr : -1000 ≤ r ∧ r ≤ 1000) (hc : -1000 ≤ c ∧ c ≤ 1000) (hg : ∀ g ∈ [g0, g1, g2, g3, g4], 0 ≤ g ∧ g ≤ 255)
    (hstr : ∀ B : Heap, ∃ pv B', ACall Try.prog 68 [.int .i64 r, .int .i64 c, .int .i64 (srcs.length : Int)] B pv B' ∧ SlP 4 81 rectV B' pv ps ∧ B.next ≤ B'.next ∧ (∀ n, n < B.next → B'.t.get n = B.t.get n) ∧ ∀ m, nmP pv = some m → B.next ≤ m)
    (hgood : (suBadG r c ring [g0, g1, g2, g3, g4] srcs ps || decide (40 < evs.length)) = false) (hev : ∀ e ∈ evs, EvR e) (j : Nat) (hj : j ≤ evs.length) (hgj : ∀ (i : Nat) (e : Evt), i < j → evs[i]? = some e → wBad e = false)
    (hfin : j = evs.length ∨ ∃ e, evs[j]? = some e ∧ wBad e = true) :
    ∃ B', ACall Try.prog 72 [.yield N.l, .ptr N.S 0] B (.tuple []) B' ∧ (j = evs.length → ∃ v' sl', RL L0 B' N tl (scL r c sv g0 g1 g2 g3 g4 ring ev) .ready v' false (suB r c ring [g0, g1, g2, g3, g4] srcs ++ evs.flatMap wBytes) sl') ∧ (j < evs.length → RB L0 B' N tl) := by
  obtain ⟨A1, v1, hR0, h1⟩ := suRound_ok h hs he hn hps hr hc hg hstr
  have h40 : evs.length ≤ 40 := by simp at hgood; omega
  rw [hgood] at hR0 h1
  have h2 := h1.turn .ready
  have hR0' : ARound Try.prog N.l [.func 73 [] [.ptr N.S 0]] B (.bool true) (setLp A1 N tl .ready) := hR0
  generalize hA2 : setLp A1 N tl .ready = A2 at *
  have hsu : (suB r c ring [g0, g1, g2, g3, g4] srcs).length ≤ 2000 := by simp [suB]; omega
  generalize hcs : scL r c sv g0 g1 g2 g3 g4 ring ev = cs at *
  generalize suB r c ring [g0, g1, g2, g3, g4] srcs = su at *
  have hbl := bytes_le evs hev
  have hlen2 : ∀ i, i ≤ evs.length → (su ++ (evs.take i).flatMap wBytes).length ≤ 1000000 := fun i hi => by
    have := hbl i
    rw [List.length_append]
    have : i * 1010 ≤ 40 * 1010 := Nat.mul_le_mul_right _ (by omega)
    omega
  obtain ⟨H, hH0, hI, hR⟩ := chain (α := Heap × V × Nat) j (fun i a => RL L0 a.1 N tl cs .ready a.2.1 false (su ++ (evs.take i).flatMap wBytes) a.2.2 ∧ a.2.2 ≤ 1)
    (fun i a a' => ∀ e, evs[i]? = some e → ARound Try.prog N.l [.func 75 [] [.ptr a.1.next 0]] ⟨a.1.t.set a.1.next (evB (evF e)), a.1.next + 1⟩ (.bool true) a'.1) (A2, v1, 0)
    ⟨by simpa using h2, Nat.zero_le _⟩ (by
      rintro i ⟨A, vi, si⟩ hi ⟨hw, hsi⟩
      have hxi : evs[i]? = some evs[i] := by simp
      obtain ⟨A', v', sl', hAr, hw', hs'⟩ := evRound_ok (e := evs[i]) hw hsi (hlen2 i (by omega)) (hev _ (List.getElem_mem _))
      rw [hgj i _ hi hxi] at hAr hw'
      refine ⟨(setLp A' N tl .ready, v', sl'), ?_, ?_, hs'⟩
      · intro e hee
        rw [hxi] at hee
        injection hee with hee
        subst hee
        exact hAr
      · have := hw'.turn .ready
        rw [List.take_add_one, hxi]
        simp only [Option.toList_some, List.flatMap_append, List.flatMap_cons, List.flatMap_nil, List.append_nil, ← List.append_assoc]
        exact this)
  obtain ⟨hwj, hsj⟩ := hI j (Nat.le_refl _)
  obtain ⟨Bf, hBf, hres⟩ : ∃ Bf, ((j = evs.length ∧ Bf = (H j).1) ∨ ∃ e, evs[j]? = some e ∧ ARound Try.prog N.l [.func 75 [] [.ptr (H j).1.next 0]] ⟨(H j).1.t.set (H j).1.next (evB (evF e)), (H j).1.next + 1⟩ (.bool false) Bf) ∧
      ((j = evs.length → ∃ v' sl', RL L0 Bf N tl cs .ready v' false (su ++ evs.flatMap wBytes) sl') ∧ (j < evs.length → RB L0 Bf N tl)) := by
    rcases hfin with rfl | ⟨e, hee, hbe⟩
    · rw [List.take_length] at hwj
      exact ⟨_, .inl ⟨rfl, rfl⟩, fun _ => ⟨_, _, hwj⟩, fun h => absurd h (Nat.lt_irrefl _)⟩
    · obtain ⟨A', v', sl', hAr, hw', hs'⟩ := evRound_ok (e := e) hwj hsj (hlen2 j hj) (hev _ (List.mem_of_getElem? hee))
      rw [hbe] at hAr hw'
      have hjl := (List.getElem?_eq_some_iff.1 hee).1
      exact ⟨_, .inr ⟨e, hee, hAr⟩, fun h => by omega, fun _ => hw'.left⟩
  refine ⟨Bf, ?_, hres⟩
  clear hres hwj hsj
  have hS2 := h2.s
  have hld : Heap.load Try.prog A2 55 N.S 9 = some ev := by
    rw [← hcs] at hS2
    unfold scB scL at hS2
    simp [Heap.load, Heap.elem, hS2, T.get_set, Ev.part, pa55, ps55]
  have hlen := he.len pt55
  refine ACall.of_body_same Try.func72 rfl ?_
  refine ACode.seq (ACode.regS noT_ok names_ok mix (t' := ?_) (L' := ?_) [0, 1] (by rfl) ?_ ?_)
  rotate_left 2
  · iterate 2 (refine sq rfl rfl rfl (by simp [go_sem, X, Try.f72]; rfl) ?_)
    rfl
  refine ACode.seq ?_
  refine ACode.seq (ACode.regR noT_ok (oneR_ok hR0') names_ok mix (t' := ?_) (L' := ?_) [0, 1, 2, 3] (by rfl) ?_ ?_)
  rotate_left 2
  · iterate 4 (refine sq rfl rfl rfl (by simp [go_sem, X, oneR_same, Try.f72]; rfl) ?_)
    rfl
  refine ACode.condF (by simp [tget_set, opd]) (ACode.skip ?_)
  show ACode _ _ (Code.seq (Code.region _ _ _) _) _ _ _ _
  refine ACode.seq (ACode.regS noT_ok names_ok mix (t' := ?_) (L' := ?_) [0, 1, 2, 3] (by rfl) ?_ ?_)
  rotate_left 2
  · iterate 4 (refine sq rfl rfl rfl (by simp [go_sem, xs, xe, xa, xi, xo, xb, xv, xc, xk, hld, hlen, Try.f72]; rfl) ?_)
    rfl
  refine ACode.block (ACode.loop (fun t d B' M => d = [] ∧ ∃ i, i ≤ j ∧ M = j - i ∧ B' = (H i).1 ∧ tget t 0 = .yield N.l ∧ tget t 12 = ev ∧ tget t 13 = .int .i64 (evs.length : Int) ∧ tget t 14 = .int .i64 (i : Int)) (N := j)
    ⟨rfl, 0, Nat.zero_le _, by omega, by rw [hH0], by simp [tget_set, argsT], by simp [tget_set], by simp [tget_set], by simp [tget_set]⟩ ?_)
  rintro t d B' M ⟨rfl, i, hi, rfl, rfl, t0, t12, t13, t14⟩
  refine ACode.seq (ACode.regS noT_ok names_ok mix (t' := ?_) (L' := ?_) [0] (by rfl) ?_ ?_)
  rotate_left 2
  · refine sq rfl rfl rfl (by simp [go_sem, X, t13, t14, Try.f72]; rfl) ?_
    rfl
  refine ACode.seq (ACode.cond (p := (i : Int) < (evs.length : Int)) (by simp [tget_set, opd]) (fun hil => ACode.skip ?_) (fun hge => ACode.exit ?_))
  rotate_left 1
  ·
    have hij : i = evs.length := by omega
    have hjl : j = evs.length := by omega
    have hB : Bf = (H i).1 := by
      rcases hBf with ⟨_, h⟩ | ⟨e, hee, _⟩
      · rw [h, hjl, hij]
      · have := (List.getElem?_eq_some_iff.1 hee).1; omega
    exact ⟨.inl rfl, [], by rw [hB]; rfl, by simp [Try.f72, resVals], rfl⟩
  have hil' : i < evs.length := by omega
  have hxi : evs[i]? = some evs[i] := by simp
  have hw1 : IntKind.i64.wrap ((i : Int) + 1) = ((i + 1 : Nat) : Int) := by rw [Go.IntWalk.i64_in _ (by omega)]; omega
  have hRi := (hI i hi).1
  obtain ⟨n1, off, _, hix, hle⟩ := (he.keep hRi.base.1 hRi.base.2).at' pt55 ps86 hxi
  refine ACode.seq (ACode.block ?_)
  refine ACode.seq (ACode.regS noT_ok names_ok mix (t' := ?_) (L' := ?_) [0, 1, 2, 3] (by rfl) ?_ ?_)
  rotate_left 2
  · iterate 4 (refine sq rfl rfl rfl (by simp [go_sem, xs, xe, xi, xo, xb, xq, xv, xc, xk, t12, t14, hix, hle, Try.f72]; rfl) ?_)
    rfl
  change ACode _ _ _ _ _ ⟨(H i).1.t.set (H i).1.next (evB (evF evs[i])), (H i).1.next + 1⟩ _
  by_cases hij : i < j
  ·
    have hAr := hR i hij _ hxi
    refine ACode.seq (ACode.regR noT_ok (oneR_ok hAr) names_ok mix (t' := ?_) (L' := ?_) [0, 1, 2, 3] (by rfl) ?_ ?_)
    rotate_left 2
    · iterate 4 (refine sq rfl rfl rfl (by simp [go_sem, X, t0, oneR_same, Try.f72]; rfl) ?_)
      rfl
    refine ACode.condF (by simp [tget_set, opd]) (ACode.skip ?_)
    show ACode _ _ (Code.region _ _ _) _ _ _ _
    refine ACode.regS noT_ok names_ok mix (t' := ?_) (L' := ?_) [0, 1] (by rfl) ?_ ?_
    rotate_left 2
    · iterate 2 (refine sq rfl rfl rfl (by simp [go_sem, X, t14, hw1, Try.f72]; rfl) ?_)
      rfl
    exact ⟨j - (i + 1), by omega, rfl, i + 1, by omega, rfl, rfl, by simp [tget_set, t0], by simp [tget_set, t12], by simp [tget_set, t13], by simp [tget_set]⟩
  ·
    have hij' : i = j := by omega
    subst hij'
    rcases hBf with ⟨h, _⟩ | ⟨e, hee, hAr⟩
    · omega
    rw [hxi] at hee
    injection hee with hee
    subst hee
    refine ACode.seq (ACode.regR noT_ok (oneR_ok hAr) names_ok mix (t' := ?_) (L' := ?_) [0, 1, 2, 3] (by rfl) ?_ ?_)
    rotate_left 2
    · iterate 4 (refine sq rfl rfl rfl (by simp [go_sem, X, t0, oneR_same, Try.f72]; rfl) ?_)
      rfl
    refine ACode.condT (by simp [tget_set, opd]) (ACode.ret ?_)
    exact ⟨.inr rfl, [], rfl, by simp [Try.f72, resVals], rfl⟩
end
end Go.Proofs.Ytpfmoolpeecobaa
namespace Go.Proofs.Ytpfmoolpeecobaa
open Go Go.Proofs Go.Proofs.Ytpfmoolpeecobaa.Ev
set_option linter.unusedVariables false
set_option linter.unusedSimpArgs false
set_option maxRecDepth 100000
set_option maxHeartbeats 4000000

/-- Put's blocks, ahead of its loop -/
noncomputable def putA (L : Heap) (cs : List V) : Heap :=
  ⟨(((((L.t.set L.next (scB cs)).set (L.next + 1) (oneB .nils)).set (L.next + 2) (oneB (.int .i64 0))).set (L.next + 3) (wB .nils false)).set (L.next + 4) (oneB (.ptr (L.next + 3) 0))).set (L.next + 5) (scB cs), L.next + 6⟩
def putN (L : Heap) : Nm := ⟨L.next + 3, L.next + 7, L.next + 1, L.next + 2, L.next + 4, L.next + 6, L.next + 5⟩
theorem put_pre (L : Heap) (cs : List V) (hcs : cs.length = 10) : ∃ t : T V, (∀ K, ACode Try.prog ⟨none, 22⟩ (cSnd (cFst (cSnd (cSnd b33)))) t [] (putA L cs) (thenK (fun t d A => ACode Try.prog ⟨none, 22⟩ (cSnd (cSnd (cSnd b33))) t d A K) K) → ACode Try.prog ⟨none, 22⟩ b33 (argsT [.agg cs] 0) [] L K) ∧
    tget t 2 = .ptr (L.next + 1) 0 ∧ tget t 3 = .ptr (L.next + 2) 0 ∧ tget t 4 = .ptr (L.next + 4) 0 ∧ tget t 9 = .func 72 [] [.ptr (L.next + 5) 0] := by
  have hb : scB cs = .cells (T.set .leaf 0 cs) 1 cs.length false false := by rw [hcs]; rfl
  have htk : takeN 10 cs = some cs := by rw [← hcs]; exact takeN_all cs
  obtain ⟨A4, hA4⟩ : ∃ A : Heap, A = ⟨((((L.t.set L.next (scB cs)).set (L.next + 1) (oneB .nils)).set (L.next + 2) (oneB (.int .i64 0))).set (L.next + 3) (wB .nils false)).set (L.next + 4) (oneB (.ptr (L.next + 3) 0)), L.next + 5⟩ := ⟨_, rfl⟩
  have c50 := laying_ok A4 cs hcs
  have hld : Heap.load Try.prog A4 57 L.next 0 = some (.agg cs) := by
    have : A4.t.get L.next = some (scB cs) := by
      rw [hA4]
      show T.get (T.set _ _ _) _ = _
      repeat rw [T.get_set_ne _ _ (by omega)]
      exact T.get_set_same _ _ _
    unfold scB at this
    simp [Heap.load, Heap.elem, this, T.get_set, Ev.part, pa57, ps57, htk]
  have hn4 : A4.next = L.next + 5 := by rw [hA4]
  have hfin : putA L cs = ⟨A4.t.set A4.next (scB cs), A4.next + 1⟩ := by rw [hA4]; rfl
  rw [hfin]
  apply Exists.intro
  refine ⟨fun K hK => ?_, ?_⟩
  · show ACode _ _ (Code.seq (Code.region _ _ _) (Code.seq (Code.region _ _ _) (Code.seq (Code.seq (Code.region _ _ _) _) _))) _ _ _ _
    refine ACode.seq (ACode.regS noT_ok names_ok mix (t' := ?_) (L' := ?_) [0, 1, 2] (by rfl) ?_ ?_)
    rotate_left 2
    · iterate 3 (refine sq rfl rfl rfl (by simp [go_sem, X, Try.f33]; rfl) ?_)
      rfl
    refine ACode.seq (ACode.regS noT_ok names_ok mix (t' := ?_) (L' := ?_) [0, 1, 2, 3] (by rfl) ?_ ?_)
    rotate_left 2
    · iterate 4 (refine sq rfl rfl rfl (by simp [go_sem, X, Try.f33]; rfl) ?_)
      rfl
    refine ACode.seq ?_
    change ACode _ _ _ _ _ ⟨((((L.t.set L.next (.cells (T.set .leaf 0 cs) 1 cs.length false false)).set (L.next + 1) (oneB .nils)).set (L.next + 2) (oneB (.int .i64 0))).set (L.next + 3) (wB .nils false)).set (L.next + 4) (oneB (.ptr (L.next + 3) 0)), L.next + 5⟩ _
    rw [← hb, ← hA4]
    refine ACode.seq (ACode.regS (oneT_okP c50) names_ok mix (t' := ?_) (L' := ?_) [0, 1] (by rfl) ?_ ?_)
    rotate_left 2
    · iterate 2 (refine sq rfl rfl rfl (by simp [go_sem, xs, xe, xa, xi, xo, xb, xq, xv, xc, xk, hld, oneT_sameP, Try.f33]; rfl) ?_)
      rfl
    exact hK
  · simp [tget_set, argsT, hn4]
theorem put_RL (L : Heap) (cs : List V) {t : T V} (t2 : tget t 2 = .ptr (L.next + 1) 0) (t3 : tget t 3 = .ptr (L.next + 2) 0) (t4 : tget t 4 = .ptr (L.next + 4) 0) :
    RL L (rangeH (putA L cs) 22 t [10] as33 bd33) (putN L) t cs .ready .nils false [] 0 := by
  have g : ∀ n, (rangeH (putA L cs) 22 t [10] as33 bd33).t.get n = if n = L.next + 6 + 1 then some (.loop .ready none 22 t [10] as33 bd33 (L.next + 6)) else if n = L.next + 6 then some (.dfr true) else if n = L.next + 5 then some (scB cs) else if n = L.next + 4 then some (oneB (.ptr (L.next + 3) 0)) else if n = L.next + 3 then some (wB .nils false) else if n = L.next + 2 then some (oneB (.int .i64 0)) else if n = L.next + 1 then some (oneB .nils) else if n = L.next then some (scB cs) else L.t.get n := by
    intro n
    simp only [rangeH, putA, T.get_set]
  have hnx : (rangeH (putA L cs) 22 t [10] as33 bd33).next = L.next + 8 := rfl
  generalize rangeH (putA L cs) 22 t [10] as33 bd33 = B at *
  refine ⟨⟨?_, by simp only [putN]; omega, .inl ⟨rfl, rfl, rfl⟩⟩, ?_, ?_, ?_, ?_, ?_, ?_, ?_, ?_, ?_, ?_, ⟨t2, t3, t4⟩, ⟨by omega, fun n hn => ?_⟩, fun m hm => by cases hm⟩
  · rw [g]; simp [putN]
  · rw [g]; simp [putN, lpB]
  · rw [g]; simp [putN]
  · rw [g]; simp [putN]
  · rw [g]; simp [putN]
  · rw [g]; simp [putN]
  · rw [g]; simp [putN]
  · simp only [putN]; omega
  · simp only [putN]; omega
  · simp only [putN]; omega
  · simp only [putN]; omega
  · rw [g]
    repeat rw [if_neg (by omega)]
section
variable {L : Heap} {sv ev : V} {r c ring g0 g1 g2 g3 g4 : Int} {srcs : List SrcG} {evs : List Evt} {ps : List (Int × Int × Int × Int)}
theorem put_ok (hs : SlP 6 83 srcG L sv srcs) (he : SlP 9 86 evF L ev evs) (hn : srcs.length ≤ 1000) (hps : ps.length ≤ 1000) (hr : -1000 ≤ r ∧ r ≤ 1000) (hc : -1000 ≤ c ∧ c ≤ 1000) (hg : ∀ g ∈ [g0, g1, g2, g3, g4], 0 ≤ g ∧ g ≤ 255)
    (hstr : ∀ B : Heap, ∃ pv B', ACall Try.prog 68 [.int .i64 r, .int .i64 c, .int .i64 (srcs.length : Int)] B pv B' ∧ SlP 4 81 rectV B' pv ps ∧ B.next ≤ B'.next ∧ (∀ n, n < B.next → B'.t.get n = B.t.get n) ∧ ∀ m, nmP pv = some m → B.next ≤ m)
    (hgood : (suBadG r c ring [g0, g1, g2, g3, g4] srcs ps || decide (40 < evs.length)) = false) (hev : ∀ e ∈ evs, EvR e) (hgj : ∀ e ∈ evs, wBad e = false) :
    ∃ L' pv sl, ACall Try.prog 33 [.agg (scL r c sv g0 g1 g2 g3 g4 ring ev)] L (.tuple [pv, .int .i64 0]) L' ∧ RowS L' pv (suB r c ring [g0, g1, g2, g3, g4] srcs ++ evs.flatMap wBytes) sl ∧ L.next ≤ L'.next ∧ ∀ n, n < L.next → L'.t.get n = L.t.get n := by
  obtain ⟨t, hpre, t2, t3, t4, t9⟩ := put_pre L (scL r c sv g0 g1 g2 g3 g4 ring ev) rfl
  have hRL := put_RL L (scL r c sv g0 g1 g2 g3 g4 ring ev) t2 t3 t4
  obtain ⟨Bf, c72, hok, _⟩ := lay72_ok hRL hs he hn hps hr hc hg hstr hgood hev evs.length (Nat.le_refl _) (fun i e _ h => hgj e (List.mem_of_getElem? h)) (.inl rfl)
  obtain ⟨pv, sl, hRf⟩ := hok rfl
  have hlp := hRf.lp
  have hRe := hRf.turn .exhausted
  have hm := hRe.m
  have hcW := hRe.wr.cell
  have hc2 := hRe.c2
  have hc3 := hRe.c3
  have hc4 := hRe.c4
  have hbase := hRe.base
  have hrow := hRe.wr.row
  have hcs := hrow.cells
  have hse : setLp Bf (putN L) t .exhausted = ⟨Bf.t.set (L.next + 6 + 1) (.loop .exhausted none 22 t [10] as33 bd33 (L.next + 6)), Bf.next⟩ := rfl
  generalize setLp Bf (putN L) t .exhausted = Be at *
  generalize suB r c ring [g0, g1, g2, g3, g4] srcs ++ evs.flatMap wBytes = by_ at *
  have n2 : nmP pv ≠ some (L.next + 1) := hrow.ne_of hc2 (fun c n => by simp [oneB])
  have n3 : nmP pv ≠ some (L.next + 2) := hrow.ne_of hc3 (fun c n => by simp [oneB])
  have n6 : nmP pv ≠ some (L.next + 6) := hrow.ne_of hm (fun c n => by simp)
  refine ⟨⟨((Be.t.set (L.next + 1) (oneB pv)).set (L.next + 2) (oneB (.int .i64 0))).set (L.next + 6) (.dfr false), Be.next⟩, pv, sl, ?_, hrow.still (Nat.le_refl _) ?_, hbase.1, ?_⟩
  rotate_left 1
  · intro m hmm
    show T.get (T.set _ _ _) _ = _
    rw [T.get_set_ne _ _ (by rintro rfl; exact n6 hmm), T.get_set_ne _ _ (by rintro rfl; exact n3 hmm), T.get_set_ne _ _ (by rintro rfl; exact n2 hmm)]
  · intro n hn
    show T.get (T.set _ _ _) _ = _
    rw [T.get_set_ne _ _ (by omega), T.get_set_ne _ _ (by omega), T.get_set_ne _ _ (by omega)]
    exact hbase.2 n hn
  refine ACall.of_body_same Try.func33 rfl (hpre _ ?_)
  show ACode _ _ (Code.block 0 (Code.rangeFunc (.tmp 9) #[10] as33 bd33)) _ _ _ _
  refine ACode.block ?_
  refine ACode.rangeFunc names_ok (g := 72) (first := []) (cap := [.ptr (L.next + 5) 0]) (v := .tuple []) (L1 := Bf) (by simp [opd, t9]) c72 hlp (by simp) (fun _ => ?_) (fun c h => by cases h)
  show ACode _ _ (Code.seq (Code.region _ _ _) _) _ _ _ _
  rw [show (⟨Bf.t.set ((putA L (scL r c sv g0 g1 g2 g3 g4 ring ev)).next + 1) (.loop .exhausted none 22 t [10] as33 bd33 (putN L).mk0), Bf.next⟩ : Heap) = Be from hse.symm]
  simp only [putN] at hcW hc2 hc3 hc4
  unfold oneB at hc2 hc3 hc4
  unfold wB at hcW
  refine ACode.seq (ACode.regS noT_ok names_ok mix (t' := ?_) (L' := ?_) [0, 1, 2, 3, 4, 5] (by rfl) ?_ ?_)
  rotate_left 2
  · iterate 6 (refine sq rfl rfl rfl (by simp [go_sem, xl, xs, xe, xa, xi, xo, xb, xq, xv, cellsI, scal1, t2, t3, t4, hc2, hc3, hc4, hcW, hcs, Try.f33]; rfl) ?_)
    rfl
  have hm2 : ((Be.t.set (L.next + 1) (oneB pv)).set (L.next + 2) (oneB (.int .i64 0))).get (L.next + 6) = some (.dfr true) := by
    rw [T.get_set_ne _ _ (by omega), T.get_set_ne _ _ (by omega)]; exact hm
  have hl2 : Heap.load Try.prog ⟨((Be.t.set (L.next + 1) (oneB pv)).set (L.next + 2) (oneB (.int .i64 0))).set (L.next + 6) (.dfr false), Be.next⟩ 38 (L.next + 1) 0 = some pv := by
    simp [Heap.load, Heap.elem, T.get_set, oneB, Ev.part, pa38, ps38]
  have hl3 : Heap.load Try.prog ⟨((Be.t.set (L.next + 1) (oneB pv)).set (L.next + 2) (oneB (.int .i64 0))).set (L.next + 6) (.dfr false), Be.next⟩ 67 (L.next + 2) 0 = some (.int .i64 0) := by
    simp [Heap.load, Heap.elem, T.get_set, oneB, Ev.part, pa67, ps67]
  refine ACode.ret ⟨.inr rfl, [pv, .int .i64 0], ?_, ?_, rfl⟩
  · show closeMarks ⟨(Be.t.set (L.next + 1) (oneB pv)).set (L.next + 2) (oneB (.int .i64 0)), Be.next⟩ [L.next + 6] = _
    simp only [closeMarks, hm2, Option.bind_some]
  · simp [Try.f33, resVals, tget_set, t2, t3, V.asPtr, hl2, hl3]
theorem put_bad {j : Nat} (hs : SlP 6 83 srcG L sv srcs) (he : SlP 9 86 evF L ev evs) (hn : srcs.length ≤ 1000) (hps : ps.length ≤ 1000) (hr : -1000 ≤ r ∧ r ≤ 1000) (hc : -1000 ≤ c ∧ c ≤ 1000) (hg : ∀ g ∈ [g0, g1, g2, g3, g4], 0 ≤ g ∧ g ≤ 255)
    (hstr : ∀ B : Heap, ∃ pv B', ACall Try.prog 68 [.int .i64 r, .int .i64 c, .int .i64 (srcs.length : Int)] B pv B' ∧ SlP 4 81 rectV B' pv ps ∧ B.next ≤ B'.next ∧ (∀ n, n < B.next → B'.t.get n = B.t.get n) ∧ ∀ m, nmP pv = some m → B.next ≤ m)
    (hev : ∀ e ∈ evs, EvR e) (hbad : (suBadG r c ring [g0, g1, g2, g3, g4] srcs ps || decide (40 < evs.length)) = true ∨ j < evs.length ∧ (∀ (i : Nat) (e : Evt), i < j → evs[i]? = some e → wBad e = false) ∧ ∃ e, evs[j]? = some e ∧ wBad e = true) :
    ∃ L', ACall Try.prog 33 [.agg (scL r c sv g0 g1 g2 g3 g4 ring ev)] L (.tuple [.nils, .int .i64 2]) L' ∧ L.next ≤ L'.next ∧ ∀ n, n < L.next → L'.t.get n = L.t.get n := by
  obtain ⟨t, hpre, t2, t3, t4, t9⟩ := put_pre L (scL r c sv g0 g1 g2 g3 g4 ring ev) rfl
  have hRL := put_RL L (scL r c sv g0 g1 g2 g3 g4 ring ev) t2 t3 t4
  obtain ⟨Bf, c72, hRf⟩ : ∃ B', ACall Try.prog 72 [.yield (putN L).l, .ptr (putN L).S 0] (rangeH (putA L (scL r c sv g0 g1 g2 g3 g4 ring ev)) 22 t [10] as33 bd33) (.tuple []) B' ∧ RB L B' (putN L) t := by
    by_cases hb0 : (suBadG r c ring [g0, g1, g2, g3, g4] srcs ps || decide (40 < evs.length)) = true
    · exact lay72_bad hRL hs he hn hps hr hc hg hstr hb0
    · rcases hbad with h | ⟨hj, hgj, hfin⟩
      · exact absurd h hb0
      · obtain ⟨B', h1, _, h2⟩ := lay72_ok hRL hs he hn hps hr hc hg hstr (by simpa using hb0) hev j (by omega) hgj (.inr hfin)
        exact ⟨B', h1, h2 hj⟩
  have hlp := hRf.lp
  obtain ⟨d1, d2, d4, d6⟩ := hRf.dis
  have hge : ∀ n, n ≠ (putN L).l → (⟨Bf.t.set (L.next + 6 + 1) (.loop .exhausted (some .ret) 22 t [10] as33 bd33 (L.next + 6)), Bf.next⟩ : Heap).t.get n = Bf.t.get n := fun n hn => T.get_set_ne _ _ hn
  have hm := (hge _ d4).trans hRf.m
  have hc2 := (hge _ d1).trans hRf.c2
  have hc3 := (hge _ d2).trans hRf.c3
  have hb2 : ∀ n, n < L.next → (⟨Bf.t.set (L.next + 6 + 1) (.loop .exhausted (some .ret) 22 t [10] as33 bd33 (L.next + 6)), Bf.next⟩ : Heap).t.get n = L.t.get n := fun n hn => (hge n (by simp only [putN]; omega)).trans (hRf.base.2 n hn)
  have hb1 : L.next ≤ (⟨Bf.t.set (L.next + 6 + 1) (.loop .exhausted (some .ret) 22 t [10] as33 bd33 (L.next + 6)), Bf.next⟩ : Heap).next := hRf.base.1
  generalize hBe : (⟨Bf.t.set (L.next + 6 + 1) (.loop .exhausted (some .ret) 22 t [10] as33 bd33 (L.next + 6)), Bf.next⟩ : Heap) = Be at *
  simp only [putN] at hm hc2 hc3
  refine ⟨⟨Be.t.set (L.next + 6) (.dfr false), Be.next⟩, ?_, hb1, fun n hn => by show T.get (T.set _ _ _) _ = _; rw [T.get_set_ne _ _ (by omega)]; exact hb2 n hn⟩
  refine ACall.of_body_same Try.func33 rfl (hpre _ ?_)
  show ACode _ _ (Code.block 0 (Code.rangeFunc (.tmp 9) #[10] as33 bd33)) _ _ _ _
  refine ACode.block ?_
  refine ACode.rangeFunc names_ok (g := 72) (first := []) (cap := [.ptr (L.next + 5) 0]) (v := .tuple []) (L1 := Bf) (by simp [opd, t9]) c72 hlp (by simp) (fun h => by cases h) (fun c h => ⟨by injection h with h; exact h.symm, ?_⟩)
  have hl2 : Heap.load Try.prog ⟨Be.t.set (L.next + 6) (.dfr false), Be.next⟩ 38 (L.next + 1) 0 = some .nils := by
    simp [Heap.load, Heap.elem, T.get_set, hc2, oneB, Ev.part, pa38, ps38]
  have hl3 : Heap.load Try.prog ⟨Be.t.set (L.next + 6) (.dfr false), Be.next⟩ 67 (L.next + 2) 0 = some (.int .i64 2) := by
    simp [Heap.load, Heap.elem, T.get_set, hc3, oneB, Ev.part, pa67, ps67]
  refine ⟨.inr rfl, [.nils, .int .i64 2], ?_, ?_, rfl⟩
  · show closeMarks ⟨Bf.t.set (L.next + 6 + 1) (.loop .exhausted (some .ret) 22 t [10] as33 bd33 (L.next + 6)), Bf.next⟩ [L.next + 6] = _
    rw [hBe]
    simp only [closeMarks, hm, Option.bind_some]
  · simp [Try.f33, resVals, tget_set, t2, t3, V.asPtr, hl2, hl3]
end
end Go.Proofs.Ytpfmoolpeecobaa
