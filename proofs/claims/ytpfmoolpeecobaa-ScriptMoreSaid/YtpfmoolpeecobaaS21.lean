/- A row of whole numbers that was given. -/
import Derived.Test.YtpfmoolpeecobaaE15
import Derived.Test.YtpfmoolpeecobaaBase
namespace Go.Proofs.Ytpfmoolpeecobaa
open Go Go.Proofs Go.Proofs.Ytpfmoolpeecobaa.Ev
set_option linter.unusedVariables false
set_option linter.unusedSimpArgs false

/-- the cells of a row of whole numbers -/
noncomputable def intRow : IntKind → List Int → Nat → T (List V)
  | _, [], _ => .leaf
  | k, x :: l, i => (intRow k l (i + 1)).set i [.int k x]
theorem intRow_get (k : IntKind) (l : List Int) : ∀ (i e : Nat), (intRow k l i).get e = if i ≤ e then (l[e - i]?).map (fun x => [V.int k x]) else none := by
  induction l with
  | nil => intro i e; simp [intRow, T.get_leaf]
  | cons x l ih =>
    intro i e
    rw [intRow, T.get_set]
    by_cases h : e = i
    · subst h; simp
    · rw [if_neg h, ih]
      by_cases h2 : i + 1 ≤ e
      · rw [if_pos h2, if_pos (by omega), show e - i = (e - (i + 1)) + 1 by omega, List.getElem?_cons_succ]
      · rw [if_neg h2, if_neg (by omega)]
/-- a heap of one row that was given -/
noncomputable def givenH (k : IntKind) (l : List Int) : Heap := ⟨T.set .leaf 0 (.cells (intRow k l 0) l.length 1 false true), 1⟩
theorem given_HR (k : IntKind) (W : World) (x : Addr) (cap : Nat) (zs : List Int) (hs : x.spot = none) (hb : ∃ xs el fr, W.heap[x.block]? = some (.cells xs el fr))
    (hcell : ∀ i, i < zs.length → W.cell? (x.add i) = some (.int k (zs.getD i 0))) :
    HR W (fun n => if n = 0 then some ⟨x.block, x.off, cap⟩ else none) (givenH k zs) W := by
  obtain ⟨xs, el, fr, hb⟩ := hb
  have hlt : x.block < W.heap.size := by
    rcases Nat.lt_or_ge x.block W.heap.size with h | h
    · exact h
    · rw [Array.getElem?_eq_none h] at hb; cases hb
  have hblk : ∀ n b, (if n = 0 then some (⟨x.block, x.off, cap⟩ : KB) else none).isSome → (givenH k zs).t.get n = some b → n = 0 ∧ b = .cells (intRow k zs 0) zs.length 1 false true := by
    intro n b hn hg
    by_cases h : n = 0
    · subst h
      rw [givenH, T.get_set_same] at hg
      injection hg with hg
      exact ⟨rfl, hg.symm⟩
    · simp [h] at hn
  refine ⟨Go.RowKit.Below.refl _ _, ?_, ?_, ?_, ?_, ?_, ?_⟩
  · intro n kb h
    by_cases hn : n = 0
    · subst hn; simp at h; subst h; exact ⟨by simp [givenH], hlt⟩
    · simp [hn] at h
  · intro n hn
    show T.get _ n = none
    simp only [givenH] at hn ⊢
    rw [T.get_set_ne _ _ (by omega), T.get_leaf]
  · intro n kb b h hg hr
    obtain ⟨_, rfl⟩ := hblk n b (by rw [h]; rfl) hg
    cases hr
  · intro n kb b h hg hr
    by_cases hn : n = 0
    · subst hn; simp at h; subst h; exact hlt
    · simp [hn] at h
  · intro n m kb kb' b b' h h' hg hg' hr
    obtain ⟨_, rfl⟩ := hblk n b (by rw [h]; rfl) hg
    cases hr
  · intro n kb b h hg
    obtain ⟨rfl, rfl⟩ := hblk n b (by rw [h]; rfl) hg
    simp at h
    subst h
    refine ⟨_, hb, xs, el, fr, rfl, fun hh => (by cases hh), ?_, fun hh => (by cases hh)⟩
    intro e l he
    rw [intRow_get] at he
    simp only [Nat.zero_le, if_true, Nat.sub_zero, Option.map_eq_some_iff] at he
    obtain ⟨y, hy, rfl⟩ := he
    have hlt2 := (List.getElem?_eq_some_iff.1 hy).1
    refine ⟨hlt2, rfl, ?_⟩
    intro j v hj
    cases j with
    | succ j => simp at hj
    | zero =>
      simp at hj
      subst hj
      have hc := hcell e hlt2
      have hd : zs.getD e 0 = y := by simp [List.getD, hy]
      rw [hd] at hc
      refine ⟨.int k y, ?_, by simp [VR]⟩
      have ha : (x.add e).block = x.block ∧ (x.add e).off = x.off + e ∧ (x.add e).spot = none := by
        unfold Addr.add
        split
        · rename_i h0; subst h0; exact ⟨rfl, rfl, hs⟩
        · exact ⟨rfl, rfl, rfl⟩
      unfold World.cell? at hc
      rw [ha.1, hb] at hc
      simp only [ha.2.2, Option.isSome_none, ha.2.1] at hc
      simpa using hc
theorem given_VR {κ : KM} {x : Addr} {len cap : Nat} (hs : x.spot = none) (hk : κ 0 = some ⟨x.block, x.off, cap⟩) (hl : len ≤ cap) : VR κ (.slice 0 0 len cap false) (.slice (some x) len cap) := by
  simp only [VR]
  refine ⟨_, x.off, cap, hk, ?_, hl, by simp, by simp⟩
  cases x
  simp_all
end Go.Proofs.Ytpfmoolpeecobaa
