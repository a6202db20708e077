/- A row of whole numbers that was given. - -/
import Derived.Test.YtpfmoolpeecobaaX20
import Derived.Test.YtpfmoolpeecobaaXB
import Derived.Test.YtpfmoolpeecobaaV7
namespace Go.Proofs.Ytpfmoolpeecobaa
open Go Go.Proofs Go.Proofs.Ytpfmoolpeecobaa.Ev
set_option linter.unusedVariables false
set_option linter.unusedSimpArgs false

/-- the cells of a row of whole numbers -/
noncomputable def intRow : IntKind → List Int → Nat → T (List V)
  | _, [], _ => .leaf
  | k, x :: l, i => (intRow k l (i + 1)).set i [.int k x]
theorem intRow_get (k : IntKind) (l : List Int) : ∀ (i e : Nat), (intRow k l i).get e = if i ≤ e then (l[e - i]?).map (fun x => [V.int k x]) else none := by
  induction l with
  | nil => intro i e; simp [intRow, T.get_leaf]
  | cons x l ih =>
    intro i e
    rw [intRow, T.get_set]
    by_cases h : e = i
    · subst h; simp
    · rw [if_neg h, ih]
      by_cases h2 : i + 1 ≤ e
      · rw [if_pos h2, if_pos (by omega), show e - i = (e - (i + 1)) + 1 by omega, List.getElem?_cons_succ]
      · rw [if_neg h2, if_neg (by omega)]
/-- a heap of one row that was given -/
noncomputable def givenH (k : IntKind) (l : List Int) : Heap := ⟨T.set .leaf 0 (.cells (intRow k l 0) l.length 1 false true), 1⟩
theorem given_HR (k : IntKind) (W : World) (x : Addr) (cap : Nat) (zs : List Int) (hs : x.spot = none) (hb : ∃ xs el fr, W.heap[x.block]? = some (.cells xs el fr))
    (hcell : ∀ i, i < zs.length → W.cell? (x.add i) = some (.int k (zs.getD i 0))) :
    HR W (fun n => if n = 0 then some ⟨x.block, x.off, cap⟩ else none) (givenH k zs) W := by
  obtain ⟨xs, el, fr, hb⟩ := hb
  have hlt : x.block < W.heap.size := by
    rcases Nat.lt_or_ge x.block W.heap.size with h | h
    · exact h
    · rw [Array.getElem?_eq_none h] at hb; cases hb
  have hblk : ∀ n b, (if n = 0 then some (⟨x.block, x.off, cap⟩ : KB) else none).isSome → (givenH k zs).t.get n = some b → n = 0 ∧ b = .cells (intRow k zs 0) zs.length 1 false true := by
    intro n b hn hg
    by_cases h : n = 0
    · subst h
      rw [givenH, T.get_set_same] at hg
      injection hg with hg
      exact ⟨rfl, hg.symm⟩
    · simp [h] at hn
  refine ⟨Go.RowKit.Below.refl _ _, ?_, ?_, ?_, ?_, ?_, ?_⟩
  · intro n kb h
    by_cases hn : n = 0
    · subst hn; simp at h; subst h; exact ⟨by simp [givenH], hlt⟩
    · simp [hn] at h
  · intro n hn
    show T.get _ n = none
    simp only [givenH] at hn ⊢
    rw [T.get_set_ne _ _ (by omega), T.get_leaf]
  · intro n kb b h hg hr
    obtain ⟨_, rfl⟩ := hblk n b (by rw [h]; rfl) hg
    cases hr
  · intro n kb b h hg hr
    by_cases hn : n = 0
    · subst hn; simp at h; subst h; exact hlt
    · simp [hn] at h
  · intro n m kb kb' b b' h h' hg hg' hr
    obtain ⟨_, rfl⟩ := hblk n b (by rw [h]; rfl) hg
    cases hr
  · intro n kb b h hg
    obtain ⟨rfl, rfl⟩ := hblk n b (by rw [h]; rfl) hg
    simp at h
    subst h
    refine ⟨_, hb, xs, el, fr, rfl, fun hh => (by cases hh), ?_, fun hh => (by cases hh)⟩
    intro e l he
    rw [intRow_get] at he
    simp only [Nat.zero_le, if_true, Nat.sub_zero, Option.map_eq_some_iff] at he
    obtain ⟨y, hy, rfl⟩ := he
    have hlt2 := (List.getElem?_eq_some_iff.1 hy).1
    refine ⟨hlt2, rfl, ?_⟩
    intro j v hj
    cases j with
    | succ j => simp at hj
    | zero =>
      simp at hj
      subst hj
      have hc := hcell e hlt2
      have hd : zs.getD e 0 = y := by simp [List.getD, hy]
      rw [hd] at hc
      refine ⟨.int k y, ?_, by simp [VR]⟩
      have ha : (x.add e).block = x.block ∧ (x.add e).off = x.off + e ∧ (x.add e).spot = none := by
        unfold Addr.add
        split
        · rename_i h0; subst h0; exact ⟨rfl, rfl, hs⟩
        · exact ⟨rfl, rfl, rfl⟩
      unfold World.cell? at hc
      rw [ha.1, hb] at hc
      simp only [ha.2.2, Option.isSome_none, ha.2.1] at hc
      simpa using hc
theorem given_VR {κ : KM} {x : Addr} {len cap : Nat} (hs : x.spot = none) (hk : κ 0 = some ⟨x.block, x.off, cap⟩) (hl : len ≤ cap) : VR κ (.slice 0 0 len cap false) (.slice (some x) len cap) := by
  simp only [VR]
  refine ⟨_, x.off, cap, hk, ?_, hl, by simp, by simp⟩
  cases x
  simp_all
end Go.Proofs.Ytpfmoolpeecobaa
namespace Go.Proofs.Ytpfmoolpeecobaa
open Go Go.Proofs Go.Proofs.Ytpfmoolpeecobaa.Ev
set_option linter.unusedVariables false
set_option linter.unusedSimpArgs false

/-- a row that was given: where it lies, what room it has, what is in it -/
def IsRowP (k : IntKind) (w : World) (a : Option Addr) (len cap : Nat) (zs : List Int) : Prop :=
  (a = none ∧ len = 0 ∧ cap = 0 ∧ zs = []) ∨
  ∃ x, a = some x ∧ len ≤ cap ∧ cap ≤ maxLen ∧ zs.length = cap ∧ (∀ i, i < zs.length → w.cell? (x.add i) = some (.int k (zs.getD i 0))) ∧ (∀ n ∈ zs, (Lit.int k n).wf = true) ∧
    x.spot = none ∧ ∃ xs el fr, w.heap[x.block]? = some (.cells xs el fr)
noncomputable def gBlk (k : IntKind) (zs : List Int) : Blk := .cells (intRow k zs 0) zs.length 1 false true
noncomputable def gT (o0 o1 : Option Blk) : T Blk :=
  match o1 with
  | some b1 => T.set (match o0 with | some b0 => T.set .leaf 0 b0 | none => .leaf) 1 b1
  | none => match o0 with | some b0 => T.set .leaf 0 b0 | none => .leaf
theorem gT_get (o0 o1 : Option Blk) (n : Nat) : (gT o0 o1).get n = if n = 0 then o0 else if n = 1 then o1 else none := by
  unfold gT
  cases o0 <;> cases o1 <;> simp only [T.get_set, T.get_leaf] <;> by_cases h0 : n = 0 <;> by_cases h1 : n = 1 <;> simp_all
def gK (k0 k1 : Option KB) : KM := fun n => if n = 0 then k0 else if n = 1 then k1 else none
/-- what is given, as one row: its name's block, the block -/
def GOk (k : IntKind) (W : World) (kb : Option KB) (b : Option Blk) : Prop :=
  (kb = none ∧ b = none) ∨ ∃ (x : Addr) (cap : Nat) (zs : List Int), kb = some ⟨x.block, x.off, cap⟩ ∧ b = some (gBlk k zs) ∧ x.spot = none ∧ (∃ xs el fr, W.heap[x.block]? = some (.cells xs el fr)) ∧ ∀ i, i < zs.length → W.cell? (x.add i) = some (.int k (zs.getD i 0))
theorem GOk.lt {k : IntKind} {W : World} {kb : KB} {b : Option Blk} (h : GOk k W (some kb) b) : kb.r < W.heap.size := by
  rcases h with ⟨h, _⟩ | ⟨x, cap, zs, h, _, _, ⟨xs, el, fr, hb⟩, _⟩
  · cases h
  · injection h with h
    subst h
    rcases Nat.lt_or_ge x.block W.heap.size with h | h
    · exact h
    · rw [Array.getElem?_eq_none h] at hb; cases hb
theorem GOk.ro {k : IntKind} {W : World} {kb : Option KB} {b : Blk} (h : GOk k W kb (some b)) : b.ro = true := by
  rcases h with ⟨_, h⟩ | ⟨x, cap, zs, _, h, _⟩
  · cases h
  · injection h with h; subst h; rfl
theorem GOk.blk {k : IntKind} {W : World} {kb : KB} {b : Blk} (h : GOk k W (some kb) (some b)) (κ : KM) : ∃ o, W.heap[kb.r]? = some o ∧ BR κ kb b o := by
  rcases h with ⟨h, _⟩ | ⟨x, cap, zs, h, hb, hs, ⟨xs, el, fr, hx⟩, hcell⟩
  · cases h
  · injection h with h
    injection hb with hb
    subst h hb
    refine ⟨_, hx, xs, el, fr, rfl, fun hh => (by cases hh), ?_, fun hh => (by cases hh)⟩
    intro e l he
    rw [intRow_get] at he
    simp only [Nat.zero_le, if_true, Nat.sub_zero, Option.map_eq_some_iff] at he
    obtain ⟨y, hy, rfl⟩ := he
    have hlt2 := (List.getElem?_eq_some_iff.1 hy).1
    refine ⟨hlt2, rfl, ?_⟩
    intro j v hj
    cases j with
    | succ j => simp at hj
    | zero =>
      simp at hj
      subst hj
      have hc := hcell e hlt2
      have hd : zs.getD e 0 = y := by simp [List.getD, hy]
      rw [hd] at hc
      refine ⟨.int k y, ?_, by simp [VR]⟩
      have ha : (x.add e).block = x.block ∧ (x.add e).off = x.off + e ∧ (x.add e).spot = none := by
        unfold Addr.add
        split
        · rename_i h0; subst h0; exact ⟨rfl, rfl, hs⟩
        · exact ⟨rfl, rfl, rfl⟩
      unfold World.cell? at hc
      rw [ha.1, hx] at hc
      simp only [ha.2.2, Option.isSome_none, ha.2.1] at hc
      simpa using hc
theorem given2_HR {k0 k1 : IntKind} {W : World} {kb0 kb1 : Option KB} {b0 b1 : Option Blk} (h0 : GOk k0 W kb0 b0) (h1 : GOk k1 W kb1 b1) : HR W (gK kb0 kb1) ⟨gT b0 b1, 2⟩ W := by
  have cs : ∀ n kb, gK kb0 kb1 n = some kb → (n = 0 ∧ kb0 = some kb) ∨ (n = 1 ∧ kb1 = some kb) := by
    intro n kb h
    unfold gK at h
    split at h
    · exact .inl ⟨by assumption, h⟩
    · split at h
      · exact .inr ⟨by assumption, h⟩
      · cases h
  have gs : ∀ n b, (gT b0 b1).get n = some b → (n = 0 ∧ b0 = some b) ∨ (n = 1 ∧ b1 = some b) := by
    intro n b h
    rw [gT_get] at h
    split at h
    · exact .inl ⟨by assumption, h⟩
    · split at h
      · exact .inr ⟨by assumption, h⟩
      · cases h
  have hro : ∀ n b, (gT b0 b1).get n = some b → b.ro = true := by
    intro n b h
    rcases gs n b h with ⟨_, h⟩ | ⟨_, h⟩
    · rw [h] at h0; exact h0.ro
    · rw [h] at h1; exact h1.ro
  refine ⟨Go.RowKit.Below.refl _ _, ?_, ?_, ?_, ?_, ?_, ?_⟩
  · intro n kb h
    rcases cs n kb h with ⟨rfl, hk⟩ | ⟨rfl, hk⟩
    · rw [hk] at h0; exact ⟨by simp, h0.lt⟩
    · rw [hk] at h1; exact ⟨by simp, h1.lt⟩
  · intro n hn
    show (gT b0 b1).get n = none
    simp only at hn
    rw [gT_get, if_neg (by omega), if_neg (by omega)]
  · intro n kb b h hg hr
    rw [hro n b hg] at hr; cases hr
  · intro n kb b h hg hr
    rcases cs n kb h with ⟨rfl, hk⟩ | ⟨rfl, hk⟩
    · rw [hk] at h0; exact h0.lt
    · rw [hk] at h1; exact h1.lt
  · intro n m kb kb' b b' h h' hg hg' hr
    rw [hro n b hg] at hr; cases hr
  · intro n kb b h hg
    rcases cs n kb h with ⟨rfl, hk⟩ | ⟨rfl, hk⟩
    · rcases gs 0 b hg with ⟨_, hg'⟩ | ⟨h', _⟩
      · rw [hk, hg'] at h0; exact h0.blk _
      · cases h'
    · rcases gs 1 b hg with ⟨h', _⟩ | ⟨_, hg'⟩
      · cases h'
      · rw [hk, hg'] at h1; exact h1.blk _
/-- of a given row: its name's block, the block, its value, as name i -/
theorem row_part {W : World} {a : Option Addr} {len cap : Nat} {zs : List Int} (h : IsRowP .u8 W a len cap zs) (i : Nat) :
    ∃ kb b v, GOk .u8 W kb b ∧ (∀ κ : KM, κ i = kb → VR κ v (.slice a len cap)) ∧ (∀ L : Heap, L.t.get i = b → i < L.next → Bs L.next L v (zs.take len)) := by
  rcases h with ⟨rfl, rfl, rfl, rfl⟩ | ⟨x, rfl, hl, hm, hz, hc, hw, hs, hb⟩
  · exact ⟨none, none, .nils, .inl ⟨rfl, rfl⟩, fun κ _ => by simp [VR], fun L _ _ => .inl ⟨rfl, by simp⟩⟩
  · refine ⟨some ⟨x.block, x.off, cap⟩, some (gBlk .u8 zs), .slice i 0 len cap false, .inr ⟨x, cap, zs, rfl, rfl, hs, hb, hc⟩, fun κ hk => ?_, fun L hg hi => ?_⟩
    · simp only [VR]
      refine ⟨_, x.off, cap, hk, ?_, hl, by simp, by simp⟩
      cases x
      simp_all
    · have hlen : (zs.take len).length = len := by rw [List.length_take]; omega
      refine .inr ⟨i, 0, cap, false, by rw [hlen], hi, hi, fun _ => by rw [hlen]; exact hl, ?_⟩
      intro j y hj
      have hlt := (List.getElem?_eq_some_iff.1 hj).1
      rw [hlen] at hlt
      rw [List.getElem?_take_of_lt hlt] at hj
      simp [Heap.load, Heap.elem, hg, gBlk, intRow_get, Nat.mod_one, hj, Ev.part, ps5, pa5]
theorem rows_start2 {W : World} {a0 a1 : Option Addr} {len0 cap0 len1 cap1 : Nat} {z0 z1 : List Int} (h0 : IsRowP .u8 W a0 len0 cap0 z0) (h1 : IsRowP .u8 W a1 len1 cap1 z1) :
    ∃ κ L v0 v1, HR W κ L W ∧ VR κ v0 (.slice a0 len0 cap0) ∧ VR κ v1 (.slice a1 len1 cap1) ∧ Bs L.next L v0 (z0.take len0) ∧ Bs L.next L v1 (z1.take len1) := by
  obtain ⟨kb0, b0, v0, g0, e0, f0⟩ := row_part h0 0
  obtain ⟨kb1, b1, v1, g1, e1, f1⟩ := row_part h1 1
  exact ⟨_, _, v0, v1, given2_HR g0 g1, e0 _ rfl, e1 _ rfl, f0 _ (gT_get b0 b1 0) (by simp), f1 _ (gT_get b0 b1 1) (by simp)⟩
theorem row_range {W : World} {a : Option Addr} {len cap : Nat} {zs : List Int} (h : IsRowP .u8 W a len cap zs) : ∀ x ∈ zs.take len, 0 ≤ x ∧ x ≤ 255 := by
  intro x hx
  have hx := List.mem_of_mem_take hx
  rcases h with ⟨_, _, _, rfl⟩ | ⟨_, _, _, _, _, _, hw, _⟩
  · simp at hx
  · have := hw x hx
    simp [Lit.wf, IntKind.min, IntKind.max, IntKind.signed, IntKind.bits] at this
    omega
end Go.Proofs.Ytpfmoolpeecobaa
