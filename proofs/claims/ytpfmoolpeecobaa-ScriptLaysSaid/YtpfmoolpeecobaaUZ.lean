/- - -/
import Derived.Test.YtpfmoolpeecobaaU25
import Derived.Test.YtpfmoolpeecobaaU8
namespace Go.Proofs.Ytpfmoolpeecobaa
open Go Go.Proofs Go.Proofs.Ytpfmoolpeecobaa.Ev
set_option linter.unusedVariables false
set_option linter.unusedSimpArgs false
set_option maxRecDepth 100000
set_option maxHeartbeats 4000000

/-- a block that was given, or none -/
def GB (W : World) (kb : Option KB) (b : Option Blk) : Prop := (kb = none ∧ b = none) ∨ ∃ k bl, kb = some k ∧ b = some bl ∧ bl.ro = true ∧ ∀ κ, ∃ o, W.heap[k.r]? = some o ∧ BR κ k bl o
theorem GB.of {W : World} {kb : Option KB} {b : Option Blk} {k : IntKind} (h : GOk k W kb b) : GB W kb b := by
  rcases h with h | ⟨x, cap, zs, hk, hb, hs, hx, hc⟩
  · exact .inl h
  · refine .inr ⟨_, _, hk, hb, rfl, fun κ => ?_⟩
    exact GOk.blk (.inr ⟨x, cap, zs, rfl, rfl, hs, hx, hc⟩) κ
theorem GB.lt {W : World} {k : KB} {b : Option Blk} (h : GB W (some k) b) : k.r < W.heap.size := by
  rcases h with ⟨h, _⟩ | ⟨k', bl, hk, _, _, h⟩
  · cases h
  · injection hk with hk
    subst hk
    obtain ⟨o, ho, _⟩ := h fun _ => none
    rcases Nat.lt_or_ge k.r W.heap.size with h | h
    · exact h
    · rw [Array.getElem?_eq_none h] at ho; cases ho
theorem gb_HR {W : World} {kb0 kb1 : Option KB} {b0 b1 : Option Blk} (h0 : GB W kb0 b0) (h1 : GB W kb1 b1) : HR W (gK kb0 kb1) ⟨gT b0 b1, 2⟩ W := by
  have cs : ∀ n kb, gK kb0 kb1 n = some kb → (n = 0 ∧ kb0 = some kb) ∨ (n = 1 ∧ kb1 = some kb) := by
    intro n kb h
    unfold gK at h
    split at h
    · exact .inl ⟨by assumption, h⟩
    · split at h
      · exact .inr ⟨by assumption, h⟩
      · cases h
  have gs : ∀ n b, (gT b0 b1).get n = some b → (n = 0 ∧ b0 = some b) ∨ (n = 1 ∧ b1 = some b) := by
    intro n b h
    rw [gT_get] at h
    split at h
    · exact .inl ⟨by assumption, h⟩
    · split at h
      · exact .inr ⟨by assumption, h⟩
      · cases h
  have ro : ∀ {kb : Option KB} {bo : Option Blk} {b : Blk}, GB W kb bo → bo = some b → b.ro = true := by
    rintro kb bo b (⟨_, h⟩ | ⟨k, bl, _, h, hr, _⟩) hb
    · rw [h] at hb; cases hb
    · rw [h] at hb; injection hb with hb; subst hb; exact hr
  have bk : ∀ {kb : Option KB} {bo : Option Blk} {k : KB} {b : Blk}, GB W kb bo → kb = some k → bo = some b → ∀ κ, ∃ o, W.heap[k.r]? = some o ∧ BR κ k b o := by
    rintro kb bo k b (⟨h, _⟩ | ⟨k', bl, hk', hb', _, h⟩) hk hb κ
    · rw [h] at hk; cases hk
    · rw [hk'] at hk; rw [hb'] at hb; injection hk with hk; injection hb with hb; subst hk; subst hb; exact h κ
  have hro : ∀ n b, (gT b0 b1).get n = some b → b.ro = true := by
    intro n b h
    rcases gs n b h with ⟨_, h⟩ | ⟨_, h⟩
    · exact ro h0 h
    · exact ro h1 h
  refine ⟨Go.RowKit.Below.refl _ _, ?_, ?_, ?_, ?_, ?_, ?_⟩
  · intro n kb h
    rcases cs n kb h with ⟨rfl, hk⟩ | ⟨rfl, hk⟩
    · rw [hk] at h0; exact ⟨by simp, h0.lt⟩
    · rw [hk] at h1; exact ⟨by simp, h1.lt⟩
  · intro n hn
    show (gT b0 b1).get n = none
    simp only at hn
    rw [gT_get, if_neg (by omega), if_neg (by omega)]
  · intro n kb b h hg hr
    rw [hro n b hg] at hr; cases hr
  · intro n kb b h hg hr
    rcases cs n kb h with ⟨rfl, hk⟩ | ⟨rfl, hk⟩
    · rw [hk] at h0; exact h0.lt
    · rw [hk] at h1; exact h1.lt
  · intro n m kb kb' b b' h h' hg hg' hr
    rw [hro n b hg] at hr; cases hr
  · intro n kb b h hg
    rcases cs n kb h with ⟨rfl, hk⟩ | ⟨rfl, hk⟩
    · rcases gs 0 b hg with ⟨_, hg'⟩ | ⟨h', _⟩
      · exact bk h0 hk hg' _
      · cases h'
    · rcases gs 1 b hg with ⟨h', _⟩ | ⟨_, hg'⟩
      · cases h'
      · exact bk h1 hk hg' _
/-- a turn, with its text as it was given -/
structure TrnV where
  w : Int
  at_ : Int
  n : Int
  s : ByteArray
def TrnV.trn (q : TrnV) : Trn := ⟨q.w, q.at_, q.n, strOf q.s⟩
def TrnV.vals (q : TrnV) : List Value := [.int .u8 q.w, .int .u8 q.at_, .int .i16 q.n, .string q.s]
/-- a row of turns that was given -/
def IsTurns (W : World) (a : Option Addr) (len cap : Nat) (l : List TrnV) : Prop :=
  (a = none ∧ len = 0 ∧ cap = 0 ∧ l = []) ∨
  ∃ x, a = some x ∧ len ≤ cap ∧ l.length = len ∧ x.spot = none ∧ (∃ xs el fr, W.heap[x.block]? = some (.cells xs el fr)) ∧ (∀ (i : Nat) (q : TrnV), l[i]? = some q → ∀ (j : Nat) (v : Value), q.vals[j]? = some v → W.cell? ((x.add (i * 4)).add j) = some v) ∧ ∀ q ∈ l, TrnR q.trn
theorem add_at {x : Addr} (hs : x.spot = none) (a : Nat) : (x.add a).block = x.block ∧ (x.add a).off = x.off + a ∧ (x.add a).spot = none := by
  unfold Addr.add
  split
  · rename_i h0; subst h0; exact ⟨rfl, rfl, hs⟩
  · exact ⟨rfl, rfl, rfl⟩
theorem turns_part {W : World} {a : Option Addr} {len cap : Nat} {l : List TrnV} (h : IsTurns W a len cap l) (i : Nat) :
    ∃ kb b v, GB W kb b ∧ (∀ κ : KM, κ i = kb → VR κ v (.slice a len cap)) ∧ (∀ L : Heap, L.t.get i = b → i < L.next → SlP 4 65 trnF L v (l.map TrnV.trn)) := by
  rcases h with ⟨rfl, rfl, rfl, rfl⟩ | ⟨x, rfl, hl, hlen, hs, ⟨xs, el, fr, hb⟩, hc, hr⟩
  · exact ⟨none, none, .nils, .inl ⟨rfl, rfl⟩, fun κ _ => by simp [VR], fun L _ _ => .inl ⟨rfl, rfl⟩⟩
  · refine ⟨some ⟨x.block, x.off, cap⟩, some (.cells (rowFrom ((l.map TrnV.trn).map trnF) 0) l.length 4 false true), .slice i 0 len cap false, .inr ⟨_, _, rfl, rfl, rfl, fun κ => ⟨_, hb, xs, el, fr, rfl, fun hh => (by cases hh), ?_, fun hh => (by cases hh)⟩⟩, fun κ hk => ?_, fun L hg hi => ?_⟩
    · intro e lv he
      rw [rowFrom_getP] at he
      simp only [Nat.zero_le, if_true, Nat.sub_zero, List.getElem?_map, Option.map_eq_some_iff] at he
      obtain ⟨t, ⟨q, hq, rfl⟩, rfl⟩ := he
      have hlt := (List.getElem?_eq_some_iff.1 hq).1
      refine ⟨hlt, rfl, ?_⟩
      have key : ∀ (j : Nat) (v : Value), q.vals[j]? = some v → xs[x.off + (e * 4 + j)]? = some v := by
        intro j v hv
        have h1 := hc e q hq j v hv
        obtain ⟨e1, e2, e3⟩ := add_at hs (e * 4)
        obtain ⟨f1, f2, f3⟩ := add_at e3 j
        unfold World.cell? at h1
        rw [f1, e1, hb] at h1
        simp only [f3, Option.isSome_none, f2, e2] at h1
        rw [← Nat.add_assoc]
        simpa using h1
      intro j v hv
      match j, hv with
      | 0, hv => simp [trnF, TrnV.trn] at hv; subst hv; exact ⟨_, key 0 _ rfl, by simp [VR]⟩
      | 1, hv => simp [trnF, TrnV.trn] at hv; subst hv; exact ⟨_, key 1 _ rfl, by simp [VR]⟩
      | 2, hv => simp [trnF, TrnV.trn] at hv; subst hv; exact ⟨_, key 2 _ rfl, by simp [VR]⟩
      | 3, hv => simp [trnF, TrnV.trn] at hv; subst hv; exact ⟨_, key 3 _ rfl, by simp [VR]⟩
      | j + 4, hv => simp [trnF] at hv
    · simp only [VR]
      refine ⟨_, x.off, cap, hk, ?_, hl, by simp, by simp⟩
      cases x
      simp_all
    · refine .inr ⟨i, 0, cap, false, by rw [List.length_map, hlen], hi, fun _ => by rw [List.length_map, hlen]; exact hl, ?_⟩
      intro j y hj
      rw [List.getElem?_map, Option.map_eq_some_iff] at hj
      obtain ⟨q, hq, rfl⟩ := hj
      have hlt := (List.getElem?_eq_some_iff.1 hq).1
      simp [Heap.load, Heap.elem, hg, rowFrom_getP, hq, Ev.part, ps65, pa65, trnF, takeN]
theorem turns_start {W : World} {a0 a1 : Option Addr} {len0 cap0 len1 cap1 : Nat} {z0 : List Int} {l : List TrnV} (h0 : IsRowP .u8 W a0 len0 cap0 z0) (h1 : IsTurns W a1 len1 cap1 l) :
    ∃ κ L v0 v1, HR W κ L W ∧ VR κ v0 (.slice a0 len0 cap0) ∧ VR κ v1 (.slice a1 len1 cap1) ∧ Bs L.next L v0 (z0.take len0) ∧ SlP 4 65 trnF L v1 (l.map TrnV.trn) := by
  obtain ⟨kb0, b0, v0, g0, e0, f0⟩ := row_part h0 0
  obtain ⟨kb1, b1, v1, g1, e1, f1⟩ := turns_part h1 1
  exact ⟨_, _, v0, v1, gb_HR (.of g0) g1, e0 _ rfl, e1 _ rfl, f0 _ (gT_get b0 b1 0) (by simp), f1 _ (gT_get b0 b1 1) (by simp)⟩
theorem list_of {α : Type} {P : Nat → α → Prop} : ∀ n : Nat, (∀ i, i < n → ∃ q, P i q) → ∃ l : List α, l.length = n ∧ ∀ (i : Nat) (q : α), l[i]? = some q → P i q
  | 0, _ => ⟨[], rfl, fun i q h => by simp at h⟩
  | n + 1, h => by
    obtain ⟨l, hl, hp⟩ := list_of n fun i hi => h i (by omega)
    obtain ⟨q, hq⟩ := h n (by omega)
    refine ⟨l ++ [q], by simp [hl], fun i x hx => ?_⟩
    by_cases hi : i < l.length
    · rw [List.getElem?_append_left hi] at hx
      exact hp i x hx
    · rw [List.getElem?_append_right (by omega)] at hx
      have := (List.getElem?_eq_some_iff.1 hx).1
      simp at this
      obtain rfl : i = n := by omega
      rw [hl] at hx
      simp at hx
      subst hx
      exact hq
theorem turns_range {W : World} {a : Option Addr} {len cap : Nat} {l : List TrnV} (h : IsTurns W a len cap l) : ∀ x ∈ l.map TrnV.trn, TrnR x := by
  intro x hx
  rw [List.mem_map] at hx
  obtain ⟨q, hq, rfl⟩ := hx
  rcases h with ⟨_, _, _, rfl⟩ | ⟨_, _, _, _, _, _, _, hr⟩
  · cases hq
  · exact hr q hq
end Go.Proofs.Ytpfmoolpeecobaa
