/- - -/
import Derived.Test.YtpfmoolpeecobaaU17
namespace Go.Proofs.Ytpfmoolpeecobaa
open Go Go.Proofs Go.Proofs.Ytpfmoolpeecobaa.Ev
set_option linter.unusedVariables false
set_option linter.unusedSimpArgs false
set_option maxRecDepth 100000
set_option maxHeartbeats 4000000

theorem BS.app' {L A : Heap} {e rest : Evt} {v : V} {out : List Int} (h : BS L A e rest v out) {x : V} {new : List Int} (hx : srcElems A 1 x = some (new.map u8c)) (hs : out.length + new.length ≤ 16777216) :
    ∃ v' A', Ev.append Try.prog 38 v x A = some (v', A') ∧ BS L A' e rest v' (out ++ new) ∧ A.next ≤ A'.next ∧ ∀ n, n < A.next → nmP v ≠ some n → A'.t.get n = A.t.get n := by
  obtain ⟨v', A', h1, h2, h3, h4, h5⟩ := append_B h.row hx hs
  obtain ⟨v2, A2, g1, g2⟩ := h.app hx hs
  rw [h1] at g1
  injection g1 with g1
  injection g1 with g1 g3
  subst g1; subst g3
  exact ⟨v', A', h1, g2, h3, h4⟩
noncomputable def twoB (a b : Int) : Blk := .cells (T.set (T.set (T.set (T.set .leaf 0 [.int .u8 0]) 1 [.int .u8 0]) 0 [.int .u8 a]) 1 [.int .u8 b]) 2 1 false false
theorem twoB_src {L : Heap} {m : Nat} {a b : Int} (h : L.t.get m = some (twoB a b)) : srcElems L 1 (.slice m 0 2 2 false) = some ([a, b].map u8c) := by
  simp [srcElems, Heap.elems, Heap.elem, h, twoB, T.get_set, takeN, u8c]
noncomputable def rcB (a b c d : Int) : Blk := .cells (T.set .leaf 0 [.int .i64 a, .int .i64 b, .int .i64 c, .int .i64 d]) 1 4 false false
theorem mov_eq {e : Evt} (hk : 0 ≤ e.k ∧ e.k ≤ 8) (hs : 0 ≤ e.s ∧ e.s ≤ 4) (h : e.k = 5) (h1 : 0 ≤ e.r1 ∧ e.r1 ≤ 15) (h2 : 0 ≤ e.r2 ∧ e.r2 ≤ 47) (h3 : 0 ≤ e.r3 ∧ e.r3 ≤ 15) (h4 : 0 ≤ e.r4 ∧ e.r4 ≤ 47) : (decide ((if false = true then { (⟨0, 0, e.t, e.lv, 0, 0, 0, 0, e.w⟩ : Evt) with t := [] } else ⟨0, 0, e.t, e.lv, 0, 0, 0, 0, e.w⟩) = zeroE) && decide (e.t.length < 64)) = !wBad e := by
  obtain ⟨k, s, t, lv, r1, r2, r3, r4, w⟩ := e
  simp only at hk hs h h1 h2 h3 h4
  have n3 : ¬ k = 3 := by omega
  have n04 : ¬ (k = 0 ∨ k = 4) := by omega
  rw [Bool.eq_iff_iff]
  simp only [wBad, wOwn, out, zeroE, if_neg n3, if_neg n04, if_pos h]
  simp
  constructor
  · rintro ⟨⟨rfl, rfl, rfl⟩, _⟩
    simp
    omega
  · rintro ⟨_, ht, rfl, rfl⟩
    subst ht
    simp
theorem siz_eq {e : Evt} (hk : 0 ≤ e.k ∧ e.k ≤ 8) (hs : 0 ≤ e.s ∧ e.s ≤ 4) (h : e.k = 6) (h1 : e.r1 = 0) (h2 : e.r2 = 0) (h3 : 0 ≤ e.r3 ∧ e.r3 ≤ 15) (h4 : 0 ≤ e.r4 ∧ e.r4 ≤ 47) : (decide ((if false = true then { (⟨0, 0, e.t, e.lv, 0, 0, 0, 0, e.w⟩ : Evt) with t := [] } else ⟨0, 0, e.t, e.lv, 0, 0, 0, 0, e.w⟩) = zeroE) && decide (e.t.length < 64)) = !wBad e := by
  obtain ⟨k, s, t, lv, r1, r2, r3, r4, w⟩ := e
  simp only at hk hs h h1 h2 h3 h4
  subst h1; subst h2
  have n3 : ¬ k = 3 := by omega
  have n04 : ¬ (k = 0 ∨ k = 4) := by omega
  have n5 : ¬ k = 5 := by omega
  rw [Bool.eq_iff_iff]
  simp only [wBad, wOwn, out, zeroE, if_neg n3, if_neg n04, if_neg n5, if_pos h]
  simp
  constructor
  · rintro ⟨⟨rfl, rfl, rfl⟩, _⟩
    simp
    omega
  · rintro ⟨_, ht, rfl, rfl⟩
    subst ht
    simp
theorem rect_bad {e : Evt} (h : e.k = 5 ∨ e.k = 6) (hr : e.r1 < 0 ∨ 15 < e.r1 ∨ e.r2 < 0 ∨ 47 < e.r2 ∨ e.r3 < 0 ∨ 15 < e.r3 ∨ e.r4 < 0 ∨ 47 < e.r4 ∨ e.k = 6 ∧ (e.r1 ≠ 0 ∨ e.r2 ≠ 0)) : wBad e = true := by
  cases hb : wBad e with
  | true => rfl
  | false =>
    exfalso
    unfold wBad at hb
    simp only [Bool.or_eq_false_iff] at hb
    obtain ⟨⟨_, hp⟩, ho⟩ := hb
    have ho : wOwn e = e := by simpa using ho
    have n3 : ¬ e.k = 3 := by omega
    have n04 : ¬ (e.k = 0 ∨ e.k = 4) := by omega
    rcases h with h | h
    · simp only [if_neg n3, if_neg n04, if_pos h, Bool.or_eq_false_iff] at hp
      have q1 := out_false hp.1.1.1
      have q2 := out_false hp.1.1.2
      have q3 := out_false hp.1.2
      have q4 := out_false hp.2
      omega
    · have n5 : ¬ e.k = 5 := by omega
      simp only [if_neg n3, if_neg n04, if_neg n5, if_pos h, Bool.or_eq_false_iff] at hp
      have q3 := out_false hp.1
      have q4 := out_false hp.2
      unfold wOwn at ho
      simp only [if_neg n3, if_neg n04, if_neg n5, if_pos h] at ho
      have o1 := congrArg Evt.r1 ho
      have o2 := congrArg Evt.r2 ho
      simp only at o1 o2
      omega
section
variable {L : Heap} {e : Evt}
theorem rbytes_k5 (hk : 0 ≤ e.k ∧ e.k ≤ 8) (hs : 0 ≤ e.s ∧ e.s ≤ 4) (hr : EvR e) (hkk : e.k = 5) : RBy L e := by
  obtain ⟨A, h0, hpre⟩ := rbytes_pre L e hk hs
  have hE := h0.ev
  have hX := h0.re
  have hn0 := h0.nx
  have h1 := h0.new (rcB e.r1 e.r2 e.r3 e.r4)
  have hR1 : (⟨A.t.set A.next (rcB e.r1 e.r2 e.r3 e.r4), A.next + 1⟩ : Heap).t.get A.next = some (rcB e.r1 e.r2 e.r3 e.r4) := T.get_set_same _ _ _
  have hn1 : (⟨A.t.set A.next (rcB e.r1 e.r2 e.r3 e.r4), A.next + 1⟩ : Heap).next = A.next + 1 := rfl
  generalize hA1 : (⟨A.t.set A.next (rcB e.r1 e.r2 e.r3 e.r4), A.next + 1⟩ : Heap) = A1 at *
  have hR1' := hR1
  unfold rcB at hR1'
  by_cases hb : e.r1 < 0 ∨ 15 < e.r1 ∨ e.r2 < 0 ∨ 47 < e.r2 ∨ e.r3 < 0 ∨ 15 < e.r3 ∨ e.r4 < 0 ∨ 47 < e.r4
  ·
    refine RBy.no (rect_bad (by omega) (by omega)) ?_ h1.keep h1.old
    refine hpre _ _ _ fun t t1 t4 t5 t6 => ?_
    show ACode _ _ (Code.seq (Code.seq (Code.region _ _ _) (Code.block 0 _)) _) _ _ _ _
    refine ACode.seq ?_
    have hE' := hE
    simp only [evB, evF] at hE'
    refine ACode.seq (ACode.regS noT_ok names_ok mix (t' := ?_) (L' := ?_) [0, 1] (by rfl) ?_ ?_)
    rotate_left 2
    · iterate 2 (refine sq rfl rfl rfl (by simp [go_sem, X, t1, hE', hkk, Try.f52]; rfl) ?_)
      rfl
    refine ACode.block (ACode.seq ?_)
    refine ACode.seq (ACode.regS noT_ok names_ok mix (t' := ?_) (L' := ?_) [0, 1] (by rfl) ?_ ?_)
    rotate_left 2
    · iterate 2 (refine sq rfl rfl rfl (by simp [go_sem, X, hkk, Try.f52]; rfl) ?_)
      rfl
    refine ACode.condF (by simp [tget_set, opd]) ?_
    refine ACode.regS noT_ok names_ok mix (t' := ?_) (L' := ?_) [0, 1] (by rfl) ?_ ?_
    rotate_left 2
    · iterate 2 (refine sq rfl rfl rfl (by simp [go_sem, X, hkk, Try.f52]; rfl) ?_)
      rfl
    show ACode _ _ _ _ _ _ _
    refine ACode.condF (by simp [tget_set, opd]) ?_
    refine ACode.seq (ACode.regS noT_ok names_ok mix (t' := ?_) (L' := ?_) [0, 1] (by rfl) ?_ ?_)
    rotate_left 2
    · iterate 2 (refine sq rfl rfl rfl (by simp [go_sem, X, hkk, Try.f52]; rfl) ?_)
      rfl
    refine ACode.condF (by simp [tget_set, opd]) ?_
    refine ACode.seq ?_
    refine ACode.seq (ACode.regS noT_ok names_ok mix (t' := ?_) (L' := ?_) [0, 1] (by rfl) ?_ ?_)
    rotate_left 2
    · iterate 2 (refine sq rfl rfl rfl (by simp [go_sem, X, hkk, Try.f52]; rfl) ?_)
      rfl
    refine ACode.condT (by simp [tget_set, opd]) (ACode.skip ?_)
    show ACode _ _ _ _ _ _ _
    refine ACode.condT (by simp [tget_set, opd]) ?_
    refine ACode.seq (ACode.regS noT_ok names_ok mix (t' := ?_) (L' := ?_) [0, 1, 2, 3] (by rfl) ?_ ?_)
    rotate_left 2
    · iterate 4 (refine sq rfl rfl rfl (by simp [go_sem, X, t1, hE', Try.f52]; rfl) ?_)
      rfl
    change ACode _ _ _ _ _ ⟨A.t.set A.next (rcB e.r1 e.r2 e.r3 e.r4), A.next + 1⟩ _
    rw [hA1]
    refine ACode.seq ?_
    by_cases c0 : e.r1 < 0
    ·
      refine ACode.seq (ACode.regS noT_ok names_ok mix (t' := ?_) (L' := ?_) [0, 1, 2, 3, 4, 5, 6, 7, 8, 9, 10, 11, 12, 13, 14, 15, 16, 17, 18, 19, 20, 21, 22, 23, 24, 25, 26, 27, 28, 29, 30, 31, 32, 33, 34, 35, 36, 37] (by rfl) ?_ ?_)
      rotate_left 2
      · iterate 4 (refine sq rfl rfl rfl (by simp [go_sem, X, hR1', c0, Try.f52]; rfl) ?_)
        iterate 3 (refine sk rfl rfl (by simp [go_sem, X, hR1', c0, Try.f52]) ?_)
        iterate 2 (refine sq rfl rfl rfl (by simp [go_sem, X, hR1', c0, Try.f52]; rfl) ?_)
        iterate 3 (refine sk rfl rfl (by simp [go_sem, X, hR1', c0, Try.f52]) ?_)
        iterate 2 (refine sq rfl rfl rfl (by simp [go_sem, X, hR1', c0, Try.f52]; rfl) ?_)
        iterate 3 (refine sk rfl rfl (by simp [go_sem, X, hR1', c0, Try.f52]) ?_)
        iterate 2 (refine sq rfl rfl rfl (by simp [go_sem, X, hR1', c0, Try.f52]; rfl) ?_)
        iterate 3 (refine sk rfl rfl (by simp [go_sem, X, hR1', c0, Try.f52]) ?_)
        iterate 2 (refine sq rfl rfl rfl (by simp [go_sem, X, hR1', c0, Try.f52]; rfl) ?_)
        iterate 3 (refine sk rfl rfl (by simp [go_sem, X, hR1', c0, Try.f52]) ?_)
        iterate 2 (refine sq rfl rfl rfl (by simp [go_sem, X, hR1', c0, Try.f52]; rfl) ?_)
        iterate 3 (refine sk rfl rfl (by simp [go_sem, X, hR1', c0, Try.f52]) ?_)
        iterate 2 (refine sq rfl rfl rfl (by simp [go_sem, X, hR1', c0, Try.f52]; rfl) ?_)
        iterate 3 (refine sk rfl rfl (by simp [go_sem, X, hR1', c0, Try.f52]) ?_)
        refine sq rfl rfl rfl (by simp [go_sem, X, hR1', c0, Try.f52]; rfl) ?_
        rfl
      refine ACode.condT (by simp [tget_set, opd]) ?_
      refine ACode.seq (ACode.regS noT_ok names_ok mix (t' := ?_) (L' := ?_) [0, 1] (by rfl) ?_ ?_)
      rotate_left 2
      · iterate 2 (refine sq rfl rfl rfl (by simp [go_sem, X, Try.f52]; rfl) ?_)
        rfl
      refine ACode.ret ?_
      exact ⟨rfl, rfl, rfl, by simp [tget_set], by simp [tget_set]⟩
    by_cases c1 : 15 < e.r1
    ·
      refine ACode.seq (ACode.regS noT_ok names_ok mix (t' := ?_) (L' := ?_) [0, 1, 2, 3, 4, 5, 6, 7, 8, 9, 10, 11, 12, 13, 14, 15, 16, 17, 18, 19, 20, 21, 22, 23, 24, 25, 26, 27, 28, 29, 30, 31, 32, 33, 34, 35, 36, 37] (by rfl) ?_ ?_)
      rotate_left 2
      · iterate 4 (refine sq rfl rfl rfl (by simp [go_sem, X, hR1', c0, c1, Try.f52]; rfl) ?_)
        iterate 3 (refine sq rfl rfl (by simp [go_sem, X, hR1', c0, c1, Try.f52]) (by simp [go_sem, X, hR1', c0, c1, Try.f52]; rfl) ?_)
        iterate 2 (refine sq rfl rfl rfl (by simp [go_sem, X, hR1', c0, c1, Try.f52]; rfl) ?_)
        iterate 3 (refine sk rfl rfl (by simp [go_sem, X, hR1', c0, c1, Try.f52]) ?_)
        iterate 2 (refine sq rfl rfl rfl (by simp [go_sem, X, hR1', c0, c1, Try.f52]; rfl) ?_)
        iterate 3 (refine sk rfl rfl (by simp [go_sem, X, hR1', c0, c1, Try.f52]) ?_)
        iterate 2 (refine sq rfl rfl rfl (by simp [go_sem, X, hR1', c0, c1, Try.f52]; rfl) ?_)
        iterate 3 (refine sk rfl rfl (by simp [go_sem, X, hR1', c0, c1, Try.f52]) ?_)
        iterate 2 (refine sq rfl rfl rfl (by simp [go_sem, X, hR1', c0, c1, Try.f52]; rfl) ?_)
        iterate 3 (refine sk rfl rfl (by simp [go_sem, X, hR1', c0, c1, Try.f52]) ?_)
        iterate 2 (refine sq rfl rfl rfl (by simp [go_sem, X, hR1', c0, c1, Try.f52]; rfl) ?_)
        iterate 3 (refine sk rfl rfl (by simp [go_sem, X, hR1', c0, c1, Try.f52]) ?_)
        iterate 2 (refine sq rfl rfl rfl (by simp [go_sem, X, hR1', c0, c1, Try.f52]; rfl) ?_)
        iterate 3 (refine sk rfl rfl (by simp [go_sem, X, hR1', c0, c1, Try.f52]) ?_)
        refine sq rfl rfl rfl (by simp [go_sem, X, hR1', c0, c1, Try.f52]; rfl) ?_
        rfl
      refine ACode.condT (by simp [tget_set, opd]) ?_
      refine ACode.seq (ACode.regS noT_ok names_ok mix (t' := ?_) (L' := ?_) [0, 1] (by rfl) ?_ ?_)
      rotate_left 2
      · iterate 2 (refine sq rfl rfl rfl (by simp [go_sem, X, Try.f52]; rfl) ?_)
        rfl
      refine ACode.ret ?_
      exact ⟨rfl, rfl, rfl, by simp [tget_set], by simp [tget_set]⟩
    by_cases c2 : e.r2 < 0
    ·
      refine ACode.seq (ACode.regS noT_ok names_ok mix (t' := ?_) (L' := ?_) [0, 1, 2, 3, 4, 5, 6, 7, 8, 9, 10, 11, 12, 13, 14, 15, 16, 17, 18, 19, 20, 21, 22, 23, 24, 25, 26, 27, 28, 29, 30, 31, 32, 33, 34, 35, 36, 37] (by rfl) ?_ ?_)
      rotate_left 2
      · iterate 4 (refine sq rfl rfl rfl (by simp [go_sem, X, hR1', c0, c1, c2, Try.f52]; rfl) ?_)
        iterate 3 (refine sq rfl rfl (by simp [go_sem, X, hR1', c0, c1, c2, Try.f52]) (by simp [go_sem, X, hR1', c0, c1, c2, Try.f52]; rfl) ?_)
        iterate 2 (refine sq rfl rfl rfl (by simp [go_sem, X, hR1', c0, c1, c2, Try.f52]; rfl) ?_)
        iterate 3 (refine sq rfl rfl (by simp [go_sem, X, hR1', c0, c1, c2, Try.f52]) (by simp [go_sem, X, hR1', c0, c1, c2, Try.f52]; rfl) ?_)
        iterate 2 (refine sq rfl rfl rfl (by simp [go_sem, X, hR1', c0, c1, c2, Try.f52]; rfl) ?_)
        iterate 3 (refine sk rfl rfl (by simp [go_sem, X, hR1', c0, c1, c2, Try.f52]) ?_)
        iterate 2 (refine sq rfl rfl rfl (by simp [go_sem, X, hR1', c0, c1, c2, Try.f52]; rfl) ?_)
        iterate 3 (refine sk rfl rfl (by simp [go_sem, X, hR1', c0, c1, c2, Try.f52]) ?_)
        iterate 2 (refine sq rfl rfl rfl (by simp [go_sem, X, hR1', c0, c1, c2, Try.f52]; rfl) ?_)
        iterate 3 (refine sk rfl rfl (by simp [go_sem, X, hR1', c0, c1, c2, Try.f52]) ?_)
        iterate 2 (refine sq rfl rfl rfl (by simp [go_sem, X, hR1', c0, c1, c2, Try.f52]; rfl) ?_)
        iterate 3 (refine sk rfl rfl (by simp [go_sem, X, hR1', c0, c1, c2, Try.f52]) ?_)
        iterate 2 (refine sq rfl rfl rfl (by simp [go_sem, X, hR1', c0, c1, c2, Try.f52]; rfl) ?_)
        iterate 3 (refine sk rfl rfl (by simp [go_sem, X, hR1', c0, c1, c2, Try.f52]) ?_)
        refine sq rfl rfl rfl (by simp [go_sem, X, hR1', c0, c1, c2, Try.f52]; rfl) ?_
        rfl
      refine ACode.condT (by simp [tget_set, opd]) ?_
      refine ACode.seq (ACode.regS noT_ok names_ok mix (t' := ?_) (L' := ?_) [0, 1] (by rfl) ?_ ?_)
      rotate_left 2
      · iterate 2 (refine sq rfl rfl rfl (by simp [go_sem, X, Try.f52]; rfl) ?_)
        rfl
      refine ACode.ret ?_
      exact ⟨rfl, rfl, rfl, by simp [tget_set], by simp [tget_set]⟩
    by_cases c3 : 47 < e.r2
    ·
      refine ACode.seq (ACode.regS noT_ok names_ok mix (t' := ?_) (L' := ?_) [0, 1, 2, 3, 4, 5, 6, 7, 8, 9, 10, 11, 12, 13, 14, 15, 16, 17, 18, 19, 20, 21, 22, 23, 24, 25, 26, 27, 28, 29, 30, 31, 32, 33, 34, 35, 36, 37] (by rfl) ?_ ?_)
      rotate_left 2
      · iterate 4 (refine sq rfl rfl rfl (by simp [go_sem, X, hR1', c0, c1, c2, c3, Try.f52]; rfl) ?_)
        iterate 3 (refine sq rfl rfl (by simp [go_sem, X, hR1', c0, c1, c2, c3, Try.f52]) (by simp [go_sem, X, hR1', c0, c1, c2, c3, Try.f52]; rfl) ?_)
        iterate 2 (refine sq rfl rfl rfl (by simp [go_sem, X, hR1', c0, c1, c2, c3, Try.f52]; rfl) ?_)
        iterate 3 (refine sq rfl rfl (by simp [go_sem, X, hR1', c0, c1, c2, c3, Try.f52]) (by simp [go_sem, X, hR1', c0, c1, c2, c3, Try.f52]; rfl) ?_)
        iterate 2 (refine sq rfl rfl rfl (by simp [go_sem, X, hR1', c0, c1, c2, c3, Try.f52]; rfl) ?_)
        iterate 3 (refine sq rfl rfl (by simp [go_sem, X, hR1', c0, c1, c2, c3, Try.f52]) (by simp [go_sem, X, hR1', c0, c1, c2, c3, Try.f52]; rfl) ?_)
        iterate 2 (refine sq rfl rfl rfl (by simp [go_sem, X, hR1', c0, c1, c2, c3, Try.f52]; rfl) ?_)
        iterate 3 (refine sk rfl rfl (by simp [go_sem, X, hR1', c0, c1, c2, c3, Try.f52]) ?_)
        iterate 2 (refine sq rfl rfl rfl (by simp [go_sem, X, hR1', c0, c1, c2, c3, Try.f52]; rfl) ?_)
        iterate 3 (refine sk rfl rfl (by simp [go_sem, X, hR1', c0, c1, c2, c3, Try.f52]) ?_)
        iterate 2 (refine sq rfl rfl rfl (by simp [go_sem, X, hR1', c0, c1, c2, c3, Try.f52]; rfl) ?_)
        iterate 3 (refine sk rfl rfl (by simp [go_sem, X, hR1', c0, c1, c2, c3, Try.f52]) ?_)
        iterate 2 (refine sq rfl rfl rfl (by simp [go_sem, X, hR1', c0, c1, c2, c3, Try.f52]; rfl) ?_)
        iterate 3 (refine sk rfl rfl (by simp [go_sem, X, hR1', c0, c1, c2, c3, Try.f52]) ?_)
        refine sq rfl rfl rfl (by simp [go_sem, X, hR1', c0, c1, c2, c3, Try.f52]; rfl) ?_
        rfl
      refine ACode.condT (by simp [tget_set, opd]) ?_
      refine ACode.seq (ACode.regS noT_ok names_ok mix (t' := ?_) (L' := ?_) [0, 1] (by rfl) ?_ ?_)
      rotate_left 2
      · iterate 2 (refine sq rfl rfl rfl (by simp [go_sem, X, Try.f52]; rfl) ?_)
        rfl
      refine ACode.ret ?_
      exact ⟨rfl, rfl, rfl, by simp [tget_set], by simp [tget_set]⟩
    by_cases c4 : e.r3 < 0
    ·
      refine ACode.seq (ACode.regS noT_ok names_ok mix (t' := ?_) (L' := ?_) [0, 1, 2, 3, 4, 5, 6, 7, 8, 9, 10, 11, 12, 13, 14, 15, 16, 17, 18, 19, 20, 21, 22, 23, 24, 25, 26, 27, 28, 29, 30, 31, 32, 33, 34, 35, 36, 37] (by rfl) ?_ ?_)
      rotate_left 2
      · iterate 4 (refine sq rfl rfl rfl (by simp [go_sem, X, hR1', c0, c1, c2, c3, c4, Try.f52]; rfl) ?_)
        iterate 3 (refine sq rfl rfl (by simp [go_sem, X, hR1', c0, c1, c2, c3, c4, Try.f52]) (by simp [go_sem, X, hR1', c0, c1, c2, c3, c4, Try.f52]; rfl) ?_)
        iterate 2 (refine sq rfl rfl rfl (by simp [go_sem, X, hR1', c0, c1, c2, c3, c4, Try.f52]; rfl) ?_)
        iterate 3 (refine sq rfl rfl (by simp [go_sem, X, hR1', c0, c1, c2, c3, c4, Try.f52]) (by simp [go_sem, X, hR1', c0, c1, c2, c3, c4, Try.f52]; rfl) ?_)
        iterate 2 (refine sq rfl rfl rfl (by simp [go_sem, X, hR1', c0, c1, c2, c3, c4, Try.f52]; rfl) ?_)
        iterate 3 (refine sq rfl rfl (by simp [go_sem, X, hR1', c0, c1, c2, c3, c4, Try.f52]) (by simp [go_sem, X, hR1', c0, c1, c2, c3, c4, Try.f52]; rfl) ?_)
        iterate 2 (refine sq rfl rfl rfl (by simp [go_sem, X, hR1', c0, c1, c2, c3, c4, Try.f52]; rfl) ?_)
        iterate 3 (refine sq rfl rfl (by simp [go_sem, X, hR1', c0, c1, c2, c3, c4, Try.f52]) (by simp [go_sem, X, hR1', c0, c1, c2, c3, c4, Try.f52]; rfl) ?_)
        iterate 2 (refine sq rfl rfl rfl (by simp [go_sem, X, hR1', c0, c1, c2, c3, c4, Try.f52]; rfl) ?_)
        iterate 3 (refine sk rfl rfl (by simp [go_sem, X, hR1', c0, c1, c2, c3, c4, Try.f52]) ?_)
        iterate 2 (refine sq rfl rfl rfl (by simp [go_sem, X, hR1', c0, c1, c2, c3, c4, Try.f52]; rfl) ?_)
        iterate 3 (refine sk rfl rfl (by simp [go_sem, X, hR1', c0, c1, c2, c3, c4, Try.f52]) ?_)
        iterate 2 (refine sq rfl rfl rfl (by simp [go_sem, X, hR1', c0, c1, c2, c3, c4, Try.f52]; rfl) ?_)
        iterate 3 (refine sk rfl rfl (by simp [go_sem, X, hR1', c0, c1, c2, c3, c4, Try.f52]) ?_)
        refine sq rfl rfl rfl (by simp [go_sem, X, hR1', c0, c1, c2, c3, c4, Try.f52]; rfl) ?_
        rfl
      refine ACode.condT (by simp [tget_set, opd]) ?_
      refine ACode.seq (ACode.regS noT_ok names_ok mix (t' := ?_) (L' := ?_) [0, 1] (by rfl) ?_ ?_)
      rotate_left 2
      · iterate 2 (refine sq rfl rfl rfl (by simp [go_sem, X, Try.f52]; rfl) ?_)
        rfl
      refine ACode.ret ?_
      exact ⟨rfl, rfl, rfl, by simp [tget_set], by simp [tget_set]⟩
    by_cases c5 : 15 < e.r3
    ·
      refine ACode.seq (ACode.regS noT_ok names_ok mix (t' := ?_) (L' := ?_) [0, 1, 2, 3, 4, 5, 6, 7, 8, 9, 10, 11, 12, 13, 14, 15, 16, 17, 18, 19, 20, 21, 22, 23, 24, 25, 26, 27, 28, 29, 30, 31, 32, 33, 34, 35, 36, 37] (by rfl) ?_ ?_)
      rotate_left 2
      · iterate 4 (refine sq rfl rfl rfl (by simp [go_sem, X, hR1', c0, c1, c2, c3, c4, c5, Try.f52]; rfl) ?_)
        iterate 3 (refine sq rfl rfl (by simp [go_sem, X, hR1', c0, c1, c2, c3, c4, c5, Try.f52]) (by simp [go_sem, X, hR1', c0, c1, c2, c3, c4, c5, Try.f52]; rfl) ?_)
        iterate 2 (refine sq rfl rfl rfl (by simp [go_sem, X, hR1', c0, c1, c2, c3, c4, c5, Try.f52]; rfl) ?_)
        iterate 3 (refine sq rfl rfl (by simp [go_sem, X, hR1', c0, c1, c2, c3, c4, c5, Try.f52]) (by simp [go_sem, X, hR1', c0, c1, c2, c3, c4, c5, Try.f52]; rfl) ?_)
        iterate 2 (refine sq rfl rfl rfl (by simp [go_sem, X, hR1', c0, c1, c2, c3, c4, c5, Try.f52]; rfl) ?_)
        iterate 3 (refine sq rfl rfl (by simp [go_sem, X, hR1', c0, c1, c2, c3, c4, c5, Try.f52]) (by simp [go_sem, X, hR1', c0, c1, c2, c3, c4, c5, Try.f52]; rfl) ?_)
        iterate 2 (refine sq rfl rfl rfl (by simp [go_sem, X, hR1', c0, c1, c2, c3, c4, c5, Try.f52]; rfl) ?_)
        iterate 3 (refine sq rfl rfl (by simp [go_sem, X, hR1', c0, c1, c2, c3, c4, c5, Try.f52]) (by simp [go_sem, X, hR1', c0, c1, c2, c3, c4, c5, Try.f52]; rfl) ?_)
        iterate 2 (refine sq rfl rfl rfl (by simp [go_sem, X, hR1', c0, c1, c2, c3, c4, c5, Try.f52]; rfl) ?_)
        iterate 3 (refine sq rfl rfl (by simp [go_sem, X, hR1', c0, c1, c2, c3, c4, c5, Try.f52]) (by simp [go_sem, X, hR1', c0, c1, c2, c3, c4, c5, Try.f52]; rfl) ?_)
        iterate 2 (refine sq rfl rfl rfl (by simp [go_sem, X, hR1', c0, c1, c2, c3, c4, c5, Try.f52]; rfl) ?_)
        iterate 3 (refine sk rfl rfl (by simp [go_sem, X, hR1', c0, c1, c2, c3, c4, c5, Try.f52]) ?_)
        iterate 2 (refine sq rfl rfl rfl (by simp [go_sem, X, hR1', c0, c1, c2, c3, c4, c5, Try.f52]; rfl) ?_)
        iterate 3 (refine sk rfl rfl (by simp [go_sem, X, hR1', c0, c1, c2, c3, c4, c5, Try.f52]) ?_)
        refine sq rfl rfl rfl (by simp [go_sem, X, hR1', c0, c1, c2, c3, c4, c5, Try.f52]; rfl) ?_
        rfl
      refine ACode.condT (by simp [tget_set, opd]) ?_
      refine ACode.seq (ACode.regS noT_ok names_ok mix (t' := ?_) (L' := ?_) [0, 1] (by rfl) ?_ ?_)
      rotate_left 2
      · iterate 2 (refine sq rfl rfl rfl (by simp [go_sem, X, Try.f52]; rfl) ?_)
        rfl
      refine ACode.ret ?_
      exact ⟨rfl, rfl, rfl, by simp [tget_set], by simp [tget_set]⟩
    by_cases c6 : e.r4 < 0
    ·
      refine ACode.seq (ACode.regS noT_ok names_ok mix (t' := ?_) (L' := ?_) [0, 1, 2, 3, 4, 5, 6, 7, 8, 9, 10, 11, 12, 13, 14, 15, 16, 17, 18, 19, 20, 21, 22, 23, 24, 25, 26, 27, 28, 29, 30, 31, 32, 33, 34, 35, 36, 37] (by rfl) ?_ ?_)
      rotate_left 2
      · iterate 4 (refine sq rfl rfl rfl (by simp [go_sem, X, hR1', c0, c1, c2, c3, c4, c5, c6, Try.f52]; rfl) ?_)
        iterate 3 (refine sq rfl rfl (by simp [go_sem, X, hR1', c0, c1, c2, c3, c4, c5, c6, Try.f52]) (by simp [go_sem, X, hR1', c0, c1, c2, c3, c4, c5, c6, Try.f52]; rfl) ?_)
        iterate 2 (refine sq rfl rfl rfl (by simp [go_sem, X, hR1', c0, c1, c2, c3, c4, c5, c6, Try.f52]; rfl) ?_)
        iterate 3 (refine sq rfl rfl (by simp [go_sem, X, hR1', c0, c1, c2, c3, c4, c5, c6, Try.f52]) (by simp [go_sem, X, hR1', c0, c1, c2, c3, c4, c5, c6, Try.f52]; rfl) ?_)
        iterate 2 (refine sq rfl rfl rfl (by simp [go_sem, X, hR1', c0, c1, c2, c3, c4, c5, c6, Try.f52]; rfl) ?_)
        iterate 3 (refine sq rfl rfl (by simp [go_sem, X, hR1', c0, c1, c2, c3, c4, c5, c6, Try.f52]) (by simp [go_sem, X, hR1', c0, c1, c2, c3, c4, c5, c6, Try.f52]; rfl) ?_)
        iterate 2 (refine sq rfl rfl rfl (by simp [go_sem, X, hR1', c0, c1, c2, c3, c4, c5, c6, Try.f52]; rfl) ?_)
        iterate 3 (refine sq rfl rfl (by simp [go_sem, X, hR1', c0, c1, c2, c3, c4, c5, c6, Try.f52]) (by simp [go_sem, X, hR1', c0, c1, c2, c3, c4, c5, c6, Try.f52]; rfl) ?_)
        iterate 2 (refine sq rfl rfl rfl (by simp [go_sem, X, hR1', c0, c1, c2, c3, c4, c5, c6, Try.f52]; rfl) ?_)
        iterate 3 (refine sq rfl rfl (by simp [go_sem, X, hR1', c0, c1, c2, c3, c4, c5, c6, Try.f52]) (by simp [go_sem, X, hR1', c0, c1, c2, c3, c4, c5, c6, Try.f52]; rfl) ?_)
        iterate 2 (refine sq rfl rfl rfl (by simp [go_sem, X, hR1', c0, c1, c2, c3, c4, c5, c6, Try.f52]; rfl) ?_)
        iterate 3 (refine sq rfl rfl (by simp [go_sem, X, hR1', c0, c1, c2, c3, c4, c5, c6, Try.f52]) (by simp [go_sem, X, hR1', c0, c1, c2, c3, c4, c5, c6, Try.f52]; rfl) ?_)
        iterate 2 (refine sq rfl rfl rfl (by simp [go_sem, X, hR1', c0, c1, c2, c3, c4, c5, c6, Try.f52]; rfl) ?_)
        iterate 3 (refine sk rfl rfl (by simp [go_sem, X, hR1', c0, c1, c2, c3, c4, c5, c6, Try.f52]) ?_)
        refine sq rfl rfl rfl (by simp [go_sem, X, hR1', c0, c1, c2, c3, c4, c5, c6, Try.f52]; rfl) ?_
        rfl
      refine ACode.condT (by simp [tget_set, opd]) ?_
      refine ACode.seq (ACode.regS noT_ok names_ok mix (t' := ?_) (L' := ?_) [0, 1] (by rfl) ?_ ?_)
      rotate_left 2
      · iterate 2 (refine sq rfl rfl rfl (by simp [go_sem, X, Try.f52]; rfl) ?_)
        rfl
      refine ACode.ret ?_
      exact ⟨rfl, rfl, rfl, by simp [tget_set], by simp [tget_set]⟩
    by_cases c7 : 47 < e.r4
    ·
      refine ACode.seq (ACode.regS noT_ok names_ok mix (t' := ?_) (L' := ?_) [0, 1, 2, 3, 4, 5, 6, 7, 8, 9, 10, 11, 12, 13, 14, 15, 16, 17, 18, 19, 20, 21, 22, 23, 24, 25, 26, 27, 28, 29, 30, 31, 32, 33, 34, 35, 36, 37] (by rfl) ?_ ?_)
      rotate_left 2
      · iterate 4 (refine sq rfl rfl rfl (by simp [go_sem, X, hR1', c0, c1, c2, c3, c4, c5, c6, c7, Try.f52]; rfl) ?_)
        iterate 3 (refine sq rfl rfl (by simp [go_sem, X, hR1', c0, c1, c2, c3, c4, c5, c6, c7, Try.f52]) (by simp [go_sem, X, hR1', c0, c1, c2, c3, c4, c5, c6, c7, Try.f52]; rfl) ?_)
        iterate 2 (refine sq rfl rfl rfl (by simp [go_sem, X, hR1', c0, c1, c2, c3, c4, c5, c6, c7, Try.f52]; rfl) ?_)
        iterate 3 (refine sq rfl rfl (by simp [go_sem, X, hR1', c0, c1, c2, c3, c4, c5, c6, c7, Try.f52]) (by simp [go_sem, X, hR1', c0, c1, c2, c3, c4, c5, c6, c7, Try.f52]; rfl) ?_)
        iterate 2 (refine sq rfl rfl rfl (by simp [go_sem, X, hR1', c0, c1, c2, c3, c4, c5, c6, c7, Try.f52]; rfl) ?_)
        iterate 3 (refine sq rfl rfl (by simp [go_sem, X, hR1', c0, c1, c2, c3, c4, c5, c6, c7, Try.f52]) (by simp [go_sem, X, hR1', c0, c1, c2, c3, c4, c5, c6, c7, Try.f52]; rfl) ?_)
        iterate 2 (refine sq rfl rfl rfl (by simp [go_sem, X, hR1', c0, c1, c2, c3, c4, c5, c6, c7, Try.f52]; rfl) ?_)
        iterate 3 (refine sq rfl rfl (by simp [go_sem, X, hR1', c0, c1, c2, c3, c4, c5, c6, c7, Try.f52]) (by simp [go_sem, X, hR1', c0, c1, c2, c3, c4, c5, c6, c7, Try.f52]; rfl) ?_)
        iterate 2 (refine sq rfl rfl rfl (by simp [go_sem, X, hR1', c0, c1, c2, c3, c4, c5, c6, c7, Try.f52]; rfl) ?_)
        iterate 3 (refine sq rfl rfl (by simp [go_sem, X, hR1', c0, c1, c2, c3, c4, c5, c6, c7, Try.f52]) (by simp [go_sem, X, hR1', c0, c1, c2, c3, c4, c5, c6, c7, Try.f52]; rfl) ?_)
        iterate 2 (refine sq rfl rfl rfl (by simp [go_sem, X, hR1', c0, c1, c2, c3, c4, c5, c6, c7, Try.f52]; rfl) ?_)
        iterate 3 (refine sq rfl rfl (by simp [go_sem, X, hR1', c0, c1, c2, c3, c4, c5, c6, c7, Try.f52]) (by simp [go_sem, X, hR1', c0, c1, c2, c3, c4, c5, c6, c7, Try.f52]; rfl) ?_)
        iterate 2 (refine sq rfl rfl rfl (by simp [go_sem, X, hR1', c0, c1, c2, c3, c4, c5, c6, c7, Try.f52]; rfl) ?_)
        iterate 3 (refine sq rfl rfl (by simp [go_sem, X, hR1', c0, c1, c2, c3, c4, c5, c6, c7, Try.f52]) (by simp [go_sem, X, hR1', c0, c1, c2, c3, c4, c5, c6, c7, Try.f52]; rfl) ?_)
        refine sq rfl rfl rfl (by simp [go_sem, X, hR1', c0, c1, c2, c3, c4, c5, c6, c7, Try.f52]; rfl) ?_
        rfl
      refine ACode.condT (by simp [tget_set, opd]) ?_
      refine ACode.seq (ACode.regS noT_ok names_ok mix (t' := ?_) (L' := ?_) [0, 1] (by rfl) ?_ ?_)
      rotate_left 2
      · iterate 2 (refine sq rfl rfl rfl (by simp [go_sem, X, Try.f52]; rfl) ?_)
        rfl
      refine ACode.ret ?_
      exact ⟨rfl, rfl, rfl, by simp [tget_set], by simp [tget_set]⟩
    omega
  have c0 : ¬ e.r1 < 0 := by omega
  have c1 : ¬ 15 < e.r1 := by omega
  have c2 : ¬ e.r2 < 0 := by omega
  have c3 : ¬ 47 < e.r2 := by omega
  have c4 : ¬ e.r3 < 0 := by omega
  have c5 : ¬ 15 < e.r3 := by omega
  have c6 : ¬ e.r4 < 0 := by omega
  have c7 : ¬ 47 < e.r4 := by omega
  have hX1 := h1.re
  have h2 := h1.put ⟨0, 0, e.t, e.lv, 0, 0, 0, 0, e.w⟩
  have hR2 : (⟨A1.t.set (L.next + 2) (evB (evF ⟨0, 0, e.t, e.lv, 0, 0, 0, 0, e.w⟩)), A1.next⟩ : Heap).t.get A.next = some (rcB e.r1 e.r2 e.r3 e.r4) := by
    show T.get (T.set _ _ _) _ = _
    rw [T.get_set_ne _ _ (by omega)]; exact hR1
  have hn2 : (⟨A1.t.set (L.next + 2) (evB (evF ⟨0, 0, e.t, e.lv, 0, 0, 0, 0, e.w⟩)), A1.next⟩ : Heap).next = A1.next := rfl
  generalize hA2 : (⟨A1.t.set (L.next + 2) (evB (evF ⟨0, 0, e.t, e.lv, 0, 0, 0, 0, e.w⟩)), A1.next⟩ : Heap) = A2 at *
  have hE2 := h2.ev
  have hR2' := hR2
  unfold rcB at hR2'
  have h3 := h2.new (twoB (lowB e.r1) (lowB e.r2))
  have hy3 : (⟨A2.t.set A2.next (twoB (lowB e.r1) (lowB e.r2)), A2.next + 1⟩ : Heap).t.get A2.next = some (twoB (lowB e.r1) (lowB e.r2)) := T.get_set_same _ _ _
  have hR3 : (⟨A2.t.set A2.next (twoB (lowB e.r1) (lowB e.r2)), A2.next + 1⟩ : Heap).t.get A.next = some (rcB e.r1 e.r2 e.r3 e.r4) := by
    show T.get (T.set _ _ _) _ = _
    rw [T.get_set_ne _ _ (by omega)]; exact hR2
  have hn3 : (⟨A2.t.set A2.next (twoB (lowB e.r1) (lowB e.r2)), A2.next + 1⟩ : Heap).next = A2.next + 1 := rfl
  generalize hA3 : (⟨A2.t.set A2.next (twoB (lowB e.r1) (lowB e.r2)), A2.next + 1⟩ : Heap) = A3 at *
  obtain ⟨v4, A4, ap4, h4, hn4, hk4⟩ := h3.app' (twoB_src hy3) (by simp)
  have hR4 : A4.t.get A.next = some (rcB e.r1 e.r2 e.r3 e.r4) := by
    rw [hk4 A.next (by omega) (h3.row.ne_of hR3 (fun c n q => by simp [rcB]))]; exact hR3
  rw [← hA3] at ap4
  unfold twoB at ap4
  have hR4' := hR4
  unfold rcB at hR4'
  have h5 := h4.new (twoB (lowB e.r3) (lowB e.r4))
  have hy5 : (⟨A4.t.set A4.next (twoB (lowB e.r3) (lowB e.r4)), A4.next + 1⟩ : Heap).t.get A4.next = some (twoB (lowB e.r3) (lowB e.r4)) := T.get_set_same _ _ _
  have hR5 : (⟨A4.t.set A4.next (twoB (lowB e.r3) (lowB e.r4)), A4.next + 1⟩ : Heap).t.get A.next = some (rcB e.r1 e.r2 e.r3 e.r4) := by
    show T.get (T.set _ _ _) _ = _
    rw [T.get_set_ne _ _ (by omega)]; exact hR4
  have hn5 : (⟨A4.t.set A4.next (twoB (lowB e.r3) (lowB e.r4)), A4.next + 1⟩ : Heap).next = A4.next + 1 := rfl
  generalize hA5 : (⟨A4.t.set A4.next (twoB (lowB e.r3) (lowB e.r4)), A4.next + 1⟩ : Heap) = A5 at *
  obtain ⟨v6, A6, ap6, h6, hn6, hk6⟩ := h5.app' (twoB_src hy5) (by simp)
  have hR6 : A6.t.get A.next = some (rcB e.r1 e.r2 e.r3 e.r4) := by
    rw [hk6 A.next (by omega) (h5.row.ne_of hR5 (fun c n q => by simp [rcB]))]; exact hR5
  rw [← hA5] at ap6
  unfold twoB at ap6
  have hR6' := hR6
  unfold rcB at hR6'
  obtain ⟨A', v', hfin, hf⟩ := rbytes_fin h6 hr.t (by simp) false
  refine RBy.yes hf ?_ (b := decide ((if false = true then { (⟨0, 0, e.t, e.lv, 0, 0, 0, 0, e.w⟩ : Evt) with t := [] } else ⟨0, 0, e.t, e.lv, 0, 0, 0, 0, e.w⟩) = zeroE) && decide (e.t.length < 64)) ?_ ?_
  rotate_left 1
  · exact mov_eq hk hs hkk (by omega) (by omega) (by omega) (by omega)
  · intro _
    simp [wBytes, wTail, hkk]
  refine hpre _ _ _ fun t t1 t4 t5 t6 => ?_
  show ACode _ _ (Code.seq (Code.seq (Code.region _ _ _) (Code.block 0 _)) _) _ _ _ _
  refine ACode.seq ?_
  have hE' := hE
  simp only [evB, evF] at hE'
  refine ACode.seq (ACode.regS noT_ok names_ok mix (t' := ?_) (L' := ?_) [0, 1] (by rfl) ?_ ?_)
  rotate_left 2
  · iterate 2 (refine sq rfl rfl rfl (by simp [go_sem, X, t1, hE', hkk, Try.f52]; rfl) ?_)
    rfl
  refine ACode.block (ACode.seq ?_)
  refine ACode.seq (ACode.regS noT_ok names_ok mix (t' := ?_) (L' := ?_) [0, 1] (by rfl) ?_ ?_)
  rotate_left 2
  · iterate 2 (refine sq rfl rfl rfl (by simp [go_sem, X, hkk, Try.f52]; rfl) ?_)
    rfl
  refine ACode.condF (by simp [tget_set, opd]) ?_
  refine ACode.regS noT_ok names_ok mix (t' := ?_) (L' := ?_) [0, 1] (by rfl) ?_ ?_
  rotate_left 2
  · iterate 2 (refine sq rfl rfl rfl (by simp [go_sem, X, hkk, Try.f52]; rfl) ?_)
    rfl
  show ACode _ _ _ _ _ _ _
  refine ACode.condF (by simp [tget_set, opd]) ?_
  refine ACode.seq (ACode.regS noT_ok names_ok mix (t' := ?_) (L' := ?_) [0, 1] (by rfl) ?_ ?_)
  rotate_left 2
  · iterate 2 (refine sq rfl rfl rfl (by simp [go_sem, X, hkk, Try.f52]; rfl) ?_)
    rfl
  refine ACode.condF (by simp [tget_set, opd]) ?_
  refine ACode.seq ?_
  refine ACode.seq (ACode.regS noT_ok names_ok mix (t' := ?_) (L' := ?_) [0, 1] (by rfl) ?_ ?_)
  rotate_left 2
  · iterate 2 (refine sq rfl rfl rfl (by simp [go_sem, X, hkk, Try.f52]; rfl) ?_)
    rfl
  refine ACode.condT (by simp [tget_set, opd]) (ACode.skip ?_)
  show ACode _ _ _ _ _ _ _
  refine ACode.condT (by simp [tget_set, opd]) ?_
  refine ACode.seq (ACode.regS noT_ok names_ok mix (t' := ?_) (L' := ?_) [0, 1, 2, 3] (by rfl) ?_ ?_)
  rotate_left 2
  · iterate 4 (refine sq rfl rfl rfl (by simp [go_sem, X, t1, hE', Try.f52]; rfl) ?_)
    rfl
  change ACode _ _ _ _ _ ⟨A.t.set A.next (rcB e.r1 e.r2 e.r3 e.r4), A.next + 1⟩ _
  rw [hA1]
  refine ACode.seq ?_
  refine ACode.seq (ACode.regS noT_ok names_ok mix (t' := ?_) (L' := ?_) [0, 1, 2, 3, 4, 5, 6, 7, 8, 9, 10, 11, 12, 13, 14, 15, 16, 17, 18, 19, 20, 21, 22, 23, 24, 25, 26, 27, 28, 29, 30, 31, 32, 33, 34, 35, 36, 37] (by rfl) ?_ ?_)
  rotate_left 2
  · iterate 4 (refine sq rfl rfl rfl (by simp [go_sem, X, hR1', c0, c1, c2, c3, c4, c5, c6, c7, Try.f52]; rfl) ?_)
    iterate 3 (refine sq rfl rfl (by simp [go_sem, X, hR1', c0, c1, c2, c3, c4, c5, c6, c7, Try.f52]) (by simp [go_sem, X, hR1', c0, c1, c2, c3, c4, c5, c6, c7, Try.f52]; rfl) ?_)
    iterate 2 (refine sq rfl rfl rfl (by simp [go_sem, X, hR1', c0, c1, c2, c3, c4, c5, c6, c7, Try.f52]; rfl) ?_)
    iterate 3 (refine sq rfl rfl (by simp [go_sem, X, hR1', c0, c1, c2, c3, c4, c5, c6, c7, Try.f52]) (by simp [go_sem, X, hR1', c0, c1, c2, c3, c4, c5, c6, c7, Try.f52]; rfl) ?_)
    iterate 2 (refine sq rfl rfl rfl (by simp [go_sem, X, hR1', c0, c1, c2, c3, c4, c5, c6, c7, Try.f52]; rfl) ?_)
    iterate 3 (refine sq rfl rfl (by simp [go_sem, X, hR1', c0, c1, c2, c3, c4, c5, c6, c7, Try.f52]) (by simp [go_sem, X, hR1', c0, c1, c2, c3, c4, c5, c6, c7, Try.f52]; rfl) ?_)
    iterate 2 (refine sq rfl rfl rfl (by simp [go_sem, X, hR1', c0, c1, c2, c3, c4, c5, c6, c7, Try.f52]; rfl) ?_)
    iterate 3 (refine sq rfl rfl (by simp [go_sem, X, hR1', c0, c1, c2, c3, c4, c5, c6, c7, Try.f52]) (by simp [go_sem, X, hR1', c0, c1, c2, c3, c4, c5, c6, c7, Try.f52]; rfl) ?_)
    iterate 2 (refine sq rfl rfl rfl (by simp [go_sem, X, hR1', c0, c1, c2, c3, c4, c5, c6, c7, Try.f52]; rfl) ?_)
    iterate 3 (refine sq rfl rfl (by simp [go_sem, X, hR1', c0, c1, c2, c3, c4, c5, c6, c7, Try.f52]) (by simp [go_sem, X, hR1', c0, c1, c2, c3, c4, c5, c6, c7, Try.f52]; rfl) ?_)
    iterate 2 (refine sq rfl rfl rfl (by simp [go_sem, X, hR1', c0, c1, c2, c3, c4, c5, c6, c7, Try.f52]; rfl) ?_)
    iterate 3 (refine sq rfl rfl (by simp [go_sem, X, hR1', c0, c1, c2, c3, c4, c5, c6, c7, Try.f52]) (by simp [go_sem, X, hR1', c0, c1, c2, c3, c4, c5, c6, c7, Try.f52]; rfl) ?_)
    iterate 2 (refine sq rfl rfl rfl (by simp [go_sem, X, hR1', c0, c1, c2, c3, c4, c5, c6, c7, Try.f52]; rfl) ?_)
    iterate 3 (refine sq rfl rfl (by simp [go_sem, X, hR1', c0, c1, c2, c3, c4, c5, c6, c7, Try.f52]) (by simp [go_sem, X, hR1', c0, c1, c2, c3, c4, c5, c6, c7, Try.f52]; rfl) ?_)
    refine sq rfl rfl rfl (by simp [go_sem, X, hR1', c0, c1, c2, c3, c4, c5, c6, c7, Try.f52]; rfl) ?_
    rfl
  refine ACode.condF (by simp [tget_set, opd]) (ACode.skip ?_)
  show ACode _ _ _ _ _ _ _
  simp only [evB, evF] at hX1 hE2
  refine ACode.seq (ACode.regS noT_ok names_ok mix (t' := ?_) (L' := ?_) [0, 1, 2] (by rfl) ?_ ?_)
  rotate_left 2
  · iterate 3 (refine sq rfl rfl rfl (by simp [go_sem, X, t5, hX1, Try.f52]; rfl) ?_)
    rfl
  change ACode _ _ _ _ _ ⟨A1.t.set (L.next + 2) (evB (evF ⟨0, 0, e.t, e.lv, 0, 0, 0, 0, e.w⟩)), A1.next⟩ _
  rw [hA2]
  refine ACode.seq ?_
  refine ACode.seq (ACode.regS noT_ok names_ok mix (t' := ?_) (L' := ?_) [0, 1, 2] (by rfl) ?_ ?_)
  rotate_left 2
  · iterate 3 (refine sq rfl rfl rfl (by simp [go_sem, X, t1, hE2, hkk, Try.f52]; rfl) ?_)
    rfl
  refine ACode.condT (by simp [tget_set, opd]) ?_
  refine ACode.regS noT_ok names_ok mix (t' := ?_) (L' := ?_) [0, 1, 2, 3, 4, 5, 6, 7, 8, 9] (by rfl) ?_ ?_
  rotate_left 2
  · iterate 10 (refine sq rfl rfl rfl (by simp [go_sem, X, t4, hR2', pi38, lowB_eq, ap4, Try.f52]; rfl) ?_)
    rfl
  show ACode _ _ _ _ _ _ _
  refine ACode.regS noT_ok names_ok mix (t' := ?_) (L' := ?_) [0, 1, 2, 3, 4, 5, 6, 7, 8, 9] (by rfl) ?_ ?_
  rotate_left 2
  · iterate 10 (refine sq rfl rfl rfl (by simp [go_sem, X, hR4', pi38, lowB_eq, ap6, Try.f52]; rfl) ?_)
    rfl
  show ACode _ _ (cSnd sfx52) _ _ _ _
  exact hfin _ (by simp [tget_set, t1]) (by simp [tget_set]) (by simp [tget_set, t5]) (by simp [tget_set, t6])
theorem rbytes_k6 (hk : 0 ≤ e.k ∧ e.k ≤ 8) (hs : 0 ≤ e.s ∧ e.s ≤ 4) (hr : EvR e) (hkk : e.k = 6) : RBy L e := by
  obtain ⟨A, h0, hpre⟩ := rbytes_pre L e hk hs
  have hE := h0.ev
  have hX := h0.re
  have hn0 := h0.nx
  have h1 := h0.new (rcB e.r1 e.r2 e.r3 e.r4)
  have hR1 : (⟨A.t.set A.next (rcB e.r1 e.r2 e.r3 e.r4), A.next + 1⟩ : Heap).t.get A.next = some (rcB e.r1 e.r2 e.r3 e.r4) := T.get_set_same _ _ _
  have hn1 : (⟨A.t.set A.next (rcB e.r1 e.r2 e.r3 e.r4), A.next + 1⟩ : Heap).next = A.next + 1 := rfl
  generalize hA1 : (⟨A.t.set A.next (rcB e.r1 e.r2 e.r3 e.r4), A.next + 1⟩ : Heap) = A1 at *
  have hR1' := hR1
  unfold rcB at hR1'
  by_cases hb : e.r1 < 0 ∨ 15 < e.r1 ∨ e.r2 < 0 ∨ 47 < e.r2 ∨ e.r3 < 0 ∨ 15 < e.r3 ∨ e.r4 < 0 ∨ 47 < e.r4
  ·
    refine RBy.no (rect_bad (by omega) (by omega)) ?_ h1.keep h1.old
    refine hpre _ _ _ fun t t1 t4 t5 t6 => ?_
    show ACode _ _ (Code.seq (Code.seq (Code.region _ _ _) (Code.block 0 _)) _) _ _ _ _
    refine ACode.seq ?_
    have hE' := hE
    simp only [evB, evF] at hE'
    refine ACode.seq (ACode.regS noT_ok names_ok mix (t' := ?_) (L' := ?_) [0, 1] (by rfl) ?_ ?_)
    rotate_left 2
    · iterate 2 (refine sq rfl rfl rfl (by simp [go_sem, X, t1, hE', hkk, Try.f52]; rfl) ?_)
      rfl
    refine ACode.block (ACode.seq ?_)
    refine ACode.seq (ACode.regS noT_ok names_ok mix (t' := ?_) (L' := ?_) [0, 1] (by rfl) ?_ ?_)
    rotate_left 2
    · iterate 2 (refine sq rfl rfl rfl (by simp [go_sem, X, hkk, Try.f52]; rfl) ?_)
      rfl
    refine ACode.condF (by simp [tget_set, opd]) ?_
    refine ACode.regS noT_ok names_ok mix (t' := ?_) (L' := ?_) [0, 1] (by rfl) ?_ ?_
    rotate_left 2
    · iterate 2 (refine sq rfl rfl rfl (by simp [go_sem, X, hkk, Try.f52]; rfl) ?_)
      rfl
    show ACode _ _ _ _ _ _ _
    refine ACode.condF (by simp [tget_set, opd]) ?_
    refine ACode.seq (ACode.regS noT_ok names_ok mix (t' := ?_) (L' := ?_) [0, 1] (by rfl) ?_ ?_)
    rotate_left 2
    · iterate 2 (refine sq rfl rfl rfl (by simp [go_sem, X, hkk, Try.f52]; rfl) ?_)
      rfl
    refine ACode.condF (by simp [tget_set, opd]) ?_
    refine ACode.seq ?_
    refine ACode.seq (ACode.regS noT_ok names_ok mix (t' := ?_) (L' := ?_) [0, 1] (by rfl) ?_ ?_)
    rotate_left 2
    · iterate 2 (refine sq rfl rfl rfl (by simp [go_sem, X, hkk, Try.f52]; rfl) ?_)
      rfl
    refine ACode.condF (by simp [tget_set, opd]) ?_
    refine ACode.regS noT_ok names_ok mix (t' := ?_) (L' := ?_) [0, 1] (by rfl) ?_ ?_
    rotate_left 2
    · iterate 2 (refine sq rfl rfl rfl (by simp [go_sem, X, hkk, Try.f52]; rfl) ?_)
      rfl
    show ACode _ _ _ _ _ _ _
    refine ACode.condT (by simp [tget_set, opd]) ?_
    refine ACode.seq (ACode.regS noT_ok names_ok mix (t' := ?_) (L' := ?_) [0, 1, 2, 3] (by rfl) ?_ ?_)
    rotate_left 2
    · iterate 4 (refine sq rfl rfl rfl (by simp [go_sem, X, t1, hE', Try.f52]; rfl) ?_)
      rfl
    change ACode _ _ _ _ _ ⟨A.t.set A.next (rcB e.r1 e.r2 e.r3 e.r4), A.next + 1⟩ _
    rw [hA1]
    refine ACode.seq ?_
    by_cases c0 : e.r1 < 0
    ·
      refine ACode.seq (ACode.regS noT_ok names_ok mix (t' := ?_) (L' := ?_) [0, 1, 2, 3, 4, 5, 6, 7, 8, 9, 10, 11, 12, 13, 14, 15, 16, 17, 18, 19, 20, 21, 22, 23, 24, 25, 26, 27, 28, 29, 30, 31, 32, 33, 34, 35, 36, 37] (by rfl) ?_ ?_)
      rotate_left 2
      · iterate 4 (refine sq rfl rfl rfl (by simp [go_sem, X, hR1', c0, Try.f52]; rfl) ?_)
        iterate 3 (refine sk rfl rfl (by simp [go_sem, X, hR1', c0, Try.f52]) ?_)
        iterate 2 (refine sq rfl rfl rfl (by simp [go_sem, X, hR1', c0, Try.f52]; rfl) ?_)
        iterate 3 (refine sk rfl rfl (by simp [go_sem, X, hR1', c0, Try.f52]) ?_)
        iterate 2 (refine sq rfl rfl rfl (by simp [go_sem, X, hR1', c0, Try.f52]; rfl) ?_)
        iterate 3 (refine sk rfl rfl (by simp [go_sem, X, hR1', c0, Try.f52]) ?_)
        iterate 2 (refine sq rfl rfl rfl (by simp [go_sem, X, hR1', c0, Try.f52]; rfl) ?_)
        iterate 3 (refine sk rfl rfl (by simp [go_sem, X, hR1', c0, Try.f52]) ?_)
        iterate 2 (refine sq rfl rfl rfl (by simp [go_sem, X, hR1', c0, Try.f52]; rfl) ?_)
        iterate 3 (refine sk rfl rfl (by simp [go_sem, X, hR1', c0, Try.f52]) ?_)
        iterate 2 (refine sq rfl rfl rfl (by simp [go_sem, X, hR1', c0, Try.f52]; rfl) ?_)
        iterate 3 (refine sk rfl rfl (by simp [go_sem, X, hR1', c0, Try.f52]) ?_)
        iterate 2 (refine sq rfl rfl rfl (by simp [go_sem, X, hR1', c0, Try.f52]; rfl) ?_)
        iterate 3 (refine sk rfl rfl (by simp [go_sem, X, hR1', c0, Try.f52]) ?_)
        refine sq rfl rfl rfl (by simp [go_sem, X, hR1', c0, Try.f52]; rfl) ?_
        rfl
      refine ACode.condT (by simp [tget_set, opd]) ?_
      refine ACode.seq (ACode.regS noT_ok names_ok mix (t' := ?_) (L' := ?_) [0, 1] (by rfl) ?_ ?_)
      rotate_left 2
      · iterate 2 (refine sq rfl rfl rfl (by simp [go_sem, X, Try.f52]; rfl) ?_)
        rfl
      refine ACode.ret ?_
      exact ⟨rfl, rfl, rfl, by simp [tget_set], by simp [tget_set]⟩
    by_cases c1 : 15 < e.r1
    ·
      refine ACode.seq (ACode.regS noT_ok names_ok mix (t' := ?_) (L' := ?_) [0, 1, 2, 3, 4, 5, 6, 7, 8, 9, 10, 11, 12, 13, 14, 15, 16, 17, 18, 19, 20, 21, 22, 23, 24, 25, 26, 27, 28, 29, 30, 31, 32, 33, 34, 35, 36, 37] (by rfl) ?_ ?_)
      rotate_left 2
      · iterate 4 (refine sq rfl rfl rfl (by simp [go_sem, X, hR1', c0, c1, Try.f52]; rfl) ?_)
        iterate 3 (refine sq rfl rfl (by simp [go_sem, X, hR1', c0, c1, Try.f52]) (by simp [go_sem, X, hR1', c0, c1, Try.f52]; rfl) ?_)
        iterate 2 (refine sq rfl rfl rfl (by simp [go_sem, X, hR1', c0, c1, Try.f52]; rfl) ?_)
        iterate 3 (refine sk rfl rfl (by simp [go_sem, X, hR1', c0, c1, Try.f52]) ?_)
        iterate 2 (refine sq rfl rfl rfl (by simp [go_sem, X, hR1', c0, c1, Try.f52]; rfl) ?_)
        iterate 3 (refine sk rfl rfl (by simp [go_sem, X, hR1', c0, c1, Try.f52]) ?_)
        iterate 2 (refine sq rfl rfl rfl (by simp [go_sem, X, hR1', c0, c1, Try.f52]; rfl) ?_)
        iterate 3 (refine sk rfl rfl (by simp [go_sem, X, hR1', c0, c1, Try.f52]) ?_)
        iterate 2 (refine sq rfl rfl rfl (by simp [go_sem, X, hR1', c0, c1, Try.f52]; rfl) ?_)
        iterate 3 (refine sk rfl rfl (by simp [go_sem, X, hR1', c0, c1, Try.f52]) ?_)
        iterate 2 (refine sq rfl rfl rfl (by simp [go_sem, X, hR1', c0, c1, Try.f52]; rfl) ?_)
        iterate 3 (refine sk rfl rfl (by simp [go_sem, X, hR1', c0, c1, Try.f52]) ?_)
        iterate 2 (refine sq rfl rfl rfl (by simp [go_sem, X, hR1', c0, c1, Try.f52]; rfl) ?_)
        iterate 3 (refine sk rfl rfl (by simp [go_sem, X, hR1', c0, c1, Try.f52]) ?_)
        refine sq rfl rfl rfl (by simp [go_sem, X, hR1', c0, c1, Try.f52]; rfl) ?_
        rfl
      refine ACode.condT (by simp [tget_set, opd]) ?_
      refine ACode.seq (ACode.regS noT_ok names_ok mix (t' := ?_) (L' := ?_) [0, 1] (by rfl) ?_ ?_)
      rotate_left 2
      · iterate 2 (refine sq rfl rfl rfl (by simp [go_sem, X, Try.f52]; rfl) ?_)
        rfl
      refine ACode.ret ?_
      exact ⟨rfl, rfl, rfl, by simp [tget_set], by simp [tget_set]⟩
    by_cases c2 : e.r2 < 0
    ·
      refine ACode.seq (ACode.regS noT_ok names_ok mix (t' := ?_) (L' := ?_) [0, 1, 2, 3, 4, 5, 6, 7, 8, 9, 10, 11, 12, 13, 14, 15, 16, 17, 18, 19, 20, 21, 22, 23, 24, 25, 26, 27, 28, 29, 30, 31, 32, 33, 34, 35, 36, 37] (by rfl) ?_ ?_)
      rotate_left 2
      · iterate 4 (refine sq rfl rfl rfl (by simp [go_sem, X, hR1', c0, c1, c2, Try.f52]; rfl) ?_)
        iterate 3 (refine sq rfl rfl (by simp [go_sem, X, hR1', c0, c1, c2, Try.f52]) (by simp [go_sem, X, hR1', c0, c1, c2, Try.f52]; rfl) ?_)
        iterate 2 (refine sq rfl rfl rfl (by simp [go_sem, X, hR1', c0, c1, c2, Try.f52]; rfl) ?_)
        iterate 3 (refine sq rfl rfl (by simp [go_sem, X, hR1', c0, c1, c2, Try.f52]) (by simp [go_sem, X, hR1', c0, c1, c2, Try.f52]; rfl) ?_)
        iterate 2 (refine sq rfl rfl rfl (by simp [go_sem, X, hR1', c0, c1, c2, Try.f52]; rfl) ?_)
        iterate 3 (refine sk rfl rfl (by simp [go_sem, X, hR1', c0, c1, c2, Try.f52]) ?_)
        iterate 2 (refine sq rfl rfl rfl (by simp [go_sem, X, hR1', c0, c1, c2, Try.f52]; rfl) ?_)
        iterate 3 (refine sk rfl rfl (by simp [go_sem, X, hR1', c0, c1, c2, Try.f52]) ?_)
        iterate 2 (refine sq rfl rfl rfl (by simp [go_sem, X, hR1', c0, c1, c2, Try.f52]; rfl) ?_)
        iterate 3 (refine sk rfl rfl (by simp [go_sem, X, hR1', c0, c1, c2, Try.f52]) ?_)
        iterate 2 (refine sq rfl rfl rfl (by simp [go_sem, X, hR1', c0, c1, c2, Try.f52]; rfl) ?_)
        iterate 3 (refine sk rfl rfl (by simp [go_sem, X, hR1', c0, c1, c2, Try.f52]) ?_)
        iterate 2 (refine sq rfl rfl rfl (by simp [go_sem, X, hR1', c0, c1, c2, Try.f52]; rfl) ?_)
        iterate 3 (refine sk rfl rfl (by simp [go_sem, X, hR1', c0, c1, c2, Try.f52]) ?_)
        refine sq rfl rfl rfl (by simp [go_sem, X, hR1', c0, c1, c2, Try.f52]; rfl) ?_
        rfl
      refine ACode.condT (by simp [tget_set, opd]) ?_
      refine ACode.seq (ACode.regS noT_ok names_ok mix (t' := ?_) (L' := ?_) [0, 1] (by rfl) ?_ ?_)
      rotate_left 2
      · iterate 2 (refine sq rfl rfl rfl (by simp [go_sem, X, Try.f52]; rfl) ?_)
        rfl
      refine ACode.ret ?_
      exact ⟨rfl, rfl, rfl, by simp [tget_set], by simp [tget_set]⟩
    by_cases c3 : 47 < e.r2
    ·
      refine ACode.seq (ACode.regS noT_ok names_ok mix (t' := ?_) (L' := ?_) [0, 1, 2, 3, 4, 5, 6, 7, 8, 9, 10, 11, 12, 13, 14, 15, 16, 17, 18, 19, 20, 21, 22, 23, 24, 25, 26, 27, 28, 29, 30, 31, 32, 33, 34, 35, 36, 37] (by rfl) ?_ ?_)
      rotate_left 2
      · iterate 4 (refine sq rfl rfl rfl (by simp [go_sem, X, hR1', c0, c1, c2, c3, Try.f52]; rfl) ?_)
        iterate 3 (refine sq rfl rfl (by simp [go_sem, X, hR1', c0, c1, c2, c3, Try.f52]) (by simp [go_sem, X, hR1', c0, c1, c2, c3, Try.f52]; rfl) ?_)
        iterate 2 (refine sq rfl rfl rfl (by simp [go_sem, X, hR1', c0, c1, c2, c3, Try.f52]; rfl) ?_)
        iterate 3 (refine sq rfl rfl (by simp [go_sem, X, hR1', c0, c1, c2, c3, Try.f52]) (by simp [go_sem, X, hR1', c0, c1, c2, c3, Try.f52]; rfl) ?_)
        iterate 2 (refine sq rfl rfl rfl (by simp [go_sem, X, hR1', c0, c1, c2, c3, Try.f52]; rfl) ?_)
        iterate 3 (refine sq rfl rfl (by simp [go_sem, X, hR1', c0, c1, c2, c3, Try.f52]) (by simp [go_sem, X, hR1', c0, c1, c2, c3, Try.f52]; rfl) ?_)
        iterate 2 (refine sq rfl rfl rfl (by simp [go_sem, X, hR1', c0, c1, c2, c3, Try.f52]; rfl) ?_)
        iterate 3 (refine sk rfl rfl (by simp [go_sem, X, hR1', c0, c1, c2, c3, Try.f52]) ?_)
        iterate 2 (refine sq rfl rfl rfl (by simp [go_sem, X, hR1', c0, c1, c2, c3, Try.f52]; rfl) ?_)
        iterate 3 (refine sk rfl rfl (by simp [go_sem, X, hR1', c0, c1, c2, c3, Try.f52]) ?_)
        iterate 2 (refine sq rfl rfl rfl (by simp [go_sem, X, hR1', c0, c1, c2, c3, Try.f52]; rfl) ?_)
        iterate 3 (refine sk rfl rfl (by simp [go_sem, X, hR1', c0, c1, c2, c3, Try.f52]) ?_)
        iterate 2 (refine sq rfl rfl rfl (by simp [go_sem, X, hR1', c0, c1, c2, c3, Try.f52]; rfl) ?_)
        iterate 3 (refine sk rfl rfl (by simp [go_sem, X, hR1', c0, c1, c2, c3, Try.f52]) ?_)
        refine sq rfl rfl rfl (by simp [go_sem, X, hR1', c0, c1, c2, c3, Try.f52]; rfl) ?_
        rfl
      refine ACode.condT (by simp [tget_set, opd]) ?_
      refine ACode.seq (ACode.regS noT_ok names_ok mix (t' := ?_) (L' := ?_) [0, 1] (by rfl) ?_ ?_)
      rotate_left 2
      · iterate 2 (refine sq rfl rfl rfl (by simp [go_sem, X, Try.f52]; rfl) ?_)
        rfl
      refine ACode.ret ?_
      exact ⟨rfl, rfl, rfl, by simp [tget_set], by simp [tget_set]⟩
    by_cases c4 : e.r3 < 0
    ·
      refine ACode.seq (ACode.regS noT_ok names_ok mix (t' := ?_) (L' := ?_) [0, 1, 2, 3, 4, 5, 6, 7, 8, 9, 10, 11, 12, 13, 14, 15, 16, 17, 18, 19, 20, 21, 22, 23, 24, 25, 26, 27, 28, 29, 30, 31, 32, 33, 34, 35, 36, 37] (by rfl) ?_ ?_)
      rotate_left 2
      · iterate 4 (refine sq rfl rfl rfl (by simp [go_sem, X, hR1', c0, c1, c2, c3, c4, Try.f52]; rfl) ?_)
        iterate 3 (refine sq rfl rfl (by simp [go_sem, X, hR1', c0, c1, c2, c3, c4, Try.f52]) (by simp [go_sem, X, hR1', c0, c1, c2, c3, c4, Try.f52]; rfl) ?_)
        iterate 2 (refine sq rfl rfl rfl (by simp [go_sem, X, hR1', c0, c1, c2, c3, c4, Try.f52]; rfl) ?_)
        iterate 3 (refine sq rfl rfl (by simp [go_sem, X, hR1', c0, c1, c2, c3, c4, Try.f52]) (by simp [go_sem, X, hR1', c0, c1, c2, c3, c4, Try.f52]; rfl) ?_)
        iterate 2 (refine sq rfl rfl rfl (by simp [go_sem, X, hR1', c0, c1, c2, c3, c4, Try.f52]; rfl) ?_)
        iterate 3 (refine sq rfl rfl (by simp [go_sem, X, hR1', c0, c1, c2, c3, c4, Try.f52]) (by simp [go_sem, X, hR1', c0, c1, c2, c3, c4, Try.f52]; rfl) ?_)
        iterate 2 (refine sq rfl rfl rfl (by simp [go_sem, X, hR1', c0, c1, c2, c3, c4, Try.f52]; rfl) ?_)
        iterate 3 (refine sq rfl rfl (by simp [go_sem, X, hR1', c0, c1, c2, c3, c4, Try.f52]) (by simp [go_sem, X, hR1', c0, c1, c2, c3, c4, Try.f52]; rfl) ?_)
        iterate 2 (refine sq rfl rfl rfl (by simp [go_sem, X, hR1', c0, c1, c2, c3, c4, Try.f52]; rfl) ?_)
        iterate 3 (refine sk rfl rfl (by simp [go_sem, X, hR1', c0, c1, c2, c3, c4, Try.f52]) ?_)
        iterate 2 (refine sq rfl rfl rfl (by simp [go_sem, X, hR1', c0, c1, c2, c3, c4, Try.f52]; rfl) ?_)
        iterate 3 (refine sk rfl rfl (by simp [go_sem, X, hR1', c0, c1, c2, c3, c4, Try.f52]) ?_)
        iterate 2 (refine sq rfl rfl rfl (by simp [go_sem, X, hR1', c0, c1, c2, c3, c4, Try.f52]; rfl) ?_)
        iterate 3 (refine sk rfl rfl (by simp [go_sem, X, hR1', c0, c1, c2, c3, c4, Try.f52]) ?_)
        refine sq rfl rfl rfl (by simp [go_sem, X, hR1', c0, c1, c2, c3, c4, Try.f52]; rfl) ?_
        rfl
      refine ACode.condT (by simp [tget_set, opd]) ?_
      refine ACode.seq (ACode.regS noT_ok names_ok mix (t' := ?_) (L' := ?_) [0, 1] (by rfl) ?_ ?_)
      rotate_left 2
      · iterate 2 (refine sq rfl rfl rfl (by simp [go_sem, X, Try.f52]; rfl) ?_)
        rfl
      refine ACode.ret ?_
      exact ⟨rfl, rfl, rfl, by simp [tget_set], by simp [tget_set]⟩
    by_cases c5 : 15 < e.r3
    ·
      refine ACode.seq (ACode.regS noT_ok names_ok mix (t' := ?_) (L' := ?_) [0, 1, 2, 3, 4, 5, 6, 7, 8, 9, 10, 11, 12, 13, 14, 15, 16, 17, 18, 19, 20, 21, 22, 23, 24, 25, 26, 27, 28, 29, 30, 31, 32, 33, 34, 35, 36, 37] (by rfl) ?_ ?_)
      rotate_left 2
      · iterate 4 (refine sq rfl rfl rfl (by simp [go_sem, X, hR1', c0, c1, c2, c3, c4, c5, Try.f52]; rfl) ?_)
        iterate 3 (refine sq rfl rfl (by simp [go_sem, X, hR1', c0, c1, c2, c3, c4, c5, Try.f52]) (by simp [go_sem, X, hR1', c0, c1, c2, c3, c4, c5, Try.f52]; rfl) ?_)
        iterate 2 (refine sq rfl rfl rfl (by simp [go_sem, X, hR1', c0, c1, c2, c3, c4, c5, Try.f52]; rfl) ?_)
        iterate 3 (refine sq rfl rfl (by simp [go_sem, X, hR1', c0, c1, c2, c3, c4, c5, Try.f52]) (by simp [go_sem, X, hR1', c0, c1, c2, c3, c4, c5, Try.f52]; rfl) ?_)
        iterate 2 (refine sq rfl rfl rfl (by simp [go_sem, X, hR1', c0, c1, c2, c3, c4, c5, Try.f52]; rfl) ?_)
        iterate 3 (refine sq rfl rfl (by simp [go_sem, X, hR1', c0, c1, c2, c3, c4, c5, Try.f52]) (by simp [go_sem, X, hR1', c0, c1, c2, c3, c4, c5, Try.f52]; rfl) ?_)
        iterate 2 (refine sq rfl rfl rfl (by simp [go_sem, X, hR1', c0, c1, c2, c3, c4, c5, Try.f52]; rfl) ?_)
        iterate 3 (refine sq rfl rfl (by simp [go_sem, X, hR1', c0, c1, c2, c3, c4, c5, Try.f52]) (by simp [go_sem, X, hR1', c0, c1, c2, c3, c4, c5, Try.f52]; rfl) ?_)
        iterate 2 (refine sq rfl rfl rfl (by simp [go_sem, X, hR1', c0, c1, c2, c3, c4, c5, Try.f52]; rfl) ?_)
        iterate 3 (refine sq rfl rfl (by simp [go_sem, X, hR1', c0, c1, c2, c3, c4, c5, Try.f52]) (by simp [go_sem, X, hR1', c0, c1, c2, c3, c4, c5, Try.f52]; rfl) ?_)
        iterate 2 (refine sq rfl rfl rfl (by simp [go_sem, X, hR1', c0, c1, c2, c3, c4, c5, Try.f52]; rfl) ?_)
        iterate 3 (refine sk rfl rfl (by simp [go_sem, X, hR1', c0, c1, c2, c3, c4, c5, Try.f52]) ?_)
        iterate 2 (refine sq rfl rfl rfl (by simp [go_sem, X, hR1', c0, c1, c2, c3, c4, c5, Try.f52]; rfl) ?_)
        iterate 3 (refine sk rfl rfl (by simp [go_sem, X, hR1', c0, c1, c2, c3, c4, c5, Try.f52]) ?_)
        refine sq rfl rfl rfl (by simp [go_sem, X, hR1', c0, c1, c2, c3, c4, c5, Try.f52]; rfl) ?_
        rfl
      refine ACode.condT (by simp [tget_set, opd]) ?_
      refine ACode.seq (ACode.regS noT_ok names_ok mix (t' := ?_) (L' := ?_) [0, 1] (by rfl) ?_ ?_)
      rotate_left 2
      · iterate 2 (refine sq rfl rfl rfl (by simp [go_sem, X, Try.f52]; rfl) ?_)
        rfl
      refine ACode.ret ?_
      exact ⟨rfl, rfl, rfl, by simp [tget_set], by simp [tget_set]⟩
    by_cases c6 : e.r4 < 0
    ·
      refine ACode.seq (ACode.regS noT_ok names_ok mix (t' := ?_) (L' := ?_) [0, 1, 2, 3, 4, 5, 6, 7, 8, 9, 10, 11, 12, 13, 14, 15, 16, 17, 18, 19, 20, 21, 22, 23, 24, 25, 26, 27, 28, 29, 30, 31, 32, 33, 34, 35, 36, 37] (by rfl) ?_ ?_)
      rotate_left 2
      · iterate 4 (refine sq rfl rfl rfl (by simp [go_sem, X, hR1', c0, c1, c2, c3, c4, c5, c6, Try.f52]; rfl) ?_)
        iterate 3 (refine sq rfl rfl (by simp [go_sem, X, hR1', c0, c1, c2, c3, c4, c5, c6, Try.f52]) (by simp [go_sem, X, hR1', c0, c1, c2, c3, c4, c5, c6, Try.f52]; rfl) ?_)
        iterate 2 (refine sq rfl rfl rfl (by simp [go_sem, X, hR1', c0, c1, c2, c3, c4, c5, c6, Try.f52]; rfl) ?_)
        iterate 3 (refine sq rfl rfl (by simp [go_sem, X, hR1', c0, c1, c2, c3, c4, c5, c6, Try.f52]) (by simp [go_sem, X, hR1', c0, c1, c2, c3, c4, c5, c6, Try.f52]; rfl) ?_)
        iterate 2 (refine sq rfl rfl rfl (by simp [go_sem, X, hR1', c0, c1, c2, c3, c4, c5, c6, Try.f52]; rfl) ?_)
        iterate 3 (refine sq rfl rfl (by simp [go_sem, X, hR1', c0, c1, c2, c3, c4, c5, c6, Try.f52]) (by simp [go_sem, X, hR1', c0, c1, c2, c3, c4, c5, c6, Try.f52]; rfl) ?_)
        iterate 2 (refine sq rfl rfl rfl (by simp [go_sem, X, hR1', c0, c1, c2, c3, c4, c5, c6, Try.f52]; rfl) ?_)
        iterate 3 (refine sq rfl rfl (by simp [go_sem, X, hR1', c0, c1, c2, c3, c4, c5, c6, Try.f52]) (by simp [go_sem, X, hR1', c0, c1, c2, c3, c4, c5, c6, Try.f52]; rfl) ?_)
        iterate 2 (refine sq rfl rfl rfl (by simp [go_sem, X, hR1', c0, c1, c2, c3, c4, c5, c6, Try.f52]; rfl) ?_)
        iterate 3 (refine sq rfl rfl (by simp [go_sem, X, hR1', c0, c1, c2, c3, c4, c5, c6, Try.f52]) (by simp [go_sem, X, hR1', c0, c1, c2, c3, c4, c5, c6, Try.f52]; rfl) ?_)
        iterate 2 (refine sq rfl rfl rfl (by simp [go_sem, X, hR1', c0, c1, c2, c3, c4, c5, c6, Try.f52]; rfl) ?_)
        iterate 3 (refine sq rfl rfl (by simp [go_sem, X, hR1', c0, c1, c2, c3, c4, c5, c6, Try.f52]) (by simp [go_sem, X, hR1', c0, c1, c2, c3, c4, c5, c6, Try.f52]; rfl) ?_)
        iterate 2 (refine sq rfl rfl rfl (by simp [go_sem, X, hR1', c0, c1, c2, c3, c4, c5, c6, Try.f52]; rfl) ?_)
        iterate 3 (refine sk rfl rfl (by simp [go_sem, X, hR1', c0, c1, c2, c3, c4, c5, c6, Try.f52]) ?_)
        refine sq rfl rfl rfl (by simp [go_sem, X, hR1', c0, c1, c2, c3, c4, c5, c6, Try.f52]; rfl) ?_
        rfl
      refine ACode.condT (by simp [tget_set, opd]) ?_
      refine ACode.seq (ACode.regS noT_ok names_ok mix (t' := ?_) (L' := ?_) [0, 1] (by rfl) ?_ ?_)
      rotate_left 2
      · iterate 2 (refine sq rfl rfl rfl (by simp [go_sem, X, Try.f52]; rfl) ?_)
        rfl
      refine ACode.ret ?_
      exact ⟨rfl, rfl, rfl, by simp [tget_set], by simp [tget_set]⟩
    by_cases c7 : 47 < e.r4
    ·
      refine ACode.seq (ACode.regS noT_ok names_ok mix (t' := ?_) (L' := ?_) [0, 1, 2, 3, 4, 5, 6, 7, 8, 9, 10, 11, 12, 13, 14, 15, 16, 17, 18, 19, 20, 21, 22, 23, 24, 25, 26, 27, 28, 29, 30, 31, 32, 33, 34, 35, 36, 37] (by rfl) ?_ ?_)
      rotate_left 2
      · iterate 4 (refine sq rfl rfl rfl (by simp [go_sem, X, hR1', c0, c1, c2, c3, c4, c5, c6, c7, Try.f52]; rfl) ?_)
        iterate 3 (refine sq rfl rfl (by simp [go_sem, X, hR1', c0, c1, c2, c3, c4, c5, c6, c7, Try.f52]) (by simp [go_sem, X, hR1', c0, c1, c2, c3, c4, c5, c6, c7, Try.f52]; rfl) ?_)
        iterate 2 (refine sq rfl rfl rfl (by simp [go_sem, X, hR1', c0, c1, c2, c3, c4, c5, c6, c7, Try.f52]; rfl) ?_)
        iterate 3 (refine sq rfl rfl (by simp [go_sem, X, hR1', c0, c1, c2, c3, c4, c5, c6, c7, Try.f52]) (by simp [go_sem, X, hR1', c0, c1, c2, c3, c4, c5, c6, c7, Try.f52]; rfl) ?_)
        iterate 2 (refine sq rfl rfl rfl (by simp [go_sem, X, hR1', c0, c1, c2, c3, c4, c5, c6, c7, Try.f52]; rfl) ?_)
        iterate 3 (refine sq rfl rfl (by simp [go_sem, X, hR1', c0, c1, c2, c3, c4, c5, c6, c7, Try.f52]) (by simp [go_sem, X, hR1', c0, c1, c2, c3, c4, c5, c6, c7, Try.f52]; rfl) ?_)
        iterate 2 (refine sq rfl rfl rfl (by simp [go_sem, X, hR1', c0, c1, c2, c3, c4, c5, c6, c7, Try.f52]; rfl) ?_)
        iterate 3 (refine sq rfl rfl (by simp [go_sem, X, hR1', c0, c1, c2, c3, c4, c5, c6, c7, Try.f52]) (by simp [go_sem, X, hR1', c0, c1, c2, c3, c4, c5, c6, c7, Try.f52]; rfl) ?_)
        iterate 2 (refine sq rfl rfl rfl (by simp [go_sem, X, hR1', c0, c1, c2, c3, c4, c5, c6, c7, Try.f52]; rfl) ?_)
        iterate 3 (refine sq rfl rfl (by simp [go_sem, X, hR1', c0, c1, c2, c3, c4, c5, c6, c7, Try.f52]) (by simp [go_sem, X, hR1', c0, c1, c2, c3, c4, c5, c6, c7, Try.f52]; rfl) ?_)
        iterate 2 (refine sq rfl rfl rfl (by simp [go_sem, X, hR1', c0, c1, c2, c3, c4, c5, c6, c7, Try.f52]; rfl) ?_)
        iterate 3 (refine sq rfl rfl (by simp [go_sem, X, hR1', c0, c1, c2, c3, c4, c5, c6, c7, Try.f52]) (by simp [go_sem, X, hR1', c0, c1, c2, c3, c4, c5, c6, c7, Try.f52]; rfl) ?_)
        iterate 2 (refine sq rfl rfl rfl (by simp [go_sem, X, hR1', c0, c1, c2, c3, c4, c5, c6, c7, Try.f52]; rfl) ?_)
        iterate 3 (refine sq rfl rfl (by simp [go_sem, X, hR1', c0, c1, c2, c3, c4, c5, c6, c7, Try.f52]) (by simp [go_sem, X, hR1', c0, c1, c2, c3, c4, c5, c6, c7, Try.f52]; rfl) ?_)
        refine sq rfl rfl rfl (by simp [go_sem, X, hR1', c0, c1, c2, c3, c4, c5, c6, c7, Try.f52]; rfl) ?_
        rfl
      refine ACode.condT (by simp [tget_set, opd]) ?_
      refine ACode.seq (ACode.regS noT_ok names_ok mix (t' := ?_) (L' := ?_) [0, 1] (by rfl) ?_ ?_)
      rotate_left 2
      · iterate 2 (refine sq rfl rfl rfl (by simp [go_sem, X, Try.f52]; rfl) ?_)
        rfl
      refine ACode.ret ?_
      exact ⟨rfl, rfl, rfl, by simp [tget_set], by simp [tget_set]⟩
    omega
  have c0 : ¬ e.r1 < 0 := by omega
  have c1 : ¬ 15 < e.r1 := by omega
  have c2 : ¬ e.r2 < 0 := by omega
  have c3 : ¬ 47 < e.r2 := by omega
  have c4 : ¬ e.r3 < 0 := by omega
  have c5 : ¬ 15 < e.r3 := by omega
  have c6 : ¬ e.r4 < 0 := by omega
  have c7 : ¬ 47 < e.r4 := by omega
  have hX1 := h1.re
  have h2 := h1.put ⟨0, 0, e.t, e.lv, 0, 0, 0, 0, e.w⟩
  have hR2 : (⟨A1.t.set (L.next + 2) (evB (evF ⟨0, 0, e.t, e.lv, 0, 0, 0, 0, e.w⟩)), A1.next⟩ : Heap).t.get A.next = some (rcB e.r1 e.r2 e.r3 e.r4) := by
    show T.get (T.set _ _ _) _ = _
    rw [T.get_set_ne _ _ (by omega)]; exact hR1
  have hn2 : (⟨A1.t.set (L.next + 2) (evB (evF ⟨0, 0, e.t, e.lv, 0, 0, 0, 0, e.w⟩)), A1.next⟩ : Heap).next = A1.next := rfl
  generalize hA2 : (⟨A1.t.set (L.next + 2) (evB (evF ⟨0, 0, e.t, e.lv, 0, 0, 0, 0, e.w⟩)), A1.next⟩ : Heap) = A2 at *
  have hE2 := h2.ev
  have hR2' := hR2
  unfold rcB at hR2'
  by_cases hz : e.r1 ≠ 0 ∨ e.r2 ≠ 0
  ·
    refine RBy.no (rect_bad (by omega) (by omega)) ?_ h2.keep h2.old
    refine hpre _ _ _ fun t t1 t4 t5 t6 => ?_
    show ACode _ _ (Code.seq (Code.seq (Code.region _ _ _) (Code.block 0 _)) _) _ _ _ _
    refine ACode.seq ?_
    have hE' := hE
    simp only [evB, evF] at hE'
    refine ACode.seq (ACode.regS noT_ok names_ok mix (t' := ?_) (L' := ?_) [0, 1] (by rfl) ?_ ?_)
    rotate_left 2
    · iterate 2 (refine sq rfl rfl rfl (by simp [go_sem, X, t1, hE', hkk, Try.f52]; rfl) ?_)
      rfl
    refine ACode.block (ACode.seq ?_)
    refine ACode.seq (ACode.regS noT_ok names_ok mix (t' := ?_) (L' := ?_) [0, 1] (by rfl) ?_ ?_)
    rotate_left 2
    · iterate 2 (refine sq rfl rfl rfl (by simp [go_sem, X, hkk, Try.f52]; rfl) ?_)
      rfl
    refine ACode.condF (by simp [tget_set, opd]) ?_
    refine ACode.regS noT_ok names_ok mix (t' := ?_) (L' := ?_) [0, 1] (by rfl) ?_ ?_
    rotate_left 2
    · iterate 2 (refine sq rfl rfl rfl (by simp [go_sem, X, hkk, Try.f52]; rfl) ?_)
      rfl
    show ACode _ _ _ _ _ _ _
    refine ACode.condF (by simp [tget_set, opd]) ?_
    refine ACode.seq (ACode.regS noT_ok names_ok mix (t' := ?_) (L' := ?_) [0, 1] (by rfl) ?_ ?_)
    rotate_left 2
    · iterate 2 (refine sq rfl rfl rfl (by simp [go_sem, X, hkk, Try.f52]; rfl) ?_)
      rfl
    refine ACode.condF (by simp [tget_set, opd]) ?_
    refine ACode.seq ?_
    refine ACode.seq (ACode.regS noT_ok names_ok mix (t' := ?_) (L' := ?_) [0, 1] (by rfl) ?_ ?_)
    rotate_left 2
    · iterate 2 (refine sq rfl rfl rfl (by simp [go_sem, X, hkk, Try.f52]; rfl) ?_)
      rfl
    refine ACode.condF (by simp [tget_set, opd]) ?_
    refine ACode.regS noT_ok names_ok mix (t' := ?_) (L' := ?_) [0, 1] (by rfl) ?_ ?_
    rotate_left 2
    · iterate 2 (refine sq rfl rfl rfl (by simp [go_sem, X, hkk, Try.f52]; rfl) ?_)
      rfl
    show ACode _ _ _ _ _ _ _
    refine ACode.condT (by simp [tget_set, opd]) ?_
    refine ACode.seq (ACode.regS noT_ok names_ok mix (t' := ?_) (L' := ?_) [0, 1, 2, 3] (by rfl) ?_ ?_)
    rotate_left 2
    · iterate 4 (refine sq rfl rfl rfl (by simp [go_sem, X, t1, hE', Try.f52]; rfl) ?_)
      rfl
    change ACode _ _ _ _ _ ⟨A.t.set A.next (rcB e.r1 e.r2 e.r3 e.r4), A.next + 1⟩ _
    rw [hA1]
    refine ACode.seq ?_
    refine ACode.seq (ACode.regS noT_ok names_ok mix (t' := ?_) (L' := ?_) [0, 1, 2, 3, 4, 5, 6, 7, 8, 9, 10, 11, 12, 13, 14, 15, 16, 17, 18, 19, 20, 21, 22, 23, 24, 25, 26, 27, 28, 29, 30, 31, 32, 33, 34, 35, 36, 37] (by rfl) ?_ ?_)
    rotate_left 2
    · iterate 4 (refine sq rfl rfl rfl (by simp [go_sem, X, hR1', c0, c1, c2, c3, c4, c5, c6, c7, Try.f52]; rfl) ?_)
      iterate 3 (refine sq rfl rfl (by simp [go_sem, X, hR1', c0, c1, c2, c3, c4, c5, c6, c7, Try.f52]) (by simp [go_sem, X, hR1', c0, c1, c2, c3, c4, c5, c6, c7, Try.f52]; rfl) ?_)
      iterate 2 (refine sq rfl rfl rfl (by simp [go_sem, X, hR1', c0, c1, c2, c3, c4, c5, c6, c7, Try.f52]; rfl) ?_)
      iterate 3 (refine sq rfl rfl (by simp [go_sem, X, hR1', c0, c1, c2, c3, c4, c5, c6, c7, Try.f52]) (by simp [go_sem, X, hR1', c0, c1, c2, c3, c4, c5, c6, c7, Try.f52]; rfl) ?_)
      iterate 2 (refine sq rfl rfl rfl (by simp [go_sem, X, hR1', c0, c1, c2, c3, c4, c5, c6, c7, Try.f52]; rfl) ?_)
      iterate 3 (refine sq rfl rfl (by simp [go_sem, X, hR1', c0, c1, c2, c3, c4, c5, c6, c7, Try.f52]) (by simp [go_sem, X, hR1', c0, c1, c2, c3, c4, c5, c6, c7, Try.f52]; rfl) ?_)
      iterate 2 (refine sq rfl rfl rfl (by simp [go_sem, X, hR1', c0, c1, c2, c3, c4, c5, c6, c7, Try.f52]; rfl) ?_)
      iterate 3 (refine sq rfl rfl (by simp [go_sem, X, hR1', c0, c1, c2, c3, c4, c5, c6, c7, Try.f52]) (by simp [go_sem, X, hR1', c0, c1, c2, c3, c4, c5, c6, c7, Try.f52]; rfl) ?_)
      iterate 2 (refine sq rfl rfl rfl (by simp [go_sem, X, hR1', c0, c1, c2, c3, c4, c5, c6, c7, Try.f52]; rfl) ?_)
      iterate 3 (refine sq rfl rfl (by simp [go_sem, X, hR1', c0, c1, c2, c3, c4, c5, c6, c7, Try.f52]) (by simp [go_sem, X, hR1', c0, c1, c2, c3, c4, c5, c6, c7, Try.f52]; rfl) ?_)
      iterate 2 (refine sq rfl rfl rfl (by simp [go_sem, X, hR1', c0, c1, c2, c3, c4, c5, c6, c7, Try.f52]; rfl) ?_)
      iterate 3 (refine sq rfl rfl (by simp [go_sem, X, hR1', c0, c1, c2, c3, c4, c5, c6, c7, Try.f52]) (by simp [go_sem, X, hR1', c0, c1, c2, c3, c4, c5, c6, c7, Try.f52]; rfl) ?_)
      iterate 2 (refine sq rfl rfl rfl (by simp [go_sem, X, hR1', c0, c1, c2, c3, c4, c5, c6, c7, Try.f52]; rfl) ?_)
      iterate 3 (refine sq rfl rfl (by simp [go_sem, X, hR1', c0, c1, c2, c3, c4, c5, c6, c7, Try.f52]) (by simp [go_sem, X, hR1', c0, c1, c2, c3, c4, c5, c6, c7, Try.f52]; rfl) ?_)
      refine sq rfl rfl rfl (by simp [go_sem, X, hR1', c0, c1, c2, c3, c4, c5, c6, c7, Try.f52]; rfl) ?_
      rfl
    refine ACode.condF (by simp [tget_set, opd]) (ACode.skip ?_)
    show ACode _ _ _ _ _ _ _
    simp only [evB, evF] at hX1 hE2
    refine ACode.seq (ACode.regS noT_ok names_ok mix (t' := ?_) (L' := ?_) [0, 1, 2] (by rfl) ?_ ?_)
    rotate_left 2
    · iterate 3 (refine sq rfl rfl rfl (by simp [go_sem, X, t5, hX1, Try.f52]; rfl) ?_)
      rfl
    change ACode _ _ _ _ _ ⟨A1.t.set (L.next + 2) (evB (evF ⟨0, 0, e.t, e.lv, 0, 0, 0, 0, e.w⟩)), A1.next⟩ _
    rw [hA2]
    refine ACode.seq ?_
    refine ACode.seq (ACode.regS noT_ok names_ok mix (t' := ?_) (L' := ?_) [0, 1, 2] (by rfl) ?_ ?_)
    rotate_left 2
    · iterate 3 (refine sq rfl rfl rfl (by simp [go_sem, X, t1, hE2, hkk, Try.f52]; rfl) ?_)
      rfl
    refine ACode.condF (by simp [tget_set, opd]) ?_
    by_cases z1 : e.r1 = 0
    ·
      have z2 : ¬ e.r2 = 0 := by omega
      refine ACode.seq (ACode.regS noT_ok names_ok mix (t' := ?_) (L' := ?_) [0, 1, 2, 3, 4, 5, 6, 7] (by rfl) ?_ ?_)
      rotate_left 2
      · iterate 4 (refine sq rfl rfl rfl (by simp [go_sem, X, hR2', z1, z2, Try.f52]; rfl) ?_)
        iterate 3 (refine sq rfl rfl (by simp [go_sem, X, hR2', z1, z2, Try.f52]) (by simp [go_sem, X, hR2', z1, z2, Try.f52]; rfl) ?_)
        refine sq rfl rfl rfl (by simp [go_sem, X, hR2', z1, z2, Try.f52]; rfl) ?_
        rfl
      refine ACode.condT (by simp [tget_set, opd]) ?_
      refine ACode.seq (ACode.regS noT_ok names_ok mix (t' := ?_) (L' := ?_) [0, 1] (by rfl) ?_ ?_)
      rotate_left 2
      · iterate 2 (refine sq rfl rfl rfl (by simp [go_sem, X, Try.f52]; rfl) ?_)
        rfl
      refine ACode.ret ?_
      exact ⟨rfl, rfl, rfl, by simp [tget_set], by simp [tget_set]⟩
    ·
      refine ACode.seq (ACode.regS noT_ok names_ok mix (t' := ?_) (L' := ?_) [0, 1, 2, 3, 4, 5, 6, 7] (by rfl) ?_ ?_)
      rotate_left 2
      · iterate 4 (refine sq rfl rfl rfl (by simp [go_sem, X, hR2', z1, Try.f52]; rfl) ?_)
        iterate 3 (refine sk rfl rfl (by simp [go_sem, X, hR2', z1, Try.f52]) ?_)
        refine sq rfl rfl rfl (by simp [go_sem, X, hR2', z1, Try.f52]; rfl) ?_
        rfl
      refine ACode.condT (by simp [tget_set, opd]) ?_
      refine ACode.seq (ACode.regS noT_ok names_ok mix (t' := ?_) (L' := ?_) [0, 1] (by rfl) ?_ ?_)
      rotate_left 2
      · iterate 2 (refine sq rfl rfl rfl (by simp [go_sem, X, Try.f52]; rfl) ?_)
        rfl
      refine ACode.ret ?_
      exact ⟨rfl, rfl, rfl, by simp [tget_set], by simp [tget_set]⟩
  have z1 : e.r1 = 0 := by omega
  have z2 : e.r2 = 0 := by omega
  have h3 := h2.new (twoB (lowB e.r3) (lowB e.r4))
  have hy3 : (⟨A2.t.set A2.next (twoB (lowB e.r3) (lowB e.r4)), A2.next + 1⟩ : Heap).t.get A2.next = some (twoB (lowB e.r3) (lowB e.r4)) := T.get_set_same _ _ _
  have hR3 : (⟨A2.t.set A2.next (twoB (lowB e.r3) (lowB e.r4)), A2.next + 1⟩ : Heap).t.get A.next = some (rcB e.r1 e.r2 e.r3 e.r4) := by
    show T.get (T.set _ _ _) _ = _
    rw [T.get_set_ne _ _ (by omega)]; exact hR2
  have hn3 : (⟨A2.t.set A2.next (twoB (lowB e.r3) (lowB e.r4)), A2.next + 1⟩ : Heap).next = A2.next + 1 := rfl
  generalize hA3 : (⟨A2.t.set A2.next (twoB (lowB e.r3) (lowB e.r4)), A2.next + 1⟩ : Heap) = A3 at *
  obtain ⟨v4, A4, ap4, h4, hn4, hk4⟩ := h3.app' (twoB_src hy3) (by simp)
  have hR4 : A4.t.get A.next = some (rcB e.r1 e.r2 e.r3 e.r4) := by
    rw [hk4 A.next (by omega) (h3.row.ne_of hR3 (fun c n q => by simp [rcB]))]; exact hR3
  rw [← hA3] at ap4
  unfold twoB at ap4
  have hR4' := hR4
  unfold rcB at hR4'
  obtain ⟨A', v', hfin, hf⟩ := rbytes_fin h4 hr.t (by simp) false
  refine RBy.yes hf ?_ (b := decide ((if false = true then { (⟨0, 0, e.t, e.lv, 0, 0, 0, 0, e.w⟩ : Evt) with t := [] } else ⟨0, 0, e.t, e.lv, 0, 0, 0, 0, e.w⟩) = zeroE) && decide (e.t.length < 64)) ?_ ?_
  rotate_left 1
  · exact siz_eq hk hs hkk z1 z2 (by omega) (by omega)
  · intro _
    simp [wBytes, wTail, hkk]
  refine hpre _ _ _ fun t t1 t4 t5 t6 => ?_
  show ACode _ _ (Code.seq (Code.seq (Code.region _ _ _) (Code.block 0 _)) _) _ _ _ _
  refine ACode.seq ?_
  have hE' := hE
  simp only [evB, evF] at hE'
  refine ACode.seq (ACode.regS noT_ok names_ok mix (t' := ?_) (L' := ?_) [0, 1] (by rfl) ?_ ?_)
  rotate_left 2
  · iterate 2 (refine sq rfl rfl rfl (by simp [go_sem, X, t1, hE', hkk, Try.f52]; rfl) ?_)
    rfl
  refine ACode.block (ACode.seq ?_)
  refine ACode.seq (ACode.regS noT_ok names_ok mix (t' := ?_) (L' := ?_) [0, 1] (by rfl) ?_ ?_)
  rotate_left 2
  · iterate 2 (refine sq rfl rfl rfl (by simp [go_sem, X, hkk, Try.f52]; rfl) ?_)
    rfl
  refine ACode.condF (by simp [tget_set, opd]) ?_
  refine ACode.regS noT_ok names_ok mix (t' := ?_) (L' := ?_) [0, 1] (by rfl) ?_ ?_
  rotate_left 2
  · iterate 2 (refine sq rfl rfl rfl (by simp [go_sem, X, hkk, Try.f52]; rfl) ?_)
    rfl
  show ACode _ _ _ _ _ _ _
  refine ACode.condF (by simp [tget_set, opd]) ?_
  refine ACode.seq (ACode.regS noT_ok names_ok mix (t' := ?_) (L' := ?_) [0, 1] (by rfl) ?_ ?_)
  rotate_left 2
  · iterate 2 (refine sq rfl rfl rfl (by simp [go_sem, X, hkk, Try.f52]; rfl) ?_)
    rfl
  refine ACode.condF (by simp [tget_set, opd]) ?_
  refine ACode.seq ?_
  refine ACode.seq (ACode.regS noT_ok names_ok mix (t' := ?_) (L' := ?_) [0, 1] (by rfl) ?_ ?_)
  rotate_left 2
  · iterate 2 (refine sq rfl rfl rfl (by simp [go_sem, X, hkk, Try.f52]; rfl) ?_)
    rfl
  refine ACode.condF (by simp [tget_set, opd]) ?_
  refine ACode.regS noT_ok names_ok mix (t' := ?_) (L' := ?_) [0, 1] (by rfl) ?_ ?_
  rotate_left 2
  · iterate 2 (refine sq rfl rfl rfl (by simp [go_sem, X, hkk, Try.f52]; rfl) ?_)
    rfl
  show ACode _ _ _ _ _ _ _
  refine ACode.condT (by simp [tget_set, opd]) ?_
  refine ACode.seq (ACode.regS noT_ok names_ok mix (t' := ?_) (L' := ?_) [0, 1, 2, 3] (by rfl) ?_ ?_)
  rotate_left 2
  · iterate 4 (refine sq rfl rfl rfl (by simp [go_sem, X, t1, hE', Try.f52]; rfl) ?_)
    rfl
  change ACode _ _ _ _ _ ⟨A.t.set A.next (rcB e.r1 e.r2 e.r3 e.r4), A.next + 1⟩ _
  rw [hA1]
  refine ACode.seq ?_
  refine ACode.seq (ACode.regS noT_ok names_ok mix (t' := ?_) (L' := ?_) [0, 1, 2, 3, 4, 5, 6, 7, 8, 9, 10, 11, 12, 13, 14, 15, 16, 17, 18, 19, 20, 21, 22, 23, 24, 25, 26, 27, 28, 29, 30, 31, 32, 33, 34, 35, 36, 37] (by rfl) ?_ ?_)
  rotate_left 2
  · iterate 4 (refine sq rfl rfl rfl (by simp [go_sem, X, hR1', c0, c1, c2, c3, c4, c5, c6, c7, Try.f52]; rfl) ?_)
    iterate 3 (refine sq rfl rfl (by simp [go_sem, X, hR1', c0, c1, c2, c3, c4, c5, c6, c7, Try.f52]) (by simp [go_sem, X, hR1', c0, c1, c2, c3, c4, c5, c6, c7, Try.f52]; rfl) ?_)
    iterate 2 (refine sq rfl rfl rfl (by simp [go_sem, X, hR1', c0, c1, c2, c3, c4, c5, c6, c7, Try.f52]; rfl) ?_)
    iterate 3 (refine sq rfl rfl (by simp [go_sem, X, hR1', c0, c1, c2, c3, c4, c5, c6, c7, Try.f52]) (by simp [go_sem, X, hR1', c0, c1, c2, c3, c4, c5, c6, c7, Try.f52]; rfl) ?_)
    iterate 2 (refine sq rfl rfl rfl (by simp [go_sem, X, hR1', c0, c1, c2, c3, c4, c5, c6, c7, Try.f52]; rfl) ?_)
    iterate 3 (refine sq rfl rfl (by simp [go_sem, X, hR1', c0, c1, c2, c3, c4, c5, c6, c7, Try.f52]) (by simp [go_sem, X, hR1', c0, c1, c2, c3, c4, c5, c6, c7, Try.f52]; rfl) ?_)
    iterate 2 (refine sq rfl rfl rfl (by simp [go_sem, X, hR1', c0, c1, c2, c3, c4, c5, c6, c7, Try.f52]; rfl) ?_)
    iterate 3 (refine sq rfl rfl (by simp [go_sem, X, hR1', c0, c1, c2, c3, c4, c5, c6, c7, Try.f52]) (by simp [go_sem, X, hR1', c0, c1, c2, c3, c4, c5, c6, c7, Try.f52]; rfl) ?_)
    iterate 2 (refine sq rfl rfl rfl (by simp [go_sem, X, hR1', c0, c1, c2, c3, c4, c5, c6, c7, Try.f52]; rfl) ?_)
    iterate 3 (refine sq rfl rfl (by simp [go_sem, X, hR1', c0, c1, c2, c3, c4, c5, c6, c7, Try.f52]) (by simp [go_sem, X, hR1', c0, c1, c2, c3, c4, c5, c6, c7, Try.f52]; rfl) ?_)
    iterate 2 (refine sq rfl rfl rfl (by simp [go_sem, X, hR1', c0, c1, c2, c3, c4, c5, c6, c7, Try.f52]; rfl) ?_)
    iterate 3 (refine sq rfl rfl (by simp [go_sem, X, hR1', c0, c1, c2, c3, c4, c5, c6, c7, Try.f52]) (by simp [go_sem, X, hR1', c0, c1, c2, c3, c4, c5, c6, c7, Try.f52]; rfl) ?_)
    iterate 2 (refine sq rfl rfl rfl (by simp [go_sem, X, hR1', c0, c1, c2, c3, c4, c5, c6, c7, Try.f52]; rfl) ?_)
    iterate 3 (refine sq rfl rfl (by simp [go_sem, X, hR1', c0, c1, c2, c3, c4, c5, c6, c7, Try.f52]) (by simp [go_sem, X, hR1', c0, c1, c2, c3, c4, c5, c6, c7, Try.f52]; rfl) ?_)
    refine sq rfl rfl rfl (by simp [go_sem, X, hR1', c0, c1, c2, c3, c4, c5, c6, c7, Try.f52]; rfl) ?_
    rfl
  refine ACode.condF (by simp [tget_set, opd]) (ACode.skip ?_)
  show ACode _ _ _ _ _ _ _
  simp only [evB, evF] at hX1 hE2
  refine ACode.seq (ACode.regS noT_ok names_ok mix (t' := ?_) (L' := ?_) [0, 1, 2] (by rfl) ?_ ?_)
  rotate_left 2
  · iterate 3 (refine sq rfl rfl rfl (by simp [go_sem, X, t5, hX1, Try.f52]; rfl) ?_)
    rfl
  change ACode _ _ _ _ _ ⟨A1.t.set (L.next + 2) (evB (evF ⟨0, 0, e.t, e.lv, 0, 0, 0, 0, e.w⟩)), A1.next⟩ _
  rw [hA2]
  refine ACode.seq ?_
  refine ACode.seq (ACode.regS noT_ok names_ok mix (t' := ?_) (L' := ?_) [0, 1, 2] (by rfl) ?_ ?_)
  rotate_left 2
  · iterate 3 (refine sq rfl rfl rfl (by simp [go_sem, X, t1, hE2, hkk, Try.f52]; rfl) ?_)
    rfl
  refine ACode.condF (by simp [tget_set, opd]) ?_
  refine ACode.seq (ACode.regS noT_ok names_ok mix (t' := ?_) (L' := ?_) [0, 1, 2, 3, 4, 5, 6, 7] (by rfl) ?_ ?_)
  rotate_left 2
  · iterate 4 (refine sq rfl rfl rfl (by simp [go_sem, X, hR2', z1, z2, Try.f52]; rfl) ?_)
    iterate 3 (refine sq rfl rfl (by simp [go_sem, X, hR2', z1, z2, Try.f52]) (by simp [go_sem, X, hR2', z1, z2, Try.f52]; rfl) ?_)
    refine sq rfl rfl rfl (by simp [go_sem, X, hR2', z1, z2, Try.f52]; rfl) ?_
    rfl
  refine ACode.condF (by simp [tget_set, opd]) (ACode.skip ?_)
  show ACode _ _ _ _ _ _ _
  refine ACode.regS noT_ok names_ok mix (t' := ?_) (L' := ?_) [0, 1, 2, 3, 4, 5, 6, 7, 8, 9] (by rfl) ?_ ?_
  rotate_left 2
  · iterate 10 (refine sq rfl rfl rfl (by simp [go_sem, X, t4, hR2', pi38, lowB_eq, ap4, Try.f52]; rfl) ?_)
    rfl
  show ACode _ _ (cSnd sfx52) _ _ _ _
  exact hfin _ (by simp [tget_set, t1]) (by simp [tget_set]) (by simp [tget_set, t5]) (by simp [tget_set, t6])
/-- the document's bytes of any event -/
theorem rbytes_ok (hr : EvR e) : RBy L e := by
  by_cases hh : e.k < 0 ∨ 8 < e.k ∨ e.s < 0 ∨ 4 < e.s
  · exact rbytes_hdr hh
  have hk : 0 ≤ e.k ∧ e.k ≤ 8 := by omega
  have hs : 0 ≤ e.s ∧ e.s ≤ 4 := by omega
  by_cases h0 : e.k = 0
  · exact rbytes_k0 hk hs hr h0
  by_cases h3 : e.k = 3
  · exact rbytes_k3 hk hs hr h3
  by_cases h4 : e.k = 4
  · exact rbytes_k4 hk hs hr h4
  by_cases h5 : e.k = 5
  · exact rbytes_k5 hk hs hr h5
  by_cases h6 : e.k = 6
  · exact rbytes_k6 hk hs hr h6
  by_cases h7 : e.k = 7
  · exact rbytes_k7 hk hs hr h7
  exact rbytes_kx hk hs hr h0 h3 h4 h5 h6 h7
end
end Go.Proofs.Ytpfmoolpeecobaa
