/- - -/
import Derived.Test.YtpfmoolpeecobaaU16
namespace Go.Proofs.Ytpfmoolpeecobaa
open Go Go.Proofs Go.Proofs.Ytpfmoolpeecobaa.Ev
set_option linter.unusedVariables false
set_option linter.unusedSimpArgs false
set_option maxRecDepth 100000
set_option maxHeartbeats 4000000

/-- what the document answers of an event's bytes -/
def RBy (L : Heap) (e : Evt) : Prop := ∃ L' v, ACall Try.prog 52 [.agg (evF e)] L (.tuple [v, .bool (!wBad e)]) L' ∧ L.next ≤ L'.next ∧ (∀ n, n < L.next → L'.t.get n = L.t.get n) ∧ (wBad e = false → BaseU L' v (wBytes e))
theorem RBy.no {L L' : Heap} {e : Evt} (hb : wBad e = true) (hc : ACall Try.prog 52 [.agg (evF e)] L (.tuple [.nils, .bool false]) L') (hn : L.next ≤ L'.next) (hk : ∀ n, n < L.next → L'.t.get n = L.t.get n) : RBy L e :=
  ⟨L', .nils, by rw [hb]; exact hc, hn, hk, fun h => by rw [hb] at h; cases h⟩
theorem BS.keep {L A : Heap} {e rest : Evt} {v : V} {out : List Int} (h : BS L A e rest v out) : L.next ≤ A.next := by have := h.nx; omega
theorem RBy.yes {L L' : Heap} {e rest : Evt} {v : V} {out : List Int} {b : Bool} (h : BS L L' e rest v out) (hc : ACall Try.prog 52 [.agg (evF e)] L (.tuple [v, .bool b]) L') (hb : b = !wBad e) (ho : wBad e = false → out = wBytes e) : RBy L e :=
  ⟨L', v, by rw [← hb]; exact hc, h.keep, h.old, fun hg => by rw [← ho hg]; exact h.row⟩

theorem txt_eq {e : Evt} (hk : 0 ≤ e.k ∧ e.k ≤ 8) (hs : 0 ≤ e.s ∧ e.s ≤ 4) (h : e.k = 0 ∨ e.k = 4) : (decide ((if true = true then { ({ e with k := 0, s := 0 } : Evt) with t := [] } else { e with k := 0, s := 0 }) = zeroE) && decide (e.t.length < 64)) = !wBad e := by
  obtain ⟨k, s, t, lv, r1, r2, r3, r4, w⟩ := e
  simp only at hk hs h
  have h3 : ¬ k = 3 := by omega
  rw [Bool.eq_iff_iff]
  simp only [wBad, wOwn, out, zeroE, if_neg h3, if_pos h]
  simp
  constructor
  · rintro ⟨⟨rfl, rfl, rfl, rfl, rfl, rfl⟩, h2⟩
    simp
    omega
  · intro hh
    omega
theorem oth_eq {e : Evt} (hk : 0 ≤ e.k ∧ e.k ≤ 8) (hs : 0 ≤ e.s ∧ e.s ≤ 4) (h0 : ¬ e.k = 0) (h3 : ¬ e.k = 3) (h4 : ¬ e.k = 4) (h5 : ¬ e.k = 5) (h6 : ¬ e.k = 6) (h7 : ¬ e.k = 7) : (decide ((if false = true then { ({ e with k := 0, s := 0 } : Evt) with t := [] } else { e with k := 0, s := 0 }) = zeroE) && decide (e.t.length < 64)) = !wBad e := by
  obtain ⟨k, s, t, lv, r1, r2, r3, r4, w⟩ := e
  simp only at hk hs h0 h3 h4 h5 h6 h7
  have h04 : ¬ (k = 0 ∨ k = 4) := by omega
  rw [Bool.eq_iff_iff]
  simp only [wBad, wOwn, out, zeroE, if_neg h3, if_neg h04, if_neg h5, if_neg h6, if_neg h7]
  simp
  constructor
  · rintro ⟨⟨rfl, rfl, rfl, rfl, rfl, rfl, rfl⟩, h2⟩
    simp
    omega
  · rintro ⟨_, rfl, rfl, rfl, rfl, rfl, rfl, rfl⟩
    simp
theorem pas_eq {e : Evt} (hk : 0 ≤ e.k ∧ e.k ≤ 8) (hs : 0 ≤ e.s ∧ e.s ≤ 4) (h : e.k = 3) (hlv : 0 ≤ e.lv ∧ e.lv ≤ 2) : (decide ((if true = true then { ({ ({ e with k := 0, s := 0 } : Evt) with lv := 0 } : Evt) with t := [] } else { ({ e with k := 0, s := 0 } : Evt) with lv := 0 }) = zeroE) && decide (e.t.length < 64)) = !wBad e := by
  obtain ⟨k, s, t, lv, r1, r2, r3, r4, w⟩ := e
  simp only at hk hs h hlv
  rw [Bool.eq_iff_iff]
  simp only [wBad, wOwn, out, zeroE, if_pos h]
  simp
  constructor
  · rintro ⟨⟨rfl, rfl, rfl, rfl, rfl⟩, h2⟩
    simp
    omega
  · intro hh
    omega
theorem wha_eq {e : Evt} (hk : 0 ≤ e.k ∧ e.k ≤ 8) (hs : 0 ≤ e.s ∧ e.s ≤ 4) (h : e.k = 7) (hw : 0 ≤ e.w ∧ e.w ≤ 7) : (decide ((if false = true then { ({ ({ e with k := 0, s := 0 } : Evt) with w := 0 } : Evt) with t := [] } else { ({ e with k := 0, s := 0 } : Evt) with w := 0 }) = zeroE) && decide (e.t.length < 64)) = !wBad e := by
  obtain ⟨k, s, t, lv, r1, r2, r3, r4, w⟩ := e
  simp only at hk hs h hw
  have h3 : ¬ k = 3 := by omega
  have h04 : ¬ (k = 0 ∨ k = 4) := by omega
  have h5 : ¬ k = 5 := by omega
  have h6 : ¬ k = 6 := by omega
  rw [Bool.eq_iff_iff]
  simp only [wBad, wOwn, out, zeroE, if_neg h3, if_neg h04, if_neg h5, if_neg h6, if_pos h]
  simp
  constructor
  · rintro ⟨⟨rfl, rfl, rfl, rfl, rfl, rfl⟩, h2⟩
    simp
    omega
  · rintro ⟨_, ht, rfl, rfl, rfl, rfl, rfl, rfl⟩
    subst ht
    simp
section
variable {L : Heap} {e : Evt}
theorem rbytes_hdr (h : e.k < 0 ∨ 8 < e.k ∨ e.s < 0 ∨ 4 < e.s) : RBy L e := by
  have hE0 : (L.t.set L.next (evB (evF e))).get L.next = some (evB (evF e)) := T.get_set_same _ _ _
  refine RBy.no (L' := ⟨L.t.set L.next (evB (evF e)), L.next + 1⟩) (hdr_bad h) ?_ (Nat.le_succ _) (fun n hn => T.get_set_ne _ _ (by omega))
  generalize hT0 : L.t.set L.next (evB (evF e)) = T0 at *
  simp only [evB, evF] at hE0
  refine ACall.of_body_same Try.func52 rfl ?_
  refine ACode.seq (ACode.regS noT_ok names_ok mix (t' := ?_) (L' := ?_) [0, 1, 2] (by rfl) ?_ ?_)
  rotate_left 2
  · iterate 3 (refine sq rfl rfl rfl (by simp [go_sem, X, Try.f52]; rfl) ?_)
    rfl
  change ACode _ _ _ _ _ ⟨L.t.set L.next (evB (evF e)), L.next + 1⟩ _
  rw [hT0]
  refine ACode.seq (ACode.seq ?_)
  have fin : ∀ t : T V, tget t 2 = .nils → tget t 3 = .bool false → (fun x t1 d1 L1 => (x = Ex.normal ∨ x = Ex.ret) ∧ ∃ vs, closeMarks L1 d1 = some (⟨T0, L.next + 1⟩ : Heap) ∧ resVals Try.prog t1 (⟨T0, L.next + 1⟩ : Heap) Try.f52.results.toList = some vs ∧ one1 vs = .tuple [.nils, .bool false]) Ex.ret t ([] : List Nat) (⟨T0, L.next + 1⟩ : Heap) :=
    fun t h2 h3 => ⟨.inr rfl, [.nils, .bool false], rfl, by simp [Try.f52, resVals, h2, h3], rfl⟩
  by_cases c0 : e.k < 0
  ·
    refine ACode.regS noT_ok names_ok mix (t' := ?_) (L' := ?_) [0, 1, 2, 3, 4, 5, 6, 7, 8, 9, 10, 11, 12, 13, 14, 15, 16, 17] (by rfl) ?_ ?_
    rotate_left 2
    · iterate 4 (refine sq rfl rfl rfl (by simp [go_sem, X, hE0, c0, Try.f52]; rfl) ?_)
      iterate 3 (refine sk rfl rfl (by simp [go_sem, X, hE0, c0, Try.f52]) ?_)
      iterate 2 (refine sq rfl rfl rfl (by simp [go_sem, X, hE0, c0, Try.f52]; rfl) ?_)
      iterate 3 (refine sk rfl rfl (by simp [go_sem, X, hE0, c0, Try.f52]) ?_)
      iterate 2 (refine sq rfl rfl rfl (by simp [go_sem, X, hE0, c0, Try.f52]; rfl) ?_)
      iterate 3 (refine sk rfl rfl (by simp [go_sem, X, hE0, c0, Try.f52]) ?_)
      refine sq rfl rfl rfl (by simp [go_sem, X, hE0, c0, Try.f52]; rfl) ?_
      rfl
    refine ACode.condT (by simp [tget_set, opd]) ?_
    refine ACode.seq (ACode.regS noT_ok names_ok mix (t' := ?_) (L' := ?_) [0, 1] (by rfl) ?_ ?_)
    rotate_left 2
    · iterate 2 (refine sq rfl rfl rfl (by simp [go_sem, X, Try.f52]; rfl) ?_)
      rfl
    exact ACode.ret (fin _ (by simp [tget_set]) (by simp [tget_set]))
  by_cases c1 : 8 < e.k
  ·
    refine ACode.regS noT_ok names_ok mix (t' := ?_) (L' := ?_) [0, 1, 2, 3, 4, 5, 6, 7, 8, 9, 10, 11, 12, 13, 14, 15, 16, 17] (by rfl) ?_ ?_
    rotate_left 2
    · iterate 4 (refine sq rfl rfl rfl (by simp [go_sem, X, hE0, c0, c1, Try.f52]; rfl) ?_)
      iterate 3 (refine sq rfl rfl (by simp [go_sem, X, hE0, c0, c1, Try.f52]) (by simp [go_sem, X, hE0, c0, c1, Try.f52]; rfl) ?_)
      iterate 2 (refine sq rfl rfl rfl (by simp [go_sem, X, hE0, c0, c1, Try.f52]; rfl) ?_)
      iterate 3 (refine sk rfl rfl (by simp [go_sem, X, hE0, c0, c1, Try.f52]) ?_)
      iterate 2 (refine sq rfl rfl rfl (by simp [go_sem, X, hE0, c0, c1, Try.f52]; rfl) ?_)
      iterate 3 (refine sk rfl rfl (by simp [go_sem, X, hE0, c0, c1, Try.f52]) ?_)
      refine sq rfl rfl rfl (by simp [go_sem, X, hE0, c0, c1, Try.f52]; rfl) ?_
      rfl
    refine ACode.condT (by simp [tget_set, opd]) ?_
    refine ACode.seq (ACode.regS noT_ok names_ok mix (t' := ?_) (L' := ?_) [0, 1] (by rfl) ?_ ?_)
    rotate_left 2
    · iterate 2 (refine sq rfl rfl rfl (by simp [go_sem, X, Try.f52]; rfl) ?_)
      rfl
    exact ACode.ret (fin _ (by simp [tget_set]) (by simp [tget_set]))
  by_cases c2 : e.s < 0
  ·
    refine ACode.regS noT_ok names_ok mix (t' := ?_) (L' := ?_) [0, 1, 2, 3, 4, 5, 6, 7, 8, 9, 10, 11, 12, 13, 14, 15, 16, 17] (by rfl) ?_ ?_
    rotate_left 2
    · iterate 4 (refine sq rfl rfl rfl (by simp [go_sem, X, hE0, c0, c1, c2, Try.f52]; rfl) ?_)
      iterate 3 (refine sq rfl rfl (by simp [go_sem, X, hE0, c0, c1, c2, Try.f52]) (by simp [go_sem, X, hE0, c0, c1, c2, Try.f52]; rfl) ?_)
      iterate 2 (refine sq rfl rfl rfl (by simp [go_sem, X, hE0, c0, c1, c2, Try.f52]; rfl) ?_)
      iterate 3 (refine sq rfl rfl (by simp [go_sem, X, hE0, c0, c1, c2, Try.f52]) (by simp [go_sem, X, hE0, c0, c1, c2, Try.f52]; rfl) ?_)
      iterate 2 (refine sq rfl rfl rfl (by simp [go_sem, X, hE0, c0, c1, c2, Try.f52]; rfl) ?_)
      iterate 3 (refine sk rfl rfl (by simp [go_sem, X, hE0, c0, c1, c2, Try.f52]) ?_)
      refine sq rfl rfl rfl (by simp [go_sem, X, hE0, c0, c1, c2, Try.f52]; rfl) ?_
      rfl
    refine ACode.condT (by simp [tget_set, opd]) ?_
    refine ACode.seq (ACode.regS noT_ok names_ok mix (t' := ?_) (L' := ?_) [0, 1] (by rfl) ?_ ?_)
    rotate_left 2
    · iterate 2 (refine sq rfl rfl rfl (by simp [go_sem, X, Try.f52]; rfl) ?_)
      rfl
    exact ACode.ret (fin _ (by simp [tget_set]) (by simp [tget_set]))
  by_cases c3 : 4 < e.s
  ·
    refine ACode.regS noT_ok names_ok mix (t' := ?_) (L' := ?_) [0, 1, 2, 3, 4, 5, 6, 7, 8, 9, 10, 11, 12, 13, 14, 15, 16, 17] (by rfl) ?_ ?_
    rotate_left 2
    · iterate 4 (refine sq rfl rfl rfl (by simp [go_sem, X, hE0, c0, c1, c2, c3, Try.f52]; rfl) ?_)
      iterate 3 (refine sq rfl rfl (by simp [go_sem, X, hE0, c0, c1, c2, c3, Try.f52]) (by simp [go_sem, X, hE0, c0, c1, c2, c3, Try.f52]; rfl) ?_)
      iterate 2 (refine sq rfl rfl rfl (by simp [go_sem, X, hE0, c0, c1, c2, c3, Try.f52]; rfl) ?_)
      iterate 3 (refine sq rfl rfl (by simp [go_sem, X, hE0, c0, c1, c2, c3, Try.f52]) (by simp [go_sem, X, hE0, c0, c1, c2, c3, Try.f52]; rfl) ?_)
      iterate 2 (refine sq rfl rfl rfl (by simp [go_sem, X, hE0, c0, c1, c2, c3, Try.f52]; rfl) ?_)
      iterate 3 (refine sq rfl rfl (by simp [go_sem, X, hE0, c0, c1, c2, c3, Try.f52]) (by simp [go_sem, X, hE0, c0, c1, c2, c3, Try.f52]; rfl) ?_)
      refine sq rfl rfl rfl (by simp [go_sem, X, hE0, c0, c1, c2, c3, Try.f52]; rfl) ?_
      rfl
    refine ACode.condT (by simp [tget_set, opd]) ?_
    refine ACode.seq (ACode.regS noT_ok names_ok mix (t' := ?_) (L' := ?_) [0, 1] (by rfl) ?_ ?_)
    rotate_left 2
    · iterate 2 (refine sq rfl rfl rfl (by simp [go_sem, X, Try.f52]; rfl) ?_)
      rfl
    exact ACode.ret (fin _ (by simp [tget_set]) (by simp [tget_set]))
  omega
theorem rbytes_k0 (hk : 0 ≤ e.k ∧ e.k ≤ 8) (hs : 0 ≤ e.s ∧ e.s ≤ 4) (hr : EvR e) (hkk : e.k = 0) : RBy L e := by
  obtain ⟨A, h0, hpre⟩ := rbytes_pre L e hk hs
  have hE := h0.ev
  have hX := h0.re
  have hn0 := h0.nx
  obtain ⟨A', v', hfin, h1⟩ := rbytes_fin h0 hr.t (by simp) true
  refine RBy.yes h1 ?_ (b := decide ((if true = true then { ({ e with k := 0, s := 0 } : Evt) with t := [] } else { e with k := 0, s := 0 }) = zeroE) && decide (e.t.length < 64)) ?_ ?_
  rotate_left 1
  · exact txt_eq hk hs (by omega)
  · intro _
    simp [wBytes, wTail, hkk]
  refine hpre _ _ _ fun t t1 t4 t5 t6 => ?_
  show ACode _ _ (Code.seq (Code.seq (Code.region _ _ _) (Code.block 0 _)) _) _ _ _ _
  refine ACode.seq ?_
  have hE' := hE
  have hX' := hX
  simp only [evB, evF] at hE' hX'
  refine ACode.seq (ACode.regS noT_ok names_ok mix (t' := ?_) (L' := ?_) [0, 1] (by rfl) ?_ ?_)
  rotate_left 2
  · iterate 2 (refine sq rfl rfl rfl (by simp [go_sem, X, t1, hE', hkk, Try.f52]; rfl) ?_)
    rfl
  refine ACode.block (ACode.seq ?_)
  refine ACode.seq (ACode.regS noT_ok names_ok mix (t' := ?_) (L' := ?_) [0, 1] (by rfl) ?_ ?_)
  rotate_left 2
  · iterate 2 (refine sq rfl rfl rfl (by simp [go_sem, X, hkk, Try.f52]; rfl) ?_)
    rfl
  refine ACode.condT (by simp [tget_set, opd]) (ACode.skip ?_)
  show ACode _ _ _ _ _ _ _
  refine ACode.condT (by simp [tget_set, opd]) ?_
  refine ACode.regS noT_ok names_ok mix (t' := ?_) (L' := ?_) [0] (by rfl) ?_ ?_
  rotate_left 2
  · refine sq rfl rfl rfl (by simp [go_sem, X, Try.f52]; rfl) ?_
    rfl
  show ACode _ _ (cSnd sfx52) _ _ _ _
  exact hfin _ (by simp [tget_set, t1]) (by simp [tget_set, t4]) (by simp [tget_set, t5]) (by simp [tget_set])
theorem rbytes_k4 (hk : 0 ≤ e.k ∧ e.k ≤ 8) (hs : 0 ≤ e.s ∧ e.s ≤ 4) (hr : EvR e) (hkk : e.k = 4) : RBy L e := by
  obtain ⟨A, h0, hpre⟩ := rbytes_pre L e hk hs
  have hE := h0.ev
  have hX := h0.re
  have hn0 := h0.nx
  obtain ⟨A', v', hfin, h1⟩ := rbytes_fin h0 hr.t (by simp) true
  refine RBy.yes h1 ?_ (b := decide ((if true = true then { ({ e with k := 0, s := 0 } : Evt) with t := [] } else { e with k := 0, s := 0 }) = zeroE) && decide (e.t.length < 64)) ?_ ?_
  rotate_left 1
  · exact txt_eq hk hs (by omega)
  · intro _
    simp [wBytes, wTail, hkk]
  refine hpre _ _ _ fun t t1 t4 t5 t6 => ?_
  show ACode _ _ (Code.seq (Code.seq (Code.region _ _ _) (Code.block 0 _)) _) _ _ _ _
  refine ACode.seq ?_
  have hE' := hE
  have hX' := hX
  simp only [evB, evF] at hE' hX'
  refine ACode.seq (ACode.regS noT_ok names_ok mix (t' := ?_) (L' := ?_) [0, 1] (by rfl) ?_ ?_)
  rotate_left 2
  · iterate 2 (refine sq rfl rfl rfl (by simp [go_sem, X, t1, hE', hkk, Try.f52]; rfl) ?_)
    rfl
  refine ACode.block (ACode.seq ?_)
  refine ACode.seq (ACode.regS noT_ok names_ok mix (t' := ?_) (L' := ?_) [0, 1] (by rfl) ?_ ?_)
  rotate_left 2
  · iterate 2 (refine sq rfl rfl rfl (by simp [go_sem, X, hkk, Try.f52]; rfl) ?_)
    rfl
  refine ACode.condF (by simp [tget_set, opd]) ?_
  refine ACode.regS noT_ok names_ok mix (t' := ?_) (L' := ?_) [0, 1] (by rfl) ?_ ?_
  rotate_left 2
  · iterate 2 (refine sq rfl rfl rfl (by simp [go_sem, X, hkk, Try.f52]; rfl) ?_)
    rfl
  show ACode _ _ _ _ _ _ _
  refine ACode.condT (by simp [tget_set, opd]) ?_
  refine ACode.regS noT_ok names_ok mix (t' := ?_) (L' := ?_) [0] (by rfl) ?_ ?_
  rotate_left 2
  · refine sq rfl rfl rfl (by simp [go_sem, X, Try.f52]; rfl) ?_
    rfl
  show ACode _ _ (cSnd sfx52) _ _ _ _
  exact hfin _ (by simp [tget_set, t1]) (by simp [tget_set, t4]) (by simp [tget_set, t5]) (by simp [tget_set])
theorem rbytes_kx (hk : 0 ≤ e.k ∧ e.k ≤ 8) (hs : 0 ≤ e.s ∧ e.s ≤ 4) (hr : EvR e) (h0k : ¬ e.k = 0) (h3k : ¬ e.k = 3) (h4k : ¬ e.k = 4) (h5k : ¬ e.k = 5) (h6k : ¬ e.k = 6) (h7k : ¬ e.k = 7) : RBy L e := by
  obtain ⟨A, h0, hpre⟩ := rbytes_pre L e hk hs
  have hE := h0.ev
  have hX := h0.re
  have hn0 := h0.nx
  obtain ⟨A', v', hfin, h1⟩ := rbytes_fin h0 hr.t (by simp) false
  refine RBy.yes h1 ?_ (b := decide ((if false = true then { ({ e with k := 0, s := 0 } : Evt) with t := [] } else { e with k := 0, s := 0 }) = zeroE) && decide (e.t.length < 64)) ?_ ?_
  rotate_left 1
  · exact oth_eq hk hs h0k h3k h4k h5k h6k h7k
  · intro _
    simp [wBytes, wTail, h0k, h3k, h4k, h5k, h6k, h7k]
  refine hpre _ _ _ fun t t1 t4 t5 t6 => ?_
  show ACode _ _ (Code.seq (Code.seq (Code.region _ _ _) (Code.block 0 _)) _) _ _ _ _
  refine ACode.seq ?_
  have hE' := hE
  have hX' := hX
  simp only [evB, evF] at hE' hX'
  refine ACode.seq (ACode.regS noT_ok names_ok mix (t' := ?_) (L' := ?_) [0, 1] (by rfl) ?_ ?_)
  rotate_left 2
  · iterate 2 (refine sq rfl rfl rfl (by simp [go_sem, X, t1, hE', h0k, h3k, h4k, h5k, h6k, h7k, Try.f52]; rfl) ?_)
    rfl
  refine ACode.block (ACode.seq ?_)
  refine ACode.seq (ACode.regS noT_ok names_ok mix (t' := ?_) (L' := ?_) [0, 1] (by rfl) ?_ ?_)
  rotate_left 2
  · iterate 2 (refine sq rfl rfl rfl (by simp [go_sem, X, h0k, h3k, h4k, h5k, h6k, h7k, Try.f52]; rfl) ?_)
    rfl
  refine ACode.condF (by simp [tget_set, opd]) ?_
  refine ACode.regS noT_ok names_ok mix (t' := ?_) (L' := ?_) [0, 1] (by rfl) ?_ ?_
  rotate_left 2
  · iterate 2 (refine sq rfl rfl rfl (by simp [go_sem, X, h0k, h3k, h4k, h5k, h6k, h7k, Try.f52]; rfl) ?_)
    rfl
  show ACode _ _ _ _ _ _ _
  refine ACode.condF (by simp [tget_set, opd]) ?_
  refine ACode.seq (ACode.regS noT_ok names_ok mix (t' := ?_) (L' := ?_) [0, 1] (by rfl) ?_ ?_)
  rotate_left 2
  · iterate 2 (refine sq rfl rfl rfl (by simp [go_sem, X, h0k, h3k, h4k, h5k, h6k, h7k, Try.f52]; rfl) ?_)
    rfl
  refine ACode.condF (by simp [tget_set, opd]) ?_
  refine ACode.seq ?_
  refine ACode.seq (ACode.regS noT_ok names_ok mix (t' := ?_) (L' := ?_) [0, 1] (by rfl) ?_ ?_)
  rotate_left 2
  · iterate 2 (refine sq rfl rfl rfl (by simp [go_sem, X, h0k, h3k, h4k, h5k, h6k, h7k, Try.f52]; rfl) ?_)
    rfl
  refine ACode.condF (by simp [tget_set, opd]) ?_
  refine ACode.regS noT_ok names_ok mix (t' := ?_) (L' := ?_) [0, 1] (by rfl) ?_ ?_
  rotate_left 2
  · iterate 2 (refine sq rfl rfl rfl (by simp [go_sem, X, h0k, h3k, h4k, h5k, h6k, h7k, Try.f52]; rfl) ?_)
    rfl
  show ACode _ _ _ _ _ _ _
  refine ACode.condF (by simp [tget_set, opd]) ?_
  refine ACode.seq (ACode.regS noT_ok names_ok mix (t' := ?_) (L' := ?_) [0, 1] (by rfl) ?_ ?_)
  rotate_left 2
  · iterate 2 (refine sq rfl rfl rfl (by simp [go_sem, X, h0k, h3k, h4k, h5k, h6k, h7k, Try.f52]; rfl) ?_)
    rfl
  refine ACode.condF (by simp [tget_set, opd]) (ACode.skip ?_)
  show ACode _ _ (cSnd sfx52) _ _ _ _
  exact hfin _ (by simp [tget_set, t1]) (by simp [tget_set, t4]) (by simp [tget_set, t5]) (by simp [tget_set, t6])
theorem rbytes_k3 (hk : 0 ≤ e.k ∧ e.k ≤ 8) (hs : 0 ≤ e.s ∧ e.s ≤ 4) (hr : EvR e) (hkk : e.k = 3) : RBy L e := by
  obtain ⟨A, h0, hpre⟩ := rbytes_pre L e hk hs
  have hE := h0.ev
  have hX := h0.re
  have hn0 := h0.nx
  have h1 := h0.new (oneB (.int .u8 e.lv))
  have hlb : lowB e.lv = e.lv := lowB_id hr.lv
  have hy : (⟨A.t.set A.next (oneB (.int .u8 e.lv)), A.next + 1⟩ : Heap).t.get A.next = some (oneB (.int .u8 e.lv)) := T.get_set_same _ _ _
  generalize hA1 : (⟨A.t.set A.next (oneB (.int .u8 e.lv)), A.next + 1⟩ : Heap) = A1 at *
  obtain ⟨v2, A2, ap2, h2⟩ := h1.app (new := [e.lv]) (oneB_src hy) (by simp)
  have h3 := h2.put { ({ e with k := 0, s := 0 } : Evt) with lv := 0 }
  rw [← hA1] at ap2
  unfold oneB at ap2
  have hE2 := h2.ev
  have hX2 := h2.re
  have hE3 := h3.ev
  by_cases hlv2 : 2 < e.lv
  ·
    have hbad : wBad e = true := by
      have : out 3 e.lv = true := by unfold out; simp; omega
      simp [wBad, hkk, this]
    refine RBy.no hbad ?_ h3.keep h3.old
    refine hpre _ _ _ fun t t1 t4 t5 t6 => ?_
    show ACode _ _ (Code.seq (Code.seq (Code.region _ _ _) (Code.block 0 _)) _) _ _ _ _
    refine ACode.seq ?_
    have hE' := hE
    have hX' := hX
    simp only [evB, evF] at hE' hX'
    simp only [evB, evF] at hE2 hX2
    refine ACode.seq (ACode.regS noT_ok names_ok mix (t' := ?_) (L' := ?_) [0, 1] (by rfl) ?_ ?_)
    rotate_left 2
    · iterate 2 (refine sq rfl rfl rfl (by simp [go_sem, X, t1, hE', hkk, Try.f52]; rfl) ?_)
      rfl
    refine ACode.block (ACode.seq ?_)
    refine ACode.seq (ACode.regS noT_ok names_ok mix (t' := ?_) (L' := ?_) [0, 1] (by rfl) ?_ ?_)
    rotate_left 2
    · iterate 2 (refine sq rfl rfl rfl (by simp [go_sem, X, hkk, Try.f52]; rfl) ?_)
      rfl
    refine ACode.condF (by simp [tget_set, opd]) ?_
    refine ACode.regS noT_ok names_ok mix (t' := ?_) (L' := ?_) [0, 1] (by rfl) ?_ ?_
    rotate_left 2
    · iterate 2 (refine sq rfl rfl rfl (by simp [go_sem, X, hkk, Try.f52]; rfl) ?_)
      rfl
    show ACode _ _ _ _ _ _ _
    refine ACode.condF (by simp [tget_set, opd]) ?_
    refine ACode.seq (ACode.regS noT_ok names_ok mix (t' := ?_) (L' := ?_) [0, 1] (by rfl) ?_ ?_)
    rotate_left 2
    · iterate 2 (refine sq rfl rfl rfl (by simp [go_sem, X, hkk, Try.f52]; rfl) ?_)
      rfl
    refine ACode.condT (by simp [tget_set, opd]) ?_
    refine ACode.seq (ACode.regS noT_ok names_ok mix (t' := ?_) (L' := ?_) [0, 1, 2, 3, 4, 5] (by rfl) ?_ ?_)
    rotate_left 2
    · iterate 6 (refine sq rfl rfl rfl (by simp [go_sem, X, t1, t4, hE', pi38, ap2, Try.f52]; rfl) ?_)
      rfl
    refine ACode.seq (ACode.regS noT_ok names_ok mix (t' := ?_) (L' := ?_) [0, 1] (by rfl) ?_ ?_)
    rotate_left 2
    · iterate 2 (refine sq rfl rfl rfl (by simp [go_sem, X, t5, hX2, Try.f52]; rfl) ?_)
      rfl
    change ACode _ _ _ _ _ ⟨A2.t.set (L.next + 2) (evB (evF { ({ e with k := 0, s := 0 } : Evt) with lv := 0 })), A2.next⟩ _
    generalize (⟨A2.t.set (L.next + 2) (evB (evF { ({ e with k := 0, s := 0 } : Evt) with lv := 0 })), A2.next⟩ : Heap) = A3 at *
    simp only [evB, evF] at hE3
    refine ACode.seq (ACode.regS noT_ok names_ok mix (t' := ?_) (L' := ?_) [0] (by rfl) ?_ ?_)
    rotate_left 2
    · refine sq rfl rfl rfl (by simp [go_sem, X, Try.f52]; rfl) ?_
      rfl
    refine ACode.seq (ACode.regS noT_ok names_ok mix (t' := ?_) (L' := ?_) [0, 1, 2] (by rfl) ?_ ?_)
    rotate_left 2
    · iterate 3 (refine sq rfl rfl rfl (by simp [go_sem, X, t1, hE3, hlv2, Try.f52]; rfl) ?_)
      rfl
    refine ACode.condT (by simp [tget_set, opd]) ?_
    refine ACode.seq (ACode.regS noT_ok names_ok mix (t' := ?_) (L' := ?_) [0, 1] (by rfl) ?_ ?_)
    rotate_left 2
    · iterate 2 (refine sq rfl rfl rfl (by simp [go_sem, X, Try.f52]; rfl) ?_)
      rfl
    refine ACode.ret ?_
    exact ⟨rfl, rfl, rfl, by simp [tget_set], by simp [tget_set]⟩
  obtain ⟨A', v', hfin, h4⟩ := rbytes_fin h3 hr.t (by simp) true
  refine RBy.yes h4 ?_ (b := decide ((if true = true then { ({ ({ e with k := 0, s := 0 } : Evt) with lv := 0 } : Evt) with t := [] } else { ({ e with k := 0, s := 0 } : Evt) with lv := 0 }) = zeroE) && decide (e.t.length < 64)) ?_ ?_
  rotate_left 1
  · exact pas_eq hk hs hkk ⟨hr.lv.1, by omega⟩
  · intro _
    simp [wBytes, wTail, hkk, hlb]
  refine hpre _ _ _ fun t t1 t4 t5 t6 => ?_
  show ACode _ _ (Code.seq (Code.seq (Code.region _ _ _) (Code.block 0 _)) _) _ _ _ _
  refine ACode.seq ?_
  have hE' := hE
  have hX' := hX
  simp only [evB, evF] at hE' hX'
  simp only [evB, evF] at hE2 hX2
  refine ACode.seq (ACode.regS noT_ok names_ok mix (t' := ?_) (L' := ?_) [0, 1] (by rfl) ?_ ?_)
  rotate_left 2
  · iterate 2 (refine sq rfl rfl rfl (by simp [go_sem, X, t1, hE', hkk, Try.f52]; rfl) ?_)
    rfl
  refine ACode.block (ACode.seq ?_)
  refine ACode.seq (ACode.regS noT_ok names_ok mix (t' := ?_) (L' := ?_) [0, 1] (by rfl) ?_ ?_)
  rotate_left 2
  · iterate 2 (refine sq rfl rfl rfl (by simp [go_sem, X, hkk, Try.f52]; rfl) ?_)
    rfl
  refine ACode.condF (by simp [tget_set, opd]) ?_
  refine ACode.regS noT_ok names_ok mix (t' := ?_) (L' := ?_) [0, 1] (by rfl) ?_ ?_
  rotate_left 2
  · iterate 2 (refine sq rfl rfl rfl (by simp [go_sem, X, hkk, Try.f52]; rfl) ?_)
    rfl
  show ACode _ _ _ _ _ _ _
  refine ACode.condF (by simp [tget_set, opd]) ?_
  refine ACode.seq (ACode.regS noT_ok names_ok mix (t' := ?_) (L' := ?_) [0, 1] (by rfl) ?_ ?_)
  rotate_left 2
  · iterate 2 (refine sq rfl rfl rfl (by simp [go_sem, X, hkk, Try.f52]; rfl) ?_)
    rfl
  refine ACode.condT (by simp [tget_set, opd]) ?_
  refine ACode.seq (ACode.regS noT_ok names_ok mix (t' := ?_) (L' := ?_) [0, 1, 2, 3, 4, 5] (by rfl) ?_ ?_)
  rotate_left 2
  · iterate 6 (refine sq rfl rfl rfl (by simp [go_sem, X, t1, t4, hE', pi38, ap2, Try.f52]; rfl) ?_)
    rfl
  refine ACode.seq (ACode.regS noT_ok names_ok mix (t' := ?_) (L' := ?_) [0, 1] (by rfl) ?_ ?_)
  rotate_left 2
  · iterate 2 (refine sq rfl rfl rfl (by simp [go_sem, X, t5, hX2, Try.f52]; rfl) ?_)
    rfl
  change ACode _ _ _ _ _ ⟨A2.t.set (L.next + 2) (evB (evF { ({ e with k := 0, s := 0 } : Evt) with lv := 0 })), A2.next⟩ _
  generalize (⟨A2.t.set (L.next + 2) (evB (evF { ({ e with k := 0, s := 0 } : Evt) with lv := 0 })), A2.next⟩ : Heap) = A3 at *
  simp only [evB, evF] at hE3
  refine ACode.seq (ACode.regS noT_ok names_ok mix (t' := ?_) (L' := ?_) [0] (by rfl) ?_ ?_)
  rotate_left 2
  · refine sq rfl rfl rfl (by simp [go_sem, X, Try.f52]; rfl) ?_
    rfl
  refine ACode.seq (ACode.regS noT_ok names_ok mix (t' := ?_) (L' := ?_) [0, 1, 2] (by rfl) ?_ ?_)
  rotate_left 2
  · iterate 3 (refine sq rfl rfl rfl (by simp [go_sem, X, t1, hE3, hlv2, Try.f52]; rfl) ?_)
    rfl
  refine ACode.condF (by simp [tget_set, opd]) (ACode.skip ?_)
  show ACode _ _ (cSnd sfx52) _ _ _ _
  exact hfin _ (by simp [tget_set, t1]) (by simp [tget_set]) (by simp [tget_set, t5]) (by simp [tget_set])
theorem rbytes_k7 (hk : 0 ≤ e.k ∧ e.k ≤ 8) (hs : 0 ≤ e.s ∧ e.s ≤ 4) (hr : EvR e) (hkk : e.k = 7) : RBy L e := by
  obtain ⟨A, h0, hpre⟩ := rbytes_pre L e hk hs
  have hE := h0.ev
  have hX := h0.re
  have hn0 := h0.nx
  by_cases hw : e.w < 0 ∨ 7 < e.w
  ·
    have hbad : wBad e = true := by
      have : out 8 e.w = true := by unfold out; simp; omega
      simp [wBad, hkk, this]
    refine RBy.no hbad ?_ h0.keep h0.old
    refine hpre _ _ _ fun t t1 t4 t5 t6 => ?_
    show ACode _ _ (Code.seq (Code.seq (Code.region _ _ _) (Code.block 0 _)) _) _ _ _ _
    refine ACode.seq ?_
    have hE' := hE
    have hX' := hX
    simp only [evB, evF] at hE' hX'
    refine ACode.seq (ACode.regS noT_ok names_ok mix (t' := ?_) (L' := ?_) [0, 1] (by rfl) ?_ ?_)
    rotate_left 2
    · iterate 2 (refine sq rfl rfl rfl (by simp [go_sem, X, t1, hE', hkk, Try.f52]; rfl) ?_)
      rfl
    refine ACode.block (ACode.seq ?_)
    refine ACode.seq (ACode.regS noT_ok names_ok mix (t' := ?_) (L' := ?_) [0, 1] (by rfl) ?_ ?_)
    rotate_left 2
    · iterate 2 (refine sq rfl rfl rfl (by simp [go_sem, X, hkk, Try.f52]; rfl) ?_)
      rfl
    refine ACode.condF (by simp [tget_set, opd]) ?_
    refine ACode.regS noT_ok names_ok mix (t' := ?_) (L' := ?_) [0, 1] (by rfl) ?_ ?_
    rotate_left 2
    · iterate 2 (refine sq rfl rfl rfl (by simp [go_sem, X, hkk, Try.f52]; rfl) ?_)
      rfl
    show ACode _ _ _ _ _ _ _
    refine ACode.condF (by simp [tget_set, opd]) ?_
    refine ACode.seq (ACode.regS noT_ok names_ok mix (t' := ?_) (L' := ?_) [0, 1] (by rfl) ?_ ?_)
    rotate_left 2
    · iterate 2 (refine sq rfl rfl rfl (by simp [go_sem, X, hkk, Try.f52]; rfl) ?_)
      rfl
    refine ACode.condF (by simp [tget_set, opd]) ?_
    refine ACode.seq ?_
    refine ACode.seq (ACode.regS noT_ok names_ok mix (t' := ?_) (L' := ?_) [0, 1] (by rfl) ?_ ?_)
    rotate_left 2
    · iterate 2 (refine sq rfl rfl rfl (by simp [go_sem, X, hkk, Try.f52]; rfl) ?_)
      rfl
    refine ACode.condF (by simp [tget_set, opd]) ?_
    refine ACode.regS noT_ok names_ok mix (t' := ?_) (L' := ?_) [0, 1] (by rfl) ?_ ?_
    rotate_left 2
    · iterate 2 (refine sq rfl rfl rfl (by simp [go_sem, X, hkk, Try.f52]; rfl) ?_)
      rfl
    show ACode _ _ _ _ _ _ _
    refine ACode.condF (by simp [tget_set, opd]) ?_
    refine ACode.seq (ACode.regS noT_ok names_ok mix (t' := ?_) (L' := ?_) [0, 1] (by rfl) ?_ ?_)
    rotate_left 2
    · iterate 2 (refine sq rfl rfl rfl (by simp [go_sem, X, hkk, Try.f52]; rfl) ?_)
      rfl
    refine ACode.condT (by simp [tget_set, opd]) ?_
    refine ACode.seq (ACode.seq ?_)
    by_cases w0 : e.w < 0
    ·
      refine ACode.regS noT_ok names_ok mix (t' := ?_) (L' := ?_) [0, 1, 2, 3, 4, 5, 6, 7] (by rfl) ?_ ?_
      rotate_left 2
      · iterate 4 (refine sq rfl rfl rfl (by simp [go_sem, X, t1, hE', w0, Try.f52]; rfl) ?_)
        iterate 3 (refine sk rfl rfl (by simp [go_sem, X, t1, hE', w0, Try.f52]) ?_)
        refine sq rfl rfl rfl (by simp [go_sem, X, t1, hE', w0, Try.f52]; rfl) ?_
        rfl
      refine ACode.condT (by simp [tget_set, opd]) ?_
      refine ACode.seq (ACode.regS noT_ok names_ok mix (t' := ?_) (L' := ?_) [0, 1] (by rfl) ?_ ?_)
      rotate_left 2
      · iterate 2 (refine sq rfl rfl rfl (by simp [go_sem, X, Try.f52]; rfl) ?_)
        rfl
      refine ACode.ret ?_
      exact ⟨rfl, rfl, rfl, by simp [tget_set], by simp [tget_set]⟩
    ·
      have w7 : 7 < e.w := by omega
      refine ACode.regS noT_ok names_ok mix (t' := ?_) (L' := ?_) [0, 1, 2, 3, 4, 5, 6, 7] (by rfl) ?_ ?_
      rotate_left 2
      · iterate 4 (refine sq rfl rfl rfl (by simp [go_sem, X, t1, hE', w0, w7, Try.f52]; rfl) ?_)
        iterate 3 (refine sq rfl rfl (by simp [go_sem, X, t1, hE', w0, w7, Try.f52]) (by simp [go_sem, X, t1, hE', w0, w7, Try.f52]; rfl) ?_)
        refine sq rfl rfl rfl (by simp [go_sem, X, t1, hE', w0, w7, Try.f52]; rfl) ?_
        rfl
      refine ACode.condT (by simp [tget_set, opd]) ?_
      refine ACode.seq (ACode.regS noT_ok names_ok mix (t' := ?_) (L' := ?_) [0, 1] (by rfl) ?_ ?_)
      rotate_left 2
      · iterate 2 (refine sq rfl rfl rfl (by simp [go_sem, X, Try.f52]; rfl) ?_)
        rfl
      refine ACode.ret ?_
      exact ⟨rfl, rfl, rfl, by simp [tget_set], by simp [tget_set]⟩
  have w0 : ¬ e.w < 0 := by omega
  have w7 : ¬ 7 < e.w := by omega
  have h1 := h0.new (oneB (.int .u8 (lowB e.w)))
  have hy : (⟨A.t.set A.next (oneB (.int .u8 (lowB e.w))), A.next + 1⟩ : Heap).t.get A.next = some (oneB (.int .u8 (lowB e.w))) := T.get_set_same _ _ _
  generalize hA1 : (⟨A.t.set A.next (oneB (.int .u8 (lowB e.w))), A.next + 1⟩ : Heap) = A1 at *
  obtain ⟨v2, A2, ap2, h2⟩ := h1.app (new := [lowB e.w]) (oneB_src hy) (by simp)
  have h3 := h2.put { ({ e with k := 0, s := 0 } : Evt) with w := 0 }
  rw [← hA1] at ap2
  unfold oneB at ap2
  have hX2 := h2.re
  obtain ⟨A', v', hfin, h4⟩ := rbytes_fin h3 hr.t (by simp) false
  refine RBy.yes h4 ?_ (b := decide ((if false = true then { ({ ({ e with k := 0, s := 0 } : Evt) with w := 0 } : Evt) with t := [] } else { ({ e with k := 0, s := 0 } : Evt) with w := 0 }) = zeroE) && decide (e.t.length < 64)) ?_ ?_
  rotate_left 1
  · exact wha_eq hk hs hkk ⟨by omega, by omega⟩
  · intro _
    simp [wBytes, wTail, hkk]
  refine hpre _ _ _ fun t t1 t4 t5 t6 => ?_
  show ACode _ _ (Code.seq (Code.seq (Code.region _ _ _) (Code.block 0 _)) _) _ _ _ _
  refine ACode.seq ?_
  have hE' := hE
  have hX' := hX
  simp only [evB, evF] at hE' hX'
  refine ACode.seq (ACode.regS noT_ok names_ok mix (t' := ?_) (L' := ?_) [0, 1] (by rfl) ?_ ?_)
  rotate_left 2
  · iterate 2 (refine sq rfl rfl rfl (by simp [go_sem, X, t1, hE', hkk, Try.f52]; rfl) ?_)
    rfl
  refine ACode.block (ACode.seq ?_)
  refine ACode.seq (ACode.regS noT_ok names_ok mix (t' := ?_) (L' := ?_) [0, 1] (by rfl) ?_ ?_)
  rotate_left 2
  · iterate 2 (refine sq rfl rfl rfl (by simp [go_sem, X, hkk, Try.f52]; rfl) ?_)
    rfl
  refine ACode.condF (by simp [tget_set, opd]) ?_
  refine ACode.regS noT_ok names_ok mix (t' := ?_) (L' := ?_) [0, 1] (by rfl) ?_ ?_
  rotate_left 2
  · iterate 2 (refine sq rfl rfl rfl (by simp [go_sem, X, hkk, Try.f52]; rfl) ?_)
    rfl
  show ACode _ _ _ _ _ _ _
  refine ACode.condF (by simp [tget_set, opd]) ?_
  refine ACode.seq (ACode.regS noT_ok names_ok mix (t' := ?_) (L' := ?_) [0, 1] (by rfl) ?_ ?_)
  rotate_left 2
  · iterate 2 (refine sq rfl rfl rfl (by simp [go_sem, X, hkk, Try.f52]; rfl) ?_)
    rfl
  refine ACode.condF (by simp [tget_set, opd]) ?_
  refine ACode.seq ?_
  refine ACode.seq (ACode.regS noT_ok names_ok mix (t' := ?_) (L' := ?_) [0, 1] (by rfl) ?_ ?_)
  rotate_left 2
  · iterate 2 (refine sq rfl rfl rfl (by simp [go_sem, X, hkk, Try.f52]; rfl) ?_)
    rfl
  refine ACode.condF (by simp [tget_set, opd]) ?_
  refine ACode.regS noT_ok names_ok mix (t' := ?_) (L' := ?_) [0, 1] (by rfl) ?_ ?_
  rotate_left 2
  · iterate 2 (refine sq rfl rfl rfl (by simp [go_sem, X, hkk, Try.f52]; rfl) ?_)
    rfl
  show ACode _ _ _ _ _ _ _
  refine ACode.condF (by simp [tget_set, opd]) ?_
  refine ACode.seq (ACode.regS noT_ok names_ok mix (t' := ?_) (L' := ?_) [0, 1] (by rfl) ?_ ?_)
  rotate_left 2
  · iterate 2 (refine sq rfl rfl rfl (by simp [go_sem, X, hkk, Try.f52]; rfl) ?_)
    rfl
  refine ACode.condT (by simp [tget_set, opd]) ?_
  refine ACode.seq (ACode.seq ?_)
  simp only [evB, evF] at hX2
  refine ACode.regS noT_ok names_ok mix (t' := ?_) (L' := ?_) [0, 1, 2, 3, 4, 5, 6, 7] (by rfl) ?_ ?_
  rotate_left 2
  · iterate 4 (refine sq rfl rfl rfl (by simp [go_sem, X, t1, hE', w0, w7, Try.f52]; rfl) ?_)
    iterate 3 (refine sq rfl rfl (by simp [go_sem, X, t1, hE', w0, w7, Try.f52]) (by simp [go_sem, X, t1, hE', w0, w7, Try.f52]; rfl) ?_)
    refine sq rfl rfl rfl (by simp [go_sem, X, t1, hE', w0, w7, Try.f52]; rfl) ?_
    rfl
  refine ACode.condF (by simp [tget_set, opd]) (ACode.skip ?_)
  show ACode _ _ _ _ _ _ _
  refine ACode.seq (ACode.regS noT_ok names_ok mix (t' := ?_) (L' := ?_) [0, 1, 2, 3, 4, 5, 6] (by rfl) ?_ ?_)
  rotate_left 2
  · iterate 7 (refine sq rfl rfl rfl (by simp [go_sem, X, t1, t4, hE', pi38, lowB_eq, ap2, Try.f52]; rfl) ?_)
    rfl
  refine ACode.regS noT_ok names_ok mix (t' := ?_) (L' := ?_) [0, 1] (by rfl) ?_ ?_
  rotate_left 2
  · iterate 2 (refine sq rfl rfl rfl (by simp [go_sem, X, t5, hX2, Try.f52]; rfl) ?_)
    rfl
  show ACode _ _ (cSnd sfx52) _ _ ⟨A2.t.set (L.next + 2) (evB (evF { ({ e with k := 0, s := 0 } : Evt) with w := 0 })), A2.next⟩ _
  exact hfin _ (by simp [tget_set, t1]) (by simp [tget_set]) (by simp [tget_set, t5]) (by simp [tget_set, t6])
end
end Go.Proofs.Ytpfmoolpeecobaa
