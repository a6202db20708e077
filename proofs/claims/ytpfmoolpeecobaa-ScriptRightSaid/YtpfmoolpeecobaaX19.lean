/- Calls whose new blocks are forgotten: what they answer bears one new name, of which nothing is known. -/
import Derived.Test.YtpfmoolpeecobaaX18
namespace Go.Proofs.Ytpfmoolpeecobaa.Ev
open Go.RowKit
set_option linter.unusedVariables false
variable {P : Program} {w0 : World} {κ : KM} {L : Heap} {w : World} {t : T V} {a : Act}

/-- one more name -/
def nx (L : Heap) : Heap := ⟨L.t, L.next + 1⟩
theorem HR.forget {κ1 : KM} {L1 : Heap} {w1 : World} {m : Nat} (H0 : HR w0 κ L w) (H : HR w0 κ1 L1 w1) (hle : κ.le κ1) (hU : UN κ L κ1 L1) (hold : ∀ n, n < L.next → L1.t.get n = L.t.get n) :
    HR w0 (tidyK κ1 L.next [m]) (nx L) w1 ∧ κ.le (tidyK κ1 L.next [m]) ∧ UN κ L (tidyK κ1 L.next [m]) (nx L) := by
  have hle2 : κ.le (tidyK κ1 L.next [m]) := by
    intro n k hk
    unfold tidyK
    rw [if_pos (H0.dom n k hk).1]
    exact hle n k hk
  have cs : ∀ n k b, tidyK κ1 L.next [m] n = some k → L.t.get n = some b → n < L.next ∧ κ1 n = some k ∧ L1.t.get n = some b := by
    intro n k b hk hb
    have hn : n < L.next := by
      rcases Nat.lt_or_ge n L.next with h | h
      · exact h
      · rw [H0.lim n h] at hb; cases hb
    unfold tidyK at hk
    rw [if_pos hn] at hk
    exact ⟨hn, hk, by rw [hold n hn]; exact hb⟩
  refine ⟨⟨H.below, ?_, ?_, ?_, ?_, ?_, ?_⟩, hle2, ?_⟩
  · intro n k hk
    unfold tidyK at hk
    split at hk
    · rename_i hn
      exact ⟨Nat.lt_succ_of_lt hn, (H.dom n k hk).2⟩
    · rename_i hn
      simp only [Option.bind_eq_some_iff] at hk
      obtain ⟨y, hy, hk⟩ := hk
      have := (List.getElem?_eq_some_iff.1 hy).1
      simp only [List.length_singleton] at this
      exact ⟨by show n < L.next + 1; omega, (H.dom y k hk).2⟩
  · intro n hn
    exact H0.lim n (by have : L.next + 1 ≤ n := hn; omega)
  · intro n k b hk hb hr
    obtain ⟨_, h1, h2⟩ := cs n k b hk hb
    exact H.own n k b h1 h2 hr
  · intro n k b hk hb hr
    obtain ⟨_, h1, h2⟩ := cs n k b hk hb
    exact H.rod n k b h1 h2 hr
  · intro n m' k k' b b' hn hm' hb hb' hr hr' he
    obtain ⟨_, h1, h2⟩ := cs n k b hn hb
    obtain ⟨_, h3, h4⟩ := cs m' k' b' hm' hb'
    exact H.inj n m' k k' b b' h1 h3 h2 h4 hr hr' he
  · intro n k b hk hb
    obtain ⟨hn, h1, h2⟩ := cs n k b hk hb
    obtain ⟨o, ho, hbr⟩ := H.blk n k b h1 h2
    refine ⟨o, ho, ?_⟩
    cases hkn : κ n with
    | none => have := (hU.2 n hn hkn).1; rw [h1] at this; cases this
    | some k' =>
      have := hle n k' hkn
      rw [h1] at this
      injection this with this
      subst this
      obtain ⟨o0, _, hbr0⟩ := H0.blk n k b hkn hb
      exact BR_mono hle2 (BR_back hle hbr0 hbr)
  · refine ⟨Nat.le_succ _, fun n hn hkn => ?_⟩
    unfold tidyK
    rw [if_pos hn]
    exact ⟨(hU.2 n hn hkn).1, rfl⟩
/-- where such a body ends -/
def EndF (P : Program) (fn : Func) (L : Heap) (v : V) : Ex → T V → List Nat → Heap → Prop := fun x t1 d1 L1 =>
  (x = .normal ∨ x = .ret) ∧ ∃ L2 vs m, closeMarks L1 d1 = some L2 ∧ resVals P t1 L2 fn.results.toList = some vs ∧ (∀ n, n < L.next → L2.t.get n = L.t.get n) ∧ ∀ (κ1 : KM) (z : Value), VR κ1 (one1 vs) z → VR (tidyK κ1 L.next [m]) v z
theorem ACall.of_body_forget {f : FuncId} {fn : Func} {c : Code} {args : List V} {v : V} (hfn : P.funcs[f]? = some fn) (hc : fn.body = some c)
    (h : ACode P ⟨none, fn.ntmps⟩ c (argsT args 0) [] L (EndF P fn L v)) : ACall P f args L v (nx L) := by
  intro w0 κ args' w ro n H hv
  refine ⟨fn, c, hfn, hc, callsIn_ro (ro := none) (callsIn_of_wp_marks hfn hc trivial ?_)⟩
  refine h w0 κ _ w none n _ H (argsT_AR hv _) (by simp; omega) rfl rfl ?_
  rintro x t1 d1 L1 κ' a' w' ⟨hx, L2, vs, m, hL2, hvs, hold, hvr⟩ hle H' ha' _ hd' hU
  have hl : LeavesInM (WF none) n P fn a'.tmps (ResE w0 κ L v (nx L)) a'.defers .returning w' := by
    refine leaves_sound d1 L1 w' _ hd' H' hL2 fun w2 H2 hU2 => ?_
    obtain ⟨z, hz, hvz⟩ := results_sound ha' H2 hvs
    obtain ⟨g1, g2, g3⟩ := HR.forget (m := m) H H2 hle (UN_trans hU hU2) hold
    exact ⟨z, hz, z, rfl, _, g2, g1, hvr _ _ hvz, g3⟩
  rcases hx with rfl | rfl <;> exact hl
theorem VR_ptr_f {κ : KM} {nx m o : Nat} {z : Value} (h : VR κ (.ptr m o) z) : VR (tidyK κ nx [m]) (.ptr nx o) z := by
  simp only [VR] at h ⊢
  obtain ⟨k, hk, e⟩ := h
  exact ⟨k, by simp [tidyK, hk], e⟩
theorem VR_slice_f {κ : KM} {nx m o len cap : Nat} {q : Bool} {z : Value} (h : VR κ (.slice m o len cap q) z) : VR (tidyK κ nx [m]) (.slice nx o len cap q) z := by
  simp only [VR] at h ⊢
  obtain ⟨k, a, c, hk, e3⟩ := h
  exact ⟨k, a, c, by simp [tidyK, hk], e3⟩
theorem VR_ptr_int_f {κ : KM} {nx m o : Nat} {kd : IntKind} {e : Int} {z : Value} (h : VR κ (.tuple [.ptr m o, .int kd e]) z) : VR (tidyK κ nx [m]) (.tuple [.ptr nx o, .int kd e]) z := by
  simp only [VR] at h ⊢
  obtain ⟨xs, rfl, h⟩ := h
  obtain ⟨x, r, e1, h1, h2⟩ := VRs_cons.1 h
  refine ⟨xs, rfl, ?_⟩
  rw [e1]
  exact VRs_cons'.2 ⟨VR_ptr_f h1, VRs_plain (κ := κ) _ _ rfl h2⟩
end Go.Proofs.Ytpfmoolpeecobaa.Ev
