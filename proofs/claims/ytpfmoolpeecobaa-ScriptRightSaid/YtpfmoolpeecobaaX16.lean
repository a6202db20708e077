/- Calls that change blocks that were there: those that bear old names alone. -/
import Derived.Test.YtpfmoolpeecobaaX15
namespace Go.Proofs.Ytpfmoolpeecobaa.Ev
open Go.RowKit
set_option linter.unusedVariables false
set_option linter.unusedSimpArgs false
variable {P : Program} {w0 : World} {κ : KM} {L : Heap} {w : World} {t : T V} {a : Act}

mutual
/-- a value that bears old names alone -/
def V.low (nx : Nat) : V → Bool
  | .ptr n _ => decide (n < nx)
  | .slice n _ _ _ _ => decide (n < nx)
  | .map n => decide (n < nx)
  | .func _ a b => V.lows nx a && V.lows nx b
  | .yield n => decide (n < nx)
  | .iface _ v => V.low nx v
  | .agg cs => V.lows nx cs
  | .tuple cs => V.lows nx cs
  | _ => true
def V.lows (nx : Nat) : List V → Bool
  | [] => true
  | v :: vs => V.low nx v && V.lows nx vs
end
mutual
theorem VR_low {nx : Nat} {κ κ' : KM} (h : ∀ n, n < nx → κ' n = κ n) : ∀ (v : V) (x : Value), v.low nx = true → VR κ v x → VR κ' v x
  | .bool b, x, hl, hv => by simpa only [VR] using hv
  | .int k n, x, hl, hv => by simpa only [VR] using hv
  | .str l, x, hl, hv => by simpa only [VR] using hv
  | .ptr n o, x, hl, hv => by
    simp only [VR] at hv ⊢
    simp only [V.low, decide_eq_true_eq] at hl
    obtain ⟨k, hk, e⟩ := hv
    exact ⟨k, by rw [h n hl, hk], e⟩
  | .nilp, x, hl, hv => by simpa only [VR] using hv
  | .slice n o len cap q, x, hl, hv => by
    simp only [VR] at hv ⊢
    simp only [V.low, decide_eq_true_eq] at hl
    obtain ⟨k, a, c, hk, e⟩ := hv
    exact ⟨k, a, c, by rw [h n hl, hk], e⟩
  | .nils, x, hl, hv => by simpa only [VR] using hv
  | .map n, x, hl, hv => by
    simp only [VR] at hv ⊢
    simp only [V.low, decide_eq_true_eq] at hl
    obtain ⟨k, hk, e⟩ := hv
    exact ⟨k, by rw [h n hl, hk], e⟩
  | .nilm, x, hl, hv => by simpa only [VR] using hv
  | .func f a b, x, hl, hv => by
    simp only [VR] at hv ⊢
    simp only [V.low, Bool.and_eq_true] at hl
    obtain ⟨xs, ys, e, h1, h2⟩ := hv
    exact ⟨xs, ys, e, VRs_low h _ _ hl.1 h1, VRs_low h _ _ hl.2 h2⟩
  | .yield n, x, hl, hv => by
    simp only [VR] at hv ⊢
    simp only [V.low, decide_eq_true_eq] at hl
    obtain ⟨k, hk, e⟩ := hv
    exact ⟨k, by rw [h n hl, hk], e⟩
  | .nilf, x, hl, hv => by simpa only [VR] using hv
  | .iface t v, x, hl, hv => by
    simp only [VR] at hv ⊢
    simp only [V.low] at hl
    obtain ⟨z, e, h1⟩ := hv
    exact ⟨z, e, VR_low h _ _ hl h1⟩
  | .nili, x, hl, hv => by simpa only [VR] using hv
  | .agg cs, x, hl, hv => by
    simp only [VR] at hv ⊢
    simp only [V.low] at hl
    obtain ⟨z, e, h1⟩ := hv
    exact ⟨z, e, VRs_low h _ _ hl h1⟩
  | .tuple cs, x, hl, hv => by
    simp only [VR] at hv ⊢
    simp only [V.low] at hl
    obtain ⟨z, e, h1⟩ := hv
    exact ⟨z, e, VRs_low h _ _ hl h1⟩
theorem VRs_low {nx : Nat} {κ κ' : KM} (h : ∀ n, n < nx → κ' n = κ n) : ∀ (v : List V) (x : List Value), V.lows nx v = true → VRs κ v x → VRs κ' v x
  | [], x, hl, hv => by simpa only [VRs] using hv
  | v :: vs, x, hl, hv => by
    simp only [VRs] at hv ⊢
    simp only [V.lows, Bool.and_eq_true] at hl
    obtain ⟨y, ys, e, h1, h2⟩ := hv
    exact ⟨y, ys, e, VR_low h _ _ hl.1 h1, VRs_low h _ _ hl.2 h2⟩
end
theorem V.lows_get {nx : Nat} {l : List V} (h : V.lows nx l = true) {j : Nat} {v : V} (hj : l[j]? = some v) : v.low nx = true := by
  induction l generalizing j with
  | nil => simp at hj
  | cons x l ih =>
    simp only [V.lows, Bool.and_eq_true] at h
    cases j with
    | zero => simp at hj; subst hj; exact h.1
    | succ j => exact ih h.2 (by simpa using hj)
/-- a block that bears old names alone -/
def Blk.low (nx : Nat) : Blk → Prop
  | .cells c _ _ _ ro => ro = false ∧ ∀ e l, c.get e = some l → V.lows nx l = true
  | _ => False
theorem BR_low {nx : Nat} {κ κ' : KM} (h : ∀ n, n < nx → κ' n = κ n) {k : KB} {b : Blk} {o : Obj} (hp : b.low nx) (hb : BR κ k b o) : BR κ' k b o := by
  cases b with
  | cells c n sz q ro =>
    obtain ⟨xs, el, fr, rfl, g1, g2, g3⟩ := hb
    refine ⟨xs, el, fr, rfl, g1, fun e l he => ?_, g3⟩
    obtain ⟨b1, b2, b3⟩ := g2 e l he
    refine ⟨b1, b2, fun j v hj => ?_⟩
    obtain ⟨x, hx, hv⟩ := b3 j v hj
    exact ⟨x, hx, VR_low h _ _ (V.lows_get (hp.2 e l he) hj) hv⟩
  | map es => exact hp.elim
  | loop => exact hp.elim
  | dfr q => exact hp.elim

/-- of L1, which came of L, L' keeps what was in L, as it is now, and ms, as new names -/
structure Tidy2 (L L1 L' : Heap) (ms : List Nat) : Prop where
  nodup : ms.Nodup
  next : L'.next = L.next + ms.length
  old : ∀ n, n < L.next → L'.t.get n = L1.t.get n
  chg : ∀ n b, n < L.next → L1.t.get n = some b → L.t.get n = some b ∨ b.low L.next
  lim : (∀ n, L.next ≤ n → L.t.get n = none) → ∀ n, L.next + ms.length ≤ n → L'.t.get n = none
  new : ∀ i m, ms[i]? = some m → L.next ≤ m ∧ ∃ b, L1.t.get m = some b ∧ L'.t.get (L.next + i) = some b ∧ b.low L.next

theorem HR.tidy2 {κ1 : KM} {L1 L' : Heap} {w1 : World} {ms : List Nat} (H0 : HR w0 κ L w) (H : HR w0 κ1 L1 w1) (hle : κ.le κ1) (hU : UN κ L κ1 L1) (hT : Tidy2 L L1 L' ms) :
    HR w0 (tidyK κ1 L.next ms) L' w1 ∧ κ.le (tidyK κ1 L.next ms) ∧ UN κ L (tidyK κ1 L.next ms) L' := by
  have hle2 : κ.le (tidyK κ1 L.next ms) := by
    intro n k hk
    unfold tidyK
    rw [if_pos (H0.dom n k hk).1]
    exact hle n k hk
  have hlow : ∀ n, n < L.next → tidyK κ1 L.next ms n = κ1 n := by
    intro n hn
    unfold tidyK
    rw [if_pos hn]
  have cs : ∀ n k, tidyK κ1 L.next ms n = some k → (n < L.next ∧ κ1 n = some k ∧ L'.t.get n = L1.t.get n) ∨ (∃ i m, n = L.next + i ∧ ms[i]? = some m ∧ κ1 m = some k ∧ L'.t.get n = L1.t.get m ∧ L.next ≤ m) := by
    intro n k hk
    unfold tidyK at hk
    split at hk
    · rename_i hn
      exact .inl ⟨hn, hk, hT.old n hn⟩
    · rename_i hn
      simp only [Option.bind_eq_some_iff] at hk
      obtain ⟨m, hm, hk⟩ := hk
      obtain ⟨h1, b, h2, h3, _⟩ := hT.new _ _ hm
      refine .inr ⟨n - L.next, m, by omega, hm, hk, ?_, h1⟩
      rw [h2, ← h3]
      congr 1
      omega
  refine ⟨⟨H.below, ?_, ?_, ?_, ?_, ?_, ?_⟩, hle2, ?_⟩
  · intro n k hk
    rcases cs n k hk with ⟨h1, h2, _⟩ | ⟨i, m, rfl, h2, h3, _, _⟩
    · exact ⟨by rw [hT.next]; omega, (H.dom n k h2).2⟩
    · have := (List.getElem?_eq_some_iff.1 h2).1
      exact ⟨by rw [hT.next]; omega, (H.dom m k h3).2⟩
  · intro n hn
    exact hT.lim H0.lim n (by rw [← hT.next]; exact hn)
  · intro n k b hk hb hr
    rcases cs n k hk with ⟨h1, h2, h3⟩ | ⟨i, m, rfl, h2, h3, h4, _⟩
    · exact H.own n k b h2 (h3 ▸ hb) hr
    · exact H.own m k b h3 (h4 ▸ hb) hr
  · intro n k b hk hb hr
    rcases cs n k hk with ⟨h1, h2, h3⟩ | ⟨i, m, rfl, h2, h3, h4, _⟩
    · exact H.rod n k b h2 (h3 ▸ hb) hr
    · exact H.rod m k b h3 (h4 ▸ hb) hr
  · intro n m k k' b b' hn hm hb hb' hr hr' he
    rcases cs n k hn with ⟨h1, h2, h3⟩ | ⟨i, p, rfl, h2, h3, h4, h5⟩
    · rcases cs m k' hm with ⟨g1, g2, g3⟩ | ⟨j, q, rfl, g2, g3, g4, g5⟩
      · exact H.inj n m k k' b b' h2 g2 (h3 ▸ hb) (g3 ▸ hb') hr hr' he
      · have := H.inj n q k k' b b' h2 g3 (h3 ▸ hb) (g4 ▸ hb') hr hr' he
        omega
    · rcases cs m k' hm with ⟨g1, g2, g3⟩ | ⟨j, q, rfl, g2, g3, g4, g5⟩
      · have := H.inj p m k k' b b' h3 g2 (h4 ▸ hb) (g3 ▸ hb') hr hr' he
        omega
      · have := H.inj p q k k' b b' h3 g3 (h4 ▸ hb) (g4 ▸ hb') hr hr' he
        subst this
        have hi := List.getElem?_eq_some_iff.1 h2
        have hj := List.getElem?_eq_some_iff.1 g2
        have : i = j := (List.getElem_inj hT.nodup).1 (hi.2.trans hj.2.symm)
        rw [this]
  · intro n k b hk hb
    rcases cs n k hk with ⟨h1, h2, h3⟩ | ⟨i, m, rfl, h2, h3, h4, _⟩
    · obtain ⟨o, ho, hbr⟩ := H.blk n k b h2 (h3 ▸ hb)
      refine ⟨o, ho, ?_⟩
      rcases hT.chg n b h1 (h3 ▸ hb) with h4 | h4
      · cases hkn : κ n with
        | none => have := (hU.2 n h1 hkn).1; rw [h2] at this; cases this
        | some k' =>
          have := hle n k' hkn
          rw [h2] at this
          injection this with this
          subst this
          obtain ⟨o0, _, hbr0⟩ := H0.blk n k b hkn h4
          exact BR_mono hle2 (BR_back hle hbr0 hbr)
      · exact BR_low hlow h4 hbr
    · obtain ⟨o, ho, hbr⟩ := H.blk m k b h3 (h4 ▸ hb)
      refine ⟨o, ho, BR_low hlow ?_ hbr⟩
      obtain ⟨_, b', hb', _, hp⟩ := hT.new _ _ h2
      rw [h4, hb'] at hb
      injection hb with hb
      exact hb ▸ hp
  · refine ⟨by rw [hT.next]; omega, fun n hn hkn => ?_⟩
    rw [hlow n hn]
    exact ⟨(hU.2 n hn hkn).1, by rw [hT.old n hn, (hU.2 n hn hkn).2]⟩

/-- where a body ends -/
def EndK2 (P : Program) (fn : Func) (L : Heap) (v : V) (L' : Heap) : Ex → T V → List Nat → Heap → Prop := fun x t1 d1 L1 =>
  (x = .normal ∨ x = .ret) ∧ ∃ L2 vs ms, closeMarks L1 d1 = some L2 ∧ resVals P t1 L2 fn.results.toList = some vs ∧ Tidy2 L L2 L' ms ∧ ∀ (κ1 : KM) (z : Value), VR κ1 (one1 vs) z → VR (tidyK κ1 L.next ms) v z
theorem ACall.of_body2 {f : FuncId} {fn : Func} {c : Code} {args : List V} {v : V} {L' : Heap} (hfn : P.funcs[f]? = some fn) (hc : fn.body = some c)
    (h : ACode P ⟨none, fn.ntmps⟩ c (argsT args 0) [] L (EndK2 P fn L v L')) : ACall P f args L v L' := by
  intro w0 κ args' w ro n H hv
  refine ⟨fn, c, hfn, hc, callsIn_ro (ro := none) (callsIn_of_wp_marks hfn hc trivial ?_)⟩
  refine h w0 κ _ w none n _ H (argsT_AR hv _) (by simp; omega) rfl rfl ?_
  rintro x t1 d1 L1 κ' a' w' ⟨hx, L2, vs, ms, hL2, hvs, hT, hvr⟩ hle H' ha' _ hd' hU
  have hl : LeavesInM (WF none) n P fn a'.tmps (ResE w0 κ L v L') a'.defers .returning w' := by
    refine leaves_sound d1 L1 w' _ hd' H' hL2 fun w2 H2 hU2 => ?_
    obtain ⟨z, hz, hvz⟩ := results_sound ha' H2 hvs
    obtain ⟨g1, g2, g3⟩ := HR.tidy2 H H2 hle (UN_trans hU hU2) hT
    exact ⟨z, hz, z, rfl, _, g2, g1, hvr _ _ hvz, g3⟩
  rcases hx with rfl | rfl <;> exact hl
/-- no garbage, no renaming: the heap is as it stands -/
theorem ACall.of_body_same {f : FuncId} {fn : Func} {c : Code} {args : List V} {v : V} {L' : Heap} (hfn : P.funcs[f]? = some fn) (hc : fn.body = some c)
    (h : ACode P ⟨none, fn.ntmps⟩ c (argsT args 0) [] L (fun x t1 d1 L1 => (x = .normal ∨ x = .ret) ∧ ∃ vs, closeMarks L1 d1 = some L' ∧ resVals P t1 L' fn.results.toList = some vs ∧ one1 vs = v)) : ACall P f args L v L' := by
  intro w0 κ args' w ro n H hv
  refine ⟨fn, c, hfn, hc, callsIn_ro (ro := none) (callsIn_of_wp_marks hfn hc trivial ?_)⟩
  refine h w0 κ _ w none n _ H (argsT_AR hv _) (by simp; omega) rfl rfl ?_
  rintro x t1 d1 L1 κ' a' w' ⟨hx, vs, hL2, hvs, hvr⟩ hle H' ha' _ hd' hU
  have hl : LeavesInM (WF none) n P fn a'.tmps (ResE w0 κ L v L') a'.defers .returning w' := by
    refine leaves_sound d1 L1 w' _ hd' H' hL2 fun w2 H2 hU2 => ?_
    obtain ⟨z, hz, hvz⟩ := results_sound ha' H2 hvs
    exact ⟨z, hz, z, rfl, _, hle, H2, hvr ▸ hvz, UN_trans hU hU2⟩
  rcases hx with rfl | rfl <;> exact hl
/-- old blocks are as they stand, all else goes -/
theorem Tidy2.zero {L1 : Heap} {T0 : T Blk} (h : ∀ n, n < L.next → T0.get n = L1.t.get n) (hc : ∀ n b, n < L.next → L1.t.get n = some b → L.t.get n = some b ∨ b.low L.next) (hl : ∀ n, L.next ≤ n → T0.get n = L.t.get n) : Tidy2 L L1 ⟨T0, L.next⟩ [] :=
  ⟨List.nodup_nil, rfl, h, hc, fun hlim n hn => by simp at hn; show T0.get n = none; rw [hl n hn]; exact hlim n hn, fun i m hm => by simp at hm⟩
theorem Tidy2.one {L1 : Heap} {T0 : T Blk} {m : Nat} {b : Blk} (h : ∀ n, n < L.next → T0.get n = L1.t.get n) (hc : ∀ n b, n < L.next → L1.t.get n = some b → L.t.get n = some b ∨ b.low L.next) (hl : ∀ n, L.next ≤ n → T0.get n = L.t.get n)
    (hm : L.next ≤ m) (hb : L1.t.get m = some b) (hp : b.low L.next) : Tidy2 L L1 ⟨T0.set L.next b, L.next + 1⟩ [m] := by
  refine ⟨by simp, rfl, fun n hn => by show (T0.set L.next b).get n = _; rw [T.get_set_ne _ _ (by omega), h n hn], hc, fun hlim n hn => ?_, fun i m' hm' => ?_⟩
  · simp only [List.length_singleton] at hn
    show (T0.set L.next b).get n = none
    rw [T.get_set_ne _ _ (by omega), hl n (by omega)]
    exact hlim n (by omega)
  · cases i with
    | zero =>
      simp only [List.getElem?_cons_zero, Option.some.injEq] at hm'
      subst hm'
      exact ⟨hm, b, hb, T.get_set_same _ _ _, hp⟩
    | succ i => simp at hm'
end Go.Proofs.Ytpfmoolpeecobaa.Ev
