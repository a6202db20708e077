/- Rules for code on named states, where values are not numbers that are known: each is a rule of the machine's by E10 to E13. -/
import Derived.Test.YtpfmoolpeecobaaX13
namespace Go.Proofs.Ytpfmoolpeecobaa.Ev
open Go.RowKit
set_option linter.unusedVariables false
set_option linter.unusedSimpArgs false
variable {P : Program} {w0 : World} {κ : KM} {L : Heap} {w : World} {t : T V} {a : Act}

/-- code, from a named state, on every machine that stands there: it ends in a named state that K has -/
def ACode (P : Program) (e : Env) (c : Code) (t : T V) (d : List Nat) (L : Heap) (K : Ex → T V → List Nat → Heap → Prop) : Prop :=
  ∀ (w0 : World) (κ : KM) (a : Act) (w : World) (ro : Option Nat) (n : Nat) (Q : Exit → Act → World → Prop), HR w0 κ L w → AR κ t a → e.nt ≤ a.tmps.size → DR κ d a.defers → RO κ e.ro ro →
    (∀ (x : Ex) (t' : T V) (d' : List Nat) (L' : Heap) (κ' : KM) (a' : Act) (w' : World), K x t' d' L' → κ.le κ' → HR w0 κ' L' w' → AR κ' t' a' → e.nt ≤ a'.tmps.size → DR κ' d' a'.defers → UN κ L κ' L' → Q (exOf x) a' w') →
    c.wpIn (WF ro) n P Q a w

/-- a call, from a named heap, on every machine that stands there: it answers v, and leaves a machine that stands at L' -/
def ACall (P : Program) (f : FuncId) (args : List V) (L : Heap) (v : V) (L' : Heap) : Prop :=
  ∀ (w0 : World) (κ : KM) (args' : Array Value) (w : World) (ro : Option Nat) (n : Nat), HR w0 κ L w → VRs κ args args'.toList →
    ∃ fn c, P.funcs[f]? = some fn ∧ fn.body = some c ∧ CallsIn (WF ro) n P f args' w (ResE w0 κ L v L')

/-- calls that are known -/
abbrev Tab := FuncId → List V → Heap → Option (V × Heap)
def recT (S : Tab) : Cmd → Rs
  | .call f args L => match S f args L with
    | some r => .val r.1 r.2
    | none => .no
  | _ => .no
def TabOk (P : Program) (S : Tab) : Prop := ∀ f args L v L', S f args L = some (v, L') → ACall P f args L v L'
theorem TabOk.sound {S : Tab} (h : TabOk P S) (w0 : World) : Sound P w0 (recT S) := by
  refine ⟨fun e c t d L x t' d' L' h => (by cases h), ?_, fun l args L v L' h => (by cases h)⟩
  intro f args L v L' hr κ args' w ro n H hv
  simp only [recT] at hr
  split at hr
  · rename_i r hs
    simp only [Rs.val.injEq] at hr
    obtain ⟨rfl, rfl⟩ := hr
    exact h f args L _ _ hs w0 κ args' w ro n H hv
  · cases hr

/-- the calls that S tells are known, and so are those that S' does -/
def orT (S S' : Tab) : Tab := fun f args L => match S f args L with
  | some r => some r
  | none => S' f args L
theorem TabOk.or {S S' : Tab} (h : TabOk P S) (h' : TabOk P S') : TabOk P (orT S S') := by
  intro f args L v L' e
  unfold orT at e
  split at e
  · injection e with e; subst e; exact h _ _ _ _ _ (by assumption)
  · exact h' _ _ _ _ _ e

section
variable {e : Env} {d : List Nat} {K : Ex → T V → List Nat → Heap → Prop}

theorem ACode.mono {c : Code} {K' : Ex → T V → List Nat → Heap → Prop} (h : ACode P e c t d L K) (hk : ∀ x t' d' L', K x t' d' L' → K' x t' d' L') : ACode P e c t d L K' :=
  fun w0 κ a w ro n Q H ha hn hd hr hQ => h w0 κ a w ro n Q H ha hn hd hr fun x t' d' L' κ' a' w' hK => hQ x t' d' L' κ' a' w' (hk _ _ _ _ hK)

theorem ACode.skip (h : K .normal t d L) : ACode P e .skip t d L K :=
  fun w0 κ a w ro n Q H ha hn hd hr hQ => wpIn_skip (hQ .normal t d L κ a w h (KM.le_refl _) H ha hn hd (UN_refl _ _))
theorem ACode.label {l : Nat} (h : K .normal t d L) : ACode P e (.label l) t d L K :=
  fun w0 κ a w ro n Q H ha hn hd hr hQ => wpIn_label (hQ .normal t d L κ a w h (KM.le_refl _) H ha hn hd (UN_refl _ _))
theorem ACode.exit {l : Nat} (h : K (.exit l) t d L) : ACode P e (.exit l) t d L K :=
  fun w0 κ a w ro n Q H ha hn hd hr hQ => wpIn_exit (hQ (.exit l) t d L κ a w h (KM.le_refl _) H ha hn hd (UN_refl _ _))
theorem ACode.ret (h : K .ret t d L) : ACode P e .ret t d L K :=
  fun w0 κ a w ro n Q H ha hn hd hr hQ => wpIn_ret (hQ .ret t d L κ a w h (KM.le_refl _) H ha hn hd (UN_refl _ _))

theorem ACode.region {S : Tab} (hS : TabOk P S) (hN : NamesOk P) (hmix : P.follows .mixedOrders = true) {id : Nat} {ops : Array Oper} {draw : Bool} {t' : T V} {L' : Heap}
    (h : regionE P (recT S) e ops draw t L = some (t', L')) (hK : K .normal t' d L') : ACode P e (.region id ops draw) t d L K := by
  intro w0 κ a w ro n Q H ha hn hd hr hQ
  refine region_sound hmix (hS.sound w0) hN h H ha hn ?_
  intro κ' a' w' h1 h2 h3 h4 h5 h6
  exact hQ .normal t' d L' κ' a' w' hK h1 h2 h3 (by rw [h4]; exact hn) (by rw [h5]; exact DR_mono h1 _ _ hd) h6

/-- behind code: on with the next, or out -/
def thenK (K1 : T V → List Nat → Heap → Prop) (K : Ex → T V → List Nat → Heap → Prop) : Ex → T V → List Nat → Heap → Prop
  | .normal => K1
  | x => K x

theorem ACode.seq {x y : Code} (h : ACode P e x t d L (thenK (fun t d L => ACode P e y t d L K) K)) : ACode P e (.seq x y) t d L K := by
  intro w0 κ a w ro n Q H ha hn hd hr hQ
  refine wpIn_seq (h w0 κ a w ro n _ H ha hn hd hr ?_)
  intro x t1 d1 L1 κ1 a1 w1 hK g1 g2 g3 g4 g5 g6
  cases x with
  | normal =>
    refine hK w0 κ1 a1 w1 ro n Q g2 g3 g4 g5 (RO_mono g1 hr) ?_
    intro x t' d' L' κ' a' w' hK f1 f2 f3 f4 f5 f6
    exact hQ x t' d' L' κ' a' w' hK (KM.le_trans g1 f1) f2 f3 f4 f5 (UN_trans g6 f6)
  | exit i => exact hQ (.exit i) t1 d1 L1 κ1 a1 w1 hK g1 g2 g3 g4 g5 g6
  | goto l => exact hQ (.goto l) t1 d1 L1 κ1 a1 w1 hK g1 g2 g3 g4 g5 g6
  | ret => exact hQ .ret t1 d1 L1 κ1 a1 w1 hK g1 g2 g3 g4 g5 g6

theorem ACode.condT {x : Operand} {u v : Code} (hx : opd t x = some (.bool true)) (h : ACode P e u t d L K) : ACode P e (.cond x u v) t d L K := by
  intro w0 κ a w ro n Q H ha hn hd hr hQ
  have hv := opd_VR (fun y _ => ha y : OpR κ t a x) hx
  simp only [VR] at hv
  exact wpIn_cond_true hv (h w0 κ a w ro n Q H ha hn hd hr hQ)
theorem ACode.condF {x : Operand} {u v : Code} (hx : opd t x = some (.bool false)) (h : ACode P e v t d L K) : ACode P e (.cond x u v) t d L K := by
  intro w0 κ a w ro n Q H ha hn hd hr hQ
  have hv := opd_VR (fun y _ => ha y : OpR κ t a x) hx
  simp only [VR] at hv
  exact wpIn_cond_false hv (h w0 κ a w ro n Q H ha hn hd hr hQ)
/-- by a question of one's own -/
theorem ACode.cond {x : Operand} {u v : Code} {p : Prop} [Decidable p] (hx : opd t x = some (.bool (decide p))) (h1 : p → ACode P e u t d L K) (h2 : ¬ p → ACode P e v t d L K) : ACode P e (.cond x u v) t d L K := by
  by_cases h : p
  · exact ACode.condT (by simpa [h] using hx) (h1 h)
  · exact ACode.condF (by simpa [h] using hx) (h2 h)

def blockK (id : Nat) (K : Ex → T V → List Nat → Heap → Prop) : Ex → T V → List Nat → Heap → Prop
  | .exit i => if i = id then K .normal else K (.exit i)
  | x => K x
theorem ACode.block {id : Nat} {c : Code} (h : ACode P e c t d L (blockK id K)) : ACode P e (.block id c) t d L K := by
  intro w0 κ a w ro n Q H ha hn hd hr hQ
  refine wpIn_block (h w0 κ a w ro n _ H ha hn hd hr ?_)
  intro x t1 d1 L1 κ1 a1 w1 hK g1 g2 g3 g4 g5 g6
  cases x with
  | normal => exact hQ .normal t1 d1 L1 κ1 a1 w1 hK g1 g2 g3 g4 g5 g6
  | exit i =>
    simp only [blockK] at hK
    simp only [exOf, Exit.inBlock]
    split at hK
    · rename_i hi
      rw [if_pos hi]
      exact hQ .normal t1 d1 L1 κ1 a1 w1 hK g1 g2 g3 g4 g5 g6
    · rename_i hi
      rw [if_neg hi]
      exact hQ (.exit i) t1 d1 L1 κ1 a1 w1 hK g1 g2 g3 g4 g5 g6
  | goto l => exact hQ (.goto l) t1 d1 L1 κ1 a1 w1 hK g1 g2 g3 g4 g5 g6
  | ret => exact hQ .ret t1 d1 L1 κ1 a1 w1 hK g1 g2 g3 g4 g5 g6

/-- a loop: what holds ahead of each round, and what each round makes less -/
theorem ACode.loop {c : Code} (I : T V → List Nat → Heap → Nat → Prop) {N : Nat} (h0 : I t d L N)
    (round : ∀ t d L N, I t d L N → ACode P e c t d L (thenK (fun t' d' L' => ∃ N', N' < N ∧ I t' d' L' N') K)) : ACode P e (.loop c) t d L K := by
  intro w0 κ a w ro n Q H ha hn hd hr hQ b k cs hro hb hroom
  have key : ∀ (N : Nat) (t : T V) (d : List Nat) (L1 : Heap) (κ1 : KM) (a : Act) (w : World), I t d L1 N → κ.le κ1 → HR w0 κ1 L1 w → AR κ1 t a → e.nt ≤ a.tmps.size → DR κ1 d a.defers → UN κ L κ1 L1 →
      ∃ e a' w', Q e a' w' ∧ ArrivesIn (Machine.fenced P (WF ro)) P (lone (b.atR a (.code c :: .inLoop c :: k)) cs w) b k cs e a' w' := by
    intro N
    induction N using Nat.strongRecOn with
    | _ N ih =>
      intro t d L1 κ1 a w hI hle H ha hn hd hU
      obtain ⟨ex, a1, w1, ⟨x, t2, d2, L2, κ2, rfl, hK, g1, g2, g3, g4, g5, g6⟩, harr⟩ :=
        round t d L1 N hI w0 κ1 a w ro n (fun ex a' w' => ∃ x t2 d2 L2 κ2, ex = exOf x ∧ thenK (fun t' d' L' => ∃ N', N' < N ∧ I t' d' L' N') K x t2 d2 L2 ∧ κ1.le κ2 ∧ HR w0 κ2 L2 w' ∧ AR κ2 t2 a' ∧ e.nt ≤ a'.tmps.size ∧ DR κ2 d2 a'.defers ∧ UN κ1 L1 κ2 L2)
          H ha hn hd (RO_mono hle hr) (fun x t2 d2 L2 κ2 a' w' h1 h2 h3 h4 h5 h6 h7 => ⟨x, t2, d2, L2, κ2, rfl, h1, h2, h3, h4, h5, h6, h7⟩) b (.inLoop c :: k) cs hro hb hroom
      cases x with
      | normal =>
        obtain ⟨N', hlt, hI'⟩ := hK
        obtain ⟨e2, a3, w3, hq, harr2⟩ := ih N' hlt t2 d2 L2 κ2 a1 w1 hI' (KM.le_trans hle g1) g2 g3 g4 g5 (UN_trans hU g6)
        exact ⟨e2, a3, w3, hq, .of_steps (StepsIn.trans harr (.one (fenced_calm hb hroom rfl) stepR_inLoop)) harr2⟩
      | exit i => exact ⟨_, a1, w1, hQ (.exit i) t2 d2 L2 κ2 a1 w1 hK (KM.le_trans hle g1) g2 g3 g4 g5 (UN_trans hU g6), .pass (x := .inLoop c) rfl (fun _ _ => .inl (by simp [exOf])) harr⟩
      | goto l => exact ⟨_, a1, w1, hQ (.goto l) t2 d2 L2 κ2 a1 w1 hK (KM.le_trans hle g1) g2 g3 g4 g5 (UN_trans hU g6), .pass (x := .inLoop c) rfl (fun _ _ => .inl (by simp [exOf])) harr⟩
      | ret => exact ⟨_, a1, w1, hQ .ret t2 d2 L2 κ2 a1 w1 hK (KM.le_trans hle g1) g2 g3 g4 g5 (UN_trans hU g6), .pass (x := .inLoop c) rfl (fun _ _ => .inl (by simp [exOf])) harr⟩
  obtain ⟨e2, a2, w2, hq2, harr2⟩ := key N t d L κ a w h0 (KM.le_refl _) H ha hn hd (UN_refl _ _)
  exact ⟨e2, a2, w2, hq2, .of_steps (.one (fenced_calm hb hroom rfl) stepR_loop) harr2⟩
end

/-! ### Names that are no longer needed go; those that stay move up -/

/-- new names' blocks -/
def tidyK (κ : KM) (nx : Nat) (ms : List Nat) : KM := fun n => if n < nx then κ n else (ms[n - nx]?).bind κ

mutual
def V.plain : V → Bool
  | .bool _ => true
  | .int _ _ => true
  | .str _ => true
  | .nilp => true
  | .nils => true
  | .nilm => true
  | .nilf => true
  | .nili => true
  | .agg cs => V.plains cs
  | .tuple cs => V.plains cs
  | _ => false
def V.plains : List V → Bool
  | [] => true
  | v :: vs => V.plain v && V.plains vs
end
mutual
theorem VR_plain {κ κ' : KM} : ∀ (v : V) (x : Value), v.plain = true → VR κ v x → VR κ' v x
  | .bool b, x, hp, hv => by simpa only [VR] using hv
  | .int k n, x, hp, hv => by simpa only [VR] using hv
  | .str l, x, hp, hv => by simpa only [VR] using hv
  | .ptr n o, x, hp, hv => by simp [V.plain] at hp
  | .nilp, x, hp, hv => by simpa only [VR] using hv
  | .slice n o len cap q, x, hp, hv => by simp [V.plain] at hp
  | .nils, x, hp, hv => by simpa only [VR] using hv
  | .map n, x, hp, hv => by simp [V.plain] at hp
  | .nilm, x, hp, hv => by simpa only [VR] using hv
  | .func f a b, x, hp, hv => by simp [V.plain] at hp
  | .yield n, x, hp, hv => by simp [V.plain] at hp
  | .nilf, x, hp, hv => by simpa only [VR] using hv
  | .iface t v, x, hp, hv => by simp [V.plain] at hp
  | .nili, x, hp, hv => by simpa only [VR] using hv
  | .agg cs, x, hp, hv => by
    simp only [VR] at hv ⊢
    simp only [V.plain] at hp
    obtain ⟨y, e, h1⟩ := hv
    exact ⟨y, e, VRs_plain _ _ hp h1⟩
  | .tuple cs, x, hp, hv => by
    simp only [VR] at hv ⊢
    simp only [V.plain] at hp
    obtain ⟨y, e, h1⟩ := hv
    exact ⟨y, e, VRs_plain _ _ hp h1⟩
theorem VRs_plain {κ κ' : KM} : ∀ (v : List V) (x : List Value), V.plains v = true → VRs κ v x → VRs κ' v x
  | [], x, hp, hv => by simpa only [VRs] using hv
  | v :: vs, x, hp, hv => by
    simp only [VRs] at hv ⊢
    simp only [V.plains, Bool.and_eq_true] at hp
    obtain ⟨y, ys, e, h1, h2⟩ := hv
    exact ⟨y, ys, e, VR_plain _ _ hp.1 h1, VRs_plain _ _ hp.2 h2⟩
end

mutual
theorem VR_back {κ κ' : KM} (h : κ.le κ') : ∀ (v : V) (y x : Value), VR κ v y → VR κ' v x → VR κ v x
  | .bool b, y, x, hy, hv => by simpa only [VR] using hv
  | .int k n, y, x, hy, hv => by simpa only [VR] using hv
  | .str l, y, x, hy, hv => by simpa only [VR] using hv
  | .ptr n o, y, x, hy, hv => by
    simp only [VR] at hy hv ⊢
    obtain ⟨k, hk, _⟩ := hy; obtain ⟨k', hk', e⟩ := hv
    rw [h _ _ hk] at hk'; injection hk' with hk'; subst hk'
    exact ⟨k, hk, e⟩
  | .nilp, y, x, hy, hv => by simpa only [VR] using hv
  | .slice n o len cap q, y, x, hy, hv => by
    simp only [VR] at hy hv ⊢
    obtain ⟨k, _, _, hk, _⟩ := hy; obtain ⟨k', a, c, hk', e⟩ := hv
    rw [h _ _ hk] at hk'; injection hk' with hk'; subst hk'
    exact ⟨k, a, c, hk, e⟩
  | .nils, y, x, hy, hv => by simpa only [VR] using hv
  | .map n, y, x, hy, hv => by
    simp only [VR] at hy hv ⊢
    obtain ⟨k, hk, _⟩ := hy; obtain ⟨k', hk', e⟩ := hv
    rw [h _ _ hk] at hk'; injection hk' with hk'; subst hk'
    exact ⟨k, hk, e⟩
  | .nilm, y, x, hy, hv => by simpa only [VR] using hv
  | .func f a b, y, x, hy, hv => by
    simp only [VR] at hy hv ⊢
    obtain ⟨xs, ys, _, h1, h2⟩ := hy; obtain ⟨xs', ys', e, h3, h4⟩ := hv
    exact ⟨xs', ys', e, VRs_back h _ _ _ h1 h3, VRs_back h _ _ _ h2 h4⟩
  | .yield n, y, x, hy, hv => by
    simp only [VR] at hy hv ⊢
    obtain ⟨k, hk, _⟩ := hy; obtain ⟨k', hk', e⟩ := hv
    rw [h _ _ hk] at hk'; injection hk' with hk'; subst hk'
    exact ⟨k, hk, e⟩
  | .nilf, y, x, hy, hv => by simpa only [VR] using hv
  | .iface t v, y, x, hy, hv => by
    simp only [VR] at hy hv ⊢
    obtain ⟨z, _, h1⟩ := hy; obtain ⟨z', e, h3⟩ := hv
    exact ⟨z', e, VR_back h _ _ _ h1 h3⟩
  | .nili, y, x, hy, hv => by simpa only [VR] using hv
  | .agg cs, y, x, hy, hv => by
    simp only [VR] at hy hv ⊢
    obtain ⟨z, _, h1⟩ := hy; obtain ⟨z', e, h3⟩ := hv
    exact ⟨z', e, VRs_back h _ _ _ h1 h3⟩
  | .tuple cs, y, x, hy, hv => by
    simp only [VR] at hy hv ⊢
    obtain ⟨z, _, h1⟩ := hy; obtain ⟨z', e, h3⟩ := hv
    exact ⟨z', e, VRs_back h _ _ _ h1 h3⟩
theorem VRs_back {κ κ' : KM} (h : κ.le κ') : ∀ (v : List V) (y x : List Value), VRs κ v y → VRs κ' v x → VRs κ v x
  | [], y, x, hy, hv => by simpa only [VRs] using hv
  | v :: vs, y, x, hy, hv => by
    simp only [VRs] at hy hv ⊢
    obtain ⟨z, zs, _, h1, h2⟩ := hy; obtain ⟨z', zs', e, h3, h4⟩ := hv
    exact ⟨z', zs', e, VR_back h _ _ _ h1 h3, VRs_back h _ _ _ h2 h4⟩
end
theorem VRs_has {κ : KM} : ∀ {vs : List V} {xs : List Value}, VRs κ vs xs → ∀ v ∈ vs, ∃ y, VR κ v y
  | [], _, _, v, hv => by cases hv
  | u :: vs, xs, h, v, hv => by
    obtain ⟨x, r, rfl, h1, h2⟩ := VRs_cons.1 h
    rcases List.mem_cons.1 hv with rfl | hv
    · exact ⟨x, h1⟩
    · exact VRs_has h2 v hv
theorem VRs_backP {κ κ' : KM} (h : κ.le κ') : ∀ {vs : List V} {xs : List Value}, (∀ v ∈ vs, ∃ y, VR κ v y) → VRs κ' vs xs → VRs κ vs xs
  | [], xs, _, hg => by
    rw [VRs_nil] at hg ⊢; exact hg
  | u :: vs, xs, hf, hg => by
    obtain ⟨x, r, rfl, h1, h2⟩ := VRs_cons.1 hg
    obtain ⟨y, hy⟩ := hf u (by simp)
    exact VRs_cons'.2 ⟨VR_back h _ _ _ hy h1, VRs_backP h (fun v hv => hf v (by simp [hv])) h2⟩
theorem BR_back {κ κ' : KM} (h : κ.le κ') {k : KB} {b : Blk} {o0 o : Obj} (h0 : BR κ k b o0) (h1 : BR κ' k b o) : BR κ k b o := by
  cases b with
  | cells c n sz q ro =>
    obtain ⟨xs0, el0, fr0, rfl, f1, f2, f3⟩ := h0
    obtain ⟨xs, el, fr, rfl, g1, g2, g3⟩ := h1
    refine ⟨xs, el, fr, rfl, g1, fun e l he => ?_, g3⟩
    obtain ⟨a1, a2, a3⟩ := f2 e l he
    obtain ⟨b1, b2, b3⟩ := g2 e l he
    refine ⟨b1, b2, fun j v hj => ?_⟩
    obtain ⟨y, _, hy⟩ := a3 j v hj
    obtain ⟨x, hx, hv⟩ := b3 j v hj
    exact ⟨x, hx, VR_back h _ _ _ hy hv⟩
  | map es =>
    obtain ⟨xs0, cl0, es0, rfl, hp0, f1, f2⟩ := h0
    obtain ⟨xs, cl, es1, rfl, hp1, g1, g2⟩ := h1
    have hp := hp1.trans hp0.symm
    exact ⟨xs, cl, es1, rfl, hp1, VRs_backP h (fun v hv => VRs_has f1 v ((hp.map _).mem_iff.1 hv)) g1, VRs_backP h (fun v hv => VRs_has f2 v ((hp.map _).mem_iff.1 hv)) g2⟩
  | loop st pend nt tm params assign body dfr =>
    obtain ⟨lp0, rfl, f1, f2, f3, f4, f5, f6, f7, kd0, fk, f8⟩ := h0
    obtain ⟨lp, rfl, g1, g2, g3, g4, g5, g6, g7, kd, gk, g8⟩ := h1
    have := h _ _ fk
    rw [gk] at this
    injection this with this
    subst this
    exact ⟨lp, rfl, g1, g2, g3, g4, g5, g6, fun x => VR_back h _ _ _ (f7 x) (g7 x), kd, fk, g8⟩
  | dfr q => exact h1

/-- a block that bears no name -/
def Blk.plain : Blk → Prop
  | .cells c _ _ _ ro => ro = false ∧ ∀ e l, c.get e = some l → V.plains l = true
  | _ => False
theorem V.plains_get {l : List V} (h : V.plains l = true) {j : Nat} {v : V} (hj : l[j]? = some v) : v.plain = true := by
  induction l generalizing j with
  | nil => simp at hj
  | cons x l ih =>
    simp only [V.plains, Bool.and_eq_true] at h
    cases j with
    | zero => simp at hj; subst hj; exact h.1
    | succ j => exact ih h.2 (by simpa using hj)
theorem BR_plain {κ κ' : KM} {k : KB} {b : Blk} {o : Obj} (hp : b.plain) (h : BR κ k b o) : BR κ' k b o := by
  cases b with
  | cells c n sz q ro =>
    obtain ⟨xs, el, fr, rfl, g1, g2, g3⟩ := h
    refine ⟨xs, el, fr, rfl, g1, fun e l he => ?_, g3⟩
    obtain ⟨b1, b2, b3⟩ := g2 e l he
    refine ⟨b1, b2, fun j v hj => ?_⟩
    obtain ⟨x, hx, hv⟩ := b3 j v hj
    exact ⟨x, hx, VR_plain _ _ (V.plains_get (hp.2 e l he) hj) hv⟩
  | map es => exact hp.elim
  | loop => exact hp.elim
  | dfr q => exact hp.elim

/-- of L1, which came of L, L' keeps what was in L, and ms, as new names -/
structure Tidy (L L1 L' : Heap) (ms : List Nat) : Prop where
  nodup : ms.Nodup
  next : L'.next = L.next + ms.length
  old' : ∀ n, n < L.next → L'.t.get n = L.t.get n
  old1 : ∀ n, n < L.next → L1.t.get n = L.t.get n
  lim : (∀ n, L.next ≤ n → L.t.get n = none) → ∀ n, L.next + ms.length ≤ n → L'.t.get n = none
  new : ∀ i m, ms[i]? = some m → L.next ≤ m ∧ ∃ b, L1.t.get m = some b ∧ L'.t.get (L.next + i) = some b ∧ b.plain

theorem HR.tidy {κ1 : KM} {L1 L' : Heap} {w1 : World} {ms : List Nat} (H0 : HR w0 κ L w) (H : HR w0 κ1 L1 w1) (hle : κ.le κ1) (hU : UN κ L κ1 L1) (hT : Tidy L L1 L' ms) :
    HR w0 (tidyK κ1 L.next ms) L' w1 ∧ κ.le (tidyK κ1 L.next ms) ∧ UN κ L (tidyK κ1 L.next ms) L' := by
  have hle2 : κ.le (tidyK κ1 L.next ms) := by
    intro n k hk
    unfold tidyK
    rw [if_pos (H0.dom n k hk).1]
    exact hle n k hk
  have cs : ∀ n k, tidyK κ1 L.next ms n = some k → (n < L.next ∧ κ1 n = some k ∧ L'.t.get n = L1.t.get n) ∨ (∃ i m, n = L.next + i ∧ ms[i]? = some m ∧ κ1 m = some k ∧ L'.t.get n = L1.t.get m ∧ L.next ≤ m) := by
    intro n k hk
    unfold tidyK at hk
    split at hk
    · rename_i hn
      exact .inl ⟨hn, hk, by rw [hT.old' n hn, hT.old1 n hn]⟩
    · rename_i hn
      simp only [Option.bind_eq_some_iff] at hk
      obtain ⟨m, hm, hk⟩ := hk
      obtain ⟨h1, b, h2, h3, _⟩ := hT.new _ _ hm
      refine .inr ⟨n - L.next, m, by omega, hm, hk, ?_, h1⟩
      rw [h2, ← h3]
      congr 1
      omega
  refine ⟨⟨H.below, ?_, ?_, ?_, ?_, ?_, ?_⟩, hle2, ?_⟩
  · intro n k hk
    rcases cs n k hk with ⟨h1, h2, _⟩ | ⟨i, m, rfl, h2, h3, _, _⟩
    · exact ⟨by rw [hT.next]; omega, (H.dom n k h2).2⟩
    · have := (List.getElem?_eq_some_iff.1 h2).1
      exact ⟨by rw [hT.next]; omega, (H.dom m k h3).2⟩
  · intro n hn
    exact hT.lim H0.lim n (by rw [← hT.next]; exact hn)
  · intro n k b hk hb hr
    rcases cs n k hk with ⟨h1, h2, h3⟩ | ⟨i, m, rfl, h2, h3, h4, _⟩
    · exact H.own n k b h2 (h3 ▸ hb) hr
    · exact H.own m k b h3 (h4 ▸ hb) hr
  · intro n k b hk hb hr
    rcases cs n k hk with ⟨h1, h2, h3⟩ | ⟨i, m, rfl, h2, h3, h4, _⟩
    · exact H.rod n k b h2 (h3 ▸ hb) hr
    · exact H.rod m k b h3 (h4 ▸ hb) hr
  · intro n m k k' b b' hn hm hb hb' hr hr' he
    rcases cs n k hn with ⟨h1, h2, h3⟩ | ⟨i, p, rfl, h2, h3, h4, h5⟩
    · rcases cs m k' hm with ⟨g1, g2, g3⟩ | ⟨j, q, rfl, g2, g3, g4, g5⟩
      · exact H.inj n m k k' b b' h2 g2 (h3 ▸ hb) (g3 ▸ hb') hr hr' he
      · have := H.inj n q k k' b b' h2 g3 (h3 ▸ hb) (g4 ▸ hb') hr hr' he
        omega
    · rcases cs m k' hm with ⟨g1, g2, g3⟩ | ⟨j, q, rfl, g2, g3, g4, g5⟩
      · have := H.inj p m k k' b b' h3 g2 (h4 ▸ hb) (g3 ▸ hb') hr hr' he
        omega
      · have := H.inj p q k k' b b' h3 g3 (h4 ▸ hb) (g4 ▸ hb') hr hr' he
        subst this
        have hi := List.getElem?_eq_some_iff.1 h2
        have hj := List.getElem?_eq_some_iff.1 g2
        have : i = j := (List.getElem_inj hT.nodup).1 (hi.2.trans hj.2.symm)
        rw [this]
  · intro n k b hk hb
    rcases cs n k hk with ⟨h1, h2, h3⟩ | ⟨i, m, rfl, h2, h3, h4, _⟩
    · obtain ⟨o, ho, hbr⟩ := H.blk n k b h2 (h3 ▸ hb)
      refine ⟨o, ho, ?_⟩
      cases hkn : κ n with
      | none => have := (hU.2 n h1 hkn).1; rw [h2] at this; cases this
      | some k' =>
        have := hle n k' hkn
        rw [h2] at this
        injection this with this
        subst this
        obtain ⟨o0, _, hbr0⟩ := H0.blk n k b hkn (by rw [← hT.old1 n h1, ← h3]; exact hb)
        exact BR_mono hle2 (BR_back hle hbr0 hbr)
    · obtain ⟨o, ho, hbr⟩ := H.blk m k b h3 (h4 ▸ hb)
      refine ⟨o, ho, BR_plain ?_ hbr⟩
      obtain ⟨_, b', hb', _, hp⟩ := hT.new _ _ h2
      rw [h4, hb'] at hb
      injection hb with hb
      exact hb ▸ hp
  · refine ⟨by rw [hT.next]; omega, fun n hn hkn => ?_⟩
    unfold tidyK
    rw [if_pos hn]
    exact ⟨(hU.2 n hn hkn).1, hT.old' n hn⟩

/-- where a body ends -/
def EndK (P : Program) (fn : Func) (L : Heap) (v : V) (L' : Heap) : Ex → T V → List Nat → Heap → Prop := fun x t1 d1 L1 =>
  (x = .normal ∨ x = .ret) ∧ ∃ L2 vs ms, closeMarks L1 d1 = some L2 ∧ resVals P t1 L2 fn.results.toList = some vs ∧ Tidy L L2 L' ms ∧ ∀ (κ1 : KM) (z : Value), VR κ1 (one1 vs) z → VR (tidyK κ1 L.next ms) v z

/-- A CALL's contract out of its body -/
theorem ACall.of_body {f : FuncId} {fn : Func} {c : Code} {args : List V} {v : V} {L' : Heap} (hfn : P.funcs[f]? = some fn) (hc : fn.body = some c)
    (h : ACode P ⟨none, fn.ntmps⟩ c (argsT args 0) [] L (EndK P fn L v L')) : ACall P f args L v L' := by
  intro w0 κ args' w ro n H hv
  refine ⟨fn, c, hfn, hc, callsIn_ro (ro := none) (callsIn_of_wp_marks hfn hc trivial ?_)⟩
  refine h w0 κ _ w none n _ H (argsT_AR hv _) (by simp; omega) rfl rfl ?_
  rintro x t1 d1 L1 κ' a' w' ⟨hx, L2, vs, ms, hL2, hvs, hT, hvr⟩ hle H' ha' _ hd' hU
  have hl : LeavesInM (WF none) n P fn a'.tmps (ResE w0 κ L v L') a'.defers .returning w' := by
    refine leaves_sound d1 L1 w' _ hd' H' hL2 fun w2 H2 hU2 => ?_
    obtain ⟨z, hz, hvz⟩ := results_sound ha' H2 hvs
    obtain ⟨g1, g2, g3⟩ := HR.tidy H H2 hle (UN_trans hU hU2) hT
    exact ⟨z, hz, z, rfl, _, g2, g1, hvr _ _ hvz, g3⟩
  rcases hx with rfl | rfl <;> exact hl

/-- a run of the evaluator is a contract -/
theorem ACall.of_ev (hN : NamesOk P) (hmix : P.follows .mixedOrders = true) {N : Nat} {f : FuncId} {args : List V} {v : V} {L' : Heap} (h : ev P N (.call f args L) = .val v L') : ACall P f args L v L' :=
  fun w0 κ args' w ro n H hv => (ev_sound hN hmix w0 N).call _ _ _ _ _ h κ args' w ro n H hv

/-- nothing of an empty heap is asked: what is true of a call there is true of it everywhere, where no name is in it -/
theorem ACall.lift {f : FuncId} {args : List V} {v : V} {L1 : Heap} (h : ACall P f args ⟨.leaf, 0⟩ v L1) (hargs : V.plains args = true) (hv : v.plain = true) (L : Heap) : ACall P f args L v L := by
  intro w0 κ args' w ro n H hva
  obtain ⟨fn, c, hfn, hc, hcall⟩ := h w (fun _ => none) args' w ro n (HR.start w) (VRs_plain _ _ hargs hva)
  refine ⟨fn, c, hfn, hc, hcall.mono ?_⟩
  rintro e w' ⟨z, rfl, κ', _, H', hz, _⟩
  refine ⟨z, rfl, κ, KM.le_refl _, ?_, VR_plain _ _ hv hz, UN_refl _ _⟩
  have hb := H'.below
  refine ⟨H.below.trans (hb.mono H.below.size), fun n k hk => ⟨(H.dom n k hk).1, Nat.lt_of_lt_of_le (H.dom n k hk).2 hb.size⟩, H.lim, H.own, H.rod, H.inj, fun n k b hk hbn => ?_⟩
  obtain ⟨o, ho, hbr⟩ := H.blk n k b hk hbn
  exact ⟨o, by rw [hb.block _ (H.dom n k hk).2]; exact ho, hbr⟩
end Go.Proofs.Ytpfmoolpeecobaa.Ev
