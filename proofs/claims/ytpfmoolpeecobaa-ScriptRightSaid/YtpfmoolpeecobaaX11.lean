/- Regions that draw their order: whatever order is drawn, the machine arrives where the evaluator does. -/
import Derived.Test.YtpfmoolpeecobaaX10
namespace Go.Proofs.Ytpfmoolpeecobaa.Ev
open Go.RowKit
set_option linter.unusedVariables false
set_option linter.unusedSimpArgs false
variable {P : Program} {w0 : World} {κ : KM} {L : Heap} {w : World} {t : T V} {a : Act}

/-- what the look at an order shows -/
structure OrdOk (P : Program) (ops : Array Oper) (anc : List Nat) (ord : List Nat) : Prop where
  all : ∀ j, j < ops.size → j ∈ ord
  lt : ∀ j ∈ ord, j < ops.size
  nodup : ord.Nodup
  edge : ∀ (j : Nat) (oj : Oper), ops[j]? = some oj → ∀ e ∈ oj.after.toList, Region.binds .any e = true → isAnc anc e.on j = true ∧ e.on < ops.size
  self : ∀ j, j < ops.size → isAnc anc j j = false
  ahead : ∀ i j, i < ops.size → j < ops.size → isAnc anc i j = true → ord.idxOf i < ord.idxOf j
  via : ∀ (i j : Nat) (oj : Oper), i < ops.size → ops[j]? = some oj → isAnc anc i j = true → ∃ e ∈ oj.after.toList, Region.binds .any e = true ∧ (e.on = i ∨ isAnc anc i e.on = true)
  loud : ∀ (i j : Nat) (oi : Oper), ops[i]? = some oi → j < ops.size → isQuiet (cls P oi) = false → ord.idxOf i < ord.idxOf j → isAnc anc i j = true
  one : ∀ (i j : Nat) (oi oj : Oper) (d : Tmp), ops[i]? = some oi → ops[j]? = some oj → oi.dst = some d → oj.dst = some d → i = j
  looks : ∀ (i j : Nat) (oi oj : Oper) (d : Tmp), ops[i]? = some oi → ops[j]? = some oj → oi.dst = some d → d ∈ looks ops oj → i = j ∨ isAnc anc i j = true ∨ isAnc anc j i = true

theorem orderOk_ok {ops : Array Oper} {anc ord : List Nat} (h : orderOk P ops anc ord = true) : OrdOk P ops anc ord := by
  unfold orderOk at h
  simp only [Bool.and_eq_true, List.all_eq_true, List.mem_range, List.contains_eq_mem, decide_eq_true_eq] at h
  obtain ⟨⟨⟨h1, h2⟩, h3⟩, h4⟩ := h
  have key : ∀ (j : Nat) (oj : Oper), ops[j]? = some oj → j < ops.size := fun j oj h => (Array.getElem?_eq_some_iff.1 h).1
  have hg : ∀ j, j < ops.size → ∃ oj, ops[j]? = some oj := fun j h => ⟨ops[j], by simp [h]⟩
  have hj : ∀ (j : Nat) (oj : Oper), ops[j]? = some oj → _ := fun j oj hoj => by
    have := h4 j (key j oj hoj)
    rw [hoj] at this
    simp only [Bool.and_eq_true, Bool.or_eq_true, Bool.not_eq_true', List.all_eq_true, List.mem_range] at this
    exact this
  have hij : ∀ (i j : Nat) (oi oj : Oper), ops[i]? = some oi → ops[j]? = some oj → _ := fun i j oi oj hoi hoj => by
    have := (hj j oj hoj).2 i (key i oi hoi)
    rw [hoi] at this
    simp only [Bool.and_eq_true, Bool.or_eq_true, Bool.not_eq_true', decide_eq_true_eq, List.any_eq_true, beq_iff_eq] at this
    exact this
  refine ⟨h1, h2, h3, ?_, ?_, ?_, ?_, ?_, ?_, ?_⟩
  · intro j oj hoj e he hb
    rcases (hj j oj hoj).1.1 e he with h | h
    · rw [hb] at h; cases h
    · exact ⟨h.1, by simpa using h.2⟩
  · intro j hjs
    obtain ⟨oj, hoj⟩ := hg j hjs
    exact (hj j oj hoj).1.2
  · intro i j hi hjs hanc
    obtain ⟨oi, hoi⟩ := hg i hi
    obtain ⟨oj, hoj⟩ := hg j hjs
    rcases (hij i j oi oj hoi hoj).1.1 with h | h
    · rw [hanc] at h; cases h
    · exact h.1
  · intro i j oj hi hoj hanc
    obtain ⟨oi, hoi⟩ := hg i hi
    rcases (hij i j oi oj hoi hoj).1.1 with h | h
    · rw [hanc] at h; cases h
    · obtain ⟨e, he, hb, hx⟩ := h.2
      exact ⟨e, he, hb, hx⟩
  · intro i j oi hoi hjs hq hlt
    obtain ⟨oj, hoj⟩ := hg j hjs
    rcases (hij i j oi oj hoi hoj).1.2 with (h | h) | h
    · rw [hq] at h; cases h
    · exact h
    · exact absurd hlt (by simpa using h)
  · intro i j oi oj d hoi hoj hdi hdj
    have := (hij i j oi oj hoi hoj).2
    rw [hdi] at this
    simp only [Bool.and_eq_true, Bool.or_eq_true, beq_iff_eq, decide_eq_true_eq] at this
    rcases this.1 with h | h
    · exact h
    · exact absurd hdj h
  · intro i j oi oj d hoi hoj hdi hd
    have := (hij i j oi oj hoi hoj).2
    rw [hdi] at this
    simp only [Bool.and_eq_true, Bool.or_eq_true, Bool.not_eq_true', beq_iff_eq, decide_eq_true_eq] at this
    rcases this.2 with ((h | h) | h) | h
    · simp [hd] at h
    · exact .inl h
    · exact .inr (.inl h)
    · exact .inr (.inr h)
/-- what the evaluator noted of an operation: the slots that it saw, its value, the name of its block -/
structure Pn where
  t : T V
  v : V
  m : Nat

def PK (P : Program) (ops : Array Oper) (κ : KM) (L : Heap) (pd : List Pend) (j : Nat) (o : Oper) (p : Pn) : Prop :=
  (wantedE ops o p.t = false ∧ p.v = undefV) ∨
  (wantedE ops o p.t = true ∧ ∃ r, cls P o = .quiet r ∧ quiet P o p.t L = some p.v ∧ (r = true → (⟨j, o, p.t, p.v⟩ : Pend) ∈ pd)) ∨
  (wantedE ops o p.t = true ∧ cls P o = .making ∧ ∃ b nv, making P o p.t = some (b, nv) ∧ p.v = nv.mk p.m ∧ L.t.get p.m = some b ∧ κ p.m = none ∧ p.m < L.next)

def isMk (P : Program) (ops : Array Oper) (o : Oper) (p : Pn) : Prop := wantedE ops o p.t = true ∧ cls P o = .making

theorem PK.lt {ops : Array Oper} {pd : List Pend} {j : Nat} {o : Oper} {p : Pn} (h : PK P ops κ L pd j o p) (hm : isMk P ops o p) : p.m < L.next := by
  rcases h with ⟨h1, _⟩ | ⟨_, r, h2, _⟩ | ⟨_, _, b, nv, _, _, _, _, h3⟩
  · rw [hm.1] at h1; cases h1
  · rw [hm.2] at h2; cases h2
  · exact h3

/-- the machine in the middle of a region: S have run on it; the evaluator has run D -/
structure Inv (P : Program) (w0 : World) (e : Env) (ops : Array Oper) (anc ord : List Nat) (T0 : T V) (κ0 : KM) (L0 : Heap) (a0 : Act)
    (S : Nat → Prop) (D rest : List Nat) (t : T V) (pd : List Pend) (L : Heap) (p : Nat → Pn) (κ : KM) (a : Act) (w : World) : Prop where
  hord : D ++ rest = ord
  sub : ∀ j, S j → j ∈ D
  clo : ∀ i j, S j → isAnc anc i j = true → i < ops.size → S i
  hr : HR w0 κ L w
  le : κ0.le κ
  un : UN κ0 L0 κ L
  sz : a.tmps.size = a0.tmps.size
  sz0 : e.nt ≤ a0.tmps.size
  df : a.defers = a0.defers
  sl1 : ∀ (x i : Nat) (o : Oper), ops[i]? = some o → o.dst = some x → S i → VR κ (tget t x) (a.tmps.getD x undef)
  sl0 : ∀ x : Nat, (∀ (i : Nat) (o : Oper), ops[i]? = some o → o.dst = some x → ¬ S i) → VR κ (tget T0 x) (a.tmps.getD x undef)
  t0 : ∀ x : Nat, (∀ i ∈ D, ∀ o : Oper, ops[i]? = some o → o.dst ≠ some x) → tget t x = tget T0 x
  pn : ∀ j ∈ D, ¬ S j → ∀ o : Oper, ops[j]? = some o → PK P ops κ L pd j o (p j) ∧ (∀ d, o.dst = some d → tget t d = (p j).v) ∧ fits e o = true
  lk : ∀ j ∈ D, ¬ S j → ∀ o : Oper, ops[j]? = some o → ∀ x ∈ looks ops o,
    (∀ (i : Nat) (oi : Oper), ops[i]? = some oi → oi.dst = some x → isAnc anc i j = true → tget (p j).t x = tget t x) ∧
    ((∀ (i : Nat) (oi : Oper), ops[i]? = some oi → oi.dst = some x → isAnc anc i j = false) → tget (p j).t x = tget T0 x)
  inj : ∀ j ∈ D, ¬ S j → ∀ o : Oper, ops[j]? = some o → ∀ j' ∈ D, ¬ S j' → ∀ o' : Oper, ops[j']? = some o' → isMk P ops o (p j) → isMk P ops o' (p j') → (p j).m = (p j').m → j = j'
  lo : ∀ j ∈ D, ¬ S j → ∀ o : Oper, ops[j]? = some o → isMk P ops o (p j) → L0.next ≤ (p j).m

section
variable {e : Env} {ops : Array Oper} {anc ord : List Nat} {T0 : T V} {κ0 : KM} {L0 : Heap} {a0 : Act} {S : Nat → Prop} {D rest : List Nat} {pd : List Pend} {p : Nat → Pn}

theorem idx_lt {D rest : List Nat} {x y : Nat} (hn : (D ++ rest).Nodup) (hx : x ∈ D) (hy : y ∈ rest) : (D ++ rest).idxOf x < (D ++ rest).idxOf y := by
  have hy' : y ∉ D := fun h => (List.nodup_append.1 hn).2.2 y h y hy rfl
  rw [List.idxOf_append, if_pos hx, List.idxOf_append, if_neg hy']
  have := List.idxOf_lt_length_iff.2 hx
  omega

theorem Inv.notIn {i : Nat} (hO : OrdOk P ops anc ord) (I : Inv P w0 e ops anc ord T0 κ0 L0 a0 S D (i :: rest) t pd L p κ a w) : i ∉ D := by
  have hn := hO.nodup
  rw [← I.hord] at hn
  exact fun h => (List.nodup_append.1 hn).2.2 i h i (by simp) rfl

theorem Inv.notS {i : Nat} (hO : OrdOk P ops anc ord) (I : Inv P w0 e ops anc ord T0 κ0 L0 a0 S D (i :: rest) t pd L p κ a w) : ¬ S i := fun h => I.notIn hO (I.sub i h)

theorem Inv.notAnc {i : Nat} (hO : OrdOk P ops anc ord) (I : Inv P w0 e ops anc ord T0 κ0 L0 a0 S D (i :: rest) t pd L p κ a w) {j : Nat} (hj : j ∈ D) : isAnc anc i j = false := by
  cases h : isAnc anc i j with
  | false => rfl
  | true =>
    have hi : i < ops.size := hO.lt i (by rw [← I.hord]; simp)
    have hjs : j < ops.size := hO.lt j (by rw [← I.hord]; simp [hj])
    have h1 := hO.ahead i j hi hjs h
    have hn := hO.nodup
    rw [← I.hord] at hn h1
    have h2 := idx_lt hn hj (y := i) (by simp)
    omega

/-- the evaluator runs one more that changes nothing -/
theorem Inv.step1 {i : Nat} (hO : OrdOk P ops anc ord) (I : Inv P w0 e ops anc ord T0 κ0 L0 a0 S D (i :: rest) t pd L p κ a w) {o : Oper} (ho : ops[i]? = some o) (hf : fits e o = true)
    {v : V} {m : Nat} {pd' : List Pend} {L' : Heap} (hpd : ∀ x ∈ pd, x ∈ pd') (hext : L.ext L') (hH : HR w0 κ L' w) (hun : UN κ L κ L')
    (hPK : PK P ops κ L' pd' i o ⟨t, v, m⟩) (hnew : isMk P ops o ⟨t, v, m⟩ → L.next ≤ m) :
    Inv P w0 e ops anc ord T0 κ0 L0 a0 S (D ++ [i]) rest (putD t o.dst v) pd' L' (fun j => if j = i then ⟨t, v, m⟩ else p j) κ a w := by
  have hni := I.notIn hO
  have hS := I.notS hO
  have hdst : ∀ (x k : Nat) (ok : Oper), ops[k]? = some ok → ok.dst = some x → k ≠ i → o.dst ≠ some x := fun x k ok hk hkd hne h => hne (hO.one k i ok o x hk ho hkd h)
  have hne : ∀ j ∈ D, j ≠ i := fun j hj h => hni (h ▸ hj)
  refine ⟨by rw [← I.hord]; simp, fun j hj => by simp [I.sub j hj], I.clo, hH, I.le, UN_trans I.un hun, I.sz, I.sz0, I.df, ?_, I.sl0, ?_, ?_, ?_, ?_, ?_⟩
  · intro x k ok hk hkd hSk
    rw [tget_putD_ne (hdst x k ok hk hkd fun h => hS (h ▸ hSk))]
    exact I.sl1 x k ok hk hkd hSk
  · intro x hx
    rw [tget_putD_ne (hx i (by simp) o ho)]
    exact I.t0 x fun k hk => hx k (by simp [hk])
  · intro j hj hjS oj hoj
    by_cases hji : j = i
    · subst hji
      rw [ho] at hoj; injection hoj with hoj; subst hoj
      simp only [if_true]
      refine ⟨hPK, fun d hd => ?_, hf⟩
      rw [hd]
      exact tget_set_same
    · have hjD : j ∈ D := by simpa [hji] using hj
      simp only [if_neg hji]
      obtain ⟨h1, h2, h3⟩ := I.pn j hjD hjS oj hoj
      refine ⟨?_, fun d hd => ?_, h3⟩
      · rcases h1 with h1 | ⟨hw, r, hc, hq, hr⟩ | ⟨hw, hc, b, nv, hmk, hv, hb, hk, hlt⟩
        · exact .inl h1
        · exact .inr (.inl ⟨hw, r, hc, quiet_ext hext hq, fun h => hpd _ (hr h)⟩)
        · exact .inr (.inr ⟨hw, hc, b, nv, hmk, hv, hext _ _ hb, hk, Nat.lt_of_lt_of_le hlt hun.1⟩)
      · rw [tget_putD_ne (hdst d j oj hoj hd hji)]
        exact h2 d hd
  · intro j hj hjS oj hoj x hx
    by_cases hji : j = i
    · subst hji
      rw [ho] at hoj; injection hoj with hoj; subst hoj
      simp only [if_true]
      refine ⟨fun k ok hk hkd hanc => ?_, fun hall => ?_⟩
      · rw [tget_putD_ne (hdst x k ok hk hkd fun h => ?_)]
        subst h
        rw [hO.self k (hO.lt k (by rw [← I.hord]; simp))] at hanc
        cases hanc
      · refine I.t0 x fun k hk ok hok hkd => ?_
        rcases hO.looks k j ok o x hok ho hkd hx with h | h | h
        · exact hne k hk h
        · rw [hall k ok hok hkd] at h; cases h
        · rw [I.notAnc hO hk] at h; cases h
    · have hjD : j ∈ D := by simpa [hji] using hj
      simp only [if_neg hji]
      obtain ⟨h1, h2⟩ := I.lk j hjD hjS oj hoj x hx
      refine ⟨fun k ok hk hkd hanc => ?_, h2⟩
      rw [tget_putD_ne (hdst x k ok hk hkd fun h => ?_)]
      · exact h1 k ok hk hkd hanc
      · subst h
        rw [I.notAnc hO hjD] at hanc; cases hanc
  · intro j hj hjS oj hoj j' hj' hjS' oj' hoj' hm hm' he
    by_cases hji : j = i
    · by_cases hji' : j' = i
      · rw [hji, hji']
      · have hjD' : j' ∈ D := by simpa [hji'] using hj'
        subst hji
        rw [ho] at hoj; injection hoj with hoj; subst hoj
        simp only [if_true, if_neg hji'] at hm hm' he
        have h1 := (I.pn j' hjD' hjS' oj' hoj').1.lt hm'
        have h2 := hnew hm
        omega
    · have hjD : j ∈ D := by simpa [hji] using hj
      by_cases hji' : j' = i
      · subst hji'
        rw [ho] at hoj'; injection hoj' with hoj'; subst hoj'
        simp only [if_true, if_neg hji] at hm hm' he
        have h1 := (I.pn j hjD hjS oj hoj).1.lt hm
        have h2 := hnew hm'
        omega
      · have hjD' : j' ∈ D := by simpa [hji'] using hj'
        simp only [if_neg hji, if_neg hji'] at hm hm' he
        exact I.inj j hjD hjS oj hoj j' hjD' hjS' oj' hoj' hm hm' he
  · intro j hj hjS oj hoj hm
    by_cases hji : j = i
    · subst hji
      rw [ho] at hoj; injection hoj with hoj; subst hoj
      simp only [if_true] at hm ⊢
      exact Nat.le_trans I.un.1 (hnew hm)
    · have hjD : j ∈ D := by simpa [hji] using hj
      simp only [if_neg hji] at hm ⊢
      exact I.lo j hjD hjS oj hoj hm

theorem Inv.advance {i : Nat} (hO : OrdOk P ops anc ord) (I : Inv P w0 e ops anc ord T0 κ0 L0 a0 S D (i :: rest) t pd L p κ a w) {rec : Cmd → Rs} {R : T V × Heap}
    (hd : drawE P rec e ops anc (i :: rest) t pd L = some R) {o : Oper} (ho : ops[i]? = some o) (hq : wantedE ops o t = false ∨ isQuiet (cls P o) = true) :
    ∃ t' pd' L' p', Inv P w0 e ops anc ord T0 κ0 L0 a0 S (D ++ [i]) rest t' pd' L' p' κ a w ∧ drawE P rec e ops anc rest t' pd' L' = some R := by
  simp only [drawE, ho, Option.bind_some, guardO_some] at hd
  obtain ⟨hf, hd⟩ := hd
  split at hd
  · rename_i hw
    have hq : isQuiet (cls P o) = true := hq.resolve_left (by rw [hw]; simp)
    simp only [Option.bind_eq_some_iff] at hd
    obtain ⟨⟨v, L1⟩, h1, h2⟩ := hd
    unfold oneE at h1
    cases hc : cls P o with
    | quiet r =>
      rw [hc] at h1 h2
      simp only [Option.map_eq_some_iff, Prod.mk.injEq] at h1
      obtain ⟨v', hv, rfl, rfl⟩ := h1
      cases r with
      | true => exact ⟨_, _, _, _, I.step1 hO ho hf (v := v') (m := 0) (pd' := ⟨i, o, t, v'⟩ :: pd) (L' := L) (fun x hx => by simp [hx]) (fun _ _ h => h) I.hr (UN_refl _ _) (.inr (.inl ⟨hw, true, hc, hv, fun _ => by simp⟩)) (fun h => by rw [h.2] at hc; cases hc), h2⟩
      | false => exact ⟨_, _, _, _, I.step1 hO ho hf (v := v') (m := 0) (pd' := pd) (L' := L) (fun x hx => hx) (fun _ _ h => h) I.hr (UN_refl _ _) (.inr (.inl ⟨hw, false, hc, hv, fun h => by cases h⟩)) (fun h => by rw [h.2] at hc; cases hc), h2⟩
    | making =>
      rw [hc] at h1 h2
      simp only [Option.map_eq_some_iff, Prod.mk.injEq] at h1
      obtain ⟨⟨b, nv⟩, hm, rfl, rfl⟩ := h1
      have hfree : κ L.next = none := I.hr.free (Nat.le_refl _)
      refine ⟨_, _, _, _, I.step1 hO ho hf (v := nv.mk L.next) (m := L.next) (pd' := pd) (L' := ⟨L.t.set L.next b, L.next + 1⟩) (fun x hx => hx) ?_ (I.hr.name b) ?_
        (.inr (.inr ⟨hw, hc, b, nv, hm, rfl, T.get_set_same _ _ _, hfree, Nat.lt_succ_self _⟩)) (fun _ => Nat.le_refl _), h2⟩
      · intro n b' hb'
        have hne : n ≠ L.next := fun h => by subst h; rw [I.hr.lim _ (Nat.le_refl _)] at hb'; cases hb'
        exact (T.get_set_ne _ _ hne).trans hb'
      · exact ⟨Nat.le_succ _, fun n hn hkn => ⟨hkn, T.get_set_ne _ _ (by omega)⟩⟩
    | loud => rw [hc] at hq; cases hq
    | call => rw [hc] at hq; cases hq
  · rename_i hw
    exact ⟨_, _, _, _, I.step1 hO ho hf (v := undefV) (m := 0) (pd' := pd) (L' := L) (fun x hx => hx) (fun _ _ h => h) I.hr (UN_refl _ _) (.inl ⟨hw, rfl⟩) (fun h => by rw [h.1] at hw; cases hw), hd⟩

/-- the machine runs one that the evaluator has run -/
theorem Inv.exec {j : Nat} (hO : OrdOk P ops anc ord) (I : Inv P w0 e ops anc ord T0 κ0 L0 a0 S D rest t pd L p κ a w) (hjD : j ∈ D) (hjS : ¬ S j) (hrdy : ∀ i, i < ops.size → isAnc anc i j = true → S i)
    {o : Oper} (ho : ops[j]? = some o) {z : Value} {κ' : KM} {w' : World} (hle : κ.le κ') (H' : HR w0 κ' L w') (hv : VR κ' (p j).v z) (hU : UN κ0 L0 κ' L)
    (hoth : ∀ j' ∈ D, ¬ S j' → j' ≠ j → ∀ o' : Oper, ops[j']? = some o' → isMk P ops o' (p j') → κ' (p j').m = none) :
    Inv P w0 e ops anc ord T0 κ0 L0 a0 (fun x => S x ∨ x = j) D rest t pd L p κ' (a.put o.dst z) w' := by
  obtain ⟨hPK, hval, hfit⟩ := I.pn j hjD hjS o ho
  refine ⟨I.hord, ?_, ?_, H', KM.le_trans I.le hle, hU, by rw [Act.put_tmps_size]; exact I.sz, I.sz0, by rw [Act.put_defers']; exact I.df, ?_, ?_, I.t0, ?_, ?_, ?_, ?_⟩
  · rintro k (h | rfl)
    · exact I.sub k h
    · exact hjD
  · rintro i k (h | rfl) hanc hi
    · exact .inl (I.clo i k h hanc hi)
    · exact .inl (hrdy i hi hanc)
  · rintro x k ok hok hkd (h | rfl)
    · rw [Act.put_ne (fun hd => hjS (hO.one k j ok o x hok ho hkd hd ▸ h))]
      exact VR_mono hle _ _ (I.sl1 x k ok hok hkd h)
    · rw [ho] at hok; injection hok with hok; subst hok
      unfold fits at hfit
      rw [hkd] at hfit ⊢
      rw [Act.put_same (Nat.lt_of_lt_of_le (by simpa using hfit) (by rw [I.sz]; exact I.sz0)), hval x hkd]
      exact hv
  · intro x hx
    rw [Act.put_ne (fun hd => hx j o ho hd (.inr rfl))]
    exact VR_mono hle _ _ (I.sl0 x fun k ok hok hkd h => hx k ok hok hkd (.inl h))
  · intro k hkD hkS ok hok
    obtain ⟨h1, h2, h3⟩ := I.pn k hkD (fun h => hkS (.inl h)) ok hok
    refine ⟨?_, h2, h3⟩
    rcases h1 with h1 | h1 | ⟨hw, hc, b, nv, hmk, hv, hb, hk, hlt⟩
    · exact .inl h1
    · exact .inr (.inl h1)
    · exact .inr (.inr ⟨hw, hc, b, nv, hmk, hv, hb, hoth k hkD (fun h => hkS (.inl h)) (fun h => hkS (.inr h)) ok hok ⟨hw, hc⟩, hlt⟩)
  · exact fun k hkD hkS => I.lk k hkD (fun h => hkS (.inl h))
  · exact fun k hkD hkS ok hok k' hkD' hkS' => I.inj k hkD (fun h => hkS (.inl h)) ok hok k' hkD' (fun h => hkS' (.inl h))
  · exact fun k hkD hkS => I.lo k hkD (fun h => hkS (.inl h))
theorem mem_looks_op {o : Oper} {y : Tmp} (h : Operand.tmp y ∈ o.op.operands) : y ∈ looks ops o := by
  unfold looks
  refine List.mem_append_left _ (List.mem_filterMap.2 ⟨.tmp y, by simpa using h, rfl⟩)
theorem mem_looks_guard {o : Oper} {g : Nat} {want : Bool} {d : Tmp} (hg : o.guard = some (g, want)) (hd : (ops[g]?).bind (·.dst) = some d) : d ∈ looks ops o := by
  unfold looks
  rw [hg]
  refine List.mem_append_right _ ?_
  simp [hd]

/-- a pending operation sees on the machine what the evaluator saw -/
theorem Inv.see {j : Nat} (hO : OrdOk P ops anc ord) (I : Inv P w0 e ops anc ord T0 κ0 L0 a0 S D rest t pd L p κ a w) (hjD : j ∈ D) (hjS : ¬ S j) (hrdy : ∀ i, i < ops.size → isAnc anc i j = true → S i)
    {o : Oper} (ho : ops[j]? = some o) : ∀ y ∈ looks ops o, VR κ (tget (p j).t y) (a.tmps.getD y undef) := by
  intro y hy
  obtain ⟨h1, h2⟩ := I.lk j hjD hjS o ho y hy
  have hlt : ∀ (k : Nat) (ok : Oper), ops[k]? = some ok → k < ops.size := fun k ok h => (Array.getElem?_eq_some_iff.1 h).1
  by_cases hx : ∃ (k : Nat) (ok : Oper), ops[k]? = some ok ∧ ok.dst = some y ∧ S k
  · obtain ⟨k, ok, hok, hkd, hSk⟩ := hx
    have hanc : isAnc anc k j = true := by
      rcases hO.looks k j ok o y hok ho hkd hy with h | h | h
      · exact absurd hSk (h ▸ hjS)
      · exact h
      · exact absurd (I.clo j k hSk h (hlt j o ho)) hjS
    rw [h1 k ok hok hkd hanc]
    exact I.sl1 y k ok hok hkd hSk
  · rw [h2 fun k ok hok hkd => ?_]
    · exact I.sl0 y fun k ok hok hkd h => hx ⟨k, ok, hok, hkd, h⟩
    · cases h : isAnc anc k j with
      | false => rfl
      | true => exact absurd ⟨k, ok, hok, hkd, hrdy k (hlt k ok hok) h⟩ hx

/-- the next one sees on the machine what the evaluator sees -/
theorem Inv.seeNext {i : Nat} (hO : OrdOk P ops anc ord) (I : Inv P w0 e ops anc ord T0 κ0 L0 a0 S D (i :: rest) t pd L p κ a w) (hrdy : ∀ k, k < ops.size → isAnc anc k i = true → S k)
    {o : Oper} (ho : ops[i]? = some o) : ∀ y ∈ looks ops o, VR κ (tget t y) (a.tmps.getD y undef) := by
  intro y hy
  have hlt : ∀ (k : Nat) (ok : Oper), ops[k]? = some ok → k < ops.size := fun k ok h => (Array.getElem?_eq_some_iff.1 h).1
  by_cases hx : ∃ (k : Nat) (ok : Oper), ops[k]? = some ok ∧ ok.dst = some y ∧ S k
  · obtain ⟨k, ok, hok, hkd, hSk⟩ := hx
    exact I.sl1 y k ok hok hkd hSk
  · rw [I.t0 y fun k hk ok hok hkd => ?_]
    · exact I.sl0 y fun k ok hok hkd h => hx ⟨k, ok, hok, hkd, h⟩
    · rcases hO.looks k i ok o y hok ho hkd hy with h | h | h
      · exact I.notIn hO (h ▸ hk)
      · exact hx ⟨k, ok, hok, hkd, hrdy k (hlt k ok hok) h⟩
      · rw [I.notAnc hO hk] at h; cases h

theorem wanted_see {o : Oper} (h : ∀ y ∈ looks ops o, VR κ (tget t y) (a.tmps.getD y undef)) : wantedE ops o t = Region.wanted o (yielded ops a.tmps) :=
  wanted_eq fun _ _ d hg hd => h d (mem_looks_guard hg hd)

theorem noDefer_quiet {o : Oper} {r : V} (h : quiet P o t L = some r) : ∀ c, o.op ≠ .defer c := by
  intro c e; simp [quiet, e] at h
theorem noDefer_making {o : Oper} {r : Blk × NV} (h : making P o t = some r) : ∀ c, o.op ≠ .defer c := by
  intro c e; simp [making, e] at h

theorem Inv.runOld {j : Nat} (hO : OrdOk P ops anc ord) (I : Inv P w0 e ops anc ord T0 κ0 L0 a0 S D rest t pd L p κ a w) (hjD : j ∈ D) (hjS : ¬ S j) (hrdy : ∀ i, i < ops.size → isAnc anc i j = true → S i)
    {o : Oper} (ho : ops[j]? = some o) {ro : Option Nat} {n : Nat} {Q : Exit → Act → World → Prop} {K : Act → World → Prop}
    (hK : ∀ κ' a' w', Inv P w0 e ops anc ord T0 κ0 L0 a0 (fun x => S x ∨ x = j) D rest t pd L p κ' a' w' → K a' w') : wpOpIn (WF ro) n P ops Q j K a w := by
  have hsee := I.see hO hjD hjS hrdy ho
  have hw := wanted_see (a := a) hsee
  obtain ⟨hPK, hval, hfit⟩ := I.pn j hjD hjS o ho
  have hop : ∀ x ∈ o.op.operands, OpR κ (p j).t a x := fun x hx y hy => hsee y (mem_looks_op (hy ▸ hx))
  unfold wpOpIn
  simp only [ho]
  rcases hPK with ⟨h1, h2⟩ | ⟨h1, r, hc, hq, hr⟩ | ⟨h1, hc, b, nv, hmk, hv, hb, hk, hlt⟩
  · rw [hw] at h1
    rw [if_neg (by rw [h1]; simp)]
    refine ⟨fun _ _ => trivial, hK κ _ _ (I.exec hO hjD hjS hrdy ho (KM.le_refl _) I.hr (by rw [h2]; exact VR_undef) I.un ?_)⟩
    intro j' hj' hjS' hne o' ho' hm
    rcases (I.pn j' hj' hjS' o' ho').1 with ⟨h3, _⟩ | ⟨_, _, h3, _⟩ | ⟨_, _, _, _, _, _, _, h3, _⟩
    · rw [hm.1] at h3; cases h3
    · rw [hm.2] at h3; cases h3
    · exact h3
  · rw [hw] at h1
    rw [if_pos h1]
    obtain ⟨z, hz, hvz⟩ := quiet_sound hq I.hr hop
    refine ⟨fun _ _ => trivial, ?_⟩
    rw [Oper.semAt_eq _ _ _ (noDefer_quiet hq), hz]
    refine hK κ _ _ (I.exec hO hjD hjS hrdy ho (KM.le_refl _) I.hr hvz I.un ?_)
    intro j' hj' hjS' hne o' ho' hm
    rcases (I.pn j' hj' hjS' o' ho').1 with ⟨h3, _⟩ | ⟨_, _, h3, _⟩ | ⟨_, _, _, _, _, _, _, h3, _⟩
    · rw [hm.1] at h3; cases h3
    · rw [hm.2] at h3; cases h3
    · exact h3
  · have h1' := h1
    rw [hw] at h1
    rw [if_pos h1]
    obtain ⟨z, w', cap, hz, H', hvz⟩ := making_sound hmk I.hr hop hk hlt hb
    refine ⟨fun _ _ => trivial, ?_⟩
    rw [Oper.semAt_eq _ _ _ (noDefer_making hmk), hz]
    refine hK _ _ _ (I.exec hO hjD hjS hrdy ho (KM.le_set hk) H' (by rw [hv]; exact hvz) ?_ ?_)
    · have hlo := I.lo j hjD hjS o ho ⟨h1', hc⟩
      exact ⟨I.un.1, fun x hx hkx => ⟨by rw [KM.set_ne (by omega)]; exact (I.un.2 x hx hkx).1, (I.un.2 x hx hkx).2⟩⟩
    · intro j' hj' hjS' hne o' ho' hm
      have hne' : (p j').m ≠ (p j).m := fun h => hne (I.inj j' hj' hjS' o' ho' j hjD hjS o ho hm ⟨h1', hc⟩ h)
      rw [KM.set_ne hne']
      rcases (I.pn j' hj' hjS' o' ho').1 with ⟨h3, _⟩ | ⟨_, _, h3, _⟩ | ⟨_, _, _, _, _, _, _, h3, _⟩
      · rw [hm.1] at h3; cases h3
      · rw [hm.2] at h3; cases h3
      · exact h3

theorem recheck_all {i : Nat} (pd : List Pend) (q : Pend) (h : recheck P anc i L pd = true) (hq : q ∈ pd) : isAnc anc q.i i = true ∨ quiet P q.o q.t L = some q.v := by
  induction pd with
  | nil => cases hq
  | cons x pd ih =>
    simp only [recheck, Bool.and_eq_true, Bool.or_eq_true] at h
    rcases List.mem_cons.1 hq with rfl | hq
    · refine h.1.imp id fun h1 => ?_
      split at h1
      · rename_i v hv
        rw [hv, V.beq_eq _ _ h1]
      · cases h1
    · exact ih h.2 hq

/-- both run one that changes memory -/
theorem Inv.runNew {i : Nat} (hO : OrdOk P ops anc ord) (I : Inv P w0 e ops anc ord T0 κ0 L0 a0 S D (i :: rest) t pd L p κ a w) (hrdy : ∀ k, k < ops.size → isAnc anc k i = true → S k)
    {rec : Cmd → Rs} (hs : Sound P w0 rec) (hN : NamesOk P) {R : T V × Heap} (hd : drawE P rec e ops anc (i :: rest) t pd L = some R) {o : Oper} (ho : ops[i]? = some o)
    (hwt : wantedE ops o t = true) (hnq : isQuiet (cls P o) = false) {ro : Option Nat} {n : Nat} {Q : Exit → Act → World → Prop} {K : Act → World → Prop}
    (hK : ∀ t' L' κ' a' w', Inv P w0 e ops anc ord T0 κ0 L0 a0 (fun x => S x ∨ x = i) (D ++ [i]) rest t' pd L' p κ' a' w' → drawE P rec e ops anc rest t' pd L' = some R → K a' w') : wpOpIn (WF ro) n P ops Q i K a w := by
  have hsee := I.seeNext hO hrdy ho
  have hw := wanted_see (a := a) hsee
  have hni := I.notIn hO
  have hS := I.notS hO
  have hop : ∀ x ∈ o.op.operands, OpR κ t a x := fun x hx y hy => hsee y (mem_looks_op (hy ▸ hx))
  have hdst : ∀ (x k : Nat) (ok : Oper), ops[k]? = some ok → ok.dst = some x → k ≠ i → o.dst ≠ some x := fun x k ok hk hkd hne h => hne (hO.one k i ok o x hk ho hkd h)
  have hne : ∀ j ∈ D, j ≠ i := fun j hj h => hni (h ▸ hj)
  unfold wpOpIn
  simp only [ho]
  rw [if_pos (by rw [← hw]; exact hwt)]
  simp only [drawE, ho, Option.bind_some, guardO_some] at hd
  obtain ⟨hf, hd⟩ := hd
  rw [hwt] at hd
  simp only [Option.bind_eq_some_iff] at hd
  obtain ⟨⟨v, L1⟩, h1, h2⟩ := hd
  have hrc : recheck P anc i L1 pd = true ∧ drawE P rec e ops anc rest (putD t o.dst v) pd L1 = some R := by
    split at h2
    · rename_i hc; rw [hc] at hnq; cases hnq
    · rename_i hc; rw [hc] at hnq; cases hnq
    · rename_i hc; rw [hc] at hnq; cases hnq
    · rwa [guardO_some] at h2
  obtain ⟨hrc, h2⟩ := hrc
  refine oneE_sound hs hN h1 I.hr hop ?_
  rintro z w' ⟨κ', hle, H', hv, hU⟩
  refine hK (putD t o.dst v) L1 κ' (a.put o.dst z) w' ?_ h2
  refine ⟨by rw [← I.hord]; simp, ?_, ?_, H', KM.le_trans I.le hle, UN_trans I.un hU, by rw [Act.put_tmps_size]; exact I.sz, I.sz0, by rw [Act.put_defers']; exact I.df, ?_, ?_, ?_, ?_, ?_, ?_, ?_⟩
  · rintro k (h | rfl)
    · simp [I.sub k h]
    · simp
  · rintro k j (h | rfl) hanc hk
    · exact .inl (I.clo k j h hanc hk)
    · exact .inl (hrdy k hk hanc)
  · rintro x k ok hok hkd (h | rfl)
    · have hd := hdst x k ok hok hkd fun h' => hS (h' ▸ h)
      rw [Act.put_ne hd, tget_putD_ne hd]
      exact VR_mono hle _ _ (I.sl1 x k ok hok hkd h)
    · rw [ho] at hok; injection hok with hok; subst hok
      have hf' := hf
      unfold fits at hf'
      rw [hkd] at hf' ⊢
      rw [Act.put_same (Nat.lt_of_lt_of_le (by simpa using hf') (by rw [I.sz]; exact I.sz0))]
      simp only [putD, tget_set_same]
      exact hv
  · intro x hx
    rw [Act.put_ne (fun hd => hx i o ho hd (.inr rfl))]
    exact VR_mono hle _ _ (I.sl0 x fun k ok hok hkd h => hx k ok hok hkd (.inl h))
  · intro x hx
    rw [tget_putD_ne (hx i (by simp) o ho)]
    exact I.t0 x fun k hk => hx k (by simp [hk])
  · intro j hj hjS oj hoj
    have hji : j ≠ i := fun h => hjS (.inr h)
    have hjD : j ∈ D := by simpa [hji] using hj
    have hjS' : ¬ S j := fun h => hjS (.inl h)
    obtain ⟨h3, h4, h5⟩ := I.pn j hjD hjS' oj hoj
    refine ⟨?_, fun d hd => by rw [tget_putD_ne (hdst d j oj hoj hd hji)]; exact h4 d hd, h5⟩
    rcases h3 with h3 | ⟨hwj, r, hc, hq, hr⟩ | ⟨hwj, hc, b, nv, hmk, hvj, hb, hk, hlt⟩
    · exact .inl h3
    · refine .inr (.inl ⟨hwj, r, hc, ?_, hr⟩)
      cases r with
      | true =>
        rcases recheck_all _ _ hrc (hr rfl) with h6 | h6
        · exact absurd (hrdy j (Array.getElem?_eq_some_iff.1 hoj).1 h6) hjS'
        · exact h6
      | false => exact quiet_any hc hq
    · obtain ⟨h6, h7⟩ := hU.2 _ hlt hk
      exact .inr (.inr ⟨hwj, hc, b, nv, hmk, hvj, h7.trans hb, h6, Nat.lt_of_lt_of_le hlt hU.1⟩)
  · intro j hj hjS oj hoj x hx
    have hji : j ≠ i := fun h => hjS (.inr h)
    have hjD : j ∈ D := by simpa [hji] using hj
    obtain ⟨h3, h4⟩ := I.lk j hjD (fun h => hjS (.inl h)) oj hoj x hx
    refine ⟨fun k ok hk hkd hanc => ?_, h4⟩
    rw [tget_putD_ne (hdst x k ok hk hkd fun h => ?_)]
    · exact h3 k ok hk hkd hanc
    · subst h
      rw [I.notAnc hO hjD] at hanc; cases hanc
  · intro j hj hjS oj hoj j' hj' hjS' oj' hoj'
    have hji : j ≠ i := fun h => hjS (.inr h)
    have hjD : j ∈ D := by simpa [hji] using hj
    have hji' : j' ≠ i := fun h => hjS' (.inr h)
    have hjD' : j' ∈ D := by simpa [hji'] using hj'
    exact I.inj j hjD (fun h => hjS (.inl h)) oj hoj j' hjD' (fun h => hjS' (.inl h)) oj' hoj'
  · intro j hj hjS oj hoj
    have hji : j ≠ i := fun h => hjS (.inr h)
    have hjD : j ∈ D := by simpa [hji] using hj
    exact I.lo j hjD (fun h => hjS (.inl h)) oj hoj

/-- whichever comes up next -/
theorem Inv.run {i : Nat} (hO : OrdOk P ops anc ord) {ro : Option Nat} {n : Nat} {Q : Exit → Act → World → Prop} {K : Act → World → Prop} {rec : Cmd → Rs} (hs : Sound P w0 rec) (hN : NamesOk P) {R : T V × Heap}
    (hi : i < ops.size) (hjS : ¬ S i) (hrdy : ∀ k, k < ops.size → isAnc anc k i = true → S k) :
    ∀ (rest D : List Nat) (t : T V) (pd : List Pend) (L : Heap) (p : Nat → Pn), Inv P w0 e ops anc ord T0 κ0 L0 a0 S D rest t pd L p κ a w → drawE P rec e ops anc rest t pd L = some R →
    (∀ D' rest' t' pd' L' p' κ' a' w', Inv P w0 e ops anc ord T0 κ0 L0 a0 (fun x => S x ∨ x = i) D' rest' t' pd' L' p' κ' a' w' → drawE P rec e ops anc rest' t' pd' L' = some R → K a' w') →
    wpOpIn (WF ro) n P ops Q i K a w := by
  obtain ⟨o, ho⟩ : ∃ o, ops[i]? = some o := ⟨ops[i], by simp [hi]⟩
  intro rest
  induction rest with
  | nil =>
    intro D t pd L p I hd hK
    have hiD : i ∈ D := by have := hO.all i hi; rw [← I.hord] at this; simpa using this
    exact I.runOld hO hiD hjS hrdy ho fun κ' a' w' I' => hK _ _ _ _ _ _ _ _ _ I' hd
  | cons k rest ih =>
    intro D t pd L p I hd hK
    by_cases hiD : i ∈ D
    · exact I.runOld hO hiD hjS hrdy ho fun κ' a' w' I' => hK _ _ _ _ _ _ _ _ _ I' hd
    · have hks : k < ops.size := hO.lt k (by rw [← I.hord]; simp)
      obtain ⟨ok, hok⟩ : ∃ ok, ops[k]? = some ok := ⟨ops[k], by simp [hks]⟩
      by_cases hq : wantedE ops ok t = false ∨ isQuiet (cls P ok) = true
      · obtain ⟨t', pd', L', p', I', hd'⟩ := I.advance hO hd hok hq
        exact ih _ _ _ _ _ I' hd' hK
      · have hwt : wantedE ops ok t = true := by cases h : wantedE ops ok t with | true => rfl | false => exact absurd (.inl h) hq
        have hnq : isQuiet (cls P ok) = false := by cases h : isQuiet (cls P ok) with | false => rfl | true => exact absurd (.inr h) hq
        by_cases hki : k = i
        · subst hki
          exact I.runNew hO hrdy hs hN hd hok hwt hnq fun t' L' κ' a' w' I' hd' => hK _ _ _ _ _ _ _ _ _ I' hd'
        · exfalso
          have hir : i ∈ rest := by
            have := hO.all i hi
            rw [← I.hord] at this
            rcases List.mem_append.1 this with h | h
            · exact absurd h hiD
            · rcases List.mem_cons.1 h with h | h
              · exact absurd h.symm hki
              · exact h
          have hlt : ord.idxOf k < ord.idxOf i := by
            have hn := hO.nodup
            rw [← I.hord] at hn ⊢
            have h1 : D ++ k :: rest = (D ++ [k]) ++ rest := by simp
            rw [h1] at hn ⊢
            exact idx_lt hn (by simp) hir
          exact I.notS hO (hrdy k hks (hO.loud k i ok hok hi hnq hlt))

/-- what is listed -/
def lst (listed : Array Bool) (j : Nat) : Prop := listed[j]? = some true

theorem mem_ready {listed : Array Bool} {i : Nat} : i ∈ Region.ready .any ops listed ↔ i < ops.size ∧ listed.getD i true = false ∧ ∃ o, ops[i]? = some o ∧ ∀ e ∈ o.after.toList, Region.binds .any e = true → listed.getD e.on false = true := by
  unfold Region.ready
  simp only [List.mem_filter, List.mem_range, Bool.and_eq_true, Bool.not_eq_true']
  constructor
  · rintro ⟨h1, h2, h3⟩
    refine ⟨h1, h2, ops[i], by simp [h1], ?_⟩
    simp only [h1, getElem?_pos, Option.map_some, Option.getD_some, Array.all_eq_true_iff_forall_mem, Bool.or_eq_true, Bool.not_eq_true'] at h3
    intro e he hb
    rcases h3 e (by simpa using he) with h | h
    · rw [hb] at h; cases h
    · exact h
  · rintro ⟨h1, h2, o, ho, h3⟩
    refine ⟨h1, h2, ?_⟩
    simp only [ho, Option.map_some, Option.getD_some, Array.all_eq_true_iff_forall_mem, Bool.or_eq_true, Bool.not_eq_true']
    intro e he
    cases hb : Region.binds .any e with
    | false => exact .inl rfl
    | true => exact .inr (h3 e (by simpa using he) hb)

theorem lst_getD {listed : Array Bool} {j : Nat} : lst listed j ↔ listed.getD j false = true := by
  unfold lst
  rw [Array.getD_eq_getD_getElem?]
  cases listed[j]? with
  | none => simp
  | some b => simp

theorem Inv.ends {listed : Array Bool} (hO : OrdOk P ops anc ord) (hsz : listed.size = ops.size) (I : Inv P w0 e ops anc ord T0 κ0 L0 a0 (lst listed) D rest t pd L p κ a w) {rec : Cmd → Rs} {R : T V × Heap}
    (hd : drawE P rec e ops anc rest t pd L = some R) (hr : Region.ready .any ops listed = []) : R = (t, L) ∧ AR κ t a := by
  have hall : ∀ k j, j < ops.size → ord.idxOf j = k → lst listed j := by
    intro k
    induction k using Nat.strongRecOn with
    | _ k ih =>
      intro j hj hk
      by_cases hl : lst listed j
      · exact hl
      · exfalso
        have : j ∈ Region.ready .any ops listed := by
          refine mem_ready.2 ⟨hj, ?_, ops[j], by simp [hj], ?_⟩
          · unfold lst at hl
            rw [Array.getD_eq_getD_getElem?]
            cases h : listed[j]? with
            | none => rw [Array.getElem?_eq_none_iff] at h; omega
            | some b => rw [h] at hl; cases b <;> simp_all
          · intro e' he hb
            obtain ⟨h1, h2⟩ := hO.edge j ops[j] (by simp [hj]) e' he hb
            rw [← lst_getD]
            exact ih _ (hk ▸ hO.ahead _ _ h2 hj h1) e'.on h2 rfl
        rw [hr] at this
        cases this
  have hrest : rest = [] := by
    cases hrs : rest with
    | nil => rfl
    | cons k r =>
      subst hrs
      have hks : k < ops.size := hO.lt k (by rw [← I.hord]; simp)
      exact absurd (hall _ k hks rfl) (I.notS hO)
  subst hrest
  simp only [drawE, Option.some.injEq] at hd
  refine ⟨hd.symm, fun x => ?_⟩
  by_cases hx : ∃ (k : Nat) (ok : Oper), ops[k]? = some ok ∧ ok.dst = some x
  · obtain ⟨k, ok, hok, hkd⟩ := hx
    exact I.sl1 x k ok hok hkd (hall _ k (Array.getElem?_eq_some_iff.1 hok).1 rfl)
  · rw [I.t0 x fun k _ ok hok hkd => hx ⟨k, ok, hok, hkd⟩]
    exact I.sl0 x fun k ok hok hkd _ => hx ⟨k, ok, hok, hkd⟩

theorem lst_set {listed : Array Bool} {i : Nat} (hi : i < listed.size) : lst (listed.setIfInBounds i true) = fun x => lst listed x ∨ x = i := by
  funext x
  unfold lst
  apply propext
  by_cases h : x = i
  · subst h; simp [hi]
  · rw [Array.getElem?_setIfInBounds_ne (Ne.symm h)]
    simp [h]

theorem drawE_sound (hO : OrdOk P ops anc ord) {ro : Option Nat} {n : Nat} {Q : Exit → Act → World → Prop} {rec : Cmd → Rs} (hs : Sound P w0 rec) (hN : NamesOk P) {R : T V × Heap}
    (hK : ∀ (κ' : KM) (a' : Act) (w' : World), κ0.le κ' → HR w0 κ' R.2 w' → AR κ' R.1 a' → a'.tmps.size = a0.tmps.size → a'.defers = a0.defers → UN κ0 L0 κ' R.2 → Q .normal a' w') :
    ∀ (fuel : Nat) (listed : Array Bool) (D rest : List Nat) (t : T V) (pd : List Pend) (L : Heap) (p : Nat → Pn) (κ : KM) (a : Act) (w : World), listed.size = ops.size → listed.toList.count false ≤ fuel →
      Inv P w0 e ops anc ord T0 κ0 L0 a0 (lst listed) D rest t pd L p κ a w → drawE P rec e ops anc rest t pd L = some R → wpAnyIn (WF ro) n P .any ops Q fuel listed a w := by
  intro fuel
  induction fuel with
  | zero =>
    intro listed D rest t pd L p κ a w hsz hc I hd
    have hr : Region.ready .any ops listed = [] := by
      cases h : Region.ready .any ops listed with
      | nil => rfl
      | cons i r =>
        exfalso
        obtain ⟨h1, h2, _⟩ := mem_ready.1 (show i ∈ Region.ready .any ops listed by rw [h]; simp)
        have h0 : listed.toList.count false = 0 := by omega
        rw [List.count_eq_zero] at h0
        rw [Array.getD_eq_getD_getElem?, Array.getElem?_eq_getElem (by omega)] at h2
        simp only [Option.getD_some] at h2
        exact h0 (by rw [← h2]; simp)
    obtain ⟨rfl, ha⟩ := I.ends hO hsz hd hr
    exact ⟨hr, hK κ a w I.le I.hr ha I.sz I.df I.un⟩
  | succ fuel ih =>
    intro listed D rest t pd L p κ a w hsz hc I hd
    refine ⟨fun hr => ?_, fun i hi => ?_⟩
    · obtain ⟨rfl, ha⟩ := I.ends hO hsz hd hr
      exact hK κ a w I.le I.hr ha I.sz I.df I.un
    · obtain ⟨h1, h2, o, ho, h3⟩ := mem_ready.1 hi
      have hiS : ¬ lst listed i := by
        unfold lst
        intro h
        rw [Array.getD_eq_getD_getElem?, h] at h2
        cases h2
      have hrdy : ∀ k, k < ops.size → isAnc anc k i = true → lst listed k := by
        intro k hk hanc
        obtain ⟨e', he, hb, hx⟩ := hO.via k i o hk ho hanc
        have hl := lst_getD.2 (h3 e' he hb)
        rcases hx with hx | hx
        · exact hx ▸ hl
        · exact I.clo k e'.on hl hx hk
      refine I.run hO hs hN h1 hiS hrdy rest D t pd L p hd ?_
      intro D' rest' t' pd' L' p' κ' a' w' I' hd'
      rw [← lst_set (by omega)] at I'
      refine ih _ D' rest' t' pd' L' p' κ' a' w' (by simp [hsz]) ?_ I' hd'
      have hlt : i < listed.toList.length := by simp; omega
      rw [Array.toList_setIfInBounds, List.count_set hlt]
      have hf : listed.toList[i] = false := by
        rw [Array.getD_eq_getD_getElem?, Array.getElem?_eq_getElem (by omega)] at h2
        simpa using h2
      rw [hf]
      have : 0 < listed.toList.count false := List.count_pos_iff.2 (by rw [← hf]; exact List.getElem_mem hlt)
      show listed.toList.count false - 1 + 0 ≤ fuel
      omega

theorem region_sound {id : Nat} {draw : Bool} (hmix : P.follows .mixedOrders = true) {ro : Option Nat} {n : Nat} {Q : Exit → Act → World → Prop} {rec : Cmd → Rs} (hs : Sound P w0 rec) (hN : NamesOk P) {t' : T V} {L' : Heap}
    (h : regionE P rec e ops draw t L = some (t', L')) (H : HR w0 κ L w) (ha : AR κ t a) (hn : e.nt ≤ a.tmps.size)
    (hK : ∀ (κ' : KM) (a' : Act) (w' : World), κ.le κ' → HR w0 κ' L' w' → AR κ' t' a' → a'.tmps.size = a.tmps.size → a'.defers = a.defers → UN κ L κ' L' → Q .normal a' w') :
    (Code.region id ops draw).wpIn (WF ro) n P Q a w := by
  cases draw with
  | false => exact wpIn_region (seqE_sound hs hN _ _ _ _ _ _ h H ha hn hK)
  | true =>
    simp only [regionE, guardO_some] at h
    obtain ⟨hok, h⟩ := h
    have hO := orderOk_ok hok
    refine wpIn_region_any hmix ?_
    have h0 : ∀ j, ¬ lst (Array.replicate ops.size false) j := by
      intro j hj
      unfold lst at hj
      rw [Array.getElem?_replicate] at hj
      split at hj <;> cases hj
    refine drawE_sound (e := e) (T0 := t) (κ0 := κ) (L0 := L) (a0 := a) hO hs hN (R := (t', L')) hK ops.size _ [] _ t [] L (fun _ => ⟨t, undefV, 0⟩) κ a _ (by simp) ?_ ?_ h
    · rw [Array.toList_replicate]
      exact Nat.le_trans List.count_le_length (by simp)
    · refine ⟨rfl, fun j hj => absurd hj (h0 j), fun i j hj => absurd hj (h0 j), H.drew, KM.le_refl _, UN_refl _ _, rfl, hn, rfl, fun x i o _ _ hS => absurd hS (h0 i), fun x _ => ha x, fun x _ => rfl, ?_, ?_, ?_, ?_⟩ <;> intro j hj <;> cases hj
end
end Go.Proofs.Ytpfmoolpeecobaa.Ev
