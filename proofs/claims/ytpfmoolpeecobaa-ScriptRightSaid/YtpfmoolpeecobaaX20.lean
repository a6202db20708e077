/- A region whose loud operations put entries into one new map, in whichever order. -/
import Derived.Test.YtpfmoolpeecobaaX19
namespace Go.Proofs.Ytpfmoolpeecobaa.Ev
open Go.RowKit
set_option linter.unusedVariables false
variable {P : Program} {w0 : World} {κ : KM} {L : Heap} {w : World} {t : T V} {a : Act}

theorem HR.mapPerm {n N : Nat} {T1 : T Blk} {es es' : List Ent} (H : HR w0 κ ⟨T1.set n (.map es), N⟩ w) (hp : es.Perm es') : HR w0 κ ⟨T1.set n (.map es'), N⟩ w := by
  have key : ∀ x b, (T1.set n (.map es')).get x = some b → ∃ b0, (T1.set n (.map es)).get x = some b0 ∧ b0.ro = b.ro ∧ ∀ k o, BR κ k b0 o → BR κ k b o := by
    intro x b hb
    by_cases hx : x = n
    · subst hx
      rw [T.get_set_same] at hb
      injection hb with hb; subst hb
      refine ⟨_, T.get_set_same _ _ _, rfl, ?_⟩
      rintro k o ⟨xs, cl, e1, rfl, h1, h2, h3⟩
      exact ⟨xs, cl, e1, rfl, h1.trans hp, h2, h3⟩
    · rw [T.get_set_ne _ _ hx] at hb
      exact ⟨b, by rw [T.get_set_ne _ _ hx]; exact hb, rfl, fun _ _ h => h⟩
  refine ⟨H.below, H.dom, ?_, ?_, ?_, ?_, ?_⟩
  · intro x hx
    have h0 := H.lim x hx
    show (T1.set n (.map es')).get x = none
    have h0' : (T1.set n (.map es)).get x = none := h0
    cases hg : (T1.set n (.map es')).get x with
    | none => rfl
    | some b => obtain ⟨b0, h1, _⟩ := key x b hg; rw [h1] at h0'; cases h0'
  · intro x k b hk hb hr
    obtain ⟨b0, h1, h2, _⟩ := key x b hb
    exact H.own x k b0 hk h1 (by rw [h2]; exact hr)
  · intro x k b hk hb hr
    obtain ⟨b0, h1, h2, _⟩ := key x b hb
    exact H.rod x k b0 hk h1 (by rw [h2]; exact hr)
  · intro x y k k' b b' hk hk' hb hb' hr hr' he
    obtain ⟨b0, h1, h2, _⟩ := key x b hb
    obtain ⟨b1, h3, h4, _⟩ := key y b' hb'
    exact H.inj x y k k' b0 b1 hk hk' h1 h3 (by rw [h2]; exact hr) (by rw [h4]; exact hr') he
  · intro x k b hk hb
    obtain ⟨b0, h1, h2, h3⟩ := key x b hb
    obtain ⟨o, ho, hbr⟩ := H.blk x k b0 hk h1
    exact ⟨o, ho, h3 k o hbr⟩

/-- what is asked of such a region -/
structure LitOk (P : Program) (S : Tab) (e : Env) (ops : Array Oper) (anc : List Nat) (i0 m : Nat) (ins : List Nat) (ent : Nat → Ent) (T0 tF : T V) (Lt : T Blk) : Prop where
  edge : ∀ (j : Nat) (oj : Oper), ops[j]? = some oj → ∀ x ∈ oj.after.toList, Region.binds .any x = true → x.on < j
  via : ∀ (i j : Nat) (oj : Oper), ops[j]? = some oj → isAnc anc i j = true → ∃ x ∈ oj.after.toList, Region.binds .any x = true ∧ (x.on = i ∨ isAnc anc i x.on = true)
  one : ∀ (i j : Nat) (o o' : Oper) (d : Tmp), ops[i]? = some o → ops[j]? = some o' → o.dst = some d → o'.dst = some d → i = j
  fit : ∀ (i : Nat) (o : Oper), ops[i]? = some o → fits e o = true ∧ o.guard = none
  arg : ∀ (i : Nat) (o : Oper) (y : Tmp), ops[i]? = some o → Operand.tmp y ∈ o.op.operands → ∃ (j : Nat) (oj : Oper), ops[j]? = some oj ∧ oj.dst = some y ∧ isAnc anc j i = true
  sub : ∀ i ∈ ins, i < ops.size
  nd : ins.Nodup
  t0 : ∀ x, (∀ (i : Nat) (o : Oper), ops[i]? = some o → o.dst ≠ some x) → tget tF x = tget T0 x
  run : ∀ (i : Nat) (o : Oper), ops[i]? = some o →
    (i ∉ ins ∧ i ≠ i0 ∧ ∃ d, o.dst = some d ∧ ∀ L, quiet P o tF L = some (tget tF d)) ∨
    (i ∉ ins ∧ i = i0 ∧ ∃ d, o.dst = some d ∧ making P o tF = some (.map [], .map) ∧ tget tF d = .map m) ∨
    (i ∈ ins ∧ i ≠ i0 ∧ o.dst = none ∧ isAnc anc i0 i = true ∧ ∀ l : List Nat, (∀ k ∈ l, k ∈ ins ∧ k ≠ i) → oneE P (recT S) o tF ⟨Lt.set m (.map (l.map ent)), m + 1⟩ = some (undefV, ⟨Lt.set m (.map (l.map ent ++ [ent i])), m + 1⟩))

/-- the machine in the middle -/
structure LitInv (P : Program) (w0 : World) (ops : Array Oper) (anc : List Nat) (i0 m : Nat) (ins : List Nat) (ent : Nat → Ent) (T0 tF : T V) (L : Heap) (κ0 : KM) (a0 : Act) (e : Env)
    (S : Nat → Prop) (κ : KM) (a : Act) (w : World) : Prop where
  le : κ0.le κ
  l : ∃ l : List Nat, l.Nodup ∧ (∀ i, i ∈ l ↔ i ∈ ins ∧ S i) ∧ HR w0 κ ⟨L.t.set m (.map (l.map ent)), m + 1⟩ w ∧ UN κ0 L κ ⟨L.t.set m (.map (l.map ent)), m + 1⟩
  sz : a.tmps.size = a0.tmps.size
  sz0 : e.nt ≤ a0.tmps.size
  df : a.defers = a0.defers
  sl1 : ∀ (x i : Nat) (o : Oper), ops[i]? = some o → o.dst = some x → S i → VR κ (tget tF x) (a.tmps.getD x undef)
  sl0 : ∀ x : Nat, (∀ (i : Nat) (o : Oper), ops[i]? = some o → o.dst = some x → ¬ S i) → VR κ (tget T0 x) (a.tmps.getD x undef)
  clo : ∀ i j, S j → isAnc anc i j = true → S i
  unm : ¬ S i0 → κ m = none

section
variable {Sb : Tab} {e : Env} {ops : Array Oper} {anc : List Nat} {i0 : Nat} {ins : List Nat} {ent : Nat → Ent} {T0 tF : T V} {κ0 : KM} {a0 : Act}

theorem LitInv.run (hO : LitOk P Sb e ops anc i0 L.next ins ent T0 tF L.t) (hs : Sound P w0 (recT Sb)) (hN : NamesOk P) {S : Nat → Prop} (I : LitInv P w0 ops anc i0 L.next ins ent T0 tF L κ0 a0 e S κ a w)
    {j : Nat} {o : Oper} (ho : ops[j]? = some o) (hjS : ¬ S j) (hrdy : ∀ i, isAnc anc i j = true → S i) {ro : Option Nat} {n : Nat} {Q : Exit → Act → World → Prop} {K : Act → World → Prop}
    (hK : ∀ κ' a' w', LitInv P w0 ops anc i0 L.next ins ent T0 tF L κ0 a0 e (fun x => S x ∨ x = j) κ' a' w' → K a' w') : wpOpIn (WF ro) n P ops Q j K a w := by
  obtain ⟨hfit, hgd⟩ := hO.fit j o ho
  have hop : ∀ x ∈ o.op.operands, OpR κ tF a x := by
    intro x hx y hy
    subst hy
    obtain ⟨i, oi, hoi, hd, hanc⟩ := hO.arg j o y ho hx
    exact I.sl1 y i oi hoi hd (hrdy i hanc)
  have hw : Region.wanted o (yielded ops a.tmps) = true := by unfold Region.wanted; rw [hgd]
  unfold wpOpIn
  simp only [ho]
  rw [if_pos hw]
  -- what stands when a value is put
  have fin : ∀ (κ' : KM) (z : Value) (w' : World), κ.le κ' → (∃ l : List Nat, l.Nodup ∧ (∀ i, i ∈ l ↔ i ∈ ins ∧ (S i ∨ i = j)) ∧ HR w0 κ' ⟨L.t.set L.next (.map (l.map ent)), L.next + 1⟩ w' ∧ UN κ0 L κ' ⟨L.t.set L.next (.map (l.map ent)), L.next + 1⟩) →
      (∀ d, o.dst = some d → VR κ' (tget tF d) z) → (¬ S i0 → j ≠ i0 → κ' L.next = none) → LitInv P w0 ops anc i0 L.next ins ent T0 tF L κ0 a0 e (fun x => S x ∨ x = j) κ' (a.put o.dst z) w' := by
    intro κ' z w' hle hl hv hm
    refine ⟨KM.le_trans I.le hle, hl, by rw [Act.put_tmps_size]; exact I.sz, I.sz0, by rw [Act.put_defers']; exact I.df, ?_, ?_, ?_, ?_⟩
    · rintro x k ok hok hkd (h | rfl)
      · rw [Act.put_ne (fun hd => hjS (hO.one k j ok o x hok ho hkd hd ▸ h))]
        exact VR_mono hle _ _ (I.sl1 x k ok hok hkd h)
      · rw [ho] at hok; injection hok with hok; subst hok
        unfold fits at hfit
        rw [hkd] at hfit ⊢
        rw [Act.put_same (Nat.lt_of_lt_of_le (by simpa using hfit) (by rw [I.sz]; exact I.sz0))]
        exact hv x hkd
    · intro x hx
      rw [Act.put_ne (fun hd => hx j o ho hd (.inr rfl))]
      exact VR_mono hle _ _ (I.sl0 x fun k ok hok hkd h => hx k ok hok hkd (.inl h))
    · rintro i k (h | rfl) hanc
      · exact .inl (I.clo i k h hanc)
      · exact .inl (hrdy i hanc)
    · intro h
      exact hm (fun h' => h (.inl h')) (fun h' => h (.inr h'.symm))
  obtain ⟨l, hnd, hmem, H, hU⟩ := I.l
  rcases hO.run j o ho with ⟨hni, hne, d, hd, hq⟩ | ⟨hni, rfl, d, hd, hmk, hv⟩ | ⟨hin, hne, hd, hanc, hlo⟩
  · obtain ⟨z, hz, hvz⟩ := quiet_sound (hq _) H hop
    refine ⟨fun _ _ => trivial, ?_⟩
    rw [Oper.semAt_eq _ _ _ (noDefer_quiet (hq L)), hz]
    refine hK κ _ _ (fin κ z w (KM.le_refl _) ⟨l, hnd, fun i => ?_, H, hU⟩ (fun d' hd' => by rw [hd] at hd'; injection hd' with hd'; subst hd'; exact hvz) (fun h _ => I.unm h))
    rw [hmem]
    exact ⟨fun h => ⟨h.1, .inl h.2⟩, fun h => ⟨h.1, h.2.resolve_right fun e => hni (e ▸ h.1)⟩⟩
  · have hkm := I.unm hjS
    have hlnil : l = [] := by
      rcases l with _ | ⟨x, l⟩
      · rfl
      · exfalso
        have hx := (hmem x).1 (by simp)
        have hlt := hO.sub x hx.1
        obtain ⟨ox, hox⟩ : ∃ ox, ops[x]? = some ox := ⟨ops[x], by simp [hlt]⟩
        rcases hO.run x ox hox with h | h | h
        · exact h.1 hx.1
        · exact h.1 hx.1
        · exact hjS (I.clo _ x hx.2 h.2.2.2.1)
    subst hlnil
    obtain ⟨z, w', cap, hz, H', hvz⟩ := making_sound hmk H hop hkm (show L.next < L.next + 1 by omega) (T.get_set_same _ _ _)
    refine ⟨fun _ _ => trivial, ?_⟩
    rw [Oper.semAt_eq _ _ _ (noDefer_making hmk), hz]
    refine hK _ _ _ (fin _ z w' (KM.le_set hkm) ⟨[], by simp, fun i => ?_, H', ?_⟩ (fun d' hd' => by rw [hd] at hd'; injection hd' with hd'; subst hd'; rw [hv]; exact hvz) (fun _ h => absurd rfl h))
    · refine ⟨fun h => (by cases h), fun h => ?_⟩
      rcases h.2 with h2 | rfl
      · exact (hmem i).2 ⟨h.1, h2⟩
      · exact absurd h.1 hni
    · exact ⟨hU.1, fun x hx hkx => ⟨by rw [KM.set_ne (by omega)]; exact (hU.2 x hx hkx).1, (hU.2 x hx hkx).2⟩⟩
  · have hjl : j ∉ l := fun h => hjS ((hmem j).1 h).2
    refine oneE_sound hs hN (hlo l fun k hk => ⟨((hmem k).1 hk).1, fun e => hjl (e ▸ hk)⟩) H hop ?_
    rintro z w' ⟨κ', hle, H', hv, hU'⟩
    have hle' : l.map ent ++ [ent j] = (l ++ [j]).map ent := by simp
    rw [hle'] at H' hU'
    refine hK κ' _ _ (fin κ' z w' hle ⟨l ++ [j], ?_, fun i => ?_, H', UN_trans hU hU'⟩ (fun d' hd' => by rw [hd] at hd'; cases hd') (fun h _ => absurd (hrdy i0 hanc) h))
    · exact List.nodup_append.2 ⟨hnd, by simp, fun x hx y hy => by simp at hy; subst hy; exact fun e => hjl (e ▸ hx)⟩
    · simp only [List.mem_append, hmem, List.mem_singleton]
      constructor
      · rintro (h | rfl)
        · exact ⟨h.1, .inl h.2⟩
        · exact ⟨hin, .inr rfl⟩
      · rintro ⟨h1, h2 | rfl⟩
        · exact .inl ⟨h1, h2⟩
        · exact .inr rfl

theorem lit_all (hO : LitOk P Sb e ops anc i0 L.next ins ent T0 tF L.t) {listed : Array Bool} (hsz : listed.size = ops.size) (hr : Region.ready .any ops listed = []) : ∀ j, j < ops.size → lst listed j := by
  intro j
  induction j using Nat.strongRecOn with
  | _ j ih =>
    intro hj
    by_cases hl : lst listed j
    · exact hl
    · exfalso
      have : j ∈ Region.ready .any ops listed := by
        refine mem_ready.2 ⟨hj, ?_, ops[j], by simp [hj], ?_⟩
        · unfold lst at hl
          rw [Array.getD_eq_getD_getElem?]
          cases h : listed[j]? with
          | none => rw [Array.getElem?_eq_none_iff] at h; omega
          | some b => rw [h] at hl; cases b <;> simp_all
        · intro e' he hb
          have h1 := hO.edge j ops[j] (by simp [hj]) e' he hb
          rw [← lst_getD]
          exact ih _ h1 (by omega)
      rw [hr] at this
      cases this

theorem lit_sound (hO : LitOk P Sb e ops anc i0 L.next ins ent T0 tF L.t) {ro : Option Nat} {n : Nat} {Q : Exit → Act → World → Prop} (hs : Sound P w0 (recT Sb)) (hN : NamesOk P)
    (hK : ∀ (κ' : KM) (a' : Act) (w' : World), κ0.le κ' → HR w0 κ' ⟨L.t.set L.next (.map (ins.map ent)), L.next + 1⟩ w' → AR κ' tF a' → a'.tmps.size = a0.tmps.size → a'.defers = a0.defers → UN κ0 L κ' ⟨L.t.set L.next (.map (ins.map ent)), L.next + 1⟩ → Q .normal a' w') :
    ∀ (fuel : Nat) (listed : Array Bool) (κ : KM) (a : Act) (w : World), listed.size = ops.size → listed.toList.count false ≤ fuel →
      LitInv P w0 ops anc i0 L.next ins ent T0 tF L κ0 a0 e (lst listed) κ a w → wpAnyIn (WF ro) n P .any ops Q fuel listed a w := by
  have ends : ∀ (listed : Array Bool) (κ : KM) (a : Act) (w : World), listed.size = ops.size → Region.ready .any ops listed = [] → LitInv P w0 ops anc i0 L.next ins ent T0 tF L κ0 a0 e (lst listed) κ a w → Q .normal a w := by
    intro listed κ a w hsz hr I
    have hall := lit_all hO hsz hr
    obtain ⟨l, hnd, hmem, H, hU⟩ := I.l
    have hp : l.Perm ins := (List.perm_ext_iff_of_nodup hnd hO.nd).2 fun i => by
      rw [hmem]
      exact ⟨fun h => h.1, fun h => ⟨h, hall i (hO.sub i h)⟩⟩
    refine hK κ a w I.le (H.mapPerm (hp.map ent)) (fun x => ?_) I.sz I.df ⟨hU.1, fun x hx hkx => ⟨(hU.2 x hx hkx).1, ?_⟩⟩
    · by_cases hx : ∃ (k : Nat) (ok : Oper), ops[k]? = some ok ∧ ok.dst = some x
      · obtain ⟨k, ok, hok, hkd⟩ := hx
        exact I.sl1 x k ok hok hkd (hall k (Array.getElem?_eq_some_iff.1 hok).1)
      · rw [hO.t0 x fun k ok hok hkd => hx ⟨k, ok, hok, hkd⟩]
        exact I.sl0 x fun k ok hok hkd _ => hx ⟨k, ok, hok, hkd⟩
    · exact T.get_set_ne _ _ (by omega)
  intro fuel
  induction fuel with
  | zero =>
    intro listed κ a w hsz hc I
    have hr : Region.ready .any ops listed = [] := by
      cases h : Region.ready .any ops listed with
      | nil => rfl
      | cons i r =>
        exfalso
        obtain ⟨h1, h2, _⟩ := mem_ready.1 (show i ∈ Region.ready .any ops listed by rw [h]; simp)
        have h0 : listed.toList.count false = 0 := by omega
        rw [List.count_eq_zero] at h0
        rw [Array.getD_eq_getD_getElem?, Array.getElem?_eq_getElem (by omega)] at h2
        simp only [Option.getD_some] at h2
        exact h0 (by rw [← h2]; simp)
    exact ⟨hr, ends listed κ a w hsz hr I⟩
  | succ fuel ih =>
    intro listed κ a w hsz hc I
    refine ⟨fun hr => ends listed κ a w hsz hr I, fun i hi => ?_⟩
    obtain ⟨h1, h2, o, ho, h3⟩ := mem_ready.1 hi
    have hiS : ¬ lst listed i := by
      unfold lst
      intro h
      rw [Array.getD_eq_getD_getElem?, h] at h2
      cases h2
    have hrdy : ∀ k, isAnc anc k i = true → lst listed k := by
      intro k hanc
      obtain ⟨e', he, hb, hx⟩ := hO.via k i o ho hanc
      have hl := lst_getD.2 (h3 e' he hb)
      rcases hx with hx | hx
      · exact hx ▸ hl
      · exact I.clo k e'.on hl hx
    refine I.run hO hs hN ho hiS hrdy ?_
    intro κ' a' w' I'
    rw [← lst_set (by omega)] at I'
    refine ih _ κ' a' w' (by simp [hsz]) ?_ I'
    have hlt : i < listed.toList.length := by simp; omega
    rw [Array.toList_setIfInBounds, List.count_set hlt]
    have hf : listed.toList[i] = false := by
      rw [Array.getD_eq_getD_getElem?, Array.getElem?_eq_getElem (by omega)] at h2
      simpa using h2
    rw [hf]
    have : 0 < listed.toList.count false := List.count_pos_iff.2 (by rw [← hf]; exact List.getElem_mem hlt)
    show listed.toList.count false - 1 + 0 ≤ fuel
    omega

/-- such a region, as code -/
theorem ACode.lit (hS : TabOk P Sb) (hN : NamesOk P) (hmix : P.follows .mixedOrders = true) {id : Nat} {d : List Nat} {K : Ex → T V → List Nat → Heap → Prop}
    (hO : LitOk P Sb e ops anc i0 L.next ins ent T0 tF L.t) (hK : K .normal tF d ⟨L.t.set L.next (.map (ins.map ent)), L.next + 1⟩) : ACode P e (.region id ops true) T0 d L K := by
  intro w0 κ a w ro n Q H ha hn hd hr hQ
  refine wpIn_region_any hmix ?_
  have h0 : ∀ j, ¬ lst (Array.replicate ops.size false) j := by
    intro j hj
    unfold lst at hj
    rw [Array.getElem?_replicate] at hj
    split at hj <;> cases hj
  refine lit_sound (κ0 := κ) (a0 := a) hO (hS.sound w0) hN (fun κ' a' w' h1 h2 h3 h4 h5 h6 => hQ .normal tF d _ κ' a' w' hK h1 h2 h3 (by rw [h4]; exact hn) (by rw [h5]; exact DR_mono h1 _ _ hd) h6) ops.size _ κ a _ (by simp) ?_ ?_
  · rw [Array.toList_replicate]
    exact Nat.le_trans List.count_le_length (by simp)
  · refine ⟨KM.le_refl _, ⟨[], by simp, fun i => ⟨fun h => (by cases h), fun h => absurd h.2 (h0 i)⟩, (H.name _).drew, Nat.le_succ _, fun x hx hkx => ⟨hkx, T.get_set_ne _ _ (by omega)⟩⟩, rfl, hn, rfl, fun x i o _ _ hS => absurd hS (h0 i), fun x _ => ha x, fun i j hj => absurd hj (h0 j), fun _ => H.free (Nat.le_refl _)⟩

/-- the look at such a region -/
def litB (ops : Array Oper) (anc : List Nat) (e : Env) : Bool :=
  (List.range ops.size).all fun j => match ops[j]? with
    | none => true
    | some oj =>
      oj.after.toList.all (fun x => !Region.binds .any x || decide (x.on < j)) &&
      decide (anc.getD j 0 < 2 ^ ops.size) &&
      (List.range ops.size).all (fun i => !isAnc anc i j || oj.after.toList.any (fun x => Region.binds .any x && (x.on == i || isAnc anc i x.on))) &&
      (List.range ops.size).all (fun i => match ops[i]? with
        | none => true
        | some oi => i == j || oi.dst.isNone || !decide (oi.dst = oj.dst)) &&
      (fits e oj && oj.guard.isNone) &&
      oj.op.operands.toList.all (fun x => match x with
        | .tmp y => (List.range ops.size).any (fun i => match ops[i]? with
          | some oi => decide (oi.dst = some y) && isAnc anc i j
          | none => false)
        | _ => true)
theorem litB_at (h : litB ops anc e = true) {j : Nat} {oj : Oper} (ho : ops[j]? = some oj) :
    (∀ x ∈ oj.after.toList, Region.binds .any x = true → x.on < j) ∧
    (∀ i : Nat, isAnc anc i j = true → ∃ x ∈ oj.after.toList, Region.binds .any x = true ∧ (x.on = i ∨ isAnc anc i x.on = true)) ∧
    (∀ (i : Nat) (oi : Oper) (d : Tmp), ops[i]? = some oi → oi.dst = some d → oj.dst = some d → i = j) ∧
    (fits e oj = true ∧ oj.guard = none) ∧
    (∀ y : Tmp, Operand.tmp y ∈ oj.op.operands → ∃ (i : Nat) (oi : Oper), ops[i]? = some oi ∧ oi.dst = some y ∧ isAnc anc i j = true) := by
  have hj := (Array.getElem?_eq_some_iff.1 ho).1
  have h1 := List.all_eq_true.1 h j (List.mem_range.2 hj)
  rw [ho] at h1
  simp only [Bool.and_eq_true] at h1
  obtain ⟨⟨⟨⟨⟨a1, a2⟩, a3⟩, a4⟩, a5, a6⟩, a7⟩ := h1
  refine ⟨fun x hx hb => ?_, fun i hi => ?_, fun i oi d hoi hd hd' => ?_, ⟨a5, by simpa using a6⟩, fun y hy => ?_⟩
  · have := List.all_eq_true.1 a1 x hx
    rw [hb] at this
    simpa using this
  · have hlt : i < ops.size := by
      rcases Nat.lt_or_ge i ops.size with h | h
      · exact h
      · exfalso
        unfold isAnc at hi
        rw [Nat.testBit_lt_two_pow (Nat.lt_of_lt_of_le (of_decide_eq_true a2) (Nat.pow_le_pow_right (by decide) h))] at hi
        cases hi
    have := List.all_eq_true.1 a3 i (List.mem_range.2 hlt)
    rw [hi] at this
    simp only [Bool.not_true, Bool.false_or] at this
    obtain ⟨x, hx, h2⟩ := List.any_eq_true.1 this
    simp only [Bool.and_eq_true, Bool.or_eq_true, beq_iff_eq] at h2
    exact ⟨x, hx, h2⟩
  · have hlt := (Array.getElem?_eq_some_iff.1 hoi).1
    have := List.all_eq_true.1 a4 i (List.mem_range.2 hlt)
    rw [hoi] at this
    simp only [hd, hd', Option.isNone_some, Bool.or_false, decide_true, Bool.not_true, beq_iff_eq] at this
    exact this
  · have := List.all_eq_true.1 a7 _ (Array.mem_toList_iff.2 hy)
    simp only at this
    obtain ⟨i, hi, h2⟩ := List.any_eq_true.1 this
    split at h2
    · rename_i oi hoi
      simp only [Bool.and_eq_true, decide_eq_true_eq] at h2
      exact ⟨i, oi, hoi, h2.1, h2.2⟩
    · cases h2
theorem LitOk.of_look {m : Nat} {Lt : T Blk} (h : litB ops anc e = true) (sub : ∀ i ∈ ins, i < ops.size) (nd : ins.Nodup) (t0 : ∀ x, (∀ (i : Nat) (o : Oper), ops[i]? = some o → o.dst ≠ some x) → tget tF x = tget T0 x)
    (run : ∀ (i : Nat) (o : Oper), ops[i]? = some o →
    (i ∉ ins ∧ i ≠ i0 ∧ ∃ d, o.dst = some d ∧ ∀ L, quiet P o tF L = some (tget tF d)) ∨
    (i ∉ ins ∧ i = i0 ∧ ∃ d, o.dst = some d ∧ making P o tF = some (.map [], .map) ∧ tget tF d = .map m) ∨
    (i ∈ ins ∧ i ≠ i0 ∧ o.dst = none ∧ isAnc anc i0 i = true ∧ ∀ l : List Nat, (∀ k ∈ l, k ∈ ins ∧ k ≠ i) → oneE P (recT Sb) o tF ⟨Lt.set m (.map (l.map ent)), m + 1⟩ = some (undefV, ⟨Lt.set m (.map (l.map ent ++ [ent i])), m + 1⟩))) :
    LitOk P Sb e ops anc i0 m ins ent T0 tF Lt :=
  ⟨fun j oj ho => (litB_at h ho).1, fun i j oj ho hi => (litB_at h ho).2.1 i hi, fun i j o o' d ho ho' hd hd' => (litB_at h ho').2.2.1 i o d ho hd hd', fun i o ho => (litB_at h ho).2.2.2.1, fun i o y ho hy => (litB_at h ho).2.2.2.2 y hy, sub, nd, t0, run⟩
end

/-- the evaluator, where some calls are known -/
noncomputable def evS (P : Program) (S : Tab) : Nat → Cmd → Rs
  | 0, _ => .no
  | n + 1, .call f args L => match S f args L with
    | some r => .val r.1 r.2
    | none => stepE P (evS P S n) (.call f args L)
  | n + 1, .code e c t d L => stepE P (evS P S n) (.code e c t d L)
  | n + 1, .round l args L => stepE P (evS P S n) (.round l args L)
theorem evS_sound {S : Tab} (hS : TabOk P S) (hN : NamesOk P) (hmix : P.follows .mixedOrders = true) (w0 : World) : ∀ N, Sound P w0 (evS P S N)
  | 0 => ⟨fun _ _ _ _ _ _ _ _ _ h => by simp [evS] at h, fun _ _ _ _ _ h => by simp [evS] at h, fun _ _ _ _ _ h => by simp [evS] at h⟩
  | N + 1 => by
    have hs := evS_sound hS hN hmix w0 N
    refine ⟨?_, ?_, ?_⟩
    · intro e c t d L x t' d' L' h κ a w ro n Q H ha hn hd hr K
      exact code_sound hs hN hmix h H ha hn hd hr K
    · intro f args L v L' h κ args' w ro n H hv
      simp only [evS] at h
      split at h
      · rename_i r hr
        simp only [Rs.val.injEq] at h
        obtain ⟨rfl, rfl⟩ := h
        exact hS f args L _ _ hr w0 κ args' w ro n H hv
      · exact call_sound hs h H hv ro n
    · intro l args L v L' h κ k args' w ro n H hv hk
      exact round_sound hs h H hv hk ro n
theorem ACall.of_evS {S : Tab} (hS : TabOk P S) (hN : NamesOk P) (hmix : P.follows .mixedOrders = true) {N : Nat} {f : FuncId} {args : List V} {v : V} {L' : Heap} (h : evS P S N (.call f args L) = .val v L') : ACall P f args L v L' :=
  fun w0 κ args' w ro n H hv => (evS_sound hS hN hmix w0 N).call _ _ _ _ _ h κ args' w ro n H hv
end Go.Proofs.Ytpfmoolpeecobaa.Ev
