/- Operations and regions: what the evaluator says of them holds on the machine, in whatever order. -/
import Derived.Test.YtpfmoolpeecobaaX9
import Derived.RangeFuncRecord
import Derived.OrdersIn
namespace Go.Proofs.Ytpfmoolpeecobaa.Ev
open Go.RowKit
set_option linter.unusedVariables false
set_option linter.unusedSimpArgs false
variable {P : Program} {w0 : World} {κ : KM} {L : Heap} {w : World} {t : T V} {a : Act}

mutual
theorem V.beq_eq : ∀ (a b : V), V.beq a b = true → a = b
  | .bool a, b, h => by cases b <;> simp_all [V.beq]
  | .int k a, b, h => by cases b <;> simp_all [V.beq]
  | .str a, b, h => by cases b <;> simp_all [V.beq, strEq_iff]
  | .ptr n o, b, h => by cases b <;> simp_all [V.beq]
  | .nilp, b, h => by cases b <;> simp_all [V.beq]
  | .slice n o l c q, b, h => by cases b <;> simp_all [V.beq]
  | .nils, b, h => by cases b <;> simp_all [V.beq]
  | .map n, b, h => by cases b <;> simp_all [V.beq]
  | .nilm, b, h => by cases b <;> simp_all [V.beq]
  | .func f a c, b, h => by
    cases b <;> simp only [V.beq, Bool.and_eq_true, Bool.false_eq_true] at h
    obtain ⟨⟨h1, h2⟩, h3⟩ := h
    rw [V.beqs_eq _ _ h2, V.beqs_eq _ _ h3, Nat.eq_of_beq_eq_true h1]
  | .yield n, b, h => by cases b <;> simp_all [V.beq]
  | .nilf, b, h => by cases b <;> simp_all [V.beq]
  | .iface t v, b, h => by
    cases b <;> simp only [V.beq, Bool.and_eq_true, Bool.false_eq_true] at h
    rw [V.beq_eq _ _ h.2, Nat.eq_of_beq_eq_true h.1]
  | .nili, b, h => by cases b <;> simp_all [V.beq]
  | .agg c, b, h => by
    cases b <;> simp only [V.beq, Bool.false_eq_true] at h
    rw [V.beqs_eq _ _ h]
  | .tuple c, b, h => by
    cases b <;> simp only [V.beq, Bool.false_eq_true] at h
    rw [V.beqs_eq _ _ h]
theorem V.beqs_eq : ∀ (a b : List V), V.beqs a b = true → a = b
  | [], b, h => by cases b <;> simp_all [V.beqs]
  | x :: a, b, h => by
    cases b <;> simp only [V.beqs, Bool.and_eq_true, Bool.false_eq_true] at h
    rw [V.beq_eq _ _ h.1, V.beqs_eq _ _ h.2]
end

/-- more names -/
def Heap.ext (L L' : Heap) : Prop := ∀ n b, L.t.get n = some b → L'.t.get n = some b

theorem elem_ext {L L' : Heap} (h : L.ext L') {n off : Nat} {r} (e : L.elem n off = some r) : L'.elem n off = some r := by
  unfold Heap.elem at e ⊢
  simp only [Option.bind_eq_some_iff] at e ⊢
  obtain ⟨b, hb, e⟩ := e
  exact ⟨b, h _ _ hb, e⟩
theorem elems_ext {L L' : Heap} (h : L.ext L') {n s : Nat} : ∀ {k off : Nat} {r}, L.elems n off s k = some r → L'.elems n off s k = some r
  | 0, off, r, e => e
  | k + 1, off, r, e => by
    simp only [Heap.elems, Option.bind_eq_some_iff, Option.map_eq_some_iff] at e ⊢
    obtain ⟨p, hp, x, hx, l, hl, rfl⟩ := e
    exact ⟨p, elem_ext h hp, x, hx, l, elems_ext h hl, rfl⟩
theorem convQ_ext {L L' : Heap} (h : L.ext L') {s d : TypeId} {x r : V} (e : convQ P s d x L = some r) : convQ P s d x L' = some r := by
  cases x <;> simp only [convQ, reduceCtorEq] at e ⊢ <;> try exact e
  simp only [Option.bind_eq_some_iff, guardO_some] at e ⊢
  obtain ⟨ty, hty, hd, e⟩ := e
  refine ⟨ty, hty, hd, ?_⟩
  split at e
  · simp only [Option.bind_eq_some_iff, Option.map_eq_some_iff] at e ⊢
    obtain ⟨l, hl, e⟩ := e
    exact ⟨l, elems_ext h hl, e⟩
  · simp only [Option.bind_eq_some_iff, Option.map_eq_some_iff] at e ⊢
    obtain ⟨l, hl, e⟩ := e
    exact ⟨l, elems_ext h hl, e⟩
  · cases e
theorem lookup_ext {L L' : Heap} (h : L.ext L') {ty : TypeId} {x k r : V} {ok : Bool} (e : lookup P ty x k ok L = some r) : lookup P ty x k ok L' = some r := by
  unfold lookup at e ⊢
  simp only [Option.bind_eq_some_iff] at e ⊢
  obtain ⟨m, hm, n, hn, b, hb, e⟩ := e
  exact ⟨m, hm, n, hn, b, h _ _ hb, e⟩

theorem quiet_ext {L L' : Heap} (h : L.ext L') {o : Oper} {r : V} (e : quiet P o t L = some r) : quiet P o t L' = some r := by
  obtain ⟨dst, op, typ, pos, after, guard⟩ := o
  cases op
  case makeFunc fn _ _ => cases fn <;> exact e
  all_goals simp only [quiet] at e ⊢
  all_goals try exact e
  case load =>
    simp only [Heap.load, Option.bind_eq_some_iff] at e ⊢
    obtain ⟨v, hv, p, hp, q, hq, e⟩ := e
    exact ⟨v, hv, p, hp, q, elem_ext h hq, e⟩
  case convert =>
    simp only [Option.bind_eq_some_iff] at e ⊢
    obtain ⟨v, hv, e⟩ := e
    exact ⟨v, hv, convQ_ext h e⟩
  case lookup =>
    simp only [Option.bind_eq_some_iff] at e ⊢
    obtain ⟨v, hv, i, hi, e⟩ := e
    exact ⟨v, hv, i, hi, lookup_ext h e⟩

theorem quiet_any {L L' : Heap} {o : Oper} (hc : cls P o = .quiet false) {r : V} (e : quiet P o t L = some r) : quiet P o t L' = some r := by
  obtain ⟨dst, op, typ, pos, after, guard⟩ := o
  cases op
  case makeFunc fn _ _ => cases fn <;> exact e
  all_goals simp only [quiet] at e ⊢
  all_goals simp only [cls, reduceCtorEq] at hc
  all_goals try exact e
  all_goals first
    | (exact absurd hc (by simp))
    | (split at hc <;> simp at hc)

theorem Act.put_tmps_size (a : Act) (d : Option Tmp) (v : Value) : (a.put d v).tmps.size = a.tmps.size := by cases d <;> simp [Act.put]
theorem Act.put_defers' (a : Act) (d : Option Tmp) (v : Value) : (a.put d v).defers = a.defers := by cases d <;> rfl
theorem Act.put_same {a : Act} {d : Tmp} {v : Value} (h : d < a.tmps.size) : (a.put (some d) v).tmps.getD d undef = v := by
  simp [Act.put, Array.getD, h]
theorem Act.put_ne {a : Act} {o : Option Tmp} {x : Tmp} {v : Value} (h : o ≠ some x) : (a.put o v).tmps.getD x undef = a.tmps.getD x undef := by
  cases o with
  | none => rfl
  | some d =>
    have hne : d ≠ x := fun e => h (by rw [e])
    simp only [Act.put, Array.getD_eq_getD_getElem?, Array.getElem?_setIfInBounds_ne hne]

theorem tget_set_same {t : T V} {d : Nat} {v : V} : tget (t.set d v) d = v := by simp [tget, T.get_set_same]
theorem tget_putD_ne {t : T V} {o : Option Tmp} {x : Nat} {v : V} (h : o ≠ some x) : tget (putD t o v) x = tget t x := by
  cases o with
  | none => rfl
  | some d =>
    have hne : x ≠ d := fun e => h (by rw [e])
    simp only [putD, tget, T.get_set_ne _ _ hne]

theorem AR.put {e : Env} {o : Oper} (ha : AR κ t a) (hf : fits e o = true) (hn : e.nt ≤ a.tmps.size) {v : V} {z : Value} (hv : VR κ v z) : AR κ (putD t o.dst v) (a.put o.dst z) := by
  intro x
  by_cases h : o.dst = Option.some x
  · rw [h]
    unfold fits at hf
    rw [h] at hf
    rw [Act.put_same (Nat.lt_of_lt_of_le (by simpa using hf) hn)]
    simp only [putD, tget_set_same]
    exact hv
  · rw [tget_putD_ne h, Act.put_ne h]
    exact ha x

theorem VR_bool {v : V} {b : Bool} (h : VR κ v (.bool b)) : v = .bool b := by
  cases v <;> simp only [VR] at h
  case bool => injection h with h; rw [h]
  case slice => obtain ⟨_, _, _, _, h, _⟩ := h; cases h
  case func => obtain ⟨_, _, h, _⟩ := h; cases h
  all_goals simp at h

theorem wanted_eq {ops : Array Oper} {o : Oper} (hl : ∀ g want d, o.guard = some (g, want) → (ops[g]?).bind (·.dst) = some d → VR κ (tget t d) (a.tmps.getD d undef)) :
    wantedE ops o t = Region.wanted o (yielded ops a.tmps) := by
  unfold wantedE Region.wanted
  cases hg : o.guard with
  | none => rfl
  | some p =>
    obtain ⟨g, want⟩ := p
    simp only []
    unfold yielded
    cases hd : (ops[g]?).bind (·.dst) with
    | none => simp
    | some d =>
      have := hl g want d hg hd
      simp only [Option.bind_some]
      rw [Array.getD_eq_getD_getElem?] at this
      cases ht : tget t d with
      | bool b =>
        rw [ht] at this
        simp only [VR] at this
        cases hx : a.tmps[d]? with
        | none => rw [hx] at this; simp [undef] at this
        | some y =>
          rw [hx] at this
          simp only [Option.getD_some] at this
          subst this
          cases b <;> cases want <;> rfl
      | _ =>
        rw [ht] at this
        cases hx : a.tmps[d]? with
        | none => simp
        | some y =>
          rw [hx] at this
          simp only [Option.getD_some] at this
          cases y <;> first
            | (simp; done)
            | exact absurd (VR_bool this) (by simp)
/-- every function, every way; in a loop's round or not -/
def WF (ro : Option Nat) : Fence := { fn := fun _ => True, depth := none, alive := false, round := ro }

def exOf : Ex → Exit
  | .normal => .normal
  | .exit i => .exit i
  | .goto l => .goto l
  | .ret => .ret

/-- marks -/
def DR (κ : KM) : List Nat → List Deferred → Prop
  | [], ds => ds = []
  | n :: l, ds => ∃ k r, κ n = some k ∧ ds = { target := .collected k.r, args := #[] } :: r ∧ DR κ l r
theorem DR_mono {κ κ' : KM} (h : κ.le κ') : ∀ (d : List Nat) (ds : List Deferred), DR κ d ds → DR κ' d ds
  | [], ds, hd => hd
  | n :: l, ds, ⟨k, r, hk, e, hr⟩ => ⟨k, r, h _ _ hk, e, DR_mono h l r hr⟩

/-- the round's loop -/
def RO (κ : KM) (e ro : Option Nat) : Prop := match e with
  | none => ro = none
  | some l => ∃ k, κ l = some k ∧ ro = some k.r
theorem RO_mono {κ κ' : KM} (h : κ.le κ') {e ro : Option Nat} (hr : RO κ e ro) : RO κ' e ro := by
  cases e with
  | none => exact hr
  | some l => obtain ⟨k, hk, e⟩ := hr; exact ⟨k, h _ _ hk, e⟩

def ResE (w0 : World) (κ : KM) (L : Heap) (v : V) (L' : Heap) : Ending → World → Prop := fun e w' => ∃ z, e = .returned z ∧ LoudR w0 κ L v L' z w'

structure Sound (P : Program) (w0 : World) (rec : Cmd → Rs) : Prop where
  code : ∀ e c t d L x t' d' L', rec (.code e c t d L) = .code x t' d' L' → ∀ (κ : KM) (a : Act) (w : World) (ro : Option Nat) (n : Nat) (Q : Exit → Act → World → Prop),
    HR w0 κ L w → AR κ t a → e.nt ≤ a.tmps.size → DR κ d a.defers → RO κ e.ro ro →
    (∀ (κ' : KM) (a' : Act) (w' : World), κ.le κ' → HR w0 κ' L' w' → AR κ' t' a' → e.nt ≤ a'.tmps.size → DR κ' d' a'.defers → UN κ L κ' L' → Q (exOf x) a' w') → c.wpIn (WF ro) n P Q a w
  call : ∀ f args L v L', rec (.call f args L) = .val v L' → ∀ (κ : KM) (args' : Array Value) (w : World) (ro : Option Nat) (n : Nat), HR w0 κ L w → VRs κ args args'.toList →
    ∃ fn c, P.funcs[f]? = some fn ∧ fn.body = some c ∧ CallsIn (WF ro) n P f args' w (ResE w0 κ L v L')
  round : ∀ l args L v L', rec (.round l args L) = .val v L' → ∀ (κ : KM) (k : KB) (args' : Array Value) (w : World) (ro : Option Nat) (n : Nat), HR w0 κ L w → VRs κ args args'.toList → κ l = some k →
    ∃ lp, w.heap[k.r]? = some (.loop lp) ∧ args'.size = lp.params.size ∧
      RoundIn (WF ro) n P k.r lp.fn ((lp.params.zip args').foldl (fun tmps (t, a) => tmps.setIfInBounds t a) lp.tmps) lp.assign lp.body w (ResE w0 κ L v L')

def NamesOk (P : Program) : Prop := ∀ (f : FuncId) (fn : Func), P.funcs[f]? = some fn → (fn.name == "runtime.NumGoroutine") = false

theorem run_callFunc_in {f : FuncId} {fn : Func} {c : Code} (hf : P.funcs[f]? = some fn) (hname : (fn.name == "runtime.NumGoroutine") = false) (hb : fn.body = some c) (args : Array Value) (w : World) :
    (callFunc f args).run P w = .ok (.enter f args) w := by
  have h1 : fn.name ≠ "runtime.NumGoroutine" := by simpa using hname
  simp [callFunc, hf, h1, hb]

theorem oneE_sound {rec : Cmd → Rs} (hs : Sound P w0 rec) (hN : NamesOk P) {o : Oper} {v : V} {L' : Heap} (h : oneE P rec o t L = some (v, L')) (H : HR w0 κ L w)
    (ha : ∀ x ∈ o.op.operands, OpR κ t a x) {ro : Option Nat} {n : Nat} {next : Act → World → Prop} {Q : Exit → Act → World → Prop}
    (K : ∀ z w', LoudR w0 κ L v L' z w' → next (a.put o.dst z) w') : o.wpIn (WF ro) n P a w next Q := by
  have hnd : ∀ c, o.op ≠ .defer c := by
    intro c e
    simp [oneE, cls, e, quiet] at h
  refine ⟨fun _ _ => trivial, ?_⟩
  rw [Oper.semAt_eq _ _ _ hnd]
  unfold oneE at h
  split at h
  · simp only [Option.map_eq_some_iff, Prod.mk.injEq] at h
    obtain ⟨r, hr, rfl, rfl⟩ := h
    obtain ⟨z, hz, hv⟩ := quiet_sound hr H ha
    rw [hz]
    exact K z w ⟨κ, KM.le_refl _, H, hv, UN_refl _ _⟩
  · simp only [Option.map_eq_some_iff, Prod.mk.injEq] at h
    obtain ⟨⟨b, nv⟩, hr, rfl, rfl⟩ := h
    have hfree : κ L.next = none := H.free (Nat.le_refl _)
    obtain ⟨z, w', cap, hz, H', hv⟩ := making_sound hr (H.name b) ha hfree (Nat.lt_succ_self _) (T.get_set_same _ _ _)
    rw [hz]
    exact K z w' ⟨_, KM.le_set hfree, H', hv, ⟨Nat.le_succ _, fun m hm hkm => ⟨by rw [KM.set_ne (by omega)]; exact hkm, T.get_set_ne _ _ (by omega)⟩⟩⟩
  · obtain ⟨nx, z, w', hz, hnx, hl⟩ := loud_sound h H ha
    rw [hz]
    rcases hnx with rfl | ⟨rfl, rfl⟩
    · exact K z w' hl
    · exact K _ w' hl
  · split at h
    case h_2 => cases h
    rename_i c hc
    split at h
    case h_2 => cases h
    rename_i f hf
    simp only [Option.bind_eq_some_iff] at h
    obtain ⟨fv, hfv, vs, hvs, h⟩ := h
    rw [hc] at ha
    simp only [Op.operands] at ha
    have hF := opd_VR (ha f (by simp [Call.operands, hf])) hfv
    have hV := opds_arr (a := a) (fun x hx => ha x (by simp [Call.operands, hf, hx])) hvs
    split at h
    · rename_i g args hg
      cases fv <;> simp only [goal, reduceCtorEq, Goal.fn.injEq] at hg
      rename_i g0 _ _
      obtain ⟨rfl, rfl⟩ := hg
      simp only [VR] at hF
      obtain ⟨xs, ys, hF, h1, h2⟩ := hF
      split at h
      case h_2 => cases h
      rename_i hr
      simp only [Option.some.injEq, Prod.mk.injEq] at h
      obtain ⟨rfl, rfl⟩ := h
      obtain ⟨fn, cb, hfn, hcb, hcall⟩ := hs.call _ _ _ _ _ hr κ (xs ++ c.args.map a.eval ++ ys) w ro (n - 1) H (by
        rw [Array.toList_append, Array.toList_append]
        exact VRs_append (VRs_append h1 hV) h2)
      have hx : (execOp a.eval o).run P w = .ok (.enter g0 (xs ++ c.args.map a.eval ++ ys)) w := by
        simp only [execOp, hc, resolve, hf, hF, Deferred.ofValue, Sem.run_bind, Sem.run_pure, Result.andThen_ok, invoke]
        exact run_callFunc_in hfn (hN _ _ hfn) hcb _ _
      rw [hx]
      refine ⟨fun hd => by simp [WF] at hd, hcall.mono ?_⟩
      rintro e w' ⟨z, rfl, hl⟩
      exact K z w' hl
    · rename_i l args hg
      cases fv <;> simp only [goal, reduceCtorEq, Goal.round.injEq] at hg
      obtain ⟨rfl, rfl⟩ := hg
      simp only [VR] at hF
      obtain ⟨k, hk, hF⟩ := hF
      split at h
      case h_2 => cases h
      rename_i hr
      simp only [Option.some.injEq, Prod.mk.injEq] at h
      obtain ⟨rfl, rfl⟩ := h
      obtain ⟨lp, hlp, hsz, hround⟩ := hs.round _ _ _ _ _ hr κ k (c.args.map a.eval) w ro (n - 1) H hV hk
      have hx : (execOp a.eval o).run P w = .ok (.round k.r lp.fn ((lp.params.zip (c.args.map a.eval)).foldl (fun tmps (t, a) => tmps.setIfInBounds t a) lp.tmps) lp.assign lp.body) w := by
        simp only [execOp, hc, resolve, hf, hF, Deferred.ofValue, Sem.run_bind, Sem.run_pure, Result.andThen_ok, invoke]
        rw [Array.empty_append]
        exact run_yield hlp hsz
      rw [hx]
      refine ⟨fun hd => by simp [WF] at hd, hround.mono ?_⟩
      rintro e w' ⟨z, rfl, hl⟩
      exact K z w' hl
    · cases h

/-- operations one behind the other -/
theorem seqE_sound {rec : Cmd → Rs} (hs : Sound P w0 rec) (hN : NamesOk P) {e : Env} {ops : Array Oper} {ro : Option Nat} {n : Nat} {Q : Exit → Act → World → Prop} {t' : T V} {L' : Heap} :
    ∀ (l : List Nat) (t : T V) (L : Heap) (κ : KM) (a : Act) (w : World), seqE P rec e ops l t L = some (t', L') → HR w0 κ L w → AR κ t a → e.nt ≤ a.tmps.size →
      (∀ (κ' : KM) (a' : Act) (w' : World), κ.le κ' → HR w0 κ' L' w' → AR κ' t' a' → a'.tmps.size = a.tmps.size → a'.defers = a.defers → UN κ L κ' L' → Q .normal a' w') →
      wpOpsIn (WF ro) n P ops Q l a w := by
  intro l
  induction l with
  | nil =>
    intro t L κ a w h H ha hn K
    simp only [seqE, Option.some.injEq, Prod.mk.injEq] at h
    obtain ⟨rfl, rfl⟩ := h
    exact K κ a w (KM.le_refl _) H ha rfl rfl (UN_refl _ _)
  | cons i rest ih =>
    intro t L κ a w h H ha hn K
    simp only [seqE, Option.bind_eq_some_iff, guardO_some] at h
    obtain ⟨o, ho, hf, h⟩ := h
    have hw : wantedE ops o t = Region.wanted o (yielded ops a.tmps) := wanted_eq fun g want d _ _ => ha d
    simp only [wpOpsIn, ho]
    split at h
    · rename_i hwt
      rw [hw] at hwt
      rw [if_pos hwt]
      simp only [Option.bind_eq_some_iff] at h
      obtain ⟨⟨v, L1⟩, h1, h2⟩ := h
      refine oneE_sound hs hN h1 H (fun x _ y _ => ha y) ?_
      rintro z w' ⟨κ', hle, H', hv, hU⟩
      refine ih _ _ κ' _ w' h2 H' ((AR_mono hle ha).put hf hn hv) (by rw [Act.put_tmps_size]; exact hn) ?_
      intro κ2 a2 w2 hle2 H2 ha2 hsz hdf hU2
      exact K κ2 a2 w2 (KM.le_trans hle hle2) H2 ha2 (by rw [hsz, Act.put_tmps_size]) (by rw [hdf, Act.put_defers']) (UN_trans hU hU2)
    · rename_i hwt
      rw [hw] at hwt
      rw [if_neg (by rw [hwt]; simp)]
      refine ⟨fun _ _ => trivial, ?_⟩
      refine ih _ _ κ _ w h H (ha.put hf hn VR_undef) (by rw [Act.put_tmps_size]; exact hn) ?_
      intro κ2 a2 w2 hle2 H2 ha2 hsz hdf hU2
      exact K κ2 a2 w2 hle2 H2 ha2 (by rw [hsz, Act.put_tmps_size]) (by rw [hdf, Act.put_defers']) hU2
end Go.Proofs.Ytpfmoolpeecobaa.Ev
