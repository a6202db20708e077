/- The evaluator is right, whole: by the number of its steps. -/
import Derived.Test.YtpfmoolpeecobaaX12
namespace Go.Proofs.Ytpfmoolpeecobaa.Ev
open Go.RowKit
set_option linter.unusedVariables false
set_option linter.unusedSimpArgs false
variable {P : Program} {w0 : World} {κ : KM} {L : Heap} {w : World} {t : T V} {a : Act}

/-- where code leaves the machine -/
def After (w0 : World) (e : Env) (κ : KM) (L : Heap) (x : Ex) (t' : T V) (d' : List Nat) (L' : Heap) : Exit → Act → World → Prop := fun ex a' w' =>
  ex = exOf x ∧ ∃ κ', κ.le κ' ∧ HR w0 κ' L' w' ∧ AR κ' t' a' ∧ e.nt ≤ a'.tmps.size ∧ DR κ' d' a'.defers ∧ UN κ L κ' L'

theorem Sound.after {rec : Cmd → Rs} (hs : Sound P w0 rec) {e : Env} {c : Code} {d : List Nat} {x : Ex} {t' : T V} {d' : List Nat} {L' : Heap} (h : rec (.code e c t d L) = .code x t' d' L') {ro : Option Nat} {n : Nat}
    (H : HR w0 κ L w) (ha : AR κ t a) (hn : e.nt ≤ a.tmps.size) (hd : DR κ d a.defers) (hr : RO κ e.ro ro) : c.wpIn (WF ro) n P (After w0 e κ L x t' d' L') a w :=
  hs.code _ _ _ _ _ _ _ _ _ h κ a w ro n _ H ha hn hd hr fun κ' a' w' h1 h2 h3 h4 h5 h6 => ⟨rfl, κ', h1, h2, h3, h4, h5, h6⟩

theorem loopE_ne {body : T V → List Nat → Heap → Rs} : ∀ (m : Nat) (t : T V) (d : List Nat) (L : Heap) {x t' d' L'}, loopE body m t d L = .code x t' d' L' → x ≠ .normal := by
  intro m
  induction m with
  | zero => intro t d L x t' d' L' h; cases h
  | succ m ih =>
    intro t d L x t' d' L' h
    simp only [loopE] at h
    split at h
    · exact ih _ _ _ h
    · rename_i hne
      intro hx
      subst hx
      exact hne _ _ _ h

theorem loop_sound {rec : Cmd → Rs} (hs : Sound P w0 rec) {e : Env} {c : Code} {ro : Option Nat} {n : Nat} {Q : Exit → Act → World → Prop} {x : Ex} {t' : T V} {d' : List Nat} {L' : Heap}
    (b : Frame) (k : List Item) (cs : List Frame) (hro : b.roundOf = (WF ro).round) (hb : (WF ro).fn b.fn) (hroom : (WF ro).room (cs.length + 1 + n)) :
    ∀ (m : Nat) (t : T V) (d : List Nat) (L : Heap) (κ : KM) (a : Act) (w : World), loopE (fun t d L => rec (.code e c t d L)) m t d L = .code x t' d' L' →
      HR w0 κ L w → AR κ t a → e.nt ≤ a.tmps.size → DR κ d a.defers → RO κ e.ro ro →
      (∀ (κ' : KM) (a' : Act) (w' : World), κ.le κ' → HR w0 κ' L' w' → AR κ' t' a' → e.nt ≤ a'.tmps.size → DR κ' d' a'.defers → UN κ L κ' L' → Q (exOf x) a' w') →
      ∃ e a' w', Q e a' w' ∧ ArrivesIn (Machine.fenced P (WF ro)) P (lone (b.atR a (.code c :: .inLoop c :: k)) cs w) b k cs e a' w' := by
  intro m
  induction m with
  | zero => intro t d L κ a w h; cases h
  | succ m ih =>
    intro t d L κ a w h H ha hn hd hr K
    have hx := loopE_ne _ _ _ _ h
    simp only [loopE] at h
    split at h
    · rename_i t1 d1 L1 h1
      obtain ⟨ex, a1, w1, ⟨rfl, κ1, g1, g2, g3, g4, g5, g6⟩, harr⟩ := hs.after h1 (n := n) H ha hn hd hr b (.inLoop c :: k) cs hro hb hroom
      obtain ⟨e2, a2, w2, hq2, harr2⟩ := ih t1 d1 L1 κ1 a1 w1 h g2 g3 g4 g5 (RO_mono g1 hr) fun κ' a' w' f1 f2 f3 f4 f5 f6 => K κ' a' w' (KM.le_trans g1 f1) f2 f3 f4 f5 (UN_trans g6 f6)
      exact ⟨e2, a2, w2, hq2, .of_steps (StepsIn.trans harr (.one (fenced_calm hb hroom rfl) stepR_inLoop)) harr2⟩
    · obtain ⟨ex, a1, w1, ⟨rfl, κ1, g1, g2, g3, g4, g5, g6⟩, harr⟩ := hs.after h (n := n) H ha hn hd hr b (.inLoop c :: k) cs hro hb hroom
      refine ⟨_, a1, w1, K κ1 a1 w1 g1 g2 g3 g4 g5 g6, .pass (x := .inLoop c) rfl (fun _ _ => .inl ?_) harr⟩
      cases x <;> simp [exOf] at hx ⊢

/-- a jump that waits is no panic -/
theorem run_enterLoop_inner {fn : FuncId} {tmps : Array Value} {ps : Array Tmp} {assign body : Code} {l : Nat} {r : Loop} (h : w.heap[l]? = some (.loop r)) :
    (Instr.enterLoop fn tmps ps assign body (some l)).run P w =
      .ok (w.heap.size, []) (w.alloc (.loop { state := .ready, pending := none, fn, tmps, params := ps, assign, body, defers := r.defers })) := by
  unfold Instr.enterLoop
  simp only [Sem.run_bind, run_getLoop h, run_newObj_alloc, Result.andThen, Sem.run_pure]

theorem HR.new (H : HR w0 κ L w) {b : Blk} {o : Obj} {boff cap : Nat} (hro : b.ro = false) (hbr : BR (κ.set L.next ⟨w.heap.size, boff, cap⟩) ⟨w.heap.size, boff, cap⟩ b o) :
    HR w0 (κ.set L.next ⟨w.heap.size, boff, cap⟩) ⟨L.t.set L.next b, L.next + 1⟩ (w.alloc o) := by
  have hfree : κ L.next = none := H.free (Nat.le_refl _)
  exact (H.name b).put hfree (Nat.lt_succ_self _) (T.get_set_same _ _ _) hro (Below.alloc (Below.refl _ _) (Nat.le_refl _) o) (by simp) (World.alloc_heap_new w o) hbr

theorem UN.new (L : Heap) (b : Blk) {k : KB} (hfree : κ L.next = none) : UN κ L (κ.set L.next k) ⟨L.t.set L.next b, L.next + 1⟩ :=
  ⟨Nat.le_succ _, fun m hm hkm => ⟨by rw [KM.set_ne (by omega)]; exact hkm, T.get_set_ne _ _ (by omega)⟩⟩

theorem start_sound {e : Env} {d : List Nat} {q : Nat × List Nat × Heap} (h : startLoop e d L = some q) (H : HR w0 κ L w) (ha : AR κ t a) (hn : e.nt ≤ a.tmps.size) (hd : DR κ d a.defers) {ro : Option Nat} (hr : RO κ e.ro ro)
    (fn : FuncId) (ps : Array Tmp) (assign body : Code) :
    ∃ l mark w1 κ1, (Instr.enterLoop fn a.tmps ps assign body ro).run P w = .ok (l, mark) w1 ∧ κ.le κ1 ∧ κ1 q.2.2.next = some ⟨l, 0, 0⟩ ∧
      HR w0 κ1 ⟨q.2.2.t.set q.2.2.next (.loop .ready none e.nt t ps.toList assign body q.1), q.2.2.next + 1⟩ w1 ∧ DR κ1 q.2.1 (mark ++ a.defers) ∧
      UN κ L κ1 ⟨q.2.2.t.set q.2.2.next (.loop .ready none e.nt t ps.toList assign body q.1), q.2.2.next + 1⟩ := by
  obtain ⟨ero, ent⟩ := e
  cases ero with
  | none =>
    simp only [RO] at hr
    subst hr
    simp only [startLoop, Option.some.injEq] at h
    subst h
    have hfree : κ L.next = none := H.free (Nat.le_refl _)
    have H1 := H.new (b := .dfr true) (o := .deferred (some [])) (boff := 0) (cap := 0) rfl (by simp [BR])
    have hfree1 := H1.free (Nat.le_refl _)
    have hle1 : κ.le (κ.set L.next ⟨w.heap.size, 0, 0⟩) := KM.le_set hfree
    have hle2 := KM.le_set (k := ⟨(w.alloc (.deferred (some []))).heap.size, 0, 0⟩) hfree1
    refine ⟨w.heap.size + 1, _, _, _, run_enterLoop_outer fn a.tmps ps assign body, KM.le_trans hle1 hle2, ?_, H1.new (b := .loop .ready none ent t ps.toList assign body L.next) (boff := 0) (cap := 0) rfl ?_, ?_, UN_trans (UN.new L _ hfree) (UN.new _ _ hfree1)⟩
    · have : (w.alloc (.deferred (some []))).heap.size = w.heap.size + 1 := by simp
      rw [this]
      exact KM.set_same
    · refine ⟨_, rfl, rfl, rfl, rfl, rfl, rfl, hn, fun x => VR_mono (KM.le_trans hle1 hle2) _ _ (ha x), ⟨w.heap.size, 0, 0⟩, hle2 _ _ KM.set_same, rfl⟩
    · exact ⟨⟨w.heap.size, 0, 0⟩, a.defers, hle2 _ _ KM.set_same, rfl, DR_mono (KM.le_trans hle1 hle2) _ _ hd⟩
  | some l =>
    obtain ⟨k, hk, rfl⟩ := hr
    simp only [startLoop, Option.bind_eq_some_iff] at h
    obtain ⟨b, hb, h⟩ := h
    split at h
    case h_2 => cases h
    simp only [Option.some.injEq] at h
    subst h
    obtain ⟨ob, hob, lp, rfl, h1, h2, h3, h4, h5, h6, h7, kd, hkd, h8⟩ := H.blk l k _ hk hb
    have hfree : κ L.next = none := H.free (Nat.le_refl _)
    have hle1 : κ.le (κ.set L.next ⟨w.heap.size, 0, 0⟩) := KM.le_set hfree
    refine ⟨w.heap.size, _, _, _, run_enterLoop_inner hob, hle1, KM.set_same, H.new (boff := 0) (cap := 0) rfl ?_, ?_, UN.new L _ hfree⟩
    · exact ⟨_, rfl, rfl, rfl, rfl, rfl, rfl, hn, fun x => VR_mono hle1 _ _ (ha x), kd, hle1 _ _ hkd, h8⟩
    · rw [List.nil_append]; exact DR_mono hle1 _ _ hd
theorem rangeFunc_sound {rec : Cmd → Rs} (hs : Sound P w0 rec) (hN : NamesOk P) {e : Env} {f : Operand} {ps : Array Tmp} {assign body : Code} {d : List Nat} {x : Ex} {t' : T V} {d' : List Nat} {L' : Heap}
    (h : stepE P rec (.code e (.rangeFunc f ps assign body) t d L) = .code x t' d' L') {ro : Option Nat} {n : Nat} {Q : Exit → Act → World → Prop}
    (H : HR w0 κ L w) (ha : AR κ t a) (hn : e.nt ≤ a.tmps.size) (hd : DR κ d a.defers) (hr : RO κ e.ro ro)
    (K : ∀ (κ' : KM) (a' : Act) (w' : World), κ.le κ' → HR w0 κ' L' w' → AR κ' t' a' → e.nt ≤ a'.tmps.size → DR κ' d' a'.defers → UN κ L κ' L' → Q (exOf x) a' w') :
    (Code.rangeFunc f ps assign body).wpIn (WF ro) n P Q a w := by
  simp only [stepE] at h
  split at h
  · cases h
  rename_i q hq
  split at h
  case h_2 => cases h
  rename_i fv hfv
  split at h
  case h_2 => cases h
  rename_i g args hg
  split at h
  case h_2 => cases h
  rename_i vr L1 hr1
  cases fv <;> simp only [goal, reduceCtorEq, Goal.fn.injEq] at hg
  rename_i g0 first cap
  obtain ⟨rfl, rfl⟩ := hg
  have hF := opd_VR (ha.some [] |> fun _ => (fun y _ => ha y : OpR κ t a f)) hfv
  simp only [VR] at hF
  obtain ⟨xs, ys, hF, hx1, hx2⟩ := hF
  refine wpIn_rangeFunc fun fn _ => ?_
  obtain ⟨l, mark, w1, κ1, henter, hle1, hkl, H1, hd1, hU1⟩ := start_sound hq H ha hn hd hr fn ps assign body
  have hargs : VRs κ1 (first ++ [.yield q.2.2.next] ++ cap) (xs ++ #[Value.func (.yield l) #[] #[]] ++ ys).toList := by
    rw [Array.toList_append, Array.toList_append]
    refine VRs_append (VRs_append (VRs_mono hle1 _ _ hx1) ?_) (VRs_mono hle1 _ _ hx2)
    simp only [VRs_cons, VRs_nil, VR]
    exact ⟨_, [], rfl, ⟨_, hkl, rfl⟩, rfl⟩
  obtain ⟨fn', c', hfn', hc', hcall⟩ := hs.call _ _ _ _ _ hr1 κ1 _ w1 ro (n - 1) H1 hargs
  refine ⟨l, mark, w1, { target := .fn (.func g0) ys, args := xs ++ #[.func (.yield l) #[] #[]] }, w1, g0, xs ++ #[.func (.yield l) #[] #[]] ++ ys, w1, henter, ?_, fun _ _ => trivial, ?_, fun hd => by simp [WF] at hd, ?_⟩
  · simp only [resolve, rangeCall, hF, Deferred.ofValue, Sem.run_pure]
    simp [Act.eval]
  · simp only [invoke]
    exact run_callFunc_in hfn' (hN _ _ hfn') hc' _ _
  · refine hcall.mono ?_
    rintro en w2 ⟨z, rfl, κ2, hle2, H2, hvz, hU2⟩
    have hkl2 : κ2 q.2.2.next = some ⟨l, 0, 0⟩ := hle2 _ _ hkl
    have ha2 : AR κ2 t { a with defers := mark ++ a.defers } := fun y => VR_mono (KM.le_trans hle1 hle2) _ _ (ha y)
    split at h
    · cases h
    · rename_i st pend nt tm ps2 as2 bd2 df hne hb
      obtain ⟨ob, hob, lp, rfl, h1, h2, h3, h4, h5, h6, h7, kd, hkd, h8⟩ := H2.blk _ _ _ hkl2 hb
      have hlt := (H2.dom _ _ hkl2).2
      have hbusy : lp.state ≠ .busy := by
        rw [h1]
        exact fun hst => hne hst
      have H3 : HR w0 κ2 ⟨L1.t.set q.2.2.next (.loop .exhausted pend nt tm ps2 as2 bd2 df), L1.next⟩ (w2.putObj l (.loop { lp with state := .exhausted })) :=
        H2.turn hkl2 hb rfl rfl (by simp) rfl rfl rfl (fun i hi => World.putObj_heap_other hi) (World.putObj_heap_same hlt) ⟨_, rfl, rfl, h2, h3, h4, h5, h6, h7, kd, hkd, h8⟩
      have hUx : UN κ L κ2 ⟨L1.t.set q.2.2.next (.loop .exhausted pend nt tm ps2 as2 bd2 df), L1.next⟩ := UN_trans hU1 (UN_trans hU2 (UN_at hkl2))
      refine ⟨lp.pending, _, run_endLoop hob hbusy, ?_⟩
      rw [h2] at H3 ⊢
      split at h
      · simp only [Rs.code.injEq] at h
        obtain ⟨rfl, rfl, rfl, rfl⟩ := h
        exact K κ2 _ _ (KM.le_trans hle1 hle2) H3 ha2 hn (DR_mono hle2 _ _ hd1) hUx
      · refine hs.code _ _ _ _ _ _ _ _ _ h κ2 _ _ ro n Q H3 ha2 hn (DR_mono hle2 _ _ hd1) (RO_mono (KM.le_trans hle1 hle2) hr) ?_
        intro κ' a' w' g1 g2 g3 g4 g5 g6
        exact K κ' a' w' (KM.le_trans (KM.le_trans hle1 hle2) g1) g2 g3 g4 g5 (UN_trans hUx g6)
    · cases h

theorem code_sound {rec : Cmd → Rs} (hs : Sound P w0 rec) (hN : NamesOk P) (hmix : P.follows .mixedOrders = true) {e : Env} {c : Code} {d : List Nat} {x : Ex} {t' : T V} {d' : List Nat} {L' : Heap}
    (h : stepE P rec (.code e c t d L) = .code x t' d' L') {ro : Option Nat} {n : Nat} {Q : Exit → Act → World → Prop}
    (H : HR w0 κ L w) (ha : AR κ t a) (hn : e.nt ≤ a.tmps.size) (hd : DR κ d a.defers) (hr : RO κ e.ro ro)
    (K : ∀ (κ' : KM) (a' : Act) (w' : World), κ.le κ' → HR w0 κ' L' w' → AR κ' t' a' → e.nt ≤ a'.tmps.size → DR κ' d' a'.defers → UN κ L κ' L' → Q (exOf x) a' w') :
    c.wpIn (WF ro) n P Q a w := by
  cases c with
  | skip =>
    simp only [stepE, Rs.code.injEq] at h
    obtain ⟨rfl, rfl, rfl, rfl⟩ := h
    exact wpIn_skip (K κ a w (KM.le_refl _) H ha hn hd (UN_refl _ _))
  | label l =>
    simp only [stepE, Rs.code.injEq] at h
    obtain ⟨rfl, rfl, rfl, rfl⟩ := h
    exact wpIn_label (K κ a w (KM.le_refl _) H ha hn hd (UN_refl _ _))
  | exit l =>
    simp only [stepE, Rs.code.injEq] at h
    obtain ⟨rfl, rfl, rfl, rfl⟩ := h
    exact wpIn_exit (K κ a w (KM.le_refl _) H ha hn hd (UN_refl _ _))
  | ret =>
    simp only [stepE, Rs.code.injEq] at h
    obtain ⟨rfl, rfl, rfl, rfl⟩ := h
    exact wpIn_ret (K κ a w (KM.le_refl _) H ha hn hd (UN_refl _ _))
  | region id ops draw =>
    simp only [stepE] at h
    unfold ofOpt at h
    split at h
    case h_2 => cases h
    rename_i r hrg
    simp only [Rs.code.injEq] at h
    obtain ⟨rfl, rfl, rfl, rfl⟩ := h
    refine region_sound hmix hs hN hrg H ha hn ?_
    intro κ' a' w' h1 h2 h3 h4 h5 h6
    exact K κ' a' w' h1 h2 h3 (by rw [h4]; exact hn) (by rw [h5]; exact DR_mono h1 _ _ hd) h6
  | seq y z =>
    simp only [stepE] at h
    split at h
    · rename_i t1 d1 L1 h1
      refine wpIn_seq (wpIn_mono (hs.after h1 H ha hn hd hr) ?_)
      rintro ex a1 w1 ⟨rfl, κ1, g1, g2, g3, g4, g5, g6⟩
      refine hs.code _ _ _ _ _ _ _ _ _ h κ1 a1 w1 ro n Q g2 g3 g4 g5 (RO_mono g1 hr) ?_
      intro κ' a' w' f1 f2 f3 f4 f5 f6
      exact K κ' a' w' (KM.le_trans g1 f1) f2 f3 f4 f5 (UN_trans g6 f6)
    · rename_i hne
      refine wpIn_seq (wpIn_mono (hs.after h H ha hn hd hr) ?_)
      rintro ex a1 w1 ⟨rfl, κ1, g1, g2, g3, g4, g5, g6⟩
      have hx : x ≠ .normal := fun hx => hne _ _ _ (by rw [h, hx])
      have := K κ1 a1 w1 g1 g2 g3 g4 g5 g6
      cases x
      · exact absurd rfl hx
      · exact this
      · exact this
      · exact this
  | cond y u v =>
    simp only [stepE] at h
    split at h
    · rename_i hb
      simp only [Option.bind_eq_some_iff, asBool_some] at hb
      obtain ⟨b, hb, rfl⟩ := hb
      have hv := opd_VR (fun y _ => ha y : OpR κ t a y) hb
      simp only [VR] at hv
      exact wpIn_cond_true hv (hs.code _ _ _ _ _ _ _ _ _ h κ a w ro n Q H ha hn hd hr K)
    · rename_i hb
      simp only [Option.bind_eq_some_iff, asBool_some] at hb
      obtain ⟨b, hb, rfl⟩ := hb
      have hv := opd_VR (fun y _ => ha y : OpR κ t a y) hb
      simp only [VR] at hv
      exact wpIn_cond_false hv (hs.code _ _ _ _ _ _ _ _ _ h κ a w ro n Q H ha hn hd hr K)
    · cases h
  | block id y =>
    simp only [stepE] at h
    split at h
    · rename_i i t1 d1 L1 h1
      refine wpIn_block (wpIn_mono (hs.after h1 H ha hn hd hr) ?_)
      rintro ex a1 w1 ⟨rfl, κ1, g1, g2, g3, g4, g5, g6⟩
      simp only [exOf, Exit.inBlock]
      split at h
      · rename_i hi
        simp only [Rs.code.injEq] at h
        obtain ⟨rfl, rfl, rfl, rfl⟩ := h
        rw [if_pos (Nat.eq_of_beq_eq_true hi)]
        exact K κ1 a1 w1 g1 g2 g3 g4 g5 g6
      · rename_i hi
        simp only [Rs.code.injEq] at h
        obtain ⟨rfl, rfl, rfl, rfl⟩ := h
        rw [if_neg (Nat.ne_of_beq_eq_false hi)]
        exact K κ1 a1 w1 g1 g2 g3 g4 g5 g6
    · rename_i hne
      refine wpIn_block (wpIn_mono (hs.after h H ha hn hd hr) ?_)
      rintro ex a1 w1 ⟨rfl, κ1, g1, g2, g3, g4, g5, g6⟩
      have := K κ1 a1 w1 g1 g2 g3 g4 g5 g6
      cases x with
      | normal => exact this
      | exit i => exact absurd h (hne _ _ _ _)
      | goto g => exact this
      | ret => exact this
  | loop y =>
    simp only [stepE] at h
    intro b k cs hro hb hroom
    obtain ⟨e2, a2, w2, hq2, harr2⟩ := loop_sound hs (n := n) b k cs hro hb hroom _ _ _ _ κ a w h H ha hn hd hr K
    exact ⟨e2, a2, w2, hq2, .of_steps (.one (fenced_calm hb hroom rfl) stepR_loop) harr2⟩
  | rangeFunc f ps as bd => exact rangeFunc_sound hs hN h H ha hn hd hr K
  | _ => simp only [stepE, reduceCtorEq] at h

theorem ev_sound (hN : NamesOk P) (hmix : P.follows .mixedOrders = true) (w0 : World) : ∀ N, Sound P w0 (ev P N)
  | 0 => ⟨fun _ _ _ _ _ _ _ _ _ h => by simp [ev] at h, fun _ _ _ _ _ h => by simp [ev] at h, fun _ _ _ _ _ h => by simp [ev] at h⟩
  | N + 1 => by
    have hs := ev_sound hN hmix w0 N
    refine ⟨?_, ?_, ?_⟩
    · intro e c t d L x t' d' L' h κ a w ro n Q H ha hn hd hr K
      exact code_sound hs hN hmix h H ha hn hd hr K
    · intro f args L v L' h κ args' w ro n H hv
      exact call_sound hs h H hv ro n
    · intro l args L v L' h κ k args' w ro n H hv hk
      exact round_sound hs h H hv hk ro n

/-- A CALL: what the evaluator says of it. -/
theorem ev_calls (hN : NamesOk P) (hmix : P.follows .mixedOrders = true) {N : Nat} {f : FuncId} {args : List V} {L L' : Heap} {v : V} (h : ev P N (.call f args L) = .val v L') {w0 : World} {κ : KM} {args' : Array Value} {w : World}
    (H : HR w0 κ L w) (hv : VRs κ args args'.toList) : Calls P f args' w (ResE w0 κ L v L') := by
  obtain ⟨fn, c, _, _, hc⟩ := (ev_sound hN hmix w0 N).call _ _ _ _ _ h κ args' w none 0 H hv
  exact callsIn_wide.1 hc

theorem HR.start (W : World) : HR W (fun _ => none) ⟨.leaf, 0⟩ W :=
  ⟨Below.refl _ _, fun _ _ h => (by cases h), fun _ _ => rfl, fun _ _ _ h => (by cases h), fun _ _ _ h => (by cases h), fun _ _ _ _ _ _ h => (by cases h), fun _ _ _ h => (by cases h)⟩

/-- A CALL without arguments that answers a boolean. -/
theorem ev_closed (hN : NamesOk P) (hmix : P.follows .mixedOrders = true) {N : Nat} {f : FuncId} {b : Bool} {L' : Heap} (h : ev P N (.call f [] ⟨.leaf, 0⟩) = .val (.bool b) L') (W : World) :
    Calls P f #[] W fun e W' => e = .returned (.bool b) ∧ Below W.heap.size W W' := by
  refine (ev_calls hN hmix h (HR.start W) (args' := #[]) (by simp [VRs_nil])).mono ?_
  rintro e w' ⟨z, rfl, κ', _, H', hz, _⟩
  simp only [VR] at hz
  exact ⟨by rw [hz], H'.below⟩

def isT : Rs → Bool
  | .val (.bool true) _ => true
  | _ => false
theorem isT_iff {r : Rs} (h : isT r = true) : ∃ L, r = .val (.bool true) L := by
  unfold isT at h
  split at h
  · exact ⟨_, rfl⟩
  · cases h
end Go.Proofs.Ytpfmoolpeecobaa.Ev
