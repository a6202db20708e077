/- The evaluator is right: what it says of code, calls and rounds the machine does, on every tape. -/
import Derived.Test.YtpfmoolpeecobaaX11
import Derived.RangeFuncRecord
namespace Go.Proofs.Ytpfmoolpeecobaa.Ev
open Go.RowKit
set_option linter.unusedVariables false
set_option linter.unusedSimpArgs false
variable {P : Program} {w0 : World} {κ : KM} {L : Heap} {w : World} {t : T V} {a : Act}

theorem HR.world {w' : World} (H : HR w0 κ L w) (h : w' = w) : HR w0 κ L w' := h ▸ H

/-- results -/
theorem res_mapM {tmps : Array Value} (ha : ∀ x, VR κ (tget t x) (tmps.getD x undef)) (H : HR w0 κ L w) {f : ResultVar → Sem Value}
    (h1 : ∀ x, f (.tmp x) = pure (tmps.getD x undef)) (h2 : ∀ x ty, f (.cell x ty) = do loadVar ty (← asAddr (tmps.getD x undef))) :
    ∀ (l : List ResultVar) (vs : List V), resVals P t L l = some vs → ∃ xs, (l.mapM f).run P w = .ok xs w ∧ VRs κ vs xs := by
  intro l
  induction l with
  | nil =>
    intro vs h
    simp only [resVals, Option.some.injEq] at h
    subst h
    exact ⟨[], rfl, by simp [VRs_nil]⟩
  | cons r l ih =>
    intro vs h
    cases r with
    | tmp x =>
      simp only [resVals, Option.map_eq_some_iff] at h
      obtain ⟨us, hu, rfl⟩ := h
      obtain ⟨xs, hx, hv⟩ := ih us hu
      refine ⟨_ :: xs, ?_, VRs_cons'.2 ⟨ha x, hv⟩⟩
      simp only [List.mapM_cons, Sem.run_bind, h1, Sem.run_pure, Result.andThen_ok, hx]
    | cell x ty =>
      simp only [resVals, Option.bind_eq_some_iff, Option.map_eq_some_iff] at h
      obtain ⟨p, hp, v, hv, us, hu, rfl⟩ := h
      obtain ⟨xs, hx, hvs⟩ := ih us hu
      rw [asPtr_some] at hp
      have hax := ha x
      rw [hp] at hax
      simp only [VR] at hax
      obtain ⟨k, hk, hax⟩ := hax
      obtain ⟨y, hy, hvy⟩ := load_sound hv H hk
      refine ⟨y :: xs, ?_, VRs_cons'.2 ⟨hvy, hvs⟩⟩
      simp only [List.mapM_cons, Sem.run_bind, h2, hax, asAddr, Sem.run_pure, Result.andThen_ok, hy, hx]

theorem results_sound {fn : Func} {tmps : Array Value} (ha : ∀ x, VR κ (tget t x) (tmps.getD x undef)) (H : HR w0 κ L w) {vs : List V} (h : resVals P t L fn.results.toList = some vs) :
    ∃ z, (results fn tmps).run P w = .ok z w ∧ VR κ (one1 vs) z := by
  unfold results
  have key := res_mapM (P := P) ha H (f := fun
    | .tmp t => pure (tmps.getD t undef)
    | .cell a t => do loadVar t (← asAddr (tmps.getD a undef))) (fun _ => rfl) (fun _ _ => rfl) _ vs h
  obtain ⟨xs, hx, hv⟩ := key
  refine ⟨if h : xs.toArray.size = 1 then xs.toArray[0] else .tuple xs.toArray, ?_, ?_⟩
  · rw [Array.mapM_eq_mapM_toList, Sem.run_bind, Sem.run_map]
    erw [hx]
    simp only [Result.andThen_ok, Sem.run_pure]
  · have hl := VRs_length hv
    match vs, xs, hv, hl with
    | [], [], _, _ => simp [one1, VR, VRs]
    | [v], [x], hv, _ => simpa [one1] using (VRs_cons'.1 hv).1
    | v :: u :: vs, x :: y :: xs, hv, _ =>
      simp only [one1, VR]
      refine ⟨(x :: y :: xs).toArray, ?_, by simpa using hv⟩
      rw [dif_neg (by simp)]

theorem argsT_get : ∀ (l : List V) (i x : Nat), tget (argsT l i) x = if i ≤ x then (l[x - i]?).getD undefV else undefV
  | [], i, x => by simp [argsT, tget, T.get_leaf]
  | v :: l, i, x => by
    by_cases h : x = i
    · subst h; simp [argsT, tget, T.get_set_same]
    · have := argsT_get l (i + 1) x
      simp only [argsT, tget, T.get_set_ne _ _ h]
      simp only [tget] at this
      rw [this]
      by_cases h2 : i + 1 ≤ x
      · rw [if_pos h2, if_pos (by omega)]
        have : x - i = (x - (i + 1)) + 1 := by omega
        rw [this, List.getElem?_cons_succ]
      · rw [if_neg h2, if_neg (by omega)]

theorem argsT_AR {args : List V} {args' : Array Value} (hv : VRs κ args args'.toList) (k : Nat) : AR κ (argsT args 0) { tmps := args' ++ Array.replicate k undef, defers := [] } := by
  intro x
  rw [argsT_get, if_pos (Nat.zero_le _), Nat.sub_zero]
  simp only
  rw [Array.getD_eq_getD_getElem?]
  have hl := VRs_length hv
  rw [Array.length_toList] at hl
  by_cases h : x < args.length
  · obtain ⟨y, hy, hvy⟩ := VRs_get hv (j := x) (v := args[x]) (by simp [h])
    rw [Array.getElem?_append_left (by omega)]
    rw [Array.getElem?_toList] at hy
    rw [hy]
    simpa [h] using hvy
  · rw [List.getElem?_eq_none (by omega), Array.getElem?_append_right (by omega)]
    rw [Array.getElem?_replicate]
    split <;> exact VR_undef

/-- the marks at the end -/
theorem leaves_sound {F : Fence} {n : Nat} {fn : Func} {tmps : Array Value} {R : Ending → World → Prop} {L' : Heap} :
    ∀ (d : List Nat) (L : Heap) (w : World) (ds : List Deferred), DR κ d ds → HR w0 κ L w → closeMarks L d = some L' →
      (∀ w', HR w0 κ L' w' → UN κ L κ L' → ∃ v, (results fn tmps).run P w' = .ok v w' ∧ R (.returned v) w') → LeavesInM F n P fn tmps R ds .returning w := by
  intro d
  induction d with
  | nil =>
    intro L w ds hd H h hK
    simp only [DR] at hd
    subst hd
    simp only [closeMarks, Option.some.injEq] at h
    subst h
    obtain ⟨v, hv, hR⟩ := hK w H (UN_refl _ _)
    exact ⟨v, hv, hR⟩
  | cons r d ih =>
    intro L w ds hd H h hK
    obtain ⟨k, ds', hk, rfl, hd'⟩ := hd
    simp only [closeMarks, Option.bind_eq_some_iff] at h
    obtain ⟨b, hb, h⟩ := h
    split at h
    case h_2 => cases h
    obtain ⟨o, ho, hbr⟩ := H.blk r k _ hk hb
    simp only [BR, if_true] at hbr
    subst hbr
    have hlt := (H.dom r k hk).2
    have H' : HR w0 κ ⟨L.t.set r (.dfr false), L.next⟩ (w.putObj k.r (.deferred none)) :=
      H.turn hk hb rfl rfl (by simp) rfl rfl rfl (fun i hi => World.putObj_heap_other hi) (World.putObj_heap_same hlt) (by simp [BR])
    refine ⟨by simp, .inl ⟨k.r, _, rfl, run_takeDeferred ho, ?_⟩⟩
    refine ih _ _ _ hd' H' h fun w' Hw hU => hK w' Hw ?_
    exact UN_trans (UN_at hk) hU

theorem callsIn_ro {ro ro' : Option Nat} {n : Nat} {f : FuncId} {args : Array Value} {R : Ending → World → Prop} (h : CallsIn (WF ro) n P f args w R) : CallsIn (WF ro') n P f args w R := h

theorem call_sound {rec : Cmd → Rs} (hs : Sound P w0 rec) {f : FuncId} {args : List V} {L' : Heap} {v : V} (h : stepE P rec (.call f args L) = .val v L') {args' : Array Value}
    (H : HR w0 κ L w) (hv : VRs κ args args'.toList) (ro : Option Nat) (n : Nat) :
    ∃ fn c, P.funcs[f]? = some fn ∧ fn.body = some c ∧ CallsIn (WF ro) n P f args' w (ResE w0 κ L v L') := by
  simp only [stepE] at h
  split at h
  · cases h
  rename_i q hq
  simp only [Option.bind_eq_some_iff, Option.map_eq_some_iff] at hq
  obtain ⟨fn, hfn, c, hc, rfl⟩ := hq
  simp only at h
  refine ⟨fn, c, hfn, hc, callsIn_ro (ro := none) (callsIn_of_wp_marks hfn hc trivial ?_)⟩
  have hA : AR κ (argsT args 0) { tmps := args' ++ Array.replicate (fn.ntmps - args'.size) undef, defers := [] } := argsT_AR hv _
  have fin : ∀ (x : Ex) (t1 : T V) (d1 : List Nat) (L1 : Heap), (x = .normal ∨ x = .ret) → rec (.code ⟨none, fn.ntmps⟩ c (argsT args 0) [] L) = .code x t1 d1 L1 →
      ((closeMarks L1 d1).bind fun L' => (resVals P t1 L' fn.results.toList).map fun vs => (one1 vs, L')) = some (v, L') →
      c.wpIn (WF none) n P (bodyPostM (WF none) n P fn (ResE w0 κ L v L')) { tmps := args' ++ Array.replicate (fn.ntmps - args'.size) undef, defers := [] } w := by
    intro x t1 d1 L1 hx hr hcl
    simp only [Option.bind_eq_some_iff, Option.map_eq_some_iff, Prod.mk.injEq] at hcl
    obtain ⟨L2, hL2, vs, hvs, rfl, rfl⟩ := hcl
    refine hs.code _ _ _ _ _ _ _ _ _ hr κ _ w none n _ H hA (by simp; omega) rfl rfl ?_
    intro κ' a' w' hle H' ha' _ hd' hU
    have hl : LeavesInM (WF none) n P fn a'.tmps (ResE w0 κ L (one1 vs) L2) a'.defers .returning w' := by
      refine leaves_sound d1 L1 w' _ hd' H' hL2 fun w2 H2 hU2 => ?_
      obtain ⟨z, hz, hvz⟩ := results_sound ha' H2 hvs
      exact ⟨z, hz, z, rfl, κ', hle, H2, hvz, UN_trans hU hU2⟩
    rcases hx with rfl | rfl <;> exact hl
  split at h
  · rename_i hr
    split at h
    · rename_i r hr2
      simp only [Rs.val.injEq] at h
      obtain ⟨rfl, rfl⟩ := h
      exact fin _ _ _ _ (.inl rfl) hr hr2
    · cases h
  · rename_i hr
    split at h
    · rename_i r hr2
      simp only [Rs.val.injEq] at h
      obtain ⟨rfl, rfl⟩ := h
      exact fin _ _ _ _ (.inr rfl) hr hr2
    · cases h
  · cases h
theorem setParams_AR {nt : Nat} : ∀ (ps : List Tmp) (vs : List V) (xs : List Value) (t t0 : T V) (tmps : Array Value), setParams nt t (ps.zip vs) = some t0 → nt ≤ tmps.size → VRs κ vs xs →
    (∀ x, VR κ (tget t x) (tmps.getD x undef)) → (∀ x, VR κ (tget t0 x) (((ps.zip xs).foldl (fun tmps (q : Tmp × Value) => tmps.setIfInBounds q.1 q.2) tmps).getD x undef)) ∧
      ((ps.zip xs).foldl (fun tmps (q : Tmp × Value) => tmps.setIfInBounds q.1 q.2) tmps).size = tmps.size := by
  intro ps
  induction ps with
  | nil =>
    intro vs xs t t0 tmps h hn hv ha
    simp only [List.zip_nil_left, setParams, Option.some.injEq] at h
    subst h
    exact ⟨ha, rfl⟩
  | cons q ps ih =>
    intro vs xs t t0 tmps h hn hv ha
    cases vs with
    | nil =>
      rw [VRs_nil] at hv; subst hv
      simp only [List.zip_nil_right, setParams, Option.some.injEq] at h
      subst h
      exact ⟨ha, rfl⟩
    | cons v vs =>
      obtain ⟨x, xs, rfl, hvx, hvs⟩ := VRs_cons.1 hv
      simp only [List.zip_cons_cons, setParams, guardO_some] at h
      obtain ⟨hq, h⟩ := h
      have hq' : q < nt := by simpa using hq
      simp only [List.zip_cons_cons, List.foldl_cons]
      obtain ⟨h1, h2⟩ := ih vs xs _ t0 (tmps.setIfInBounds q x) h (by simpa using hn) hvs (fun y => by
        by_cases hy : y = q
        · subst hy
          rw [tget_set_same]
          have : (tmps.setIfInBounds y x).getD y undef = x := by rw [Array.getD_eq_getD_getElem?, Array.getElem?_setIfInBounds_self_of_lt (Nat.lt_of_lt_of_le hq' hn)]; rfl
          rw [this]; exact hvx
        · have h1 : tget (t.set q v) y = tget t y := by simp only [tget, T.get_set_ne _ _ hy]
          have h2 : (tmps.setIfInBounds q x).getD y undef = tmps.getD y undef := by
            rw [Array.getD_eq_getD_getElem?, Array.getElem?_setIfInBounds_ne (Ne.symm hy), ← Array.getD_eq_getD_getElem?]
          rw [h1, h2]; exact ha y)
      exact ⟨h1, by rw [h2]; simp⟩

theorem jump_run {e : Ex} : exOf e = (match jumpOf e with | none => .normal | some .ret => .ret | some (.exit i) => .exit i | some (.goto l) => .goto l | _ => .normal) := by cases e <;> rfl

theorem round_sound {rec : Cmd → Rs} (hs : Sound P w0 rec) {l : Nat} {args : List V} {L' : Heap} {v : V} (h : stepE P rec (.round l args L) = .val v L') {args' : Array Value}
    (H : HR w0 κ L w) (hv : VRs κ args args'.toList) {k : KB} (hk : κ l = some k) (ro : Option Nat) (n : Nat) :
    ∃ lp, w.heap[k.r]? = some (.loop lp) ∧ args'.size = lp.params.size ∧
      RoundIn (WF ro) n P k.r lp.fn ((lp.params.zip args').foldl (fun tmps (t, a) => tmps.setIfInBounds t a) lp.tmps) lp.assign lp.body w (ResE w0 κ L v L') := by
  simp only [stepE] at h
  split at h
  case h_2 => cases h
  rename_i st pend nt tm ps as bd df hb
  split at h
  · cases h
  rename_i t0 ht0
  rw [guardO_some] at ht0
  obtain ⟨hlen, ht0⟩ := ht0
  obtain ⟨ob, hob, lp, rfl, h1, h2, h3, h4, h5, h6, h7, kd, hkd, h8⟩ := H.blk l k _ hk hb
  have hal := VRs_length hv
  rw [Array.length_toList] at hal
  have hpl : lp.params.size = ps.length := by rw [← h3, Array.length_toList]
  refine ⟨lp, hob, by simp at hlen; omega, ?_⟩
  have hfold : (lp.params.zip args').foldl (fun tmps (t, a) => tmps.setIfInBounds t a) lp.tmps = (ps.zip args'.toList).foldl (fun tmps (q : Tmp × Value) => tmps.setIfInBounds q.1 q.2) lp.tmps := by
    rw [← Array.foldl_toList, Array.toList_zip, h3]
  rw [hfold]
  obtain ⟨hA, hsz⟩ := setParams_AR ps args args'.toList tm t0 lp.tmps ht0 h6 hv h7
  split at h
  case h_2 => cases h
  rename_i t1 d1 L1 hr1
  split at h
  case h_2 => cases h
  rename_i pend1 nt1 tm1 ps1 as1 bd1 df1 hb1
  split at h
  case h_2 => cases h
  rename_i e2 t2 d2 L2 hr2
  split at h
  case h_2 => cases h
  rename_i st2 pend2 nt2 tm2 ps2 as2 bd2 df2 hb2
  simp only [Rs.val.injEq] at h
  obtain ⟨rfl, rfl⟩ := h
  refine roundIn_of_wpIn trivial ?_
  rw [h4, h5]
  refine hs.code _ _ _ _ _ _ _ _ _ hr1 κ _ w (some k.r) n _ H hA (by simp only; rw [hsz]; exact h6) rfl ⟨k, hk, rfl⟩ ?_
  intro κ1 a1 w1 hle1 H1 ha1 hn1 hd1 hU1
  have hk1 : κ1 l = some k := hle1 _ _ hk
  obtain ⟨ob1, hob1, lp1, rfl, g1, g2, g3, g4, g5, g6, g7, kd1, hkd1, g8⟩ := H1.blk l k _ hk1 hb1
  have hlt1 := (H1.dom l k hk1).2
  have H1' : HR w0 κ1 ⟨L1.t.set l (.loop .busy pend1 nt1 tm1 ps1 as1 bd1 df1), L1.next⟩ (w1.putObj k.r (.loop { lp1 with state := .busy })) :=
    H1.turn hk1 hb1 rfl rfl (by simp) rfl rfl rfl (fun i hi => World.putObj_heap_other hi) (World.putObj_heap_same hlt1) ⟨_, rfl, rfl, g2, g3, g4, g5, g6, g7, kd1, hkd1, g8⟩
  refine ⟨_, run_beginRound hob1 g1, ?_⟩
  refine hs.code _ _ _ _ _ _ _ _ _ hr2 κ1 a1 _ (some k.r) n _ H1' ha1 hn1 hd1 ⟨k, hk1, rfl⟩ ?_
  intro κ2 a2 w2 hle2 H2 ha2 hn2 hd2 hU2
  have hk2 : κ2 l = some k := hle2 _ _ hk1
  obtain ⟨ob2, hob2, lp2, rfl, f1, f2, f3, f4, f5, f6, f7, kd2, hkd2, f8⟩ := H2.blk l k _ hk2 hb2
  have hlt2 := (H2.dom l k hk2).2
  have hend := run_endRound (P := P) (jumpOf e2) hob2
  have H2' : HR w0 κ2 ⟨L2.t.set l (.loop (if (jumpOf e2).isNone then .ready else .done) (jumpOf e2) nt2 tm2 ps2 as2 bd2 df2), L2.next⟩ (w2.putObj k.r (.loop { lp2 with state := if (jumpOf e2).isNone then .ready else .done, pending := jumpOf e2 })) :=
    H2.turn hk2 hb2 rfl rfl (by simp) rfl rfl rfl (fun i hi => World.putObj_heap_other hi) (World.putObj_heap_same hlt2) ⟨_, rfl, rfl, rfl, f3, f4, f5, f6, f7, kd2, hkd2, f8⟩
  have hUx : UN κ L κ2 ⟨L2.t.set l (.loop (if (jumpOf e2).isNone then .ready else .done) (jumpOf e2) nt2 tm2 ps2 as2 bd2 df2), L2.next⟩ :=
    UN_trans hU1 (UN_trans (UN_at hk1) (UN_trans hU2 (UN_at hk2)))
  have hR : ResE w0 κ L (.bool (jumpOf e2).isNone) ⟨L2.t.set l (.loop (if (jumpOf e2).isNone then .ready else .done) (jumpOf e2) nt2 tm2 ps2 as2 bd2 df2), L2.next⟩ (.returned (.bool (jumpOf e2).isNone)) (w2.putObj k.r (.loop { lp2 with state := if (jumpOf e2).isNone then .ready else .done, pending := jumpOf e2 })) :=
    ⟨_, rfl, κ2, KM.le_trans hle1 hle2, H2', by simp only [VR], hUx⟩
  cases e2 <;> exact ⟨_, _, hend, hR⟩
end Go.Proofs.Ytpfmoolpeecobaa.Ev
