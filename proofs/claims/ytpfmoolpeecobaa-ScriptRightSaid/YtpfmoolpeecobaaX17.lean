/- Loops over functions, on named states: a round's contract, and the loop's. -/
import Derived.Test.YtpfmoolpeecobaaX16
namespace Go.Proofs.Ytpfmoolpeecobaa.Ev
open Go.RowKit
set_option linter.unusedVariables false
set_option linter.unusedSimpArgs false
variable {P : Program} {w0 : World} {κ : KM} {L : Heap} {w : World} {t : T V} {a : Act}

/-- a round, from a named heap, on every machine that stands there -/
def ARound (P : Program) (l : Nat) (args : List V) (L : Heap) (v : V) (L' : Heap) : Prop :=
  ∀ (w0 : World) (κ : KM) (k : KB) (args' : Array Value) (w : World) (ro : Option Nat) (n : Nat), HR w0 κ L w → VRs κ args args'.toList → κ l = some k →
    ∃ lp, w.heap[k.r]? = some (.loop lp) ∧ args'.size = lp.params.size ∧
      RoundIn (WF ro) n P k.r lp.fn ((lp.params.zip args').foldl (fun tmps (t, a) => tmps.setIfInBounds t a) lp.tmps) lp.assign lp.body w (ResE w0 κ L v L')

/-- rounds that are known -/
abbrev RTab := Nat → List V → Heap → Option (V × Heap)
def RTabOk (P : Program) (R : RTab) : Prop := ∀ l args L v L', R l args L = some (v, L') → ARound P l args L v L'
theorem noR_ok : RTabOk P (fun _ _ _ => none) := fun _ _ _ _ _ h => by cases h
def recR (S : Tab) (R : RTab) : Cmd → Rs
  | .call f args L => match S f args L with
    | some r => .val r.1 r.2
    | none => .no
  | .round l args L => match R l args L with
    | some r => .val r.1 r.2
    | none => .no
  | .code _ .ret t d L => .code .ret t d L
  | _ => .no
theorem recR_sound {S : Tab} {R : RTab} (hS : TabOk P S) (hR : RTabOk P R) (w0 : World) : Sound P w0 (recR S R) := by
  refine ⟨?_, ?_, ?_⟩
  · intro e c t d L x t' d' L' h κ a w ro n Q H ha hn hd hr K
    cases c <;> simp only [recR, reduceCtorEq, Rs.code.injEq] at h
    obtain ⟨rfl, rfl, rfl, rfl⟩ := h
    exact wpIn_ret (K κ a w (KM.le_refl _) H ha hn hd (UN_refl _ _))
  · intro f args L v L' hr κ args' w ro n H hv
    simp only [recR] at hr
    split at hr
    · rename_i r hs
      simp only [Rs.val.injEq] at hr
      obtain ⟨rfl, rfl⟩ := hr
      exact hS f args L _ _ hs w0 κ args' w ro n H hv
    · cases hr
  · intro l args L v L' hr κ k args' w ro n H hv hk
    simp only [recR] at hr
    split at hr
    · rename_i r hs
      simp only [Rs.val.injEq] at hr
      obtain ⟨rfl, rfl⟩ := hr
      exact hR l args L _ _ hs w0 κ k args' w ro n H hv hk
    · cases hr

theorem ACode.regR {e : Env} {d : List Nat} {K : Ex → T V → List Nat → Heap → Prop} {S : Tab} {R : RTab} (hS : TabOk P S) (hR : RTabOk P R) (hN : NamesOk P) (hmix : P.follows .mixedOrders = true) {id : Nat} {ops : Array Oper} {t' : T V} {L' : Heap}
    (l : List Nat) (hl : List.range ops.size = l) (h : seqE P (recR S R) e ops l t L = some (t', L')) (hK : K .normal t' d L') : ACode P e (.region id ops false) t d L K := by
  intro w0 κ a w ro n Q H ha hn hd hr hQ
  refine region_sound hmix (recR_sound hS hR w0) hN (by simp only [regionE, hl]; exact h) H ha hn ?_
  intro κ' a' w' h1 h2 h3 h4 h5 h6
  exact hQ .normal t' d L' κ' a' w' hK h1 h2 h3 (by rw [h4]; exact hn) (by rw [h5]; exact DR_mono h1 _ _ hd) h6

/-- A ROUND's contract out of its code -/
theorem ARound.of {l : Nat} {args : List V} {v : V} {L' : Heap} {st pend nt tm ps as bd df} {t0 : T V} (hb : L.t.get l = some (.loop st pend nt tm ps as bd df)) (hlen : args.length = ps.length) (ht0 : setParams nt tm (ps.zip args) = some t0)
    (h : ACode P ⟨some l, nt⟩ as t0 [] L (fun x t1 d1 L1 => x = .normal ∧ ∃ pend1 nt1 tm1 ps1 as1 bd1 df1, L1.t.get l = some (.loop .ready pend1 nt1 tm1 ps1 as1 bd1 df1) ∧
      ACode P ⟨some l, nt⟩ bd t1 d1 ⟨L1.t.set l (.loop .busy pend1 nt1 tm1 ps1 as1 bd1 df1), L1.next⟩ (fun e2 t2 d2 L2 => d2 = [] ∧ ∃ st2 pend2 nt2 tm2 ps2 as2 bd2 df2, L2.t.get l = some (.loop st2 pend2 nt2 tm2 ps2 as2 bd2 df2) ∧
        v = .bool (jumpOf e2).isNone ∧ L' = ⟨L2.t.set l (.loop (if (jumpOf e2).isNone then .ready else .done) (jumpOf e2) nt2 tm2 ps2 as2 bd2 df2), L2.next⟩))) :
    ARound P l args L v L' := by
  intro w0 κ k args' w ro n H hv hk
  obtain ⟨ob, hob, lp, rfl, h1, h2, h3, h4, h5, h6, h7, kd, hkd, h8⟩ := H.blk l k _ hk hb
  have hal := VRs_length hv
  rw [Array.length_toList] at hal
  have hpl : lp.params.size = ps.length := by rw [← h3, Array.length_toList]
  refine ⟨lp, hob, by omega, ?_⟩
  have hfold : (lp.params.zip args').foldl (fun tmps (t, a) => tmps.setIfInBounds t a) lp.tmps = (ps.zip args'.toList).foldl (fun tmps (q : Tmp × Value) => tmps.setIfInBounds q.1 q.2) lp.tmps := by
    rw [← Array.foldl_toList, Array.toList_zip, h3]
  rw [hfold]
  obtain ⟨hA, hsz⟩ := setParams_AR ps args args'.toList tm t0 lp.tmps ht0 h6 hv h7
  refine roundIn_of_wpIn trivial ?_
  rw [h4, h5]
  refine h w0 κ _ w (some k.r) n _ H hA (by simp only; rw [hsz]; exact h6) rfl ⟨k, hk, rfl⟩ ?_
  rintro x t1 d1 L1 κ1 a1 w1 ⟨rfl, pend1, nt1, tm1, ps1, as1, bd1, df1, hb1, hbody⟩ hle1 H1 ha1 hn1 hd1 hU1
  have hk1 : κ1 l = some k := hle1 _ _ hk
  obtain ⟨ob1, hob1, lp1, rfl, g1, g2, g3, g4, g5, g6, g7, kd1, hkd1, g8⟩ := H1.blk l k _ hk1 hb1
  have hlt1 := (H1.dom l k hk1).2
  have H1' : HR w0 κ1 ⟨L1.t.set l (.loop .busy pend1 nt1 tm1 ps1 as1 bd1 df1), L1.next⟩ (w1.putObj k.r (.loop { lp1 with state := .busy })) :=
    H1.turn hk1 hb1 rfl rfl (by simp) rfl rfl rfl (fun i hi => World.putObj_heap_other hi) (World.putObj_heap_same hlt1) ⟨_, rfl, rfl, g2, g3, g4, g5, g6, g7, kd1, hkd1, g8⟩
  refine ⟨_, run_beginRound hob1 g1, ?_⟩
  refine hbody w0 κ1 a1 _ (some k.r) n _ H1' ha1 hn1 hd1 ⟨k, hk1, rfl⟩ ?_
  rintro e2 t2 d2 L2 κ2 a2 w2 ⟨rfl, st2, pend2, nt2, tm2, ps2, as2, bd2, df2, hb2, rfl, rfl⟩ hle2 H2 ha2 hn2 hd2 hU2
  have hk2 : κ2 l = some k := hle2 _ _ hk1
  obtain ⟨ob2, hob2, lp2, rfl, f1, f2, f3, f4, f5, f6, f7, kd2, hkd2, f8⟩ := H2.blk l k _ hk2 hb2
  have hlt2 := (H2.dom l k hk2).2
  have hend := run_endRound (P := P) (jumpOf e2) hob2
  have H2' : HR w0 κ2 ⟨L2.t.set l (.loop (if (jumpOf e2).isNone then .ready else .done) (jumpOf e2) nt2 tm2 ps2 as2 bd2 df2), L2.next⟩ (w2.putObj k.r (.loop { lp2 with state := if (jumpOf e2).isNone then .ready else .done, pending := jumpOf e2 })) :=
    H2.turn hk2 hb2 rfl rfl (by simp) rfl rfl rfl (fun i hi => World.putObj_heap_other hi) (World.putObj_heap_same hlt2) ⟨_, rfl, rfl, rfl, f3, f4, f5, f6, f7, kd2, hkd2, f8⟩
  have hUx : UN κ L κ2 ⟨L2.t.set l (.loop (if (jumpOf e2).isNone then .ready else .done) (jumpOf e2) nt2 tm2 ps2 as2 bd2 df2), L2.next⟩ :=
    UN_trans hU1 (UN_trans (UN_at hk1) (UN_trans hU2 (UN_at hk2)))
  have hR : ResE w0 κ L (.bool (jumpOf e2).isNone) ⟨L2.t.set l (.loop (if (jumpOf e2).isNone then .ready else .done) (jumpOf e2) nt2 tm2 ps2 as2 bd2 df2), L2.next⟩ (.returned (.bool (jumpOf e2).isNone)) (w2.putObj k.r (.loop { lp2 with state := if (jumpOf e2).isNone then .ready else .done, pending := jumpOf e2 })) :=
    ⟨_, rfl, κ2, KM.le_trans hle1 hle2, H2', by simp only [VR], hUx⟩
  cases e2 <;> exact ⟨_, _, hend, hR⟩

/-- the heap at a loop's beginning, in no other loop -/
noncomputable def rangeH (L : Heap) (nt : Nat) (t : T V) (ps : List Tmp) (assign body : Code) : Heap := ⟨(L.t.set L.next (.dfr true)).set (L.next + 1) (.loop .ready none nt t ps assign body L.next), L.next + 2⟩
/-- A LOOP OVER A FUNCTION that comes to its end, or is left by a return -/
theorem ACode.rangeFunc {K : Ex → T V → List Nat → Heap → Prop} {nt : Nat} {d : List Nat} {f : Operand} {ps : Array Tmp} {assign body : Code} {g : FuncId} {first cap : List V} {v : V} {L1 : Heap} (hN : NamesOk P)
    (hf : opd t f = some (.func g first cap)) (hc : ACall P g (first ++ [.yield (L.next + 1)] ++ cap) (rangeH L nt t ps.toList assign body) v L1) {st : LoopState} {pend : Option Code} {nt' tm ps' as bd df} (hb : L1.t.get (L.next + 1) = some (.loop st pend nt' tm ps' as bd df)) (hst : st ≠ .busy)
    (hK1 : pend = none → K .normal t (L.next :: d) ⟨L1.t.set (L.next + 1) (.loop .exhausted none nt' tm ps' as bd df), L1.next⟩)
    (hK2 : ∀ c, pend = some c → c = .ret ∧ K .ret t (L.next :: d) ⟨L1.t.set (L.next + 1) (.loop .exhausted (some .ret) nt' tm ps' as bd df), L1.next⟩) : ACode P ⟨none, nt⟩ (.rangeFunc f ps assign body) t d L K := by
  classical
  have hS : TabOk P (fun f' args' L0 => if f' = g ∧ args' = first ++ [.yield (L.next + 1)] ++ cap ∧ L0 = rangeH L nt t ps.toList assign body then some (v, L1) else none) := by
    intro f' args' L0 v' L2 e
    dsimp only at e
    split at e
    · rename_i hh
      obtain ⟨rfl, rfl, rfl⟩ := hh
      simp only [Option.some.injEq, Prod.mk.injEq] at e
      obtain ⟨rfl, rfl⟩ := e
      exact hc
    · cases e
  have key : ∃ x L2, stepE P (recR (fun f' args' L0 => if f' = g ∧ args' = first ++ [.yield (L.next + 1)] ++ cap ∧ L0 = rangeH L nt t ps.toList assign body then some (v, L1) else none) (fun _ _ _ => none)) (.code ⟨none, nt⟩ (.rangeFunc f ps assign body) t d L) = .code x t (L.next :: d) L2 ∧ K x t (L.next :: d) L2 := by
    cases pend with
    | none =>
      refine ⟨.normal, _, ?_, hK1 rfl⟩
      simp only [stepE, startLoop, hf, goal, recR]
      rw [if_pos ⟨trivial, trivial, rfl⟩]
      simp only [hb]
    | some c =>
      obtain ⟨rfl, hK⟩ := hK2 c rfl
      refine ⟨.ret, _, ?_, hK⟩
      simp only [stepE, startLoop, hf, goal, recR]
      rw [if_pos ⟨trivial, trivial, rfl⟩]
      simp only [hb]
  obtain ⟨x, L2, hstep, hKx⟩ := key
  intro w0 κ a w ro n Q H ha hn hd hr hQ
  exact rangeFunc_sound (recR_sound hS noR_ok w0) hN hstep H ha hn hd hr fun κ' a' w' h1 h2 h3 h4 h5 h6 => hQ x t _ L2 κ' a' w' hKx h1 h2 h3 h4 h5 h6
set_option linter.defProp false in
/-- the laws that a run uses, in one -/
def EVT := And.intro @Nat.add_assoc (And.intro @Go.IntWalk.i64_in (And.intro @Go.IntWalk.i32_in (And.intro @Go.IntWalk.u8_in (And.intro @Go.IntWalk.u64_in (And.intro @T.set_set (And.intro @ofVal_bool (And.intro @ofVal_int (And.intro @ofVal_str (And.intro @ofVal_nils (And.intro @ofVal_nilp (And.intro @guardO_true (And.intro @guardO_false (And.intro @tget_set (And.intro @V.beq_refl (And.intro @tb (And.intro @ble_dec (And.intro @blt_dec (And.intro @beq_dec (And.intro @bne_dec (And.intro @idx_nat (And.intro @idx_0 (And.intro @idx_1 (And.intro @idx_2 (And.intro @idx_3 (And.intro @idx_4 (And.intro @idx_5 (And.intro @idx_6 (And.intro @idx_7 (And.intro @idx_8 (And.intro @idx_9 (And.intro @T.get_set (And.intro @T.get_leaf (And.intro @binI_add (And.intro @binI_sub (And.intro @binI_mul (And.intro @binI_and (And.intro @binI_or (And.intro @binI_xor (And.intro @binI_eql (And.intro @binI_neq (And.intro @binI_lss (And.intro @binI_leq (And.intro @binI_gtr (And.intro @binI_geq (And.intro @binI_quo (And.intro @binI_rem (And.intro @shiftI_shl (@shiftI_shr))))))))))))))))))))))))))))))))))))))))))))))))
end Go.Proofs.Ytpfmoolpeecobaa.Ev
