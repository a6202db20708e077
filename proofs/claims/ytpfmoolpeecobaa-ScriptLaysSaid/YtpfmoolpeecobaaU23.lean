/- - - - -/
import Derived.Test.YtpfmoolpeecobaaU22
namespace Go.Proofs.Ytpfmoolpeecobaa
open Go Go.Proofs Go.Proofs.Ytpfmoolpeecobaa.Ev
set_option linter.unusedVariables false
set_option linter.unusedSimpArgs false
set_option maxRecDepth 100000
set_option maxHeartbeats 4000000

theorem pz65 : zeroV Try.prog 65 = some (.agg [.int .u8 0, .int .u8 0, .int .i16 0, .str []]) := by kernel_rfl
theorem ps65 : sizeT Try.prog 65 = some 4 := by kernel_rfl
theorem pa65 : isAggT Try.prog 65 = some true := by kernel_rfl
theorem pst65 : tyStruct Try.prog 65 = some #[{ name := "What", type := 5, offset := 0, embedded := false, tag := "", pkgPath := "", byteOffset := 0 }, { name := "At", type := 5, offset := 1, embedded := false, tag := "", pkgPath := "", byteOffset := 1 }, { name := "N", type := 63, offset := 2, embedded := false, tag := "", pkgPath := "", byteOffset := 2 }, { name := "S", type := 9, offset := 3, embedded := false, tag := "", pkgPath := "", byteOffset := 8 }] := by kernel_rfl
theorem ps63 : sizeT Try.prog 63 = some 1 := by kernel_rfl
theorem pa63 : isAggT Try.prog 63 = some false := by kernel_rfl
theorem pt63 : tySlice Try.prog 63 = none := by kernel_rfl
theorem b_8383 : bytesT Try.prog 83 = some 40 := b_83
set_option linter.defProp false in
/-- facts of types, in one -/
def TYD := And.intro @pz65 (And.intro @ps65 (And.intro @pa65 (And.intro @pst65 (And.intro @ps63 (And.intro @pa63 (And.intro @pt63 (And.intro @Try.underlying65 (And.intro @Try.underlying63 (@Try.underlying100)))))))))
attribute [go_sem] TYD
section
variable {α : Type} {f : α → List V} {sz : Nat} {eT sT : TypeId} {L L' : Heap} {v x : V} {l new : List α}
theorem SlP.low (h : SlP sz eT f L v l) : v.low L.next = true := by
  rcases h with ⟨rfl, _⟩ | ⟨n, o, cap, q, rfl, hn, _⟩
  · rfl
  · simp [V.low, hn]
theorem SlP.src (hs : sizeT Try.prog eT = some sz) (ha : isAggT Try.prog eT = some true) (h : SlP sz eT f L v l) : srcElems L sz v = some (l.map f) := by
  rcases h with ⟨rfl, rfl⟩ | ⟨n, o, cap, q, rfl, hn, hc, hx⟩
  · rfl
  · have key : ∀ (k i : Nat), i + k = l.length → L.elems n (o + i * sz) sz k = some ((l.drop i).map f) := by
      intro k
      induction k with
      | zero => intro i hi; simp [Heap.elems, List.drop_of_length_le (show l.length ≤ i by omega)]
      | succ k ih =>
        intro i hi
        have hlt : i < l.length := by omega
        have hl := hx i l[i] (by simp [hlt])
        simp only [Heap.load, Option.bind_eq_some_iff] at hl
        obtain ⟨p, hp, hl⟩ := hl
        simp only [Ev.part, ha, hs, Option.bind_some, Option.map_eq_some_iff, V.agg.injEq] at hl
        obtain ⟨cs, hcs, rfl⟩ := hl
        simp only [Heap.elems, hp, Option.bind_some, hcs, Option.map_some]
        rw [show o + i * sz + sz = o + (i + 1) * sz by rw [Nat.succ_mul]; omega, ih (i + 1) (by omega), List.drop_eq_getElem_cons hlt]
        rfl
    have := key l.length 0 (by omega)
    simpa [srcElems] using this
/-- a row of one's own -/
def OwnG (sz : Nat) (f : α → List V) (L : Heap) (v : V) (l : List α) : Prop :=
  (∃ m, v = .slice m 0 0 0 false ∧ l = [] ∧ m < L.next) ∨ ∃ m c n, v = .slice m 0 l.length 0 true ∧ m < L.next ∧ L.t.get m = some (.cells c n sz true false) ∧ ∀ (i : Nat) (x : α), l[i]? = some x → c.get i = some (f x)
theorem OwnG.still (h : OwnG sz f L v l) (hn : L.next ≤ L'.next) (hk : ∀ m, nmP v = some m → L'.t.get m = L.t.get m) : OwnG sz f L' v l := by
  rcases h with ⟨m, rfl, rfl, h⟩ | ⟨m, c, n, rfl, h1, h2, h3⟩
  · exact .inl ⟨m, rfl, rfl, Nat.lt_of_lt_of_le h hn⟩
  · exact .inr ⟨m, c, n, rfl, Nat.lt_of_lt_of_le h1 hn, by rw [hk m rfl, h2], h3⟩
theorem OwnG.nm_lt (h : OwnG sz f L v l) {m : Nat} (hm : nmP v = some m) : m < L.next := by
  rcases h with ⟨k, rfl, rfl, h⟩ | ⟨k, c, n, rfl, h1, h2, h3⟩ <;> (simp only [nmP, Option.some.injEq] at hm; subst hm; assumption)
theorem OwnG.slP (hs : sizeT Try.prog eT = some sz) (ha : isAggT Try.prog eT = some true) (hsz : 0 < sz) (hf : ∀ x, (f x).length = sz) (h : OwnG sz f L v l) : SlP sz eT f L v l := by
  rcases h with ⟨m, rfl, rfl, h⟩ | ⟨m, c, n, rfl, h1, h2, h3⟩
  · exact .inr ⟨m, 0, 0, false, rfl, h, fun _ => Nat.le_refl _, fun i x hi => by simp at hi⟩
  · refine .inr ⟨m, 0, 0, true, rfl, h1, fun h => (by cases h), fun i x hi => ?_⟩
    have ht : takeN sz ((f x).drop 0) = some (f x) := by
      rw [List.drop_zero]; conv => lhs; rw [← hf x]
      exact takeN_all _
    simp only [Heap.load, Heap.elem, h2, Nat.zero_add, Nat.mul_div_cancel _ hsz, Nat.mul_mod_left, Option.bind_some, h3 i x hi, Option.map_some, Ev.part, ha, hs, ht]
/-- a copy, as a new row -/
theorem append_G (hsz : 0 < sz) {by_ : Nat} {z : V} (hts : tySlice Try.prog sT = some eT) (hss : sizeT Try.prog eT = some sz) (hby : bytesT Try.prog eT = some by_) (hb64 : by_ ≤ 65536) (hz : zeroV Try.prog eT = some z) (hzl : z.cells.length = sz)
    {m : Nat} (hm : m < L.next) (hx : srcElems L sz x = some (new.map f)) (hs : new.length ≤ 16777216) :
    ∃ v' L', Ev.append Try.prog sT (.slice m 0 0 0 false) x L = some (v', L') ∧ OwnG sz f L' v' new ∧ L.next ≤ L'.next ∧ (∀ n, n < L.next → L'.t.get n = L.t.get n) ∧ (v'.scalar = true ∧ v'.cells = [v']) ∧ ∃ k, nmP v' = some k ∧ (k = m ∨ L.next ≤ k) := by
  have hs0 : (sz != 0 && sz == sz) = true := by simp; omega
  have hsm : small (0 + (new.map f).length) by_ = true := by simp [small, ble_dec, hb64, hs]
  unfold Ev.append
  simp only [hts, hss, hby, hz, Option.bind_some, hx, hzl, hs0, guardO_true]
  cases new with
  | nil =>
    refine ⟨.slice m 0 0 0 false, L, ?_, .inl ⟨m, rfl, rfl, hm⟩, Nat.le_refl _, fun _ _ => rfl, ⟨rfl, rfl⟩, m, rfl, .inl rfl⟩
    simp [Heap.storeElems, ble_dec]
  | cons a r =>
    refine ⟨.slice L.next 0 (a :: r).length 0 true, ⟨L.t.set L.next (.cells (rowFrom ((a :: r).map f) 0) ((a :: r).map f).length sz true false), L.next + 1⟩, ?_, .inr ⟨L.next, _, _, rfl, Nat.lt_succ_self _, T.get_set_same _ _ _, fun i y hi => ?_⟩, Nat.le_succ _, fun n hn => T.get_set_ne _ _ (by omega), ⟨rfl, rfl⟩, L.next, rfl, .inr (Nat.le_refl _)⟩
    · have hb : Nat.ble (0 + (a :: r).length) 0 = false := by rw [ble_dec]; simp
      rw [List.length_map] at hsm
      simp only [List.length_map, hb, hsm, guardO_true, Heap.elems, Option.map_some, List.nil_append, newOpen]
    · rw [rowFrom_getP]
      simp only [Nat.zero_le, if_true, Nat.sub_zero, List.getElem?_map, hi, Option.map_some]
/-- a cell of one of its things is put -/
theorem OwnG.set (hsz : 0 < sz) (h : OwnG sz f L v l) {i : Nat} {x x' : α} (hi : l[i]? = some x) {j : Nat} {y : V} (hy : y.scalar = true) (hyc : y.cells = [y]) (hj : j < sz) (hc : splice j [y] (f x) = some (f x')) :
    ∃ m L', v = .slice m 0 l.length 0 true ∧ Heap.store L m (i * sz + j) [y] = some L' ∧ OwnG sz f L' v (l.set i x') ∧ L'.next = L.next ∧ (∀ n, nmP v ≠ some n → L'.t.get n = L.t.get n) := by
  rcases h with ⟨m, rfl, rfl, h⟩ | ⟨m, c, n, rfl, h1, h2, h3⟩
  · simp at hi
  · refine ⟨m, ⟨L.t.set m (.cells (c.set i (f x')) n sz true false), L.next⟩, rfl, ?_, .inr ⟨m, c.set i (f x'), n, by simp, h1, T.get_set_same _ _ _, fun k y hk => ?_⟩, rfl, fun n hn => T.get_set_ne _ _ (fun e => hn (by rw [e]; rfl))⟩
    · have e1 : (i * sz + j) / sz = i := by rw [Nat.mul_comm, Nat.mul_add_div hsz, Nat.div_eq_of_lt hj]; omega
      have e2 : (i * sz + j) % sz = j := by rw [Nat.mul_comm, Nat.mul_add_mod, Nat.mod_eq_of_lt hj]
      simp only [Heap.store, h2, Option.bind_some, e1, e2, h3 i x hi, hc, Option.map_some, List.all_cons, List.all_nil, hy, Bool.and_true, guardO_true]
    · rw [T.get_set]
      by_cases e : k = i
      · subst e
        have hlt := (List.getElem?_eq_some_iff.1 hi).1
        rw [List.getElem?_set_self hlt] at hk
        injection hk with hk
        rw [if_pos rfl, hk]
      · rw [List.getElem?_set_ne (Ne.symm e)] at hk
        rw [if_neg e]
        exact h3 k y hk
/-- the last one goes -/
theorem OwnG.cut (hts : tySlice Try.prog sT = some eT) (hss : sizeT Try.prog eT = some sz) (h : OwnG sz f L v l) {j : Nat} (hj : j ≤ l.length) (h1 : 1 ≤ l.length) :
    ∃ v', Ev.sliceOp Try.prog sT v none (some (.int .i64 (j : Int))) none = some v' ∧ OwnG sz f L v' (l.take j) ∧ nmP v' = nmP v ∧ v'.scalar = true ∧ v'.cells = [v'] := by
  rcases h with ⟨m, rfl, rfl, h⟩ | ⟨m, c, n, rfl, h2, h3, h4⟩
  · simp at h1
  · have hl : (l.take j).length = j := by rw [List.length_take]; omega
    have e2 : Nat.blt j (l.length + 1) = true := by rw [blt_dec]; simp; omega
    refine ⟨.slice m 0 j 0 true, by simp [Ev.sliceOp, hts, hss, guardO, Ev.bound, idx_nat, e2], .inr ⟨m, c, n, by rw [hl], h2, h3, fun i x hi => ?_⟩, rfl, rfl, rfl⟩
    have hlt := (List.getElem?_eq_some_iff.1 hi).1
    rw [hl] at hlt
    rw [List.getElem?_take_of_lt hlt] at hi
    exact h4 i x hi
end
theorem as_ok {L : Heap} {s : Scr} {sv ev : V} (h : ScS L s sv ev) : ACall Try.prog 35 [.agg (s.cs sv ev)] L (.agg (s.cs sv ev)) L := by
  have q1 := h.hs.scal
  have q2 := h.he.scal
  have l1 := h.hs.low
  have l2 := h.he.low
  have hlow : V.low L.next (.agg (s.cs sv ev)) = true := by simp [V.low, V.lows, Scr.cs, scL, l1, l2]
  refine ACall.of_body Try.func35 rfl ?_
  unfold Scr.cs scL at hlow ⊢
  refine ACode.seq (ACode.regS noT_ok names_ok mix (t' := ?_) (L' := ?_) [0, 1] (by rfl) ?_ ?_)
  rotate_left 2
  · iterate 2 (refine sq rfl rfl rfl (by simp [go_sem, X, Try.f35]; rfl) ?_)
    rfl
  refine ACode.seq (ACode.regS noT_ok names_ok mix (t' := ?_) (L' := ?_) [0, 1, 2, 3, 4, 5] (by rfl) ?_ ?_)
  rotate_left 2
  · iterate 6 (refine sq rfl rfl rfl (by simp [go_sem, xl, xs, xe, xa, xi, xo, xb, xq, xv, q1, q2, scal1, cellsAgg, cellsI, List.all_cons, List.all_nil, Bool.and_true, Try.f35]; rfl) ?_)
    rfl
  refine ACode.ret ⟨.inr rfl, _, ?_, [], rfl, ?_, Tidy.zero ?_, ?_⟩
  rotate_left 1
  · simp (config := {decide := false}) [Try.f35, resVals, EVT, Ev.seqE, Ev.drawE, Ev.fits, Ev.wantedE, Ev.oneE, Ev.cls, Ev.quiet, Ev.making, Ev.setParts, Ev.rowOf, Ev.loud, Ev.opd, Ev.opds, Ev.optOpd, Ev.pairs, Ev.putD, Ev.builtinQ, Ev.argsT, Ev.isAnc, Ev.index, Ev.indexAddr, Ev.sliceOp, Ev.bound, Ev.NV.mk, Ev.Heap.load, Ev.Heap.store, Ev.Heap.elem, Ev.V.cells, Ev.V.scalar, Ev.V.asPtr, Ev.V.asBool, Ev.V.asInt, Ev.V.asStr, Ev.V.asAgg, Ev.V.asTup, Ev.V.asMap, Ev.build, Ev.fillCells, Ev.splice, Ev.over, Ev.takeN, Ev.part, Ev.unV, Ev.binV, Ev.isShift, Ev.isConstO, Ev.fieldAddr, Ev.placeS, Ev.placeA, Ev.goal, Ev.recT, Ev.recR, Ev.recheck, Ev.undefV, Ev.convQ, Ev.convNew, TYA, TYB, TYC]
    rfl
  · intro n hn
    show T.get _ n = _
    repeat rw [T.get_set_ne _ _ (by omega)]
  · intro κ1 z hz
    exact VR_low (fun n hn => tidyK_lt hn) _ _ hlow hz
end Go.Proofs.Ytpfmoolpeecobaa
namespace Go.Proofs.Ytpfmoolpeecobaa
open Go Go.Proofs Go.Proofs.Ytpfmoolpeecobaa.Ev
set_option linter.unusedVariables false
set_option linter.unusedSimpArgs false
set_option maxRecDepth 100000
set_option maxHeartbeats 4000000

/-- what is turned, where, how -/
structure Trn where
  w : Int
  at_ : Int
  n : Int
  s : List Nat
structure TrnR (t : Trn) : Prop where
  w : 0 ≤ t.w ∧ t.w ≤ 255
  at_ : 0 ≤ t.at_ ∧ t.at_ ≤ 255
  n : -32768 ≤ t.n ∧ t.n ≤ 32767
  s : ∀ x ∈ t.s, x ≤ 255
def trnF (t : Trn) : List V := [.int .u8 t.w, .int .u8 t.at_, .int .i16 t.n, .str t.s]
/-- what scripts that are parsed, and turned, have -/
structure ScrR (s : Scr) : Prop where
  r : -100 ≤ s.r ∧ s.r ≤ 20
  c : -100 ≤ s.c ∧ s.c ≤ 50
  ring : -1000 ≤ s.ring ∧ s.ring ≤ 1000
  g : ∀ g ∈ [s.g0, s.g1, s.g2, s.g3, s.g4], 0 ≤ g ∧ g ≤ 255
  lv : ∀ x ∈ s.srcs, 0 ≤ x.lv ∧ x.lv ≤ 255
  ev : ∀ e ∈ s.evs, EvR e
  ns : s.srcs.length ≤ 4
  ne : s.evs.length ≤ 40
  tb : ∀ e ∈ s.evs, ∀ x ∈ e.t, x ≤ 255
/-- where a script is turned -/
structure TS (L A : Heap) (tn : Trn) (s : Scr) (sv ev : V) : Prop where
  tb : A.t.get L.next = some (.cells (T.set .leaf 0 (trnF tn)) 1 4 false false)
  sc : A.t.get (L.next + 1) = some (scB (s.cs sv ev))
  rb : A.t.get (L.next + 2) = some (scB (Scr.cs ⟨0, 0, 0, 0, 0, 0, 0, 0, [], []⟩ .nils .nils))
  so : OwnG 6 srcG A sv s.srcs
  eo : OwnG 9 evF A ev s.evs
  qs : sv.scalar = true ∧ sv.cells = [sv]
  qe : ev.scalar = true ∧ ev.cells = [ev]
  sn : ∃ k, nmP sv = some k ∧ L.next + 3 ≤ k
  en : ∃ k, nmP ev = some k ∧ L.next + 3 ≤ k
  se : nmP sv ≠ nmP ev
  nx : L.next + 3 ≤ A.next
  old : ∀ n, n < L.next → A.t.get n = L.t.get n
section
variable {L A A' : Heap} {tn : Trn} {s s' : Scr} {sv ev sv' ev' : V}
/-- the script's own block is put -/
theorem TS.put (h : TS L A tn s sv ev) (hs : OwnG 6 srcG A sv' s'.srcs) (he : OwnG 9 evF A ev' s'.evs) (h1 : nmP sv' = nmP sv) (h2 : nmP ev' = nmP ev) (q1 : sv'.scalar = true ∧ sv'.cells = [sv']) (q2 : ev'.scalar = true ∧ ev'.cells = [ev']) : TS L ⟨A.t.set (L.next + 1) (scB (s'.cs sv' ev')), A.next⟩ tn s' sv' ev' := by
  have g : ∀ n, n ≠ L.next + 1 → (⟨A.t.set (L.next + 1) (scB (s'.cs sv' ev')), A.next⟩ : Heap).t.get n = A.t.get n := fun n hn => T.get_set_ne _ _ hn
  obtain ⟨k1, hk1, hk1'⟩ := h.sn
  obtain ⟨k2, hk2, hk2'⟩ := h.en
  exact ⟨by rw [g _ (by omega)]; exact h.tb, T.get_set_same _ _ _, by rw [g _ (by omega)]; exact h.rb, hs.still (Nat.le_refl _) fun m hm => g m (by rw [h1, hk1] at hm; injection hm with hm; omega), he.still (Nat.le_refl _) fun m hm => g m (by rw [h2, hk2] at hm; injection hm with hm; omega), q1, q2, by rw [h1]; exact h.sn, by rw [h2]; exact h.en, by rw [h1, h2]; exact h.se, h.nx, fun n hn => by rw [g n (by omega)]; exact h.old n hn⟩
/-- a row's block is put -/
theorem TS.row (h : TS L A tn s sv ev) (hc : s'.cs sv ev = s.cs sv ev) (hs : OwnG 6 srcG A' sv s'.srcs) (he : OwnG 9 evF A' ev s'.evs) (hn : A'.next = A.next) (hk : ∀ n, n < L.next + 3 → A'.t.get n = A.t.get n) : TS L A' tn s' sv ev :=
  ⟨by rw [hk _ (by omega)]; exact h.tb, by rw [hk _ (by omega), hc]; exact h.sc, by rw [hk _ (by omega)]; exact h.rb, hs, he, h.qs, h.qe, h.sn, h.en, h.se, by rw [hn]; exact h.nx, fun n hlt => by rw [hk n (by omega)]; exact h.old n hlt⟩
theorem trn_src (ha : SlP 6 83 srcG L sv s.srcs) : srcElems L 6 sv = some (s.srcs.map srcG) := ha.src ps83 pa83
noncomputable def b32 : Code := Try.f32.body.getD .skip
noncomputable def sfx32 : Code := cSnd (cSnd (cSnd (cSnd b32)))
theorem turned_pre (h : ScS L s sv ev) (hn : TrnR tn) : ∃ A sv' ev', TS L A tn s sv' ev' ∧
    ∀ K, (∀ t : T V, tget t 2 = .ptr L.next 0 → tget t 3 = .ptr (L.next + 1) 0 → tget t 4 = .ptr (L.next + 2) 0 → tget t 5 = .int .i64 tn.n → ACode Try.prog ⟨none, 196⟩ sfx32 t [] A K) →
      ACode Try.prog ⟨none, 196⟩ b32 (argsT [.agg (trnF tn), .agg (s.cs sv ev)] 0) [] L K := by
  have q1 := h.hs.scal
  have q2 := h.he.scal
  -- the boxes
  obtain ⟨A1, hA1⟩ : ∃ A : Heap, A = ⟨((L.t.set L.next (.cells (T.set .leaf 0 (trnF tn)) 1 4 false false)).set (L.next + 1) (scB (s.cs sv ev))).set (L.next + 2) (scB (Scr.cs ⟨0, 0, 0, 0, 0, 0, 0, 0, [], []⟩ .nils .nils)), L.next + 3⟩ := ⟨_, rfl⟩
  have g1 : ∀ n, A1.t.get n = if n = L.next + 2 then some (scB (Scr.cs ⟨0, 0, 0, 0, 0, 0, 0, 0, [], []⟩ .nils .nils)) else if n = L.next + 1 then some (scB (s.cs sv ev)) else if n = L.next then some (.cells (T.set .leaf 0 (trnF tn)) 1 4 false false) else L.t.get n := by
    intro n; rw [hA1]; simp only [T.get_set]
  have n1 : A1.next = L.next + 3 := by rw [hA1]
  have hT1 : A1.t.get L.next = some (.cells (T.set .leaf 0 (trnF tn)) 1 4 false false) := by rw [g1]; simp
  have hS1 : A1.t.get (L.next + 1) = some (scB (s.cs sv ev)) := by rw [g1]; simp
  have hS : ScS A1 s sv ev := h.keep (by omega) fun n hlt => by rw [g1, if_neg (by omega), if_neg (by omega), if_neg (by omega)]
  -- the sources
  obtain ⟨A2, hA2⟩ : ∃ A : Heap, A = ⟨A1.t.set A1.next (.cells .leaf 0 6 false false), A1.next + 1⟩ := ⟨_, rfl⟩
  have n2 : A2.next = A1.next + 1 := by rw [hA2]
  have k2 : ∀ n, n < A1.next → A2.t.get n = A1.t.get n := fun n hlt => by rw [hA2]; exact T.get_set_ne _ _ (by omega)
  have hS2 := hS.keep (by omega) k2
  obtain ⟨sv', A3, ap3, o3, n3, k3, q3, m3, hm3, hm3'⟩ := append_G (sz := 6) (f := srcG) (by decide) pt50 ps83 b_83 (by decide) pz83 rfl (m := A1.next) (by omega) (hS2.hs.src ps83 pa83) (by have := h.ls; omega)
  have hS3 := hS2.keep n3 k3
  have hT3s : A3.t.get (L.next + 1) = some (scB (s.cs sv ev)) := by rw [k3 _ (by omega), k2 _ (by omega)]; exact hS1
  obtain ⟨A4, hA4⟩ : ∃ A : Heap, A = ⟨A3.t.set (L.next + 1) (scB (s.cs sv' ev)), A3.next⟩ := ⟨_, rfl⟩
  have n4 : A4.next = A3.next := by rw [hA4]
  have k4 : ∀ n, n ≠ L.next + 1 → A4.t.get n = A3.t.get n := fun n hlt => by rw [hA4]; exact T.get_set_ne _ _ hlt
  have hT4 : A4.t.get (L.next + 1) = some (scB (s.cs sv' ev)) := by rw [hA4]; exact T.get_set_same _ _ _
  have o4 : OwnG 6 srcG A4 sv' s.srcs := o3.still (by omega) fun m hm => k4 m (by rw [hm3] at hm; injection hm with hm; omega)
  -- the events
  obtain ⟨A5, hA5⟩ : ∃ A : Heap, A = ⟨A4.t.set A4.next (.cells .leaf 0 9 false false), A4.next + 1⟩ := ⟨_, rfl⟩
  have n5 : A5.next = A4.next + 1 := by rw [hA5]
  have k5 : ∀ n, n < A4.next → A5.t.get n = A4.t.get n := fun n hlt => by rw [hA5]; exact T.get_set_ne _ _ (by omega)
  have hT5 : A5.t.get (L.next + 1) = some (scB (s.cs sv' ev)) := by rw [k5 _ (by omega)]; exact hT4
  have he5 : SlP 9 86 evF A5 ev s.evs := h.he.keep (by omega) fun n hlt => by rw [k5 n (by omega), k4 n (by omega), k3 n (by omega), k2 n (by omega), g1, if_neg (by omega), if_neg (by omega), if_neg (by omega)]
  obtain ⟨ev', A6, ap6, o6, n6, k6, q6, m6, hm6, hm6'⟩ := append_G (sz := 9) (f := evF) (by decide) pt55 ps86 b_86 (by decide) pz86 rfl (m := A4.next) (by omega) (he5.src ps86 pa86) (by have := h.le; omega)
  have hT6 : A6.t.get (L.next + 1) = some (scB (s.cs sv' ev)) := by rw [k6 _ (by omega)]; exact hT5
  have k74 : ∀ n, n ≠ L.next + 1 → n < A4.next → (A6.t.set (L.next + 1) (scB (s.cs sv' ev'))).get n = A3.t.get n := fun n h1 h2 => by rw [T.get_set_ne _ _ h1, k6 n (by omega), k5 n h2, k4 n h1]
  have hm3lt := o3.nm_lt hm3
  refine ⟨⟨A6.t.set (L.next + 1) (scB (s.cs sv' ev')), A6.next⟩, sv', ev', ⟨?_, T.get_set_same _ _ _, ?_, o3.still (by simp only; omega) fun m hm => k74 m (by rw [hm3] at hm; injection hm with hm; omega) (by have := o3.nm_lt hm; omega), o6.still (Nat.le_refl _) fun m hm => T.get_set_ne _ _ (by rw [hm6] at hm; injection hm with hm; omega), q3, q6, ⟨m3, hm3, by omega⟩, ⟨m6, hm6, by omega⟩, by rw [hm3, hm6]; simp only [ne_eq, Option.some.injEq]; omega, by simp only; omega, fun n hlt => ?_⟩, fun K hK => ?_⟩
  · show T.get (T.set _ _ _) _ = _
    rw [k74 _ (by omega) (by omega), k3 _ (by omega), k2 _ (by omega)]; exact hT1
  · show T.get (T.set _ _ _) _ = _
    rw [k74 _ (by omega) (by omega), k3 _ (by omega), k2 _ (by omega), g1]; simp
  · show T.get (T.set _ _ _) _ = _
    rw [k74 _ (by omega) (by omega), k3 _ (by omega), k2 _ (by omega), g1, if_neg (by omega), if_neg (by omega), if_neg (by omega)]
  have hw : IntKind.i64.wrap tn.n = tn.n := Go.IntWalk.i64_in _ (by have := hn.n; omega)
  unfold trnF at hT1
  unfold scB Scr.cs scL at hT4 hT5 hT6 hT3s hS1
  have hl1 : Heap.load Try.prog A2 50 (L.next + 1) 2 = some sv := by
    have := k2 (L.next + 1) (by omega)
    simp [Heap.load, Heap.elem, this, hS1, T.get_set, Ev.part, pa50]
  have hl5 : Heap.load Try.prog A5 55 (L.next + 1) 9 = some ev := by simp [Heap.load, Heap.elem, hT5, T.get_set, Ev.part, pa55]
  have hst3 : Heap.store A3 (L.next + 1) 2 [sv'] = some A4 := by
    simp [Heap.store, hT3s, T.get_set, guardO, q3, splice, over, T.set_set, hA4, scB, Scr.cs, scL]
  have hst6 : Heap.store A6 (L.next + 1) 9 [ev'] = some ⟨A6.t.set (L.next + 1) (scB (s.cs sv' ev')), A6.next⟩ := by
    simp [Heap.store, hT6, T.get_set, guardO, q6, splice, over, T.set_set, scB, Scr.cs, scL]
  show ACode _ _ (Code.seq (Code.region _ _ _) (Code.seq (Code.region _ _ _) (Code.seq (Code.region _ _ _) (Code.seq (Code.region _ _ _) sfx32)))) _ _ _ _
  unfold trnF Scr.cs scL
  refine ACode.seq (ACode.regS noT_ok names_ok mix (t' := ?_) (L' := ?_) [0, 1, 2] (by rfl) ?_ ?_)
  rotate_left 2
  · iterate 3 (refine sq rfl rfl rfl (by simp [go_sem, X, Try.f32]; rfl) ?_)
    rfl
  change ACode _ _ _ _ _ ⟨((L.t.set L.next (.cells (T.set .leaf 0 (trnF tn)) 1 4 false false)).set (L.next + 1) (scB (s.cs sv ev))).set (L.next + 2) (scB (Scr.cs ⟨0, 0, 0, 0, 0, 0, 0, 0, [], []⟩ .nils .nils)), L.next + 3⟩ _
  rw [← hA1]
  refine ACode.seq (ACode.regS noT_ok names_ok mix (t' := ?_) (L' := ?_) [0, 1, 2, 3] (by rfl) ?_ ?_)
  rotate_left 2
  · iterate 4 (refine sq rfl rfl rfl (by simp [go_sem, X, hT1, hw, Try.f32]; rfl) ?_)
    rfl
  rw [hA2] at ap3 hl1
  rw [hA5] at ap6 hl5
  refine ACode.seq (ACode.regS noT_ok names_ok mix (t' := ?_) (L' := ?_) [0, 1, 2, 3, 4, 5, 6, 7] (by rfl) ?_ ?_)
  rotate_left 2
  · iterate 8 (refine sq rfl rfl rfl (by simp [go_sem, xe, xa, xi, xo, xb, xq, xv, cellsAgg, hl1, ap3, hst3, q3, Try.f32]; rfl) ?_)
    rfl
  refine ACode.seq (ACode.regS noT_ok names_ok mix (t' := ?_) (L' := ?_) [0, 1, 2, 3, 4, 5] (by rfl) ?_ ?_)
  rotate_left 2
  · iterate 6 (refine sq rfl rfl rfl (by simp [go_sem, xe, xa, xi, xo, xb, xq, xv, cellsAgg, hl5, ap6, hst6, q6, Try.f32]; rfl) ?_)
    rfl
  refine hK _ ?_ ?_ ?_ ?_
  · simp [tget_set]
  · simp [tget_set]
  · simp [tget_set]
  · simp [tget_set]
end
end Go.Proofs.Ytpfmoolpeecobaa
namespace Go.Proofs.Ytpfmoolpeecobaa
open Go Go.Proofs Go.Proofs.Ytpfmoolpeecobaa.Ev
set_option linter.unusedVariables false
set_option linter.unusedSimpArgs false
set_option maxRecDepth 100000
set_option maxHeartbeats 4000000

theorem tmod_range (n m : Int) (hm : 0 < m) : -m < n.tmod m ∧ n.tmod m < m := by
  rcases Int.le_total 0 n with h | h
  · rw [Int.tmod_eq_emod_of_nonneg h]
    have := Int.emod_nonneg n (show m ≠ 0 by omega)
    have := Int.emod_lt_of_pos n hm
    omega
  · have e : n.tmod m = -((-n).tmod m) := by rw [Int.neg_tmod, Int.neg_neg]
    rw [e, Int.tmod_eq_emod_of_nonneg (by omega)]
    have := Int.emod_nonneg (-n) (show m ≠ 0 by omega)
    have := Int.emod_lt_of_pos (-n) hm
    omega
theorem tmod_nat (a : Int) (ha : 0 ≤ a) (n : Nat) (hn : 1 ≤ n) : ∃ i : Nat, i < n ∧ a.tmod (n : Int) = (i : Int) := by
  rw [Int.tmod_eq_emod_of_nonneg ha]
  have := Int.emod_nonneg a (show (n : Int) ≠ 0 by omega)
  have := Int.emod_lt_of_pos a (show (0 : Int) < (n : Int) by omega)
  exact ⟨(a % n).toNat, by omega, by omega⟩
theorem mem_set {α : Type} {l : List α} {i : Nat} {y : α} {p : α → Prop} (h : ∀ x ∈ l, p x) (hy : p y) : ∀ x ∈ l.set i y, p x := by
  intro x hx
  rcases List.mem_or_eq_of_mem_set hx with h1 | h1
  · exact h x h1
  · rw [h1]; exact hy
section
variable {L A : Heap} {tn : Trn} {s : Scr} {sv ev : V}
/-- a setup is turned -/
def SetupT (L A : Heap) (tn : Trn) (s : Scr) (ev : V) : Prop := ∃ A' s' sv', TS L A' tn s' sv' ev ∧ ScrR s' ∧
  ∀ t : T V, tget t 2 = .ptr L.next 0 → tget t 3 = .ptr (L.next + 1) 0 → tget t 4 = .ptr (L.next + 2) 0 → tget t 5 = .int .i64 tn.n →
    ACode Try.prog ⟨none, 196⟩ (cFst sfx32) t [] A (fun x t' d A'' => x = .normal ∧ d = [] ∧ A'' = A' ∧ tget t' 2 = .ptr L.next 0 ∧ tget t' 3 = .ptr (L.next + 1) 0 ∧ tget t' 4 = .ptr (L.next + 2) 0 ∧ tget t' 5 = .int .i64 tn.n)
theorem tset_0 (h : TS L A tn s sv ev) (hn : TrnR tn) (hr : ScrR s) (hk : tn.w.tmod 16 = 0) : SetupT L A tn s ev := by
  have hT := h.tb
  have hS := h.sc
  have hS0 := hS
  unfold trnF at hT
  unfold scB Scr.cs scL at hS
  have htm := tmod_range tn.n 20 (by decide)
  refine ⟨⟨A.t.set (L.next + 1) (scB (Scr.cs { s with r := tn.n.tmod 20 } sv ev)), A.next⟩, { s with r := tn.n.tmod 20 }, sv, h.put h.so h.eo rfl rfl h.qs h.qe, ⟨by show -100 ≤ tn.n.tmod 20 ∧ tn.n.tmod 20 ≤ 20; omega, hr.c, hr.ring, hr.g, hr.lv, hr.ev, hr.ns, hr.ne, hr.tb⟩, fun t t2 t3 t4 t5 => ?_⟩
  show ACode _ _ (Code.seq (Code.region _ _ _) (Code.block 0 _)) _ _ _ _
  refine ACode.seq (ACode.regS noT_ok names_ok mix (t' := ?_) (L' := ?_) [0, 1, 2] (by rfl) ?_ ?_)
  rotate_left 2
  · iterate 3 (refine sq rfl rfl rfl (by simp [go_sem, X, t2, hT, Try.f32]; rfl) ?_)
    rfl
  refine ACode.block ?_
  refine ACode.seq (ACode.regS noT_ok names_ok mix (t' := ?_) (L' := ?_) [0, 1] (by rfl) ?_ ?_)
  rotate_left 2
  · iterate 2 (refine sq rfl rfl rfl (by simp [go_sem, X, hk, Try.f32]; rfl) ?_)
    rfl
  refine ACode.condT (by simp [tget_set, opd]) ?_
  refine ACode.regS noT_ok names_ok mix (t' := ?_) (L' := ?_) [0, 1, 2, 3, 4] (by rfl) ?_ ?_
  rotate_left 2
  · iterate 5 (refine sq rfl rfl rfl (by simp [go_sem, X, t2, t3, t5, hT, hS, Try.f32]; rfl) ?_)
    rfl
  exact ⟨rfl, rfl, rfl, by simp [tget_set, t2], by simp [tget_set, t3], by simp [tget_set, t4], by simp [tget_set, t5]⟩
theorem tset_1 (h : TS L A tn s sv ev) (hn : TrnR tn) (hr : ScrR s) (hk : tn.w.tmod 16 = 1) : SetupT L A tn s ev := by
  have hT := h.tb
  have hS := h.sc
  have hS0 := hS
  unfold trnF at hT
  unfold scB Scr.cs scL at hS
  have htm := tmod_range tn.n 50 (by decide)
  refine ⟨⟨A.t.set (L.next + 1) (scB (Scr.cs { s with c := tn.n.tmod 50 } sv ev)), A.next⟩, { s with c := tn.n.tmod 50 }, sv, h.put h.so h.eo rfl rfl h.qs h.qe, ⟨hr.r, by show -100 ≤ tn.n.tmod 50 ∧ tn.n.tmod 50 ≤ 50; omega, hr.ring, hr.g, hr.lv, hr.ev, hr.ns, hr.ne, hr.tb⟩, fun t t2 t3 t4 t5 => ?_⟩
  show ACode _ _ (Code.seq (Code.region _ _ _) (Code.block 0 _)) _ _ _ _
  refine ACode.seq (ACode.regS noT_ok names_ok mix (t' := ?_) (L' := ?_) [0, 1, 2] (by rfl) ?_ ?_)
  rotate_left 2
  · iterate 3 (refine sq rfl rfl rfl (by simp [go_sem, X, t2, hT, Try.f32]; rfl) ?_)
    rfl
  refine ACode.block ?_
  refine ACode.seq (ACode.regS noT_ok names_ok mix (t' := ?_) (L' := ?_) [0, 1] (by rfl) ?_ ?_)
  rotate_left 2
  · iterate 2 (refine sq rfl rfl rfl (by simp [go_sem, X, hk, Try.f32]; rfl) ?_)
    rfl
  refine ACode.condF (by simp [tget_set, opd]) ?_
  refine ACode.seq (ACode.regS noT_ok names_ok mix (t' := ?_) (L' := ?_) [0, 1] (by rfl) ?_ ?_)
  rotate_left 2
  · iterate 2 (refine sq rfl rfl rfl (by simp [go_sem, X, hk, Try.f32]; rfl) ?_)
    rfl
  refine ACode.condT (by simp [tget_set, opd]) ?_
  refine ACode.regS noT_ok names_ok mix (t' := ?_) (L' := ?_) [0, 1, 2, 3, 4] (by rfl) ?_ ?_
  rotate_left 2
  · iterate 5 (refine sq rfl rfl rfl (by simp [go_sem, X, t2, t3, t5, hT, hS, Try.f32]; rfl) ?_)
    rfl
  exact ⟨rfl, rfl, rfl, by simp [tget_set, t2], by simp [tget_set, t3], by simp [tget_set, t4], by simp [tget_set, t5]⟩
theorem tset_2 (h : TS L A tn s sv ev) (hn : TrnR tn) (hr : ScrR s) (hk : tn.w.tmod 16 = 2) : SetupT L A tn s ev := by
  have hT := h.tb
  have hS := h.sc
  have hS0 := hS
  unfold trnF at hT
  unfold scB Scr.cs scL at hS
  have htm := tmod_range tn.n 10 (by decide)
  refine ⟨⟨A.t.set (L.next + 1) (scB (Scr.cs { s with ring := tn.n.tmod 10 } sv ev)), A.next⟩, { s with ring := tn.n.tmod 10 }, sv, h.put h.so h.eo rfl rfl h.qs h.qe, ⟨hr.r, hr.c, by show -1000 ≤ tn.n.tmod 10 ∧ tn.n.tmod 10 ≤ 1000; omega, hr.g, hr.lv, hr.ev, hr.ns, hr.ne, hr.tb⟩, fun t t2 t3 t4 t5 => ?_⟩
  show ACode _ _ (Code.seq (Code.region _ _ _) (Code.block 0 _)) _ _ _ _
  refine ACode.seq (ACode.regS noT_ok names_ok mix (t' := ?_) (L' := ?_) [0, 1, 2] (by rfl) ?_ ?_)
  rotate_left 2
  · iterate 3 (refine sq rfl rfl rfl (by simp [go_sem, X, t2, hT, Try.f32]; rfl) ?_)
    rfl
  refine ACode.block ?_
  refine ACode.seq (ACode.regS noT_ok names_ok mix (t' := ?_) (L' := ?_) [0, 1] (by rfl) ?_ ?_)
  rotate_left 2
  · iterate 2 (refine sq rfl rfl rfl (by simp [go_sem, X, hk, Try.f32]; rfl) ?_)
    rfl
  refine ACode.condF (by simp [tget_set, opd]) ?_
  refine ACode.seq (ACode.regS noT_ok names_ok mix (t' := ?_) (L' := ?_) [0, 1] (by rfl) ?_ ?_)
  rotate_left 2
  · iterate 2 (refine sq rfl rfl rfl (by simp [go_sem, X, hk, Try.f32]; rfl) ?_)
    rfl
  refine ACode.condF (by simp [tget_set, opd]) ?_
  refine ACode.seq (ACode.regS noT_ok names_ok mix (t' := ?_) (L' := ?_) [0, 1] (by rfl) ?_ ?_)
  rotate_left 2
  · iterate 2 (refine sq rfl rfl rfl (by simp [go_sem, X, hk, Try.f32]; rfl) ?_)
    rfl
  refine ACode.condT (by simp [tget_set, opd]) ?_
  refine ACode.regS noT_ok names_ok mix (t' := ?_) (L' := ?_) [0, 1, 2, 3, 4] (by rfl) ?_ ?_
  rotate_left 2
  · iterate 5 (refine sq rfl rfl rfl (by simp [go_sem, X, t2, t3, t5, hT, hS, Try.f32]; rfl) ?_)
    rfl
  exact ⟨rfl, rfl, rfl, by simp [tget_set, t2], by simp [tget_set, t3], by simp [tget_set, t4], by simp [tget_set, t5]⟩
theorem tset_3 (h : TS L A tn s sv ev) (hn : TrnR tn) (hr : ScrR s) (hk : tn.w.tmod 16 = 3) : SetupT L A tn s ev := by
  have hT := h.tb
  have hS := h.sc
  have hS0 := hS
  unfold trnF at hT
  unfold scB Scr.cs scL at hS
  have hwa : IntKind.i64.wrap tn.at_ = tn.at_ := Go.IntWalk.i64_in _ (by have := hn.at_; omega)
  have hlb := lowB_range tn.n
  have htm : 0 ≤ (lowB tn.n).tmod 4 ∧ (lowB tn.n).tmod 4 ≤ 255 := by have := tmod_range (lowB tn.n) 4 (by decide); rw [Int.tmod_eq_emod_of_nonneg hlb.1] at *; omega
  obtain ⟨i, hi, hrem⟩ := tmod_nat tn.at_ hn.at_.1 5 (by decide)
  have hg := hr.g
  simp only [List.mem_cons, List.not_mem_nil, or_false, forall_eq_or_imp, forall_eq] at hg
  have : i = 0 ∨ i = 1 ∨ i = 2 ∨ i = 3 ∨ i = 4 := by omega
  rcases this with rfl | rfl | rfl | rfl | rfl
  ·
    have hrem' : tn.at_.tmod 5 = 0 := hrem
    refine ⟨⟨A.t.set (L.next + 1) (scB (Scr.cs { s with g0 := (lowB tn.n).tmod 4 } sv ev)), A.next⟩, { s with g0 := (lowB tn.n).tmod 4 }, sv, h.put h.so h.eo rfl rfl h.qs h.qe, ⟨hr.r, hr.c, hr.ring, ?_, hr.lv, hr.ev, hr.ns, hr.ne, hr.tb⟩, fun t t2 t3 t4 t5 => ?_⟩
    · simp only [List.mem_cons, List.not_mem_nil, or_false, forall_eq_or_imp, forall_eq]
      omega
    show ACode _ _ (Code.seq (Code.region _ _ _) (Code.block 0 _)) _ _ _ _
    refine ACode.seq (ACode.regS noT_ok names_ok mix (t' := ?_) (L' := ?_) [0, 1, 2] (by rfl) ?_ ?_)
    rotate_left 2
    · iterate 3 (refine sq rfl rfl rfl (by simp [go_sem, X, t2, hT, Try.f32]; rfl) ?_)
      rfl
    refine ACode.block ?_
    refine ACode.seq (ACode.regS noT_ok names_ok mix (t' := ?_) (L' := ?_) [0, 1] (by rfl) ?_ ?_)
    rotate_left 2
    · iterate 2 (refine sq rfl rfl rfl (by simp [go_sem, X, hk, Try.f32]; rfl) ?_)
      rfl
    refine ACode.condF (by simp [tget_set, opd]) ?_
    refine ACode.seq (ACode.regS noT_ok names_ok mix (t' := ?_) (L' := ?_) [0, 1] (by rfl) ?_ ?_)
    rotate_left 2
    · iterate 2 (refine sq rfl rfl rfl (by simp [go_sem, X, hk, Try.f32]; rfl) ?_)
      rfl
    refine ACode.condF (by simp [tget_set, opd]) ?_
    refine ACode.seq (ACode.regS noT_ok names_ok mix (t' := ?_) (L' := ?_) [0, 1] (by rfl) ?_ ?_)
    rotate_left 2
    · iterate 2 (refine sq rfl rfl rfl (by simp [go_sem, X, hk, Try.f32]; rfl) ?_)
      rfl
    refine ACode.condF (by simp [tget_set, opd]) ?_
    refine ACode.seq (ACode.regS noT_ok names_ok mix (t' := ?_) (L' := ?_) [0, 1] (by rfl) ?_ ?_)
    rotate_left 2
    · iterate 2 (refine sq rfl rfl rfl (by simp [go_sem, X, hk, Try.f32]; rfl) ?_)
      rfl
    refine ACode.condT (by simp [tget_set, opd]) ?_
    refine ACode.regS noT_ok names_ok mix (t' := ?_) (L' := ?_) [0, 1, 2, 3, 4, 5, 6, 7, 8, 9, 10] (by rfl) ?_ ?_
    rotate_left 2
    · iterate 11 (refine sq rfl rfl rfl (by simp [go_sem, X, t2, t3, t5, hT, hS, hwa, hrem', lowB_eq, Try.f32]; rfl) ?_)
      rfl
    exact ⟨rfl, rfl, rfl, by simp [tget_set, t2], by simp [tget_set, t3], by simp [tget_set, t4], by simp [tget_set, t5]⟩
  ·
    have hrem' : tn.at_.tmod 5 = 1 := hrem
    refine ⟨⟨A.t.set (L.next + 1) (scB (Scr.cs { s with g1 := (lowB tn.n).tmod 4 } sv ev)), A.next⟩, { s with g1 := (lowB tn.n).tmod 4 }, sv, h.put h.so h.eo rfl rfl h.qs h.qe, ⟨hr.r, hr.c, hr.ring, ?_, hr.lv, hr.ev, hr.ns, hr.ne, hr.tb⟩, fun t t2 t3 t4 t5 => ?_⟩
    · simp only [List.mem_cons, List.not_mem_nil, or_false, forall_eq_or_imp, forall_eq]
      omega
    show ACode _ _ (Code.seq (Code.region _ _ _) (Code.block 0 _)) _ _ _ _
    refine ACode.seq (ACode.regS noT_ok names_ok mix (t' := ?_) (L' := ?_) [0, 1, 2] (by rfl) ?_ ?_)
    rotate_left 2
    · iterate 3 (refine sq rfl rfl rfl (by simp [go_sem, X, t2, hT, Try.f32]; rfl) ?_)
      rfl
    refine ACode.block ?_
    refine ACode.seq (ACode.regS noT_ok names_ok mix (t' := ?_) (L' := ?_) [0, 1] (by rfl) ?_ ?_)
    rotate_left 2
    · iterate 2 (refine sq rfl rfl rfl (by simp [go_sem, X, hk, Try.f32]; rfl) ?_)
      rfl
    refine ACode.condF (by simp [tget_set, opd]) ?_
    refine ACode.seq (ACode.regS noT_ok names_ok mix (t' := ?_) (L' := ?_) [0, 1] (by rfl) ?_ ?_)
    rotate_left 2
    · iterate 2 (refine sq rfl rfl rfl (by simp [go_sem, X, hk, Try.f32]; rfl) ?_)
      rfl
    refine ACode.condF (by simp [tget_set, opd]) ?_
    refine ACode.seq (ACode.regS noT_ok names_ok mix (t' := ?_) (L' := ?_) [0, 1] (by rfl) ?_ ?_)
    rotate_left 2
    · iterate 2 (refine sq rfl rfl rfl (by simp [go_sem, X, hk, Try.f32]; rfl) ?_)
      rfl
    refine ACode.condF (by simp [tget_set, opd]) ?_
    refine ACode.seq (ACode.regS noT_ok names_ok mix (t' := ?_) (L' := ?_) [0, 1] (by rfl) ?_ ?_)
    rotate_left 2
    · iterate 2 (refine sq rfl rfl rfl (by simp [go_sem, X, hk, Try.f32]; rfl) ?_)
      rfl
    refine ACode.condT (by simp [tget_set, opd]) ?_
    refine ACode.regS noT_ok names_ok mix (t' := ?_) (L' := ?_) [0, 1, 2, 3, 4, 5, 6, 7, 8, 9, 10] (by rfl) ?_ ?_
    rotate_left 2
    · iterate 11 (refine sq rfl rfl rfl (by simp [go_sem, X, t2, t3, t5, hT, hS, hwa, hrem', lowB_eq, Try.f32]; rfl) ?_)
      rfl
    exact ⟨rfl, rfl, rfl, by simp [tget_set, t2], by simp [tget_set, t3], by simp [tget_set, t4], by simp [tget_set, t5]⟩
  ·
    have hrem' : tn.at_.tmod 5 = 2 := hrem
    refine ⟨⟨A.t.set (L.next + 1) (scB (Scr.cs { s with g2 := (lowB tn.n).tmod 4 } sv ev)), A.next⟩, { s with g2 := (lowB tn.n).tmod 4 }, sv, h.put h.so h.eo rfl rfl h.qs h.qe, ⟨hr.r, hr.c, hr.ring, ?_, hr.lv, hr.ev, hr.ns, hr.ne, hr.tb⟩, fun t t2 t3 t4 t5 => ?_⟩
    · simp only [List.mem_cons, List.not_mem_nil, or_false, forall_eq_or_imp, forall_eq]
      omega
    show ACode _ _ (Code.seq (Code.region _ _ _) (Code.block 0 _)) _ _ _ _
    refine ACode.seq (ACode.regS noT_ok names_ok mix (t' := ?_) (L' := ?_) [0, 1, 2] (by rfl) ?_ ?_)
    rotate_left 2
    · iterate 3 (refine sq rfl rfl rfl (by simp [go_sem, X, t2, hT, Try.f32]; rfl) ?_)
      rfl
    refine ACode.block ?_
    refine ACode.seq (ACode.regS noT_ok names_ok mix (t' := ?_) (L' := ?_) [0, 1] (by rfl) ?_ ?_)
    rotate_left 2
    · iterate 2 (refine sq rfl rfl rfl (by simp [go_sem, X, hk, Try.f32]; rfl) ?_)
      rfl
    refine ACode.condF (by simp [tget_set, opd]) ?_
    refine ACode.seq (ACode.regS noT_ok names_ok mix (t' := ?_) (L' := ?_) [0, 1] (by rfl) ?_ ?_)
    rotate_left 2
    · iterate 2 (refine sq rfl rfl rfl (by simp [go_sem, X, hk, Try.f32]; rfl) ?_)
      rfl
    refine ACode.condF (by simp [tget_set, opd]) ?_
    refine ACode.seq (ACode.regS noT_ok names_ok mix (t' := ?_) (L' := ?_) [0, 1] (by rfl) ?_ ?_)
    rotate_left 2
    · iterate 2 (refine sq rfl rfl rfl (by simp [go_sem, X, hk, Try.f32]; rfl) ?_)
      rfl
    refine ACode.condF (by simp [tget_set, opd]) ?_
    refine ACode.seq (ACode.regS noT_ok names_ok mix (t' := ?_) (L' := ?_) [0, 1] (by rfl) ?_ ?_)
    rotate_left 2
    · iterate 2 (refine sq rfl rfl rfl (by simp [go_sem, X, hk, Try.f32]; rfl) ?_)
      rfl
    refine ACode.condT (by simp [tget_set, opd]) ?_
    refine ACode.regS noT_ok names_ok mix (t' := ?_) (L' := ?_) [0, 1, 2, 3, 4, 5, 6, 7, 8, 9, 10] (by rfl) ?_ ?_
    rotate_left 2
    · iterate 11 (refine sq rfl rfl rfl (by simp [go_sem, X, t2, t3, t5, hT, hS, hwa, hrem', lowB_eq, Try.f32]; rfl) ?_)
      rfl
    exact ⟨rfl, rfl, rfl, by simp [tget_set, t2], by simp [tget_set, t3], by simp [tget_set, t4], by simp [tget_set, t5]⟩
  ·
    have hrem' : tn.at_.tmod 5 = 3 := hrem
    refine ⟨⟨A.t.set (L.next + 1) (scB (Scr.cs { s with g3 := (lowB tn.n).tmod 4 } sv ev)), A.next⟩, { s with g3 := (lowB tn.n).tmod 4 }, sv, h.put h.so h.eo rfl rfl h.qs h.qe, ⟨hr.r, hr.c, hr.ring, ?_, hr.lv, hr.ev, hr.ns, hr.ne, hr.tb⟩, fun t t2 t3 t4 t5 => ?_⟩
    · simp only [List.mem_cons, List.not_mem_nil, or_false, forall_eq_or_imp, forall_eq]
      omega
    show ACode _ _ (Code.seq (Code.region _ _ _) (Code.block 0 _)) _ _ _ _
    refine ACode.seq (ACode.regS noT_ok names_ok mix (t' := ?_) (L' := ?_) [0, 1, 2] (by rfl) ?_ ?_)
    rotate_left 2
    · iterate 3 (refine sq rfl rfl rfl (by simp [go_sem, X, t2, hT, Try.f32]; rfl) ?_)
      rfl
    refine ACode.block ?_
    refine ACode.seq (ACode.regS noT_ok names_ok mix (t' := ?_) (L' := ?_) [0, 1] (by rfl) ?_ ?_)
    rotate_left 2
    · iterate 2 (refine sq rfl rfl rfl (by simp [go_sem, X, hk, Try.f32]; rfl) ?_)
      rfl
    refine ACode.condF (by simp [tget_set, opd]) ?_
    refine ACode.seq (ACode.regS noT_ok names_ok mix (t' := ?_) (L' := ?_) [0, 1] (by rfl) ?_ ?_)
    rotate_left 2
    · iterate 2 (refine sq rfl rfl rfl (by simp [go_sem, X, hk, Try.f32]; rfl) ?_)
      rfl
    refine ACode.condF (by simp [tget_set, opd]) ?_
    refine ACode.seq (ACode.regS noT_ok names_ok mix (t' := ?_) (L' := ?_) [0, 1] (by rfl) ?_ ?_)
    rotate_left 2
    · iterate 2 (refine sq rfl rfl rfl (by simp [go_sem, X, hk, Try.f32]; rfl) ?_)
      rfl
    refine ACode.condF (by simp [tget_set, opd]) ?_
    refine ACode.seq (ACode.regS noT_ok names_ok mix (t' := ?_) (L' := ?_) [0, 1] (by rfl) ?_ ?_)
    rotate_left 2
    · iterate 2 (refine sq rfl rfl rfl (by simp [go_sem, X, hk, Try.f32]; rfl) ?_)
      rfl
    refine ACode.condT (by simp [tget_set, opd]) ?_
    refine ACode.regS noT_ok names_ok mix (t' := ?_) (L' := ?_) [0, 1, 2, 3, 4, 5, 6, 7, 8, 9, 10] (by rfl) ?_ ?_
    rotate_left 2
    · iterate 11 (refine sq rfl rfl rfl (by simp [go_sem, X, t2, t3, t5, hT, hS, hwa, hrem', lowB_eq, Try.f32]; rfl) ?_)
      rfl
    exact ⟨rfl, rfl, rfl, by simp [tget_set, t2], by simp [tget_set, t3], by simp [tget_set, t4], by simp [tget_set, t5]⟩
  ·
    have hrem' : tn.at_.tmod 5 = 4 := hrem
    refine ⟨⟨A.t.set (L.next + 1) (scB (Scr.cs { s with g4 := (lowB tn.n).tmod 4 } sv ev)), A.next⟩, { s with g4 := (lowB tn.n).tmod 4 }, sv, h.put h.so h.eo rfl rfl h.qs h.qe, ⟨hr.r, hr.c, hr.ring, ?_, hr.lv, hr.ev, hr.ns, hr.ne, hr.tb⟩, fun t t2 t3 t4 t5 => ?_⟩
    · simp only [List.mem_cons, List.not_mem_nil, or_false, forall_eq_or_imp, forall_eq]
      omega
    show ACode _ _ (Code.seq (Code.region _ _ _) (Code.block 0 _)) _ _ _ _
    refine ACode.seq (ACode.regS noT_ok names_ok mix (t' := ?_) (L' := ?_) [0, 1, 2] (by rfl) ?_ ?_)
    rotate_left 2
    · iterate 3 (refine sq rfl rfl rfl (by simp [go_sem, X, t2, hT, Try.f32]; rfl) ?_)
      rfl
    refine ACode.block ?_
    refine ACode.seq (ACode.regS noT_ok names_ok mix (t' := ?_) (L' := ?_) [0, 1] (by rfl) ?_ ?_)
    rotate_left 2
    · iterate 2 (refine sq rfl rfl rfl (by simp [go_sem, X, hk, Try.f32]; rfl) ?_)
      rfl
    refine ACode.condF (by simp [tget_set, opd]) ?_
    refine ACode.seq (ACode.regS noT_ok names_ok mix (t' := ?_) (L' := ?_) [0, 1] (by rfl) ?_ ?_)
    rotate_left 2
    · iterate 2 (refine sq rfl rfl rfl (by simp [go_sem, X, hk, Try.f32]; rfl) ?_)
      rfl
    refine ACode.condF (by simp [tget_set, opd]) ?_
    refine ACode.seq (ACode.regS noT_ok names_ok mix (t' := ?_) (L' := ?_) [0, 1] (by rfl) ?_ ?_)
    rotate_left 2
    · iterate 2 (refine sq rfl rfl rfl (by simp [go_sem, X, hk, Try.f32]; rfl) ?_)
      rfl
    refine ACode.condF (by simp [tget_set, opd]) ?_
    refine ACode.seq (ACode.regS noT_ok names_ok mix (t' := ?_) (L' := ?_) [0, 1] (by rfl) ?_ ?_)
    rotate_left 2
    · iterate 2 (refine sq rfl rfl rfl (by simp [go_sem, X, hk, Try.f32]; rfl) ?_)
      rfl
    refine ACode.condT (by simp [tget_set, opd]) ?_
    refine ACode.regS noT_ok names_ok mix (t' := ?_) (L' := ?_) [0, 1, 2, 3, 4, 5, 6, 7, 8, 9, 10] (by rfl) ?_ ?_
    rotate_left 2
    · iterate 11 (refine sq rfl rfl rfl (by simp [go_sem, X, t2, t3, t5, hT, hS, hwa, hrem', lowB_eq, Try.f32]; rfl) ?_)
      rfl
    exact ⟨rfl, rfl, rfl, by simp [tget_set, t2], by simp [tget_set, t3], by simp [tget_set, t4], by simp [tget_set, t5]⟩
theorem tset_4 (h : TS L A tn s sv ev) (hn : TrnR tn) (hr : ScrR s) (h1 : 1 ≤ s.srcs.length) (hk : tn.w.tmod 16 = 4) : SetupT L A tn s ev := by
  have hT := h.tb
  have hS := h.sc
  have hS0 := hS
  unfold trnF at hT
  unfold scB Scr.cs scL at hS
  obtain ⟨sv2, hsl, hown, hnm, q2⟩ := h.so.cut pt50 ps83 (j := s.srcs.length - 1) (by omega) h1
  have hlen := (h.so.slP ps83 pa83 (by decide) (fun _ => rfl)).len pt50
  have hw : IntKind.i64.wrap ((s.srcs.length : Int) - 1) = ((s.srcs.length - 1 : Nat) : Int) := by rw [Go.IntWalk.i64_in _ (by have := hr.ns; omega)]; omega
  have hl2 : Heap.load Try.prog A 50 (L.next + 1) 2 = some sv := by simp [Heap.load, Heap.elem, hS, T.get_set, Ev.part, pa50]
  have hst : Heap.store A (L.next + 1) 2 [sv2] = some ⟨A.t.set (L.next + 1) (scB (Scr.cs { s with srcs := s.srcs.take (s.srcs.length - 1) } sv2 ev)), A.next⟩ := by
    simp [Heap.store, hS, T.get_set, guardO, q2, splice, over, T.set_set, scB, Scr.cs, scL]
  have hl0 : Heap.load Try.prog A 5 L.next 0 = some (.int .u8 tn.w) := by simp [Heap.load, Heap.elem, hT, T.get_set, Ev.part, pa5]
  refine ⟨⟨A.t.set (L.next + 1) (scB (Scr.cs { s with srcs := s.srcs.take (s.srcs.length - 1) } sv2 ev)), A.next⟩, { s with srcs := s.srcs.take (s.srcs.length - 1) }, sv2, h.put hown h.eo hnm rfl q2 h.qe, ⟨hr.r, hr.c, hr.ring, hr.g, fun x hx => hr.lv x (List.mem_of_mem_take hx), hr.ev, by simp only [List.length_take]; have := hr.ns; omega, hr.ne, hr.tb⟩, fun t t2 t3 t4 t5 => ?_⟩
  show ACode _ _ (Code.seq (Code.region _ _ _) (Code.block 0 _)) _ _ _ _
  refine ACode.seq (ACode.regS noT_ok names_ok mix (t' := ?_) (L' := ?_) [0, 1, 2] (by rfl) ?_ ?_)
  rotate_left 2
  · iterate 3 (refine sq rfl rfl rfl (by simp [go_sem, X, t2, hT, Try.f32]; rfl) ?_)
    rfl
  refine ACode.block ?_
  refine ACode.seq (ACode.regS noT_ok names_ok mix (t' := ?_) (L' := ?_) [0, 1] (by rfl) ?_ ?_)
  rotate_left 2
  · iterate 2 (refine sq rfl rfl rfl (by simp [go_sem, X, hk, Try.f32]; rfl) ?_)
    rfl
  refine ACode.condF (by simp [tget_set, opd]) ?_
  refine ACode.seq (ACode.regS noT_ok names_ok mix (t' := ?_) (L' := ?_) [0, 1] (by rfl) ?_ ?_)
  rotate_left 2
  · iterate 2 (refine sq rfl rfl rfl (by simp [go_sem, X, hk, Try.f32]; rfl) ?_)
    rfl
  refine ACode.condF (by simp [tget_set, opd]) ?_
  refine ACode.seq (ACode.regS noT_ok names_ok mix (t' := ?_) (L' := ?_) [0, 1] (by rfl) ?_ ?_)
  rotate_left 2
  · iterate 2 (refine sq rfl rfl rfl (by simp [go_sem, X, hk, Try.f32]; rfl) ?_)
    rfl
  refine ACode.condF (by simp [tget_set, opd]) ?_
  refine ACode.seq (ACode.regS noT_ok names_ok mix (t' := ?_) (L' := ?_) [0, 1] (by rfl) ?_ ?_)
  rotate_left 2
  · iterate 2 (refine sq rfl rfl rfl (by simp [go_sem, X, hk, Try.f32]; rfl) ?_)
    rfl
  refine ACode.condF (by simp [tget_set, opd]) ?_
  refine ACode.seq (ACode.regS noT_ok names_ok mix (t' := ?_) (L' := ?_) [0, 1] (by rfl) ?_ ?_)
  rotate_left 2
  · iterate 2 (refine sq rfl rfl rfl (by simp [go_sem, X, hk, Try.f32]; rfl) ?_)
    rfl
  refine ACode.condT (by simp [tget_set, opd]) ?_
  refine ACode.regS noT_ok names_ok mix (t' := ?_) (L' := ?_) [0, 1, 2, 3, 4, 5, 6, 7, 8, 9, 10, 11] (by rfl) ?_ ?_
  rotate_left 2
  · iterate 12 (refine sq rfl rfl rfl (by simp [go_sem, xe, xa, xi, xb, xv, t2, t3, t5, hl2, hlen, hw, hsl, hst, q2, Try.f32]; rfl) ?_)
    rfl
  exact ⟨rfl, rfl, rfl, by simp [tget_set, t2], by simp [tget_set, t3], by simp [tget_set, t4], by simp [tget_set, t5]⟩
theorem tset_5 (h : TS L A tn s sv ev) (hn : TrnR tn) (hr : ScrR s) (h1 : 1 ≤ s.srcs.length) (hk : tn.w.tmod 16 = 5) : SetupT L A tn s ev := by
  have hT := h.tb
  have hS := h.sc
  have hS0 := hS
  unfold trnF at hT
  unfold scB Scr.cs scL at hS
  have hwa : IntKind.i64.wrap tn.at_ = tn.at_ := Go.IntWalk.i64_in _ (by have := hn.at_; omega)
  obtain ⟨i, hi, hrem⟩ := tmod_nat tn.at_ hn.at_.1 s.srcs.length h1
  have hlen := (h.so.slP ps83 pa83 (by decide) (fun _ => rfl)).len pt50
  have hxi : s.srcs[i]? = some s.srcs[i] := by simp [hi]
  obtain ⟨m, A', hsv, hst, hown, hnx, hkp⟩ := h.so.set (sz := 6) (by decide) hxi (j := 2) (y := .int .i64 (tn.n.tmod 5)) (x' := { s.srcs[i] with q := (tn.n.tmod 5, s.srcs[i].q.2) }) rfl rfl (by decide) rfl
  have hlv := hr.lv _ (List.getElem_mem hi)
  have hix : Ev.indexAddr Try.prog 50 sv (.int .i64 (i : Int)) = some (.ptr m (i * 6)) := by
    rw [hsv]; simp [Ev.indexAddr, pt50, ps83, idx_nat, blt_dec, hi, guardO]
  have hl2 : Heap.load Try.prog A 50 (L.next + 1) 2 = some sv := by simp [Heap.load, Heap.elem, hS, T.get_set, Ev.part, pa50]
  have hl1 : Heap.load Try.prog A 5 L.next 1 = some (.int .u8 tn.at_) := by simp [Heap.load, Heap.elem, hT, T.get_set, Ev.part, pa5]
  have hl0 : ¬ (s.srcs.length : Int) = 0 := by omega
  have hlb := lowB_range tn.n
  have htm := tmod_range (lowB tn.n) 3 (by decide)
  have htp : 0 ≤ (lowB tn.n).tmod 3 := by rw [Int.tmod_eq_emod_of_nonneg hlb.1]; omega
  obtain ⟨k1, hk1, hk1'⟩ := h.sn
  have hts : TS L A' tn { s with srcs := s.srcs.set i { s.srcs[i] with q := (tn.n.tmod 5, s.srcs[i].q.2) } } sv ev := h.row rfl hown (h.eo.still (by omega) fun m hm => hkp m (by rw [← hm]; exact h.se)) hnx fun n hlt => hkp n (by rw [hk1]; simp only [ne_eq, Option.some.injEq]; omega)
  have hnl : (s.srcs.set i { s.srcs[i] with q := (tn.n.tmod 5, s.srcs[i].q.2) }).length = s.srcs.length := List.length_set ..
  generalize (s.srcs.length : Int) = ln at *
  refine ⟨A', { s with srcs := s.srcs.set i { s.srcs[i] with q := (tn.n.tmod 5, s.srcs[i].q.2) } }, sv, hts, ⟨hr.r, hr.c, hr.ring, hr.g, mem_set hr.lv (by simp only; omega), hr.ev, by simp only [hnl]; exact hr.ns, hr.ne, hr.tb⟩, fun t t2 t3 t4 t5 => ?_⟩
  show ACode _ _ (Code.seq (Code.region _ _ _) (Code.block 0 _)) _ _ _ _
  refine ACode.seq (ACode.regS noT_ok names_ok mix (t' := ?_) (L' := ?_) [0, 1, 2] (by rfl) ?_ ?_)
  rotate_left 2
  · iterate 3 (refine sq rfl rfl rfl (by simp [go_sem, X, t2, hT, Try.f32]; rfl) ?_)
    rfl
  refine ACode.block ?_
  refine ACode.seq (ACode.regS noT_ok names_ok mix (t' := ?_) (L' := ?_) [0, 1] (by rfl) ?_ ?_)
  rotate_left 2
  · iterate 2 (refine sq rfl rfl rfl (by simp [go_sem, X, hk, Try.f32]; rfl) ?_)
    rfl
  refine ACode.condF (by simp [tget_set, opd]) ?_
  refine ACode.seq (ACode.regS noT_ok names_ok mix (t' := ?_) (L' := ?_) [0, 1] (by rfl) ?_ ?_)
  rotate_left 2
  · iterate 2 (refine sq rfl rfl rfl (by simp [go_sem, X, hk, Try.f32]; rfl) ?_)
    rfl
  refine ACode.condF (by simp [tget_set, opd]) ?_
  refine ACode.seq (ACode.regS noT_ok names_ok mix (t' := ?_) (L' := ?_) [0, 1] (by rfl) ?_ ?_)
  rotate_left 2
  · iterate 2 (refine sq rfl rfl rfl (by simp [go_sem, X, hk, Try.f32]; rfl) ?_)
    rfl
  refine ACode.condF (by simp [tget_set, opd]) ?_
  refine ACode.seq (ACode.regS noT_ok names_ok mix (t' := ?_) (L' := ?_) [0, 1] (by rfl) ?_ ?_)
  rotate_left 2
  · iterate 2 (refine sq rfl rfl rfl (by simp [go_sem, X, hk, Try.f32]; rfl) ?_)
    rfl
  refine ACode.condF (by simp [tget_set, opd]) ?_
  refine ACode.seq (ACode.regS noT_ok names_ok mix (t' := ?_) (L' := ?_) [0, 1] (by rfl) ?_ ?_)
  rotate_left 2
  · iterate 2 (refine sq rfl rfl rfl (by simp [go_sem, X, hk, Try.f32]; rfl) ?_)
    rfl
  refine ACode.condF (by simp [tget_set, opd]) ?_
  refine ACode.seq (ACode.regS noT_ok names_ok mix (t' := ?_) (L' := ?_) [0, 1] (by rfl) ?_ ?_)
  rotate_left 2
  · iterate 2 (refine sq rfl rfl rfl (by simp [go_sem, X, hk, Try.f32]; rfl) ?_)
    rfl
  refine ACode.condT (by simp [tget_set, opd]) ?_
  refine ACode.regD noT_ok names_ok mix (t' := ?_) (L' := ?_) [0,1,3,0,8,24,0,64,192,448,1016,0,2048,8191,16383,32767,65535] [0,1,2,3,4,5,6,7,8,9,10,11,12,13,14,15,16] (by decide +kernel) (by decide +kernel) (by decide +kernel) ?_ ?_
  rotate_left 2
  · iterate 2 (refine dq rfl rfl rfl rfl (by simp [go_sem, xe, xi, xo, xb, xv, xc, xk, t2, t3, t5, hl2, hl1, hlen, hl0, hwa, hrem, hix, hst, Try.f32]; rfl) ?_)
    refine dr rfl rfl rfl rfl (by simp [go_sem, xe, xi, xo, xb, xv, xc, xk, t2, t3, t5, hl2, hl1, hlen, hl0, hwa, hrem, hix, hst, Try.f32]; rfl) ?_
    refine dq rfl rfl rfl rfl (by simp [go_sem, xe, xi, xo, xb, xv, xc, xk, t2, t3, t5, hl2, hl1, hlen, hl0, hwa, hrem, hix, hst, Try.f32]; rfl) ?_
    iterate 2 (refine dr rfl rfl rfl rfl (by simp [go_sem, xe, xi, xo, xb, xv, xc, xk, t2, t3, t5, hl2, hl1, hlen, hl0, hwa, hrem, hix, hst, Try.f32]; rfl) ?_)
    iterate 2 (refine dq rfl rfl rfl rfl (by simp [go_sem, xe, xi, xo, xb, xv, xc, xk, t2, t3, t5, hl2, hl1, hlen, hl0, hwa, hrem, hix, hst, Try.f32]; rfl) ?_)
    iterate 2 (refine dr rfl rfl rfl rfl (by simp [go_sem, xe, xi, xo, xb, xv, xc, xk, t2, t3, t5, hl2, hl1, hlen, hl0, hwa, hrem, hix, hst, Try.f32]; rfl) ?_)
    iterate 6 (refine dq rfl rfl rfl rfl (by simp [go_sem, xe, xi, xo, xb, xv, xc, xk, t2, t3, t5, hl2, hl1, hlen, hl0, hwa, hrem, hix, hst, Try.f32]; rfl) ?_)
    refine dl rfl rfl rfl rfl (by simp [go_sem, xe, xi, xo, xb, xv, xc, xk, t2, t3, t5, hl2, hl1, hlen, hl0, hwa, hrem, hix, hst, Try.f32]; rfl) (by rfl) (by simp [go_sem, xe, xi, xo, xb, xv, xc, xk, t2, t3, t5, hl2, hl1, hlen, hl0, hwa, hrem, hix, hst, Try.f32]) ?_
    rfl
  exact ⟨rfl, rfl, rfl, by simp [tget_set, t2], by simp [tget_set, t3], by simp [tget_set, t4], by simp [tget_set, t5]⟩
theorem tset_6 (h : TS L A tn s sv ev) (hn : TrnR tn) (hr : ScrR s) (h1 : 1 ≤ s.srcs.length) (hk : tn.w.tmod 16 = 6) : SetupT L A tn s ev := by
  have hT := h.tb
  have hS := h.sc
  have hS0 := hS
  unfold trnF at hT
  unfold scB Scr.cs scL at hS
  have hwa : IntKind.i64.wrap tn.at_ = tn.at_ := Go.IntWalk.i64_in _ (by have := hn.at_; omega)
  obtain ⟨i, hi, hrem⟩ := tmod_nat tn.at_ hn.at_.1 s.srcs.length h1
  have hlen := (h.so.slP ps83 pa83 (by decide) (fun _ => rfl)).len pt50
  have hxi : s.srcs[i]? = some s.srcs[i] := by simp [hi]
  obtain ⟨m, A', hsv, hst, hown, hnx, hkp⟩ := h.so.set (sz := 6) (by decide) hxi (j := 0) (y := .int .u8 ((lowB tn.n).tmod 3)) (x' := { s.srcs[i] with lv := (lowB tn.n).tmod 3 }) rfl rfl (by decide) rfl
  have hlv := hr.lv _ (List.getElem_mem hi)
  have hix : Ev.indexAddr Try.prog 50 sv (.int .i64 (i : Int)) = some (.ptr m (i * 6)) := by
    rw [hsv]; simp [Ev.indexAddr, pt50, ps83, idx_nat, blt_dec, hi, guardO]
  have hl2 : Heap.load Try.prog A 50 (L.next + 1) 2 = some sv := by simp [Heap.load, Heap.elem, hS, T.get_set, Ev.part, pa50]
  have hl1 : Heap.load Try.prog A 5 L.next 1 = some (.int .u8 tn.at_) := by simp [Heap.load, Heap.elem, hT, T.get_set, Ev.part, pa5]
  have hl0 : ¬ (s.srcs.length : Int) = 0 := by omega
  have hlb := lowB_range tn.n
  have htm := tmod_range (lowB tn.n) 3 (by decide)
  have htp : 0 ≤ (lowB tn.n).tmod 3 := by rw [Int.tmod_eq_emod_of_nonneg hlb.1]; omega
  obtain ⟨k1, hk1, hk1'⟩ := h.sn
  have hts : TS L A' tn { s with srcs := s.srcs.set i { s.srcs[i] with lv := (lowB tn.n).tmod 3 } } sv ev := h.row rfl hown (h.eo.still (by omega) fun m hm => hkp m (by rw [← hm]; exact h.se)) hnx fun n hlt => hkp n (by rw [hk1]; simp only [ne_eq, Option.some.injEq]; omega)
  have hnl : (s.srcs.set i { s.srcs[i] with lv := (lowB tn.n).tmod 3 }).length = s.srcs.length := List.length_set ..
  generalize (s.srcs.length : Int) = ln at *
  refine ⟨A', { s with srcs := s.srcs.set i { s.srcs[i] with lv := (lowB tn.n).tmod 3 } }, sv, hts, ⟨hr.r, hr.c, hr.ring, hr.g, mem_set hr.lv (by simp only; omega), hr.ev, by simp only [hnl]; exact hr.ns, hr.ne, hr.tb⟩, fun t t2 t3 t4 t5 => ?_⟩
  rw [Nat.add_zero] at hst
  show ACode _ _ (Code.seq (Code.region _ _ _) (Code.block 0 _)) _ _ _ _
  refine ACode.seq (ACode.regS noT_ok names_ok mix (t' := ?_) (L' := ?_) [0, 1, 2] (by rfl) ?_ ?_)
  rotate_left 2
  · iterate 3 (refine sq rfl rfl rfl (by simp [go_sem, X, t2, hT, Try.f32]; rfl) ?_)
    rfl
  refine ACode.block ?_
  refine ACode.seq (ACode.regS noT_ok names_ok mix (t' := ?_) (L' := ?_) [0, 1] (by rfl) ?_ ?_)
  rotate_left 2
  · iterate 2 (refine sq rfl rfl rfl (by simp [go_sem, X, hk, Try.f32]; rfl) ?_)
    rfl
  refine ACode.condF (by simp [tget_set, opd]) ?_
  refine ACode.seq (ACode.regS noT_ok names_ok mix (t' := ?_) (L' := ?_) [0, 1] (by rfl) ?_ ?_)
  rotate_left 2
  · iterate 2 (refine sq rfl rfl rfl (by simp [go_sem, X, hk, Try.f32]; rfl) ?_)
    rfl
  refine ACode.condF (by simp [tget_set, opd]) ?_
  refine ACode.seq (ACode.regS noT_ok names_ok mix (t' := ?_) (L' := ?_) [0, 1] (by rfl) ?_ ?_)
  rotate_left 2
  · iterate 2 (refine sq rfl rfl rfl (by simp [go_sem, X, hk, Try.f32]; rfl) ?_)
    rfl
  refine ACode.condF (by simp [tget_set, opd]) ?_
  refine ACode.seq (ACode.regS noT_ok names_ok mix (t' := ?_) (L' := ?_) [0, 1] (by rfl) ?_ ?_)
  rotate_left 2
  · iterate 2 (refine sq rfl rfl rfl (by simp [go_sem, X, hk, Try.f32]; rfl) ?_)
    rfl
  refine ACode.condF (by simp [tget_set, opd]) ?_
  refine ACode.seq (ACode.regS noT_ok names_ok mix (t' := ?_) (L' := ?_) [0, 1] (by rfl) ?_ ?_)
  rotate_left 2
  · iterate 2 (refine sq rfl rfl rfl (by simp [go_sem, X, hk, Try.f32]; rfl) ?_)
    rfl
  refine ACode.condF (by simp [tget_set, opd]) ?_
  refine ACode.seq (ACode.regS noT_ok names_ok mix (t' := ?_) (L' := ?_) [0, 1] (by rfl) ?_ ?_)
  rotate_left 2
  · iterate 2 (refine sq rfl rfl rfl (by simp [go_sem, X, hk, Try.f32]; rfl) ?_)
    rfl
  refine ACode.condF (by simp [tget_set, opd]) ?_
  refine ACode.seq (ACode.regS noT_ok names_ok mix (t' := ?_) (L' := ?_) [0, 1] (by rfl) ?_ ?_)
  rotate_left 2
  · iterate 2 (refine sq rfl rfl rfl (by simp [go_sem, X, hk, Try.f32]; rfl) ?_)
    rfl
  refine ACode.condT (by simp [tget_set, opd]) ?_
  refine ACode.regD noT_ok names_ok mix (t' := ?_) (L' := ?_) [0,1,3,0,8,24,0,64,192,448,1016,0,2048,6144,16383,32767,65535] [0,1,2,3,4,5,6,7,8,9,10,11,12,13,14,15,16] (by decide +kernel) (by decide +kernel) (by decide +kernel) ?_ ?_
  rotate_left 2
  · iterate 2 (refine dq rfl rfl rfl rfl (by simp [go_sem, xe, xi, xo, xb, xv, xc, xk, t2, t3, t5, hl2, hl1, hlen, hl0, hwa, hrem, hix, hst, lowB_eq, Try.f32]; rfl) ?_)
    refine dr rfl rfl rfl rfl (by simp [go_sem, xe, xi, xo, xb, xv, xc, xk, t2, t3, t5, hl2, hl1, hlen, hl0, hwa, hrem, hix, hst, lowB_eq, Try.f32]; rfl) ?_
    refine dq rfl rfl rfl rfl (by simp [go_sem, xe, xi, xo, xb, xv, xc, xk, t2, t3, t5, hl2, hl1, hlen, hl0, hwa, hrem, hix, hst, lowB_eq, Try.f32]; rfl) ?_
    iterate 2 (refine dr rfl rfl rfl rfl (by simp [go_sem, xe, xi, xo, xb, xv, xc, xk, t2, t3, t5, hl2, hl1, hlen, hl0, hwa, hrem, hix, hst, lowB_eq, Try.f32]; rfl) ?_)
    iterate 2 (refine dq rfl rfl rfl rfl (by simp [go_sem, xe, xi, xo, xb, xv, xc, xk, t2, t3, t5, hl2, hl1, hlen, hl0, hwa, hrem, hix, hst, lowB_eq, Try.f32]; rfl) ?_)
    iterate 2 (refine dr rfl rfl rfl rfl (by simp [go_sem, xe, xi, xo, xb, xv, xc, xk, t2, t3, t5, hl2, hl1, hlen, hl0, hwa, hrem, hix, hst, lowB_eq, Try.f32]; rfl) ?_)
    iterate 2 (refine dq rfl rfl rfl rfl (by simp [go_sem, xe, xi, xo, xb, xv, xc, xk, t2, t3, t5, hl2, hl1, hlen, hl0, hwa, hrem, hix, hst, lowB_eq, Try.f32]; rfl) ?_)
    refine dr rfl rfl rfl rfl (by simp [go_sem, xe, xi, xo, xb, xv, xc, xk, t2, t3, t5, hl2, hl1, hlen, hl0, hwa, hrem, hix, hst, lowB_eq, Try.f32]; rfl) ?_
    iterate 3 (refine dq rfl rfl rfl rfl (by simp [go_sem, xe, xi, xo, xb, xv, xc, xk, t2, t3, t5, hl2, hl1, hlen, hl0, hwa, hrem, hix, hst, lowB_eq, Try.f32]; rfl) ?_)
    refine dl rfl rfl rfl rfl (by simp [go_sem, xe, xi, xo, xb, xv, xc, xk, t2, t3, t5, hl2, hl1, hlen, hl0, hwa, hrem, hix, hst, lowB_eq, Try.f32]; rfl) (by rfl) (by simp [go_sem, xe, xi, xo, xb, xv, xc, xk, t2, t3, t5, hl2, hl1, hlen, hl0, hwa, hrem, hix, hst, lowB_eq, Try.f32]) ?_
    rfl
  exact ⟨rfl, rfl, rfl, by simp [tget_set, t2], by simp [tget_set, t3], by simp [tget_set, t4], by simp [tget_set, t5]⟩
theorem tset_x (h : TS L A tn s sv ev) (hn : TrnR tn) (hr : ScrR s) (k0 : ¬ tn.w.tmod 16 = 0) (k1 : ¬ tn.w.tmod 16 = 1) (k2 : ¬ tn.w.tmod 16 = 2) (k3 : ¬ tn.w.tmod 16 = 3) (k4 : ¬ tn.w.tmod 16 = 4) (k5 : ¬ tn.w.tmod 16 = 5) (k6 : ¬ tn.w.tmod 16 = 6) : SetupT L A tn s ev := by
  have hT := h.tb
  have hS := h.sc
  have hS0 := hS
  unfold trnF at hT
  unfold scB Scr.cs scL at hS
  refine ⟨A, s, sv, h, hr, fun t t2 t3 t4 t5 => ?_⟩
  show ACode _ _ (Code.seq (Code.region _ _ _) (Code.block 0 _)) _ _ _ _
  refine ACode.seq (ACode.regS noT_ok names_ok mix (t' := ?_) (L' := ?_) [0, 1, 2] (by rfl) ?_ ?_)
  rotate_left 2
  · iterate 3 (refine sq rfl rfl rfl (by simp [go_sem, X, t2, hT, Try.f32]; rfl) ?_)
    rfl
  refine ACode.block ?_
  refine ACode.seq (ACode.regS noT_ok names_ok mix (t' := ?_) (L' := ?_) [0, 1] (by rfl) ?_ ?_)
  rotate_left 2
  · iterate 2 (refine sq rfl rfl rfl (by simp [go_sem, X, k0, k1, k2, k3, k4, k5, k6, Try.f32]; rfl) ?_)
    rfl
  refine ACode.condF (by simp [tget_set, opd]) ?_
  refine ACode.seq (ACode.regS noT_ok names_ok mix (t' := ?_) (L' := ?_) [0, 1] (by rfl) ?_ ?_)
  rotate_left 2
  · iterate 2 (refine sq rfl rfl rfl (by simp [go_sem, X, k0, k1, k2, k3, k4, k5, k6, Try.f32]; rfl) ?_)
    rfl
  refine ACode.condF (by simp [tget_set, opd]) ?_
  refine ACode.seq (ACode.regS noT_ok names_ok mix (t' := ?_) (L' := ?_) [0, 1] (by rfl) ?_ ?_)
  rotate_left 2
  · iterate 2 (refine sq rfl rfl rfl (by simp [go_sem, X, k0, k1, k2, k3, k4, k5, k6, Try.f32]; rfl) ?_)
    rfl
  refine ACode.condF (by simp [tget_set, opd]) ?_
  refine ACode.seq (ACode.regS noT_ok names_ok mix (t' := ?_) (L' := ?_) [0, 1] (by rfl) ?_ ?_)
  rotate_left 2
  · iterate 2 (refine sq rfl rfl rfl (by simp [go_sem, X, k0, k1, k2, k3, k4, k5, k6, Try.f32]; rfl) ?_)
    rfl
  refine ACode.condF (by simp [tget_set, opd]) ?_
  refine ACode.seq (ACode.regS noT_ok names_ok mix (t' := ?_) (L' := ?_) [0, 1] (by rfl) ?_ ?_)
  rotate_left 2
  · iterate 2 (refine sq rfl rfl rfl (by simp [go_sem, X, k0, k1, k2, k3, k4, k5, k6, Try.f32]; rfl) ?_)
    rfl
  refine ACode.condF (by simp [tget_set, opd]) ?_
  refine ACode.seq (ACode.regS noT_ok names_ok mix (t' := ?_) (L' := ?_) [0, 1] (by rfl) ?_ ?_)
  rotate_left 2
  · iterate 2 (refine sq rfl rfl rfl (by simp [go_sem, X, k0, k1, k2, k3, k4, k5, k6, Try.f32]; rfl) ?_)
    rfl
  refine ACode.condF (by simp [tget_set, opd]) ?_
  refine ACode.seq (ACode.regS noT_ok names_ok mix (t' := ?_) (L' := ?_) [0, 1] (by rfl) ?_ ?_)
  rotate_left 2
  · iterate 2 (refine sq rfl rfl rfl (by simp [go_sem, X, k0, k1, k2, k3, k4, k5, k6, Try.f32]; rfl) ?_)
    rfl
  refine ACode.condF (by simp [tget_set, opd]) ?_
  refine ACode.skip ?_
  exact ⟨rfl, rfl, rfl, by simp [tget_set, t2], by simp [tget_set, t3], by simp [tget_set, t4], by simp [tget_set, t5]⟩
theorem tsetup (h : TS L A tn s sv ev) (hn : TrnR tn) (hr : ScrR s) (h1 : 1 ≤ s.srcs.length) : SetupT L A tn s ev := by
  by_cases k0 : tn.w.tmod 16 = 0
  · exact tset_0 h hn hr k0
  by_cases k1 : tn.w.tmod 16 = 1
  · exact tset_1 h hn hr k1
  by_cases k2 : tn.w.tmod 16 = 2
  · exact tset_2 h hn hr k2
  by_cases k3 : tn.w.tmod 16 = 3
  · exact tset_3 h hn hr k3
  by_cases k4 : tn.w.tmod 16 = 4
  · exact tset_4 h hn hr h1 k4
  by_cases k5 : tn.w.tmod 16 = 5
  · exact tset_5 h hn hr h1 k5
  by_cases k6 : tn.w.tmod 16 = 6
  · exact tset_6 h hn hr h1 k6
  exact tset_x h hn hr k0 k1 k2 k3 k4 k5 k6
end
end Go.Proofs.Ytpfmoolpeecobaa
