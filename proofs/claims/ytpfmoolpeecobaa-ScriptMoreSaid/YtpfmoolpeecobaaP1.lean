/- A reader of bytes: the next one, and how many are left. -/
import Derived.Test.YtpfmoolpeecobaaP0
namespace Go.Proofs.Ytpfmoolpeecobaa
open Go Go.Proofs Go.Proofs.Ytpfmoolpeecobaa.Ev
set_option linter.unusedVariables false
set_option linter.unusedSimpArgs false
set_option maxRecDepth 100000
set_option maxHeartbeats 4000000

theorem T_set_self {α : Type} (t : T α) : ∀ (n : Nat) (x : α), t.get n = some x → t.set n x = t := by
  induction t with
  | leaf => intro n x h; simp [T.get_leaf] at h
  | node l v r il ir =>
    intro n x h
    rw [T.get_node] at h
    rw [T.set_node]
    by_cases h0 : n = 0
    · rw [if_pos h0] at h ⊢; rw [h]
    · rw [if_neg h0] at h ⊢
      by_cases h1 : n % 2 = 1
      · rw [if_pos h1] at h ⊢; rw [il _ _ h]
      · rw [if_neg h1] at h ⊢; rw [ir _ _ h]

/-- one call that is known -/
noncomputable def oneTP (f : FuncId) (args : List V) (L : Heap) (v : V) (L' : Heap) : Tab := by
  classical exact fun f' args' L0 => if f' = f ∧ args' = args ∧ L0 = L then some (v, L') else none
theorem oneT_okP {f : FuncId} {args : List V} {L : Heap} {v : V} {L' : Heap} (h : ACall Try.prog f args L v L') : TabOk Try.prog (oneTP f args L v L') := by
  intro f' args' L0 v' L1 e
  unfold oneTP at e
  split at e
  · rename_i hc
    obtain ⟨rfl, rfl, rfl⟩ := hc
    simp only [Option.some.injEq, Prod.mk.injEq] at e
    obtain ⟨rfl, rfl⟩ := e
    exact h
  · cases e
theorem oneT_sameP (f : FuncId) (args : List V) (L : Heap) (v : V) (L' : Heap) : oneTP f args L v L' f args L = some (v, L') := by simp [oneTP]
theorem oneT_neP {f f' : FuncId} (h : f' ≠ f) (args args' : List V) (L L0 : Heap) (v : V) (L' : Heap) : oneTP f args L v L' f' args' L0 = none := by simp [oneTP, h]
theorem oneT_neHP {L L0 : Heap} (h : L0 ≠ L) (f : FuncId) (args args' : List V) (v : V) (L' : Heap) : oneTP f args L v L' f args' L0 = none := by simp [oneTP, h]
theorem oneT_neAP {args args' : List V} (h : args' ≠ args) (f : FuncId) (L L0 : Heap) (v : V) (L' : Heap) : oneTP f args L v L' f args' L0 = none := by simp [oneTP, h]

/-- the next byte; nought behind their end -/
def hd0 (bs : List Int) : Int := bs.headD 0
/-- the cell of a reader's bytes -/
noncomputable def rcell (v : V) : Blk := .cells (T.set .leaf 0 [v]) 1 1 false false
def rdV (c : Nat) : V := .agg [.func 65 [] [.ptr c 0], .func 66 [] [.ptr c 0]]
noncomputable def setRd (L : Heap) (c : Nat) (v : V) : Heap := ⟨L.t.set c (rcell v), L.next⟩
/-- the bytes behind the next one -/
def nextV : V → V
  | .slice n o len cap q => if len = 0 then .slice n o len cap q else if q = true then .slice n (o + 1) (len - 1) (cap + 1) true else .slice n (if cap = 1 then o else o + 1) (len - 1) (cap - 1) false
  | v => v
/-- a row of bytes, in an older block than c -/
def Bs (c : Nat) (L : Heap) (v : V) (bs : List Int) : Prop :=
  (v = .nils ∧ bs = []) ∨ ∃ n o cap q, v = .slice n o bs.length cap q ∧ n < L.next ∧ n < c ∧ (q = false → bs.length ≤ cap) ∧ ∀ (i : Nat) (x : Int), bs[i]? = some x → Heap.load Try.prog L 5 n (o + i) = some (.int .u8 x)
theorem load_same {L L' : Heap} {n off : Nat} {ty : TypeId} (h : L'.t.get n = L.t.get n) : Heap.load Try.prog L' ty n off = Heap.load Try.prog L ty n off := by
  unfold Heap.load Heap.elem; rw [h]
/-- what is not at c stays -/
def KX (c : Nat) (L L' : Heap) : Prop := L.next ≤ L'.next ∧ ∀ n, n < L.next → n ≠ c → L'.t.get n = L.t.get n
theorem KX.refl (c : Nat) (L : Heap) : KX c L L := ⟨Nat.le_refl _, fun _ _ _ => rfl⟩
theorem KX.trans {c : Nat} {L L1 L2 : Heap} (h : KX c L L1) (h' : KX c L1 L2) : KX c L L2 := ⟨Nat.le_trans h.1 h'.1, fun n hn hc => (h'.2 n (Nat.lt_of_lt_of_le hn h.1) hc).trans (h.2 n hn hc)⟩
theorem KX.setRd (c : Nat) (L : Heap) (v : V) : KX c L (setRd L c v) := ⟨Nat.le_refl _, fun n _ hc => T.get_set_ne _ _ hc⟩
theorem KX.new (c : Nat) (L : Heap) (b : Blk) : KX c L ⟨L.t.set L.next b, L.next + 1⟩ := ⟨Nat.le_succ _, fun n hn _ => T.get_set_ne _ _ (by omega)⟩
theorem Bs.keep {c : Nat} {L L' : Heap} {v : V} {bs : List Int} (h : Bs c L v bs) (hk : KX c L L') : Bs c L' v bs := by
  rcases h with h | ⟨n, o, cap, q, rfl, hn, hnc, hc, hx⟩
  · exact .inl h
  · exact .inr ⟨n, o, cap, q, rfl, Nat.lt_of_lt_of_le hn hk.1, hnc, hc, fun i x hi => by rw [load_same (hk.2 n hn (by omega))]; exact hx i x hi⟩
theorem Bs.still {c : Nat} {L L' : Heap} {v : V} {bs : List Int} (h : Bs c L v bs) (hn : L.next ≤ L'.next) (hk : ∀ n, n < c → n < L.next → L'.t.get n = L.t.get n) : Bs c L' v bs := by
  rcases h with h | ⟨n, o, cap, q, rfl, hn', hnc, hc, hx⟩
  · exact .inl h
  · exact .inr ⟨n, o, cap, q, rfl, Nat.lt_of_lt_of_le hn' hn, hnc, hc, fun i x hi => by rw [load_same (hk n hnc hn')]; exact hx i x hi⟩
theorem Bs.next {c : Nat} {L : Heap} {v : V} {bs : List Int} (h : Bs c L v bs) : Bs c L (nextV v) bs.tail := by
  rcases h with ⟨rfl, rfl⟩ | ⟨n, o, cap, q, rfl, hn, hnc, hc, hx⟩
  · exact .inl ⟨rfl, rfl⟩
  · cases bs with
    | nil => exact .inr ⟨n, o, cap, q, by simp [nextV], hn, hnc, hc, hx⟩
    | cons b t =>
      have hx' : ∀ (off : Nat), (off = o + 1 ∨ t = []) → ∀ (i : Nat) (x : Int), t[i]? = some x → Heap.load Try.prog L 5 n (off + i) = some (.int .u8 x) := by
        intro off ho i x hi
        rcases ho with rfl | rfl
        · have := hx (i + 1) x (by simpa using hi)
          rw [show o + 1 + i = o + (i + 1) by omega]; exact this
        · simp at hi
      cases q with
      | true => exact .inr ⟨n, o + 1, cap + 1, true, by simp [nextV], hn, hnc, fun h => (by cases h), hx' _ (.inl rfl)⟩
      | false =>
        have hc := hc rfl
        simp only [List.length_cons] at hc
        refine .inr ⟨n, if cap = 1 then o else o + 1, cap - 1, false, by simp [nextV], hn, hnc, fun _ => by show t.length ≤ _; omega, hx' _ ?_⟩
        split
        · right; cases t with
          | nil => rfl
          | cons a b => simp at hc; omega
        · exact .inl rfl
theorem Bs.low {c : Nat} {L : Heap} {v : V} {bs : List Int} (h : Bs c L v bs) : v.low L.next = true := by
  rcases h with ⟨rfl, rfl⟩ | ⟨n, o, cap, q, rfl, hn, hnc, hc, hx⟩
  · rfl
  · simp [V.low, hn]

/-- a reader stands: its cell, and the bytes that are left -/
structure Rd (L : Heap) (c : Nat) (v : V) (bs : List Int) : Prop where
  cell : L.t.get c = some (rcell v)
  lt : c < L.next
  row : Bs c L v bs
  range : ∀ x ∈ bs, 0 ≤ x ∧ x ≤ 255
theorem Rd.keep {L L' : Heap} {c : Nat} {v : V} {bs : List Int} (h : Rd L c v bs) (hk : KX c L L') (hc : L'.t.get c = L.t.get c) : Rd L' c v bs :=
  ⟨by rw [hc, h.cell], Nat.lt_of_lt_of_le h.lt hk.1, h.row.keep hk, h.range⟩
theorem Rd.new {L : Heap} {c : Nat} {v : V} {bs : List Int} (h : Rd L c v bs) (b : Blk) : Rd ⟨L.t.set L.next b, L.next + 1⟩ c v bs :=
  h.keep (KX.new c L b) (T.get_set_ne _ _ (by have := h.lt; omega))
theorem Rd.next {L : Heap} {c : Nat} {v : V} {bs : List Int} (h : Rd L c v bs) : Rd (setRd L c (nextV v)) c (nextV v) bs.tail :=
  ⟨T.get_set_same _ _ _, h.lt, h.row.next.keep (KX.setRd c L _), fun x hx => h.range x (List.mem_of_mem_tail hx)⟩
theorem Rd.head {L : Heap} {c : Nat} {v : V} {bs : List Int} (h : Rd L c v bs) : 0 ≤ hd0 bs ∧ hd0 bs ≤ 255 := by
  cases bs with
  | nil => simp [hd0]
  | cons b t => exact h.range b (List.mem_cons_self ..)
theorem Rd.len {L : Heap} {c : Nat} {v : V} {bs : List Int} (h : Rd L c v bs) (L' : Heap) : Ev.builtinQ Try.prog .len #[38] [v] L' = some (.int .i64 (bs.length : Int)) := by
  rcases h.row with ⟨rfl, rfl⟩ | ⟨n, o, cap, q, rfl, hn, hnc, hc, hx⟩ <;> simp [Ev.builtinQ, pt38]

theorem left_ok {L : Heap} {c : Nat} {v : V} {bs : List Int} (h : Rd L c v bs) : ACall Try.prog 66 [.ptr c 0] L (.int .i64 (bs.length : Int)) L := by
  have hc := h.cell
  unfold rcell at hc
  refine ACall.of_body_same Try.func66 rfl ?_
  refine ACode.seq (ACode.regS noT_ok names_ok mix (t' := ?_) (L' := ?_) [0] (by rfl) ?_ ?_)
  rotate_left 2
  · refine seqE_cons rfl rfl rfl (by simp (config := {decide := false}) [Nat.add_assoc, Go.IntWalk.i64_in, Go.IntWalk.i32_in, Go.IntWalk.u8_in, Go.IntWalk.u64_in, Ev.T.set_set, Ev.seqE, Ev.drawE, Ev.fits, Ev.wantedE, Ev.oneE, Ev.cls, Ev.quiet, Ev.making, Ev.setParts, Ev.rowOf, Ev.loud, Ev.opd, Ev.opds, Ev.optOpd, Ev.pairs, Ev.ofVal_bool, Ev.ofVal_int, Ev.ofVal_str, Ev.ofVal_nils, Ev.ofVal_nilp, Ev.putD, Ev.guardO_true, Ev.guardO_false, Ev.builtinQ, Ev.tget_set, Ev.argsT, Ev.V.beq_refl, Ev.isAnc, Ev.tb, Ev.ble_dec, Ev.blt_dec, Ev.beq_dec, Ev.bne_dec, Ev.idx_nat, Ev.idx_0, Ev.idx_1, Ev.idx_2, Ev.idx_3, Ev.idx_4, Ev.idx_5, Ev.idx_6, Ev.idx_7, Ev.idx_8, Ev.idx_9, Ev.index, Ev.indexAddr, Ev.sliceOp, Ev.bound, Ev.NV.mk, Ev.Heap.load, Ev.Heap.store, Ev.Heap.elem, Ev.T.get_set, Ev.T.get_leaf, Ev.V.cells, Ev.V.scalar, Ev.V.asPtr, Ev.V.asBool, Ev.V.asInt, Ev.V.asStr, Ev.V.asAgg, Ev.V.asTup, Ev.V.asMap, Ev.build, Ev.fillCells, Ev.splice, Ev.over, Ev.takeN, Ev.part, Ev.unV, Ev.binV, Ev.isShift, Ev.binI_add, Ev.binI_sub, Ev.binI_mul, Ev.binI_and, Ev.binI_or, Ev.binI_xor, Ev.binI_eql, Ev.binI_neq, Ev.binI_lss, Ev.binI_leq, Ev.binI_gtr, Ev.binI_geq, Ev.binI_quo, Ev.binI_rem, Ev.shiftI_shl, Ev.shiftI_shr, Ev.isConstO, Ev.fieldAddr, Ev.placeS, Ev.placeA, Ev.goal, Ev.recT, Ev.recheck, Ev.undefV, Ev.convQ, Ev.convNew, pz94, ps94, pa94, pz81, ps81, pa81, pz83, ps83, pa83, pz52, ps52, pa52, pz86, ps86, pa86, pz54, ps54, pa54, pz57, ps57, pa57, pz38, ps38, pa38, pz50, ps50, pa50, pz55, ps55, pa55, pz79, ps79, pa79, pz31, ps31, pa31, pz3, ps3, pa3, pz51, ps51, pa51, pz5, ps5, pa5, pz4, ps4, pa4, pz9, ps9, pa9, pt38, pi38, pt50, pi50, pt55, pi55, pt79, pi79, pt3, pt5, pt9, pt31, pt51, pt94, par52, pstr9, pst94, pst54, pst83, pst86, pst57, pst81, Try.underlying94, Try.underlying54, Try.underlying83, Try.underlying86, Try.underlying57, Try.underlying81, Try.underlying52, Try.underlying51, Try.underlying5, Try.underlying9, Try.f66]; rfl) (by rfl) (by simp only [Ev.putD]; rfl) ?_
    rfl
  refine ACode.seq (ACode.regS noT_ok names_ok mix (t' := ?_) (L' := ?_) [0, 1, 2] (by rfl) ?_ ?_)
  rotate_left 2
  · iterate 3 (refine seqE_cons rfl rfl rfl (by simp (config := {decide := false}) [Nat.add_assoc, Go.IntWalk.i64_in, Go.IntWalk.i32_in, Go.IntWalk.u8_in, Go.IntWalk.u64_in, Ev.T.set_set, Ev.seqE, Ev.drawE, Ev.fits, Ev.wantedE, Ev.oneE, Ev.cls, Ev.quiet, Ev.making, Ev.setParts, Ev.rowOf, Ev.loud, Ev.opd, Ev.opds, Ev.optOpd, Ev.pairs, Ev.ofVal_bool, Ev.ofVal_int, Ev.ofVal_str, Ev.ofVal_nils, Ev.ofVal_nilp, Ev.putD, Ev.guardO_true, Ev.guardO_false, Ev.tget_set, Ev.argsT, Ev.V.beq_refl, Ev.isAnc, Ev.tb, Ev.ble_dec, Ev.blt_dec, Ev.beq_dec, Ev.bne_dec, Ev.idx_nat, Ev.idx_0, Ev.idx_1, Ev.idx_2, Ev.idx_3, Ev.idx_4, Ev.idx_5, Ev.idx_6, Ev.idx_7, Ev.idx_8, Ev.idx_9, Ev.index, Ev.indexAddr, Ev.sliceOp, Ev.bound, Ev.NV.mk, Ev.Heap.load, Ev.Heap.store, Ev.Heap.elem, Ev.T.get_set, Ev.T.get_leaf, Ev.V.cells, Ev.V.scalar, Ev.V.asPtr, Ev.V.asBool, Ev.V.asInt, Ev.V.asStr, Ev.V.asAgg, Ev.V.asTup, Ev.V.asMap, Ev.build, Ev.fillCells, Ev.splice, Ev.over, Ev.takeN, Ev.part, Ev.unV, Ev.binV, Ev.isShift, Ev.binI_add, Ev.binI_sub, Ev.binI_mul, Ev.binI_and, Ev.binI_or, Ev.binI_xor, Ev.binI_eql, Ev.binI_neq, Ev.binI_lss, Ev.binI_leq, Ev.binI_gtr, Ev.binI_geq, Ev.binI_quo, Ev.binI_rem, Ev.shiftI_shl, Ev.shiftI_shr, Ev.isConstO, Ev.fieldAddr, Ev.placeS, Ev.placeA, Ev.goal, Ev.recT, Ev.recheck, Ev.undefV, Ev.convQ, Ev.convNew, pz94, ps94, pa94, pz81, ps81, pa81, pz83, ps83, pa83, pz52, ps52, pa52, pz86, ps86, pa86, pz54, ps54, pa54, pz57, ps57, pa57, pz38, ps38, pa38, pz50, ps50, pa50, pz55, ps55, pa55, pz79, ps79, pa79, pz31, ps31, pa31, pz3, ps3, pa3, pz51, ps51, pa51, pz5, ps5, pa5, pz4, ps4, pa4, pz9, ps9, pa9, pt38, pi38, pt50, pi50, pt55, pi55, pt79, pi79, pt3, pt5, pt9, pt31, pt51, pt94, par52, pstr9, pst94, pst54, pst83, pst86, pst57, pst81, Try.underlying94, Try.underlying54, Try.underlying83, Try.underlying86, Try.underlying57, Try.underlying81, Try.underlying52, Try.underlying51, Try.underlying5, Try.underlying9, hc, h.len, Try.f66]; rfl) (by rfl) (by simp only [Ev.putD]; rfl) ?_)
    rfl
  exact ACode.ret ⟨.inr rfl, [.int .i64 (bs.length : Int)], rfl, by simp [Try.f66, resVals, tget_set], rfl⟩
theorem next_ok {L : Heap} {c : Nat} {v : V} {bs : List Int} (h : Rd L c v bs) : ACall Try.prog 65 [.ptr c 0] L (.int .i64 (hd0 bs)) (setRd L c (nextV v)) := by
  have hc := h.cell
  have hlen := h.len
  have hhd := h.head
  refine ACall.of_body_same Try.func65 rfl ?_
  refine ACode.seq (ACode.regS noT_ok names_ok mix (t' := ?_) (L' := ?_) [0] (by rfl) ?_ ?_)
  rotate_left 2
  · refine seqE_cons rfl rfl rfl (by simp (config := {decide := false}) [Nat.add_assoc, Go.IntWalk.i64_in, Go.IntWalk.i32_in, Go.IntWalk.u8_in, Go.IntWalk.u64_in, Ev.T.set_set, Ev.seqE, Ev.drawE, Ev.fits, Ev.wantedE, Ev.oneE, Ev.cls, Ev.quiet, Ev.making, Ev.setParts, Ev.rowOf, Ev.loud, Ev.opd, Ev.opds, Ev.optOpd, Ev.pairs, Ev.ofVal_bool, Ev.ofVal_int, Ev.ofVal_str, Ev.ofVal_nils, Ev.ofVal_nilp, Ev.putD, Ev.guardO_true, Ev.guardO_false, Ev.builtinQ, Ev.tget_set, Ev.argsT, Ev.V.beq_refl, Ev.isAnc, Ev.tb, Ev.ble_dec, Ev.blt_dec, Ev.beq_dec, Ev.bne_dec, Ev.idx_nat, Ev.idx_0, Ev.idx_1, Ev.idx_2, Ev.idx_3, Ev.idx_4, Ev.idx_5, Ev.idx_6, Ev.idx_7, Ev.idx_8, Ev.idx_9, Ev.index, Ev.indexAddr, Ev.sliceOp, Ev.bound, Ev.NV.mk, Ev.Heap.load, Ev.Heap.store, Ev.Heap.elem, Ev.T.get_set, Ev.T.get_leaf, Ev.V.cells, Ev.V.scalar, Ev.V.asPtr, Ev.V.asBool, Ev.V.asInt, Ev.V.asStr, Ev.V.asAgg, Ev.V.asTup, Ev.V.asMap, Ev.build, Ev.fillCells, Ev.splice, Ev.over, Ev.takeN, Ev.part, Ev.unV, Ev.binV, Ev.isShift, Ev.binI_add, Ev.binI_sub, Ev.binI_mul, Ev.binI_and, Ev.binI_or, Ev.binI_xor, Ev.binI_eql, Ev.binI_neq, Ev.binI_lss, Ev.binI_leq, Ev.binI_gtr, Ev.binI_geq, Ev.binI_quo, Ev.binI_rem, Ev.shiftI_shl, Ev.shiftI_shr, Ev.isConstO, Ev.fieldAddr, Ev.placeS, Ev.placeA, Ev.goal, Ev.recT, Ev.recheck, Ev.undefV, Ev.convQ, Ev.convNew, pz94, ps94, pa94, pz81, ps81, pa81, pz83, ps83, pa83, pz52, ps52, pa52, pz86, ps86, pa86, pz54, ps54, pa54, pz57, ps57, pa57, pz38, ps38, pa38, pz50, ps50, pa50, pz55, ps55, pa55, pz79, ps79, pa79, pz31, ps31, pa31, pz3, ps3, pa3, pz51, ps51, pa51, pz5, ps5, pa5, pz4, ps4, pa4, pz9, ps9, pa9, pt38, pi38, pt50, pi50, pt55, pi55, pt79, pi79, pt3, pt5, pt9, pt31, pt51, pt94, par52, pstr9, pst94, pst54, pst83, pst86, pst57, pst81, Try.underlying94, Try.underlying54, Try.underlying83, Try.underlying86, Try.underlying57, Try.underlying81, Try.underlying52, Try.underlying51, Try.underlying5, Try.underlying9, Try.f65]; rfl) (by rfl) (by simp only [Ev.putD]; rfl) ?_
    rfl
  refine ACode.seq ?_
  rcases h.row with ⟨rfl, rfl⟩ | ⟨n, o, cap, q, rfl, hn, hnc, hcap, hx⟩
  ·
    have hself : setRd L c (nextV .nils) = L := by show (⟨_, _⟩ : Heap) = _; rw [show nextV .nils = .nils from rfl, T_set_self _ _ _ h.cell]
    rw [hself]
    unfold rcell at hc
    refine ACode.seq (ACode.regS noT_ok names_ok mix (t' := ?_) (L' := ?_) [0, 1, 2] (by rfl) ?_ ?_)
    rotate_left 2
    · iterate 3 (refine seqE_cons rfl rfl rfl (by simp (config := {decide := false}) [Nat.add_assoc, Go.IntWalk.i64_in, Go.IntWalk.i32_in, Go.IntWalk.u8_in, Go.IntWalk.u64_in, Ev.T.set_set, Ev.seqE, Ev.drawE, Ev.fits, Ev.wantedE, Ev.oneE, Ev.cls, Ev.quiet, Ev.making, Ev.setParts, Ev.rowOf, Ev.loud, Ev.opd, Ev.opds, Ev.optOpd, Ev.pairs, Ev.ofVal_bool, Ev.ofVal_int, Ev.ofVal_str, Ev.ofVal_nils, Ev.ofVal_nilp, Ev.putD, Ev.guardO_true, Ev.guardO_false, Ev.builtinQ, Ev.tget_set, Ev.argsT, Ev.V.beq_refl, Ev.isAnc, Ev.tb, Ev.ble_dec, Ev.blt_dec, Ev.beq_dec, Ev.bne_dec, Ev.idx_nat, Ev.idx_0, Ev.idx_1, Ev.idx_2, Ev.idx_3, Ev.idx_4, Ev.idx_5, Ev.idx_6, Ev.idx_7, Ev.idx_8, Ev.idx_9, Ev.index, Ev.indexAddr, Ev.sliceOp, Ev.bound, Ev.NV.mk, Ev.Heap.load, Ev.Heap.store, Ev.Heap.elem, Ev.T.get_set, Ev.T.get_leaf, Ev.V.cells, Ev.V.scalar, Ev.V.asPtr, Ev.V.asBool, Ev.V.asInt, Ev.V.asStr, Ev.V.asAgg, Ev.V.asTup, Ev.V.asMap, Ev.build, Ev.fillCells, Ev.splice, Ev.over, Ev.takeN, Ev.part, Ev.unV, Ev.binV, Ev.isShift, Ev.binI_add, Ev.binI_sub, Ev.binI_mul, Ev.binI_and, Ev.binI_or, Ev.binI_xor, Ev.binI_eql, Ev.binI_neq, Ev.binI_lss, Ev.binI_leq, Ev.binI_gtr, Ev.binI_geq, Ev.binI_quo, Ev.binI_rem, Ev.shiftI_shl, Ev.shiftI_shr, Ev.isConstO, Ev.fieldAddr, Ev.placeS, Ev.placeA, Ev.goal, Ev.recT, Ev.recheck, Ev.undefV, Ev.convQ, Ev.convNew, pz94, ps94, pa94, pz81, ps81, pa81, pz83, ps83, pa83, pz52, ps52, pa52, pz86, ps86, pa86, pz54, ps54, pa54, pz57, ps57, pa57, pz38, ps38, pa38, pz50, ps50, pa50, pz55, ps55, pa55, pz79, ps79, pa79, pz31, ps31, pa31, pz3, ps3, pa3, pz51, ps51, pa51, pz5, ps5, pa5, pz4, ps4, pa4, pz9, ps9, pa9, pt38, pi38, pt50, pi50, pt55, pi55, pt79, pi79, pt3, pt5, pt9, pt31, pt51, pt94, par52, pstr9, pst94, pst54, pst83, pst86, pst57, pst81, Try.underlying94, Try.underlying54, Try.underlying83, Try.underlying86, Try.underlying57, Try.underlying81, Try.underlying52, Try.underlying51, Try.underlying5, Try.underlying9, hc, Try.f65]; rfl) (by rfl) (by simp only [Ev.putD]; rfl) ?_)
      rfl
    refine ACode.condF (by simp [tget_set, opd]) (ACode.skip ?_)
    show ACode _ _ _ _ _ _ _
    refine ACode.seq (ACode.regS noT_ok names_ok mix (t' := ?_) (L' := ?_) [0, 1] (by rfl) ?_ ?_)
    rotate_left 2
    · iterate 2 (refine seqE_cons rfl rfl rfl (by simp (config := {decide := false}) [Nat.add_assoc, Go.IntWalk.i64_in, Go.IntWalk.i32_in, Go.IntWalk.u8_in, Go.IntWalk.u64_in, Ev.T.set_set, Ev.seqE, Ev.drawE, Ev.fits, Ev.wantedE, Ev.oneE, Ev.cls, Ev.quiet, Ev.making, Ev.setParts, Ev.rowOf, Ev.loud, Ev.opd, Ev.opds, Ev.optOpd, Ev.pairs, Ev.ofVal_bool, Ev.ofVal_int, Ev.ofVal_str, Ev.ofVal_nils, Ev.ofVal_nilp, Ev.putD, Ev.guardO_true, Ev.guardO_false, Ev.builtinQ, Ev.tget_set, Ev.argsT, Ev.V.beq_refl, Ev.isAnc, Ev.tb, Ev.ble_dec, Ev.blt_dec, Ev.beq_dec, Ev.bne_dec, Ev.idx_nat, Ev.idx_0, Ev.idx_1, Ev.idx_2, Ev.idx_3, Ev.idx_4, Ev.idx_5, Ev.idx_6, Ev.idx_7, Ev.idx_8, Ev.idx_9, Ev.index, Ev.indexAddr, Ev.sliceOp, Ev.bound, Ev.NV.mk, Ev.Heap.load, Ev.Heap.store, Ev.Heap.elem, Ev.T.get_set, Ev.T.get_leaf, Ev.V.cells, Ev.V.scalar, Ev.V.asPtr, Ev.V.asBool, Ev.V.asInt, Ev.V.asStr, Ev.V.asAgg, Ev.V.asTup, Ev.V.asMap, Ev.build, Ev.fillCells, Ev.splice, Ev.over, Ev.takeN, Ev.part, Ev.unV, Ev.binV, Ev.isShift, Ev.binI_add, Ev.binI_sub, Ev.binI_mul, Ev.binI_and, Ev.binI_or, Ev.binI_xor, Ev.binI_eql, Ev.binI_neq, Ev.binI_lss, Ev.binI_leq, Ev.binI_gtr, Ev.binI_geq, Ev.binI_quo, Ev.binI_rem, Ev.shiftI_shl, Ev.shiftI_shr, Ev.isConstO, Ev.fieldAddr, Ev.placeS, Ev.placeA, Ev.goal, Ev.recT, Ev.recheck, Ev.undefV, Ev.convQ, Ev.convNew, pz94, ps94, pa94, pz81, ps81, pa81, pz83, ps83, pa83, pz52, ps52, pa52, pz86, ps86, pa86, pz54, ps54, pa54, pz57, ps57, pa57, pz38, ps38, pa38, pz50, ps50, pa50, pz55, ps55, pa55, pz79, ps79, pa79, pz31, ps31, pa31, pz3, ps3, pa3, pz51, ps51, pa51, pz5, ps5, pa5, pz4, ps4, pa4, pz9, ps9, pa9, pt38, pi38, pt50, pi50, pt55, pi55, pt79, pi79, pt3, pt5, pt9, pt31, pt51, pt94, par52, pstr9, pst94, pst54, pst83, pst86, pst57, pst81, Try.underlying94, Try.underlying54, Try.underlying83, Try.underlying86, Try.underlying57, Try.underlying81, Try.underlying52, Try.underlying51, Try.underlying5, Try.underlying9, Try.f65]; rfl) (by rfl) (by simp only [Ev.putD]; rfl) ?_)
      rfl
    exact ACode.ret ⟨.inr rfl, [.int .i64 0], rfl, by simp [Try.f65, resVals, tget_set], rfl⟩
  cases bs with
  | nil =>
    have hself : setRd L c (nextV (.slice n o ([] : List Int).length cap q)) = L := by show (⟨_, _⟩ : Heap) = _; rw [show nextV (.slice n o ([] : List Int).length cap q) = .slice n o ([] : List Int).length cap q from rfl, T_set_self _ _ _ h.cell]
    rw [hself]
    unfold rcell at hc
    refine ACode.seq (ACode.regS noT_ok names_ok mix (t' := ?_) (L' := ?_) [0, 1, 2] (by rfl) ?_ ?_)
    rotate_left 2
    · iterate 3 (refine seqE_cons rfl rfl rfl (by simp (config := {decide := false}) [Nat.add_assoc, Go.IntWalk.i64_in, Go.IntWalk.i32_in, Go.IntWalk.u8_in, Go.IntWalk.u64_in, Ev.T.set_set, Ev.seqE, Ev.drawE, Ev.fits, Ev.wantedE, Ev.oneE, Ev.cls, Ev.quiet, Ev.making, Ev.setParts, Ev.rowOf, Ev.loud, Ev.opd, Ev.opds, Ev.optOpd, Ev.pairs, Ev.ofVal_bool, Ev.ofVal_int, Ev.ofVal_str, Ev.ofVal_nils, Ev.ofVal_nilp, Ev.putD, Ev.guardO_true, Ev.guardO_false, Ev.builtinQ, Ev.tget_set, Ev.argsT, Ev.V.beq_refl, Ev.isAnc, Ev.tb, Ev.ble_dec, Ev.blt_dec, Ev.beq_dec, Ev.bne_dec, Ev.idx_nat, Ev.idx_0, Ev.idx_1, Ev.idx_2, Ev.idx_3, Ev.idx_4, Ev.idx_5, Ev.idx_6, Ev.idx_7, Ev.idx_8, Ev.idx_9, Ev.index, Ev.indexAddr, Ev.sliceOp, Ev.bound, Ev.NV.mk, Ev.Heap.load, Ev.Heap.store, Ev.Heap.elem, Ev.T.get_set, Ev.T.get_leaf, Ev.V.cells, Ev.V.scalar, Ev.V.asPtr, Ev.V.asBool, Ev.V.asInt, Ev.V.asStr, Ev.V.asAgg, Ev.V.asTup, Ev.V.asMap, Ev.build, Ev.fillCells, Ev.splice, Ev.over, Ev.takeN, Ev.part, Ev.unV, Ev.binV, Ev.isShift, Ev.binI_add, Ev.binI_sub, Ev.binI_mul, Ev.binI_and, Ev.binI_or, Ev.binI_xor, Ev.binI_eql, Ev.binI_neq, Ev.binI_lss, Ev.binI_leq, Ev.binI_gtr, Ev.binI_geq, Ev.binI_quo, Ev.binI_rem, Ev.shiftI_shl, Ev.shiftI_shr, Ev.isConstO, Ev.fieldAddr, Ev.placeS, Ev.placeA, Ev.goal, Ev.recT, Ev.recheck, Ev.undefV, Ev.convQ, Ev.convNew, pz94, ps94, pa94, pz81, ps81, pa81, pz83, ps83, pa83, pz52, ps52, pa52, pz86, ps86, pa86, pz54, ps54, pa54, pz57, ps57, pa57, pz38, ps38, pa38, pz50, ps50, pa50, pz55, ps55, pa55, pz79, ps79, pa79, pz31, ps31, pa31, pz3, ps3, pa3, pz51, ps51, pa51, pz5, ps5, pa5, pz4, ps4, pa4, pz9, ps9, pa9, pt38, pi38, pt50, pi50, pt55, pi55, pt79, pi79, pt3, pt5, pt9, pt31, pt51, pt94, par52, pstr9, pst94, pst54, pst83, pst86, pst57, pst81, Try.underlying94, Try.underlying54, Try.underlying83, Try.underlying86, Try.underlying57, Try.underlying81, Try.underlying52, Try.underlying51, Try.underlying5, Try.underlying9, hc, Try.f65]; rfl) (by rfl) (by simp only [Ev.putD]; rfl) ?_)
      rfl
    refine ACode.condF (by simp [tget_set, opd]) (ACode.skip ?_)
    show ACode _ _ _ _ _ _ _
    refine ACode.seq (ACode.regS noT_ok names_ok mix (t' := ?_) (L' := ?_) [0, 1] (by rfl) ?_ ?_)
    rotate_left 2
    · iterate 2 (refine seqE_cons rfl rfl rfl (by simp (config := {decide := false}) [Nat.add_assoc, Go.IntWalk.i64_in, Go.IntWalk.i32_in, Go.IntWalk.u8_in, Go.IntWalk.u64_in, Ev.T.set_set, Ev.seqE, Ev.drawE, Ev.fits, Ev.wantedE, Ev.oneE, Ev.cls, Ev.quiet, Ev.making, Ev.setParts, Ev.rowOf, Ev.loud, Ev.opd, Ev.opds, Ev.optOpd, Ev.pairs, Ev.ofVal_bool, Ev.ofVal_int, Ev.ofVal_str, Ev.ofVal_nils, Ev.ofVal_nilp, Ev.putD, Ev.guardO_true, Ev.guardO_false, Ev.builtinQ, Ev.tget_set, Ev.argsT, Ev.V.beq_refl, Ev.isAnc, Ev.tb, Ev.ble_dec, Ev.blt_dec, Ev.beq_dec, Ev.bne_dec, Ev.idx_nat, Ev.idx_0, Ev.idx_1, Ev.idx_2, Ev.idx_3, Ev.idx_4, Ev.idx_5, Ev.idx_6, Ev.idx_7, Ev.idx_8, Ev.idx_9, Ev.index, Ev.indexAddr, Ev.sliceOp, Ev.bound, Ev.NV.mk, Ev.Heap.load, Ev.Heap.store, Ev.Heap.elem, Ev.T.get_set, Ev.T.get_leaf, Ev.V.cells, Ev.V.scalar, Ev.V.asPtr, Ev.V.asBool, Ev.V.asInt, Ev.V.asStr, Ev.V.asAgg, Ev.V.asTup, Ev.V.asMap, Ev.build, Ev.fillCells, Ev.splice, Ev.over, Ev.takeN, Ev.part, Ev.unV, Ev.binV, Ev.isShift, Ev.binI_add, Ev.binI_sub, Ev.binI_mul, Ev.binI_and, Ev.binI_or, Ev.binI_xor, Ev.binI_eql, Ev.binI_neq, Ev.binI_lss, Ev.binI_leq, Ev.binI_gtr, Ev.binI_geq, Ev.binI_quo, Ev.binI_rem, Ev.shiftI_shl, Ev.shiftI_shr, Ev.isConstO, Ev.fieldAddr, Ev.placeS, Ev.placeA, Ev.goal, Ev.recT, Ev.recheck, Ev.undefV, Ev.convQ, Ev.convNew, pz94, ps94, pa94, pz81, ps81, pa81, pz83, ps83, pa83, pz52, ps52, pa52, pz86, ps86, pa86, pz54, ps54, pa54, pz57, ps57, pa57, pz38, ps38, pa38, pz50, ps50, pa50, pz55, ps55, pa55, pz79, ps79, pa79, pz31, ps31, pa31, pz3, ps3, pa3, pz51, ps51, pa51, pz5, ps5, pa5, pz4, ps4, pa4, pz9, ps9, pa9, pt38, pi38, pt50, pi50, pt55, pi55, pt79, pi79, pt3, pt5, pt9, pt31, pt51, pt94, par52, pstr9, pst94, pst54, pst83, pst86, pst57, pst81, Try.underlying94, Try.underlying54, Try.underlying83, Try.underlying86, Try.underlying57, Try.underlying81, Try.underlying52, Try.underlying51, Try.underlying5, Try.underlying9, Try.f65]; rfl) (by rfl) (by simp only [Ev.putD]; rfl) ?_)
      rfl
    exact ACode.ret ⟨.inr rfl, [.int .i64 0], rfl, by simp [Try.f65, resVals, tget_set], rfl⟩
  | cons b t =>
    have hy := hx 0 b rfl
    rw [Nat.add_zero] at hy
    have hhd : 0 ≤ b ∧ b ≤ 255 := hhd
    have hw : IntKind.i64.wrap b = b := Go.IntWalk.i64_in _ (by omega)
    have h0 : (0 : Int) < (((b :: t).length : Nat) : Int) := by simp [List.length_cons]
    have h1 : 0 < (b :: t).length := by simp
    have hidx : Ev.indexAddr Try.prog 38 (.slice n o (b :: t).length cap q) (.int .i64 0) = some (.ptr n o) := by
      simp [Ev.indexAddr, pt38, ps5, idx_0, blt_dec, guardO]
    have hsl : Ev.sliceOp Try.prog 38 (.slice n o (b :: t).length cap q) (some (.int .i64 1)) none none = some (nextV (.slice n o (b :: t).length cap q)) := by
      cases q with
      | true => simp [Ev.sliceOp, pt38, ps5, guardO, Ev.bound, idx_1, blt_dec, nextV]
      | false => simp [Ev.sliceOp, pt38, ps5, guardO, Ev.bound, idx_1, blt_dec, nextV]
    generalize hvv : V.slice n o (b :: t).length cap q = vv at *
    have hsc : (nextV vv).scalar = true := by rw [← hvv]; simp only [nextV]; split <;> (try split) <;> rfl
    have hcs : (nextV vv).cells = [nextV vv] := by rw [← hvv]; simp only [nextV]; split <;> (try split) <;> rfl
    unfold rcell at hc
    have hld : Heap.load Try.prog L 38 c 0 = some vv := by simp [Heap.load, Heap.elem, hc, T.get_set, Ev.part, ps38, pa38]
    have hov : Ev.over [nextV vv] [vv] = some [nextV vv] := rfl
    refine ACode.seq (ACode.regS noT_ok names_ok mix (t' := ?_) (L' := ?_) [0, 1, 2] (by rfl) ?_ ?_)
    rotate_left 2
    · iterate 3 (refine seqE_cons rfl rfl rfl (by simp (config := {decide := false}) [Nat.add_assoc, Go.IntWalk.i64_in, Go.IntWalk.i32_in, Go.IntWalk.u8_in, Go.IntWalk.u64_in, Ev.T.set_set, Ev.seqE, Ev.drawE, Ev.fits, Ev.wantedE, Ev.oneE, Ev.cls, Ev.quiet, Ev.making, Ev.setParts, Ev.rowOf, Ev.loud, Ev.opd, Ev.opds, Ev.optOpd, Ev.pairs, Ev.ofVal_bool, Ev.ofVal_int, Ev.ofVal_str, Ev.ofVal_nils, Ev.ofVal_nilp, Ev.putD, Ev.guardO_true, Ev.guardO_false, Ev.tget_set, Ev.argsT, Ev.V.beq_refl, Ev.isAnc, Ev.tb, Ev.ble_dec, Ev.blt_dec, Ev.beq_dec, Ev.bne_dec, Ev.idx_nat, Ev.idx_0, Ev.idx_1, Ev.idx_2, Ev.idx_3, Ev.idx_4, Ev.idx_5, Ev.idx_6, Ev.idx_7, Ev.idx_8, Ev.idx_9, Ev.index, Ev.indexAddr, Ev.sliceOp, Ev.bound, Ev.NV.mk, Ev.Heap.load, Ev.Heap.store, Ev.Heap.elem, Ev.T.get_set, Ev.T.get_leaf, Ev.V.cells, Ev.V.scalar, Ev.V.asPtr, Ev.V.asBool, Ev.V.asInt, Ev.V.asStr, Ev.V.asAgg, Ev.V.asTup, Ev.V.asMap, Ev.build, Ev.fillCells, Ev.splice, Ev.over, Ev.takeN, Ev.part, Ev.unV, Ev.binV, Ev.isShift, Ev.binI_add, Ev.binI_sub, Ev.binI_mul, Ev.binI_and, Ev.binI_or, Ev.binI_xor, Ev.binI_eql, Ev.binI_neq, Ev.binI_lss, Ev.binI_leq, Ev.binI_gtr, Ev.binI_geq, Ev.binI_quo, Ev.binI_rem, Ev.shiftI_shl, Ev.shiftI_shr, Ev.isConstO, Ev.fieldAddr, Ev.placeS, Ev.placeA, Ev.goal, Ev.recT, Ev.recheck, Ev.undefV, Ev.convQ, Ev.convNew, pz94, ps94, pa94, pz81, ps81, pa81, pz83, ps83, pa83, pz52, ps52, pa52, pz86, ps86, pa86, pz54, ps54, pa54, pz57, ps57, pa57, pz38, ps38, pa38, pz50, ps50, pa50, pz55, ps55, pa55, pz79, ps79, pa79, pz31, ps31, pa31, pz3, ps3, pa3, pz51, ps51, pa51, pz5, ps5, pa5, pz4, ps4, pa4, pz9, ps9, pa9, pt38, pi38, pt50, pi50, pt55, pi55, pt79, pi79, pt3, pt5, pt9, pt31, pt51, pt94, par52, pstr9, pst94, pst54, pst83, pst86, pst57, pst81, Try.underlying94, Try.underlying54, Try.underlying83, Try.underlying86, Try.underlying57, Try.underlying81, Try.underlying52, Try.underlying51, Try.underlying5, Try.underlying9, hc, hlen, h0, h1, Try.f65]; rfl) (by rfl) (by simp only [Ev.putD]; rfl) ?_)
      rfl
    refine ACode.condT (by simp [tget_set, opd]) ?_
    refine ACode.regD noT_ok names_ok mix (t' := ?_) (L' := ?_) [0,1,3,7,0,16,15,127] [0,1,2,3,4,5,6,7] (by decide +kernel) (by decide +kernel) (by decide +kernel) ?_ ?_
    rotate_left 2
    · refine drawE_quietR rfl rfl rfl rfl (by simp (config := {decide := false}) [Nat.add_assoc, Go.IntWalk.i64_in, Go.IntWalk.i32_in, Go.IntWalk.u8_in, Go.IntWalk.u64_in, Ev.T.set_set, Ev.seqE, Ev.drawE, Ev.fits, Ev.wantedE, Ev.oneE, Ev.cls, Ev.quiet, Ev.making, Ev.setParts, Ev.rowOf, Ev.loud, Ev.opd, Ev.opds, Ev.optOpd, Ev.pairs, Ev.ofVal_bool, Ev.ofVal_int, Ev.ofVal_str, Ev.ofVal_nils, Ev.ofVal_nilp, Ev.putD, Ev.guardO_true, Ev.guardO_false, Ev.tget_set, Ev.argsT, Ev.V.beq_refl, Ev.isAnc, Ev.tb, Ev.ble_dec, Ev.blt_dec, Ev.beq_dec, Ev.bne_dec, Ev.idx_nat, Ev.idx_0, Ev.idx_1, Ev.idx_2, Ev.idx_3, Ev.idx_4, Ev.idx_5, Ev.idx_6, Ev.idx_7, Ev.idx_8, Ev.idx_9, Ev.index, Ev.bound, Ev.NV.mk, Ev.Heap.store, Ev.T.get_set, Ev.T.get_leaf, Ev.V.asPtr, Ev.V.asBool, Ev.V.asInt, Ev.V.asStr, Ev.V.asAgg, Ev.V.asTup, Ev.V.asMap, Ev.build, Ev.fillCells, Ev.splice, Ev.over, Ev.takeN, Ev.part, Ev.unV, Ev.binV, Ev.isShift, Ev.binI_add, Ev.binI_sub, Ev.binI_mul, Ev.binI_and, Ev.binI_or, Ev.binI_xor, Ev.binI_eql, Ev.binI_neq, Ev.binI_lss, Ev.binI_leq, Ev.binI_gtr, Ev.binI_geq, Ev.binI_quo, Ev.binI_rem, Ev.shiftI_shl, Ev.shiftI_shr, Ev.isConstO, Ev.fieldAddr, Ev.placeS, Ev.placeA, Ev.goal, Ev.recT, Ev.recheck, Ev.undefV, Ev.convQ, Ev.convNew, pz94, ps94, pa94, pz81, ps81, pa81, pz83, ps83, pa83, pz52, ps52, pa52, pz86, ps86, pa86, pz54, ps54, pa54, pz57, ps57, pa57, pz38, ps38, pa38, pz50, ps50, pa50, pz55, ps55, pa55, pz79, ps79, pa79, pz31, ps31, pa31, pz3, ps3, pa3, pz51, ps51, pa51, pz5, ps5, pa5, pz4, ps4, pa4, pz9, ps9, pa9, pt38, pi38, pt50, pi50, pt55, pi55, pt79, pi79, pt3, pt5, pt9, pt31, pt51, pt94, par52, pstr9, pst94, pst54, pst83, pst86, pst57, pst81, Try.underlying94, Try.underlying54, Try.underlying83, Try.underlying86, Try.underlying57, Try.underlying81, Try.underlying52, Try.underlying51, Try.underlying5, Try.underlying9, hc, hld, hy, hidx, hsl, hw, hsc, hcs, pu3, Try.f65]; rfl) (by simp only [Ev.putD]; rfl) ?_
      refine drawE_quiet rfl rfl rfl rfl (by simp (config := {decide := false}) [Nat.add_assoc, Go.IntWalk.i64_in, Go.IntWalk.i32_in, Go.IntWalk.u8_in, Go.IntWalk.u64_in, Ev.T.set_set, Ev.seqE, Ev.drawE, Ev.fits, Ev.wantedE, Ev.oneE, Ev.cls, Ev.quiet, Ev.making, Ev.setParts, Ev.rowOf, Ev.loud, Ev.opd, Ev.opds, Ev.optOpd, Ev.pairs, Ev.ofVal_bool, Ev.ofVal_int, Ev.ofVal_str, Ev.ofVal_nils, Ev.ofVal_nilp, Ev.putD, Ev.guardO_true, Ev.guardO_false, Ev.tget_set, Ev.argsT, Ev.V.beq_refl, Ev.isAnc, Ev.tb, Ev.ble_dec, Ev.blt_dec, Ev.beq_dec, Ev.bne_dec, Ev.idx_nat, Ev.idx_0, Ev.idx_1, Ev.idx_2, Ev.idx_3, Ev.idx_4, Ev.idx_5, Ev.idx_6, Ev.idx_7, Ev.idx_8, Ev.idx_9, Ev.index, Ev.bound, Ev.NV.mk, Ev.Heap.store, Ev.T.get_set, Ev.T.get_leaf, Ev.V.asPtr, Ev.V.asBool, Ev.V.asInt, Ev.V.asStr, Ev.V.asAgg, Ev.V.asTup, Ev.V.asMap, Ev.build, Ev.fillCells, Ev.splice, Ev.over, Ev.takeN, Ev.part, Ev.unV, Ev.binV, Ev.isShift, Ev.binI_add, Ev.binI_sub, Ev.binI_mul, Ev.binI_and, Ev.binI_or, Ev.binI_xor, Ev.binI_eql, Ev.binI_neq, Ev.binI_lss, Ev.binI_leq, Ev.binI_gtr, Ev.binI_geq, Ev.binI_quo, Ev.binI_rem, Ev.shiftI_shl, Ev.shiftI_shr, Ev.isConstO, Ev.fieldAddr, Ev.placeS, Ev.placeA, Ev.goal, Ev.recT, Ev.recheck, Ev.undefV, Ev.convQ, Ev.convNew, pz94, ps94, pa94, pz81, ps81, pa81, pz83, ps83, pa83, pz52, ps52, pa52, pz86, ps86, pa86, pz54, ps54, pa54, pz57, ps57, pa57, pz38, ps38, pa38, pz50, ps50, pa50, pz55, ps55, pa55, pz79, ps79, pa79, pz31, ps31, pa31, pz3, ps3, pa3, pz51, ps51, pa51, pz5, ps5, pa5, pz4, ps4, pa4, pz9, ps9, pa9, pt38, pi38, pt50, pi50, pt55, pi55, pt79, pi79, pt3, pt5, pt9, pt31, pt51, pt94, par52, pstr9, pst94, pst54, pst83, pst86, pst57, pst81, Try.underlying94, Try.underlying54, Try.underlying83, Try.underlying86, Try.underlying57, Try.underlying81, Try.underlying52, Try.underlying51, Try.underlying5, Try.underlying9, hc, hld, hy, hidx, hsl, hw, hsc, hcs, pu3, Try.f65]; rfl) (by simp only [Ev.putD]; rfl) ?_
      iterate 3 (refine drawE_quietR rfl rfl rfl rfl (by simp (config := {decide := false}) [Nat.add_assoc, Go.IntWalk.i64_in, Go.IntWalk.i32_in, Go.IntWalk.u8_in, Go.IntWalk.u64_in, Ev.T.set_set, Ev.seqE, Ev.drawE, Ev.fits, Ev.wantedE, Ev.oneE, Ev.cls, Ev.quiet, Ev.making, Ev.setParts, Ev.rowOf, Ev.loud, Ev.opd, Ev.opds, Ev.optOpd, Ev.pairs, Ev.ofVal_bool, Ev.ofVal_int, Ev.ofVal_str, Ev.ofVal_nils, Ev.ofVal_nilp, Ev.putD, Ev.guardO_true, Ev.guardO_false, Ev.tget_set, Ev.argsT, Ev.V.beq_refl, Ev.isAnc, Ev.tb, Ev.ble_dec, Ev.blt_dec, Ev.beq_dec, Ev.bne_dec, Ev.idx_nat, Ev.idx_0, Ev.idx_1, Ev.idx_2, Ev.idx_3, Ev.idx_4, Ev.idx_5, Ev.idx_6, Ev.idx_7, Ev.idx_8, Ev.idx_9, Ev.index, Ev.bound, Ev.NV.mk, Ev.Heap.store, Ev.T.get_set, Ev.T.get_leaf, Ev.V.asPtr, Ev.V.asBool, Ev.V.asInt, Ev.V.asStr, Ev.V.asAgg, Ev.V.asTup, Ev.V.asMap, Ev.build, Ev.fillCells, Ev.splice, Ev.over, Ev.takeN, Ev.part, Ev.unV, Ev.binV, Ev.isShift, Ev.binI_add, Ev.binI_sub, Ev.binI_mul, Ev.binI_and, Ev.binI_or, Ev.binI_xor, Ev.binI_eql, Ev.binI_neq, Ev.binI_lss, Ev.binI_leq, Ev.binI_gtr, Ev.binI_geq, Ev.binI_quo, Ev.binI_rem, Ev.shiftI_shl, Ev.shiftI_shr, Ev.isConstO, Ev.fieldAddr, Ev.placeS, Ev.placeA, Ev.goal, Ev.recT, Ev.recheck, Ev.undefV, Ev.convQ, Ev.convNew, pz94, ps94, pa94, pz81, ps81, pa81, pz83, ps83, pa83, pz52, ps52, pa52, pz86, ps86, pa86, pz54, ps54, pa54, pz57, ps57, pa57, pz38, ps38, pa38, pz50, ps50, pa50, pz55, ps55, pa55, pz79, ps79, pa79, pz31, ps31, pa31, pz3, ps3, pa3, pz51, ps51, pa51, pz5, ps5, pa5, pz4, ps4, pa4, pz9, ps9, pa9, pt38, pi38, pt50, pi50, pt55, pi55, pt79, pi79, pt3, pt5, pt9, pt31, pt51, pt94, par52, pstr9, pst94, pst54, pst83, pst86, pst57, pst81, Try.underlying94, Try.underlying54, Try.underlying83, Try.underlying86, Try.underlying57, Try.underlying81, Try.underlying52, Try.underlying51, Try.underlying5, Try.underlying9, hc, hld, hy, hidx, hsl, hw, hsc, hcs, pu3, Try.f65]; rfl) (by simp only [Ev.putD]; rfl) ?_)
      iterate 2 (refine drawE_quiet rfl rfl rfl rfl (by simp (config := {decide := false}) [Nat.add_assoc, Go.IntWalk.i64_in, Go.IntWalk.i32_in, Go.IntWalk.u8_in, Go.IntWalk.u64_in, Ev.T.set_set, Ev.seqE, Ev.drawE, Ev.fits, Ev.wantedE, Ev.oneE, Ev.cls, Ev.quiet, Ev.making, Ev.setParts, Ev.rowOf, Ev.loud, Ev.opd, Ev.opds, Ev.optOpd, Ev.pairs, Ev.ofVal_bool, Ev.ofVal_int, Ev.ofVal_str, Ev.ofVal_nils, Ev.ofVal_nilp, Ev.putD, Ev.guardO_true, Ev.guardO_false, Ev.tget_set, Ev.argsT, Ev.V.beq_refl, Ev.isAnc, Ev.tb, Ev.ble_dec, Ev.blt_dec, Ev.beq_dec, Ev.bne_dec, Ev.idx_nat, Ev.idx_0, Ev.idx_1, Ev.idx_2, Ev.idx_3, Ev.idx_4, Ev.idx_5, Ev.idx_6, Ev.idx_7, Ev.idx_8, Ev.idx_9, Ev.index, Ev.bound, Ev.NV.mk, Ev.Heap.store, Ev.T.get_set, Ev.T.get_leaf, Ev.V.asPtr, Ev.V.asBool, Ev.V.asInt, Ev.V.asStr, Ev.V.asAgg, Ev.V.asTup, Ev.V.asMap, Ev.build, Ev.fillCells, Ev.splice, Ev.over, Ev.takeN, Ev.part, Ev.unV, Ev.binV, Ev.isShift, Ev.binI_add, Ev.binI_sub, Ev.binI_mul, Ev.binI_and, Ev.binI_or, Ev.binI_xor, Ev.binI_eql, Ev.binI_neq, Ev.binI_lss, Ev.binI_leq, Ev.binI_gtr, Ev.binI_geq, Ev.binI_quo, Ev.binI_rem, Ev.shiftI_shl, Ev.shiftI_shr, Ev.isConstO, Ev.fieldAddr, Ev.placeS, Ev.placeA, Ev.goal, Ev.recT, Ev.recheck, Ev.undefV, Ev.convQ, Ev.convNew, pz94, ps94, pa94, pz81, ps81, pa81, pz83, ps83, pa83, pz52, ps52, pa52, pz86, ps86, pa86, pz54, ps54, pa54, pz57, ps57, pa57, pz38, ps38, pa38, pz50, ps50, pa50, pz55, ps55, pa55, pz79, ps79, pa79, pz31, ps31, pa31, pz3, ps3, pa3, pz51, ps51, pa51, pz5, ps5, pa5, pz4, ps4, pa4, pz9, ps9, pa9, pt38, pi38, pt50, pi50, pt55, pi55, pt79, pi79, pt3, pt5, pt9, pt31, pt51, pt94, par52, pstr9, pst94, pst54, pst83, pst86, pst57, pst81, Try.underlying94, Try.underlying54, Try.underlying83, Try.underlying86, Try.underlying57, Try.underlying81, Try.underlying52, Try.underlying51, Try.underlying5, Try.underlying9, hc, hld, hy, hidx, hsl, hw, hsc, hcs, pu3, Try.f65]; rfl) (by simp only [Ev.putD]; rfl) ?_)
      refine drawE_loud rfl rfl rfl rfl (by simp (config := {decide := false}) [Nat.add_assoc, Go.IntWalk.i64_in, Go.IntWalk.i32_in, Go.IntWalk.u8_in, Go.IntWalk.u64_in, Ev.T.set_set, Ev.seqE, Ev.drawE, Ev.fits, Ev.wantedE, Ev.oneE, Ev.cls, Ev.quiet, Ev.making, Ev.setParts, Ev.rowOf, Ev.loud, Ev.opd, Ev.opds, Ev.optOpd, Ev.pairs, Ev.ofVal_bool, Ev.ofVal_int, Ev.ofVal_str, Ev.ofVal_nils, Ev.ofVal_nilp, Ev.putD, Ev.guardO_true, Ev.guardO_false, Ev.tget_set, Ev.argsT, Ev.V.beq_refl, Ev.isAnc, Ev.tb, Ev.ble_dec, Ev.blt_dec, Ev.beq_dec, Ev.bne_dec, Ev.idx_nat, Ev.idx_0, Ev.idx_1, Ev.idx_2, Ev.idx_3, Ev.idx_4, Ev.idx_5, Ev.idx_6, Ev.idx_7, Ev.idx_8, Ev.idx_9, Ev.index, Ev.bound, Ev.NV.mk, Ev.Heap.store, Ev.T.get_set, Ev.T.get_leaf, Ev.V.asPtr, Ev.V.asBool, Ev.V.asInt, Ev.V.asStr, Ev.V.asAgg, Ev.V.asTup, Ev.V.asMap, Ev.build, Ev.fillCells, Ev.splice, Ev.over, Ev.takeN, Ev.part, Ev.unV, Ev.binV, Ev.isShift, Ev.binI_add, Ev.binI_sub, Ev.binI_mul, Ev.binI_and, Ev.binI_or, Ev.binI_xor, Ev.binI_eql, Ev.binI_neq, Ev.binI_lss, Ev.binI_leq, Ev.binI_gtr, Ev.binI_geq, Ev.binI_quo, Ev.binI_rem, Ev.shiftI_shl, Ev.shiftI_shr, Ev.isConstO, Ev.fieldAddr, Ev.placeS, Ev.placeA, Ev.goal, Ev.recT, Ev.recheck, Ev.undefV, Ev.convQ, Ev.convNew, pz94, ps94, pa94, pz81, ps81, pa81, pz83, ps83, pa83, pz52, ps52, pa52, pz86, ps86, pa86, pz54, ps54, pa54, pz57, ps57, pa57, pz38, ps38, pa38, pz50, ps50, pa50, pz55, ps55, pa55, pz79, ps79, pa79, pz31, ps31, pa31, pz3, ps3, pa3, pz51, ps51, pa51, pz5, ps5, pa5, pz4, ps4, pa4, pz9, ps9, pa9, pt38, pi38, pt50, pi50, pt55, pi55, pt79, pi79, pt3, pt5, pt9, pt31, pt51, pt94, par52, pstr9, pst94, pst54, pst83, pst86, pst57, pst81, Try.underlying94, Try.underlying54, Try.underlying83, Try.underlying86, Try.underlying57, Try.underlying81, Try.underlying52, Try.underlying51, Try.underlying5, Try.underlying9, hc, hld, hy, hidx, hsl, hw, hsc, hcs, pu3, Try.f65]; rfl) (by rfl) (by simp [Nat.add_assoc, Go.IntWalk.i64_in, Go.IntWalk.i32_in, Go.IntWalk.u8_in, Go.IntWalk.u64_in, Ev.T.set_set, Ev.seqE, Ev.drawE, Ev.fits, Ev.wantedE, Ev.oneE, Ev.cls, Ev.quiet, Ev.making, Ev.setParts, Ev.rowOf, Ev.loud, Ev.opd, Ev.opds, Ev.optOpd, Ev.pairs, Ev.ofVal_bool, Ev.ofVal_int, Ev.ofVal_str, Ev.ofVal_nils, Ev.ofVal_nilp, Ev.putD, Ev.guardO_true, Ev.guardO_false, Ev.tget_set, Ev.argsT, Ev.V.beq_refl, Ev.isAnc, Ev.tb, Ev.ble_dec, Ev.blt_dec, Ev.beq_dec, Ev.bne_dec, Ev.idx_nat, Ev.idx_0, Ev.idx_1, Ev.idx_2, Ev.idx_3, Ev.idx_4, Ev.idx_5, Ev.idx_6, Ev.idx_7, Ev.idx_8, Ev.idx_9, Ev.index, Ev.bound, Ev.NV.mk, Ev.Heap.store, Ev.T.get_set, Ev.T.get_leaf, Ev.V.asPtr, Ev.V.asBool, Ev.V.asInt, Ev.V.asStr, Ev.V.asAgg, Ev.V.asTup, Ev.V.asMap, Ev.build, Ev.fillCells, Ev.splice, Ev.over, Ev.takeN, Ev.part, Ev.unV, Ev.binV, Ev.isShift, Ev.binI_add, Ev.binI_sub, Ev.binI_mul, Ev.binI_and, Ev.binI_or, Ev.binI_xor, Ev.binI_eql, Ev.binI_neq, Ev.binI_lss, Ev.binI_leq, Ev.binI_gtr, Ev.binI_geq, Ev.binI_quo, Ev.binI_rem, Ev.shiftI_shl, Ev.shiftI_shr, Ev.isConstO, Ev.fieldAddr, Ev.placeS, Ev.placeA, Ev.goal, Ev.recT, Ev.recheck, Ev.undefV, Ev.convQ, Ev.convNew, pz94, ps94, pa94, pz81, ps81, pa81, pz83, ps83, pa83, pz52, ps52, pa52, pz86, ps86, pa86, pz54, ps54, pa54, pz57, ps57, pa57, pz38, ps38, pa38, pz50, ps50, pa50, pz55, ps55, pa55, pz79, ps79, pa79, pz31, ps31, pa31, pz3, ps3, pa3, pz51, ps51, pa51, pz5, ps5, pa5, pz4, ps4, pa4, pz9, ps9, pa9, pt38, pi38, pt50, pi50, pt55, pi55, pt79, pi79, pt3, pt5, pt9, pt31, pt51, pt94, par52, pstr9, pst94, pst54, pst83, pst86, pst57, pst81, Try.underlying94, Try.underlying54, Try.underlying83, Try.underlying86, Try.underlying57, Try.underlying81, Try.underlying52, Try.underlying51, Try.underlying5, Try.underlying9, hc, hld, hy, hidx, hsl, hw, hsc, hcs, pu3, Try.f65]) (by simp only [Ev.putD]; rfl) ?_
      rfl
    show ACode _ _ _ _ _ (setRd L c (nextV vv)) _
    refine ACode.seq (ACode.regS noT_ok names_ok mix (t' := ?_) (L' := ?_) [0, 1] (by rfl) ?_ ?_)
    rotate_left 2
    · iterate 2 (refine seqE_cons rfl rfl rfl (by simp (config := {decide := false}) [Nat.add_assoc, Go.IntWalk.i64_in, Go.IntWalk.i32_in, Go.IntWalk.u8_in, Go.IntWalk.u64_in, Ev.T.set_set, Ev.seqE, Ev.drawE, Ev.fits, Ev.wantedE, Ev.oneE, Ev.cls, Ev.quiet, Ev.making, Ev.setParts, Ev.rowOf, Ev.loud, Ev.opd, Ev.opds, Ev.optOpd, Ev.pairs, Ev.ofVal_bool, Ev.ofVal_int, Ev.ofVal_str, Ev.ofVal_nils, Ev.ofVal_nilp, Ev.putD, Ev.guardO_true, Ev.guardO_false, Ev.builtinQ, Ev.tget_set, Ev.argsT, Ev.V.beq_refl, Ev.isAnc, Ev.tb, Ev.ble_dec, Ev.blt_dec, Ev.beq_dec, Ev.bne_dec, Ev.idx_nat, Ev.idx_0, Ev.idx_1, Ev.idx_2, Ev.idx_3, Ev.idx_4, Ev.idx_5, Ev.idx_6, Ev.idx_7, Ev.idx_8, Ev.idx_9, Ev.index, Ev.indexAddr, Ev.sliceOp, Ev.bound, Ev.NV.mk, Ev.Heap.load, Ev.Heap.store, Ev.Heap.elem, Ev.T.get_set, Ev.T.get_leaf, Ev.V.cells, Ev.V.scalar, Ev.V.asPtr, Ev.V.asBool, Ev.V.asInt, Ev.V.asStr, Ev.V.asAgg, Ev.V.asTup, Ev.V.asMap, Ev.build, Ev.fillCells, Ev.splice, Ev.over, Ev.takeN, Ev.part, Ev.unV, Ev.binV, Ev.isShift, Ev.binI_add, Ev.binI_sub, Ev.binI_mul, Ev.binI_and, Ev.binI_or, Ev.binI_xor, Ev.binI_eql, Ev.binI_neq, Ev.binI_lss, Ev.binI_leq, Ev.binI_gtr, Ev.binI_geq, Ev.binI_quo, Ev.binI_rem, Ev.shiftI_shl, Ev.shiftI_shr, Ev.isConstO, Ev.fieldAddr, Ev.placeS, Ev.placeA, Ev.goal, Ev.recT, Ev.recheck, Ev.undefV, Ev.convQ, Ev.convNew, pz94, ps94, pa94, pz81, ps81, pa81, pz83, ps83, pa83, pz52, ps52, pa52, pz86, ps86, pa86, pz54, ps54, pa54, pz57, ps57, pa57, pz38, ps38, pa38, pz50, ps50, pa50, pz55, ps55, pa55, pz79, ps79, pa79, pz31, ps31, pa31, pz3, ps3, pa3, pz51, ps51, pa51, pz5, ps5, pa5, pz4, ps4, pa4, pz9, ps9, pa9, pt38, pi38, pt50, pi50, pt55, pi55, pt79, pi79, pt3, pt5, pt9, pt31, pt51, pt94, par52, pstr9, pst94, pst54, pst83, pst86, pst57, pst81, Try.underlying94, Try.underlying54, Try.underlying83, Try.underlying86, Try.underlying57, Try.underlying81, Try.underlying52, Try.underlying51, Try.underlying5, Try.underlying9, Try.f65]; rfl) (by rfl) (by simp only [Ev.putD]; rfl) ?_)
      rfl
    exact ACode.ret ⟨.inr rfl, [.int .i64 b], rfl, by simp [Try.f65, resVals, tget_set], rfl⟩
end Go.Proofs.Ytpfmoolpeecobaa
