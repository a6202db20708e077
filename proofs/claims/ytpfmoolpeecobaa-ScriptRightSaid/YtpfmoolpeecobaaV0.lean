/- Types of scripts. A reader of bytes: the next one, and how many are left. A number of a byte; rows that a call makes. The examples of scripts work. -/
import Derived.Test.YtpfmoolpeecobaaX20
import Derived.Test.YtpfmoolpeecobaaXB
namespace Go.Proofs.Ytpfmoolpeecobaa
open Go Go.Proofs Go.Proofs.Ytpfmoolpeecobaa.Ev
set_option linter.unusedVariables false
set_option linter.unusedSimpArgs false
set_option maxRecDepth 100000
theorem pz94 : zeroV Try.prog 94 = some (.agg [.nilf, .nilf]) := by kernel_rfl
theorem ps94 : sizeT Try.prog 94 = some 2 := by kernel_rfl
theorem pa94 : isAggT Try.prog 94 = some true := by kernel_rfl
theorem pz81 : zeroV Try.prog 81 = some (.agg [.int .i64 0, .int .i64 0, .int .i64 0, .int .i64 0]) := by kernel_rfl
theorem ps81 : sizeT Try.prog 81 = some 4 := by kernel_rfl
theorem pa81 : isAggT Try.prog 81 = some true := by kernel_rfl
theorem pz83 : zeroV Try.prog 83 = some (.agg [.int .u8 0, .bool false, .int .i64 0, .int .i64 0, .int .i64 0, .int .i64 0]) := by kernel_rfl
theorem ps83 : sizeT Try.prog 83 = some 6 := by kernel_rfl
theorem pa83 : isAggT Try.prog 83 = some true := by kernel_rfl
theorem pz52 : zeroV Try.prog 52 = some (.agg [.int .u8 0, .int .u8 0, .int .u8 0, .int .u8 0, .int .u8 0]) := by kernel_rfl
theorem ps52 : sizeT Try.prog 52 = some 5 := by kernel_rfl
theorem pa52 : isAggT Try.prog 52 = some true := by kernel_rfl
theorem pz86 : zeroV Try.prog 86 = some (.agg [.int .i64 0, .int .i64 0, .str [], .int .u8 0, .int .i64 0, .int .i64 0, .int .i64 0, .int .i64 0, .int .i64 0]) := by kernel_rfl
theorem ps86 : sizeT Try.prog 86 = some 9 := by kernel_rfl
theorem pa86 : isAggT Try.prog 86 = some true := by kernel_rfl
theorem pz54 : zeroV Try.prog 54 = some (.agg [.int .i64 0, .int .i64 0, .nils, .int .u8 0, .int .u8 0, .int .u8 0, .int .u8 0, .int .u8 0, .int .i64 0]) := by kernel_rfl
theorem ps54 : sizeT Try.prog 54 = some 9 := by kernel_rfl
theorem pa54 : isAggT Try.prog 54 = some true := by kernel_rfl
theorem pz57 : zeroV Try.prog 57 = some (.agg [.int .i64 0, .int .i64 0, .nils, .int .u8 0, .int .u8 0, .int .u8 0, .int .u8 0, .int .u8 0, .int .i64 0, .nils]) := by kernel_rfl
theorem ps57 : sizeT Try.prog 57 = some 10 := by kernel_rfl
theorem pa57 : isAggT Try.prog 57 = some true := by kernel_rfl
theorem pz38 : zeroV Try.prog 38 = some (.nils) := by kernel_rfl
theorem ps38 : sizeT Try.prog 38 = some 1 := by kernel_rfl
theorem pa38 : isAggT Try.prog 38 = some false := by kernel_rfl
theorem pz50 : zeroV Try.prog 50 = some (.nils) := by kernel_rfl
theorem ps50 : sizeT Try.prog 50 = some 1 := by kernel_rfl
theorem pa50 : isAggT Try.prog 50 = some false := by kernel_rfl
theorem pz55 : zeroV Try.prog 55 = some (.nils) := by kernel_rfl
theorem ps55 : sizeT Try.prog 55 = some 1 := by kernel_rfl
theorem pa55 : isAggT Try.prog 55 = some false := by kernel_rfl
theorem pz79 : zeroV Try.prog 79 = some (.nils) := by kernel_rfl
theorem ps79 : sizeT Try.prog 79 = some 1 := by kernel_rfl
theorem pa79 : isAggT Try.prog 79 = some false := by kernel_rfl
theorem pz31 : zeroV Try.prog 31 = some (.nilf) := by kernel_rfl
theorem ps31 : sizeT Try.prog 31 = some 1 := by kernel_rfl
theorem pa31 : isAggT Try.prog 31 = some false := by kernel_rfl
theorem pz3 : zeroV Try.prog 3 = some (.int .i64 0) := by kernel_rfl
theorem ps3 : sizeT Try.prog 3 = some 1 := by kernel_rfl
theorem pa3 : isAggT Try.prog 3 = some false := by kernel_rfl
theorem pz51 : zeroV Try.prog 51 = some (.int .u8 0) := by kernel_rfl
theorem ps51 : sizeT Try.prog 51 = some 1 := by kernel_rfl
theorem pa51 : isAggT Try.prog 51 = some false := by kernel_rfl
theorem pz5 : zeroV Try.prog 5 = some (.int .u8 0) := by kernel_rfl
theorem ps5 : sizeT Try.prog 5 = some 1 := by kernel_rfl
theorem pa5 : isAggT Try.prog 5 = some false := by kernel_rfl
theorem pz4 : zeroV Try.prog 4 = some (.bool false) := by kernel_rfl
theorem ps4 : sizeT Try.prog 4 = some 1 := by kernel_rfl
theorem pa4 : isAggT Try.prog 4 = some false := by kernel_rfl
theorem pz9 : zeroV Try.prog 9 = some (.str []) := by kernel_rfl
theorem ps9 : sizeT Try.prog 9 = some 1 := by kernel_rfl
theorem pa9 : isAggT Try.prog 9 = some false := by kernel_rfl
theorem pt38 : tySlice Try.prog 38 = some 5 := by kernel_rfl
theorem pi38 : tyInt Try.prog 38 = none := by kernel_rfl
theorem pt50 : tySlice Try.prog 50 = some 83 := by kernel_rfl
theorem pi50 : tyInt Try.prog 50 = none := by kernel_rfl
theorem pt55 : tySlice Try.prog 55 = some 86 := by kernel_rfl
theorem pi55 : tyInt Try.prog 55 = none := by kernel_rfl
theorem pt79 : tySlice Try.prog 79 = some 81 := by kernel_rfl
theorem pi79 : tyInt Try.prog 79 = none := by kernel_rfl
theorem pt3 : tySlice Try.prog 3 = none := by kernel_rfl
theorem pt5 : tySlice Try.prog 5 = none := by kernel_rfl
theorem pt9 : tySlice Try.prog 9 = none := by kernel_rfl
theorem pt31 : tySlice Try.prog 31 = none := by kernel_rfl
theorem pt51 : tySlice Try.prog 51 = none := by kernel_rfl
theorem pt94 : tySlice Try.prog 94 = none := by kernel_rfl
theorem par52 : tyArray Try.prog 52 = some (5, 51) := by kernel_rfl
theorem pstr9 : tyStr Try.prog 9 = true := by kernel_rfl
theorem pst94 : tyStruct Try.prog 94 = some #[{ name := "next", type := 31, offset := 0, embedded := false, tag := "", pkgPath := "marquee/script", byteOffset := 0 }, { name := "left", type := 31, offset := 1, embedded := false, tag := "", pkgPath := "marquee/script", byteOffset := 8 }] := by kernel_rfl
theorem pst54 : tyStruct Try.prog 54 = some #[{ name := "Rows", type := 3, offset := 0, embedded := false, tag := "", pkgPath := "", byteOffset := 0 }, { name := "Cols", type := 3, offset := 1, embedded := false, tag := "", pkgPath := "", byteOffset := 8 }, { name := "Sources", type := 50, offset := 2, embedded := false, tag := "", pkgPath := "", byteOffset := 16 }, { name := "Regs", type := 52, offset := 3, embedded := false, tag := "", pkgPath := "", byteOffset := 40 }, { name := "Ring", type := 3, offset := 8, embedded := false, tag := "", pkgPath := "", byteOffset := 48 }] := by kernel_rfl
theorem pst83 : tyStruct Try.prog 83 = some #[{ name := "Level", type := 51, offset := 0, embedded := false, tag := "", pkgPath := "", byteOffset := 0 }, { name := "Trusted", type := 4, offset := 1, embedded := false, tag := "", pkgPath := "", byteOffset := 1 }, { name := "Pane", type := 81, offset := 2, embedded := false, tag := "", pkgPath := "", byteOffset := 8 }] := by kernel_rfl
theorem pst86 : tyStruct Try.prog 86 = some #[{ name := "Kind", type := 3, offset := 0, embedded := false, tag := "", pkgPath := "", byteOffset := 0 }, { name := "Source", type := 3, offset := 1, embedded := false, tag := "", pkgPath := "", byteOffset := 8 }, { name := "Bytes", type := 9, offset := 2, embedded := false, tag := "", pkgPath := "", byteOffset := 16 }, { name := "Level", type := 51, offset := 3, embedded := false, tag := "", pkgPath := "", byteOffset := 32 }, { name := "Rect", type := 81, offset := 4, embedded := false, tag := "", pkgPath := "", byteOffset := 40 }, { name := "What", type := 3, offset := 8, embedded := false, tag := "", pkgPath := "", byteOffset := 72 }] := by kernel_rfl
theorem pst57 : tyStruct Try.prog 57 = some #[{ name := "Setup", type := 54, offset := 0, embedded := false, tag := "", pkgPath := "", byteOffset := 0 }, { name := "Events", type := 55, offset := 9, embedded := false, tag := "", pkgPath := "", byteOffset := 56 }] := by kernel_rfl
theorem pst81 : tyStruct Try.prog 81 = some #[{ name := "Top", type := 3, offset := 0, embedded := false, tag := "", pkgPath := "", byteOffset := 0 }, { name := "Left", type := 3, offset := 1, embedded := false, tag := "", pkgPath := "", byteOffset := 8 }, { name := "Rows", type := 3, offset := 2, embedded := false, tag := "", pkgPath := "", byteOffset := 16 }, { name := "Cols", type := 3, offset := 3, embedded := false, tag := "", pkgPath := "", byteOffset := 24 }] := by kernel_rfl
theorem pb5 : bytesT Try.prog 5 = some 1 := by kernel_rfl
theorem pu3 : Try.prog.underlying 3 = some (.int .i64) := by kernel_rfl
theorem pu4 : Try.prog.underlying 4 = some .bool := by kernel_rfl
theorem b_83 : bytesT Try.prog 83 = some 40 := by kernel_rfl
theorem b_86 : bytesT Try.prog 86 = some 80 := by kernel_rfl
theorem b_81 : bytesT Try.prog 81 = some 32 := by kernel_rfl
set_option linter.defProp false in
/-- facts of types, in one -/
def TYA := And.intro @pz94 (And.intro @ps94 (And.intro @pa94 (And.intro @pz81 (And.intro @ps81 (And.intro @pa81 (And.intro @pz83 (And.intro @ps83 (And.intro @pa83 (And.intro @pz52 (And.intro @ps52 (And.intro @pa52 (And.intro @pz86 (And.intro @ps86 (And.intro @pa86 (And.intro @pz54 (And.intro @ps54 (And.intro @pa54 (And.intro @pz57 (And.intro @ps57 (And.intro @pa57 (And.intro @pz38 (And.intro @ps38 (And.intro @pa38 (And.intro @pz50 (And.intro @ps50 (And.intro @pa50 (And.intro @pz55 (And.intro @ps55 (And.intro @pa55 (And.intro @pz79 (And.intro @ps79 (And.intro @pa79 (And.intro @pz31 (And.intro @ps31 (And.intro @pa31 (And.intro @pz3 (And.intro @ps3 (And.intro @pa3 (And.intro @pz51 (And.intro @ps51 (And.intro @pa51 (And.intro @pz5 (And.intro @ps5 (And.intro @pa5 (And.intro @pz4 (And.intro @ps4 (And.intro @pa4 (And.intro @pz9 (And.intro @ps9 (And.intro @pa9 (And.intro @pt38 (And.intro @pi38 (And.intro @pt50 (And.intro @pi50 (And.intro @pt55 (And.intro @pi55 (And.intro @pt79 (And.intro @pi79 (And.intro @pt3 (And.intro @pt5 (And.intro @pt9 (And.intro @pt31 (And.intro @pt51 (And.intro @pt94 (And.intro @par52 (And.intro @pstr9 (And.intro @pst94 (And.intro @pst54 (And.intro @pst83 (And.intro @pst86 (And.intro @pst57 (And.intro @pst81 (And.intro @Try.underlying94 (And.intro @Try.underlying54 (And.intro @Try.underlying83 (And.intro @Try.underlying86 (And.intro @Try.underlying57 (And.intro @Try.underlying81 (And.intro @Try.underlying52 (And.intro @Try.underlying51 (And.intro @Try.underlying5 (@Try.underlying9))))))))))))))))))))))))))))))))))))))))))))))))))))))))))))))))))))))))))))))))))
attribute [go_sem] TYA
end Go.Proofs.Ytpfmoolpeecobaa
namespace Go.Proofs.Ytpfmoolpeecobaa
open Go Go.Proofs Go.Proofs.Ytpfmoolpeecobaa.Ev
set_option linter.unusedVariables false
set_option linter.unusedSimpArgs false
set_option maxRecDepth 100000
set_option maxHeartbeats 4000000

theorem T_set_self {α : Type} (t : T α) : ∀ (n : Nat) (x : α), t.get n = some x → t.set n x = t := by
  induction t with
  | leaf => intro n x h; simp [T.get_leaf] at h
  | node l v r il ir =>
    intro n x h
    rw [T.get_node] at h
    rw [T.set_node]
    by_cases h0 : n = 0
    · rw [if_pos h0] at h ⊢; rw [h]
    · rw [if_neg h0] at h ⊢
      by_cases h1 : n % 2 = 1
      · rw [if_pos h1] at h ⊢; rw [il _ _ h]
      · rw [if_neg h1] at h ⊢; rw [ir _ _ h]

/-- one call that is known -/
noncomputable def oneTP (f : FuncId) (args : List V) (L : Heap) (v : V) (L' : Heap) : Tab := by
  classical exact fun f' args' L0 => if f' = f ∧ args' = args ∧ L0 = L then some (v, L') else none
theorem oneT_okP {f : FuncId} {args : List V} {L : Heap} {v : V} {L' : Heap} (h : ACall Try.prog f args L v L') : TabOk Try.prog (oneTP f args L v L') := by
  intro f' args' L0 v' L1 e
  unfold oneTP at e
  split at e
  · rename_i hc
    obtain ⟨rfl, rfl, rfl⟩ := hc
    simp only [Option.some.injEq, Prod.mk.injEq] at e
    obtain ⟨rfl, rfl⟩ := e
    exact h
  · cases e
theorem oneT_sameP (f : FuncId) (args : List V) (L : Heap) (v : V) (L' : Heap) : oneTP f args L v L' f args L = some (v, L') := by simp [oneTP]
theorem oneT_neP {f f' : FuncId} (h : f' ≠ f) (args args' : List V) (L L0 : Heap) (v : V) (L' : Heap) : oneTP f args L v L' f' args' L0 = none := by simp [oneTP, h]
theorem oneT_neHP {L L0 : Heap} (h : L0 ≠ L) (f : FuncId) (args args' : List V) (v : V) (L' : Heap) : oneTP f args L v L' f args' L0 = none := by simp [oneTP, h]
theorem oneT_neAP {args args' : List V} (h : args' ≠ args) (f : FuncId) (L L0 : Heap) (v : V) (L' : Heap) : oneTP f args L v L' f args' L0 = none := by simp [oneTP, h]

/-- the next byte; nought behind their end -/
def hd0 (bs : List Int) : Int := bs.headD 0
/-- the cell of a reader's bytes -/
noncomputable def rcell (v : V) : Blk := .cells (T.set .leaf 0 [v]) 1 1 false false
def rdV (c : Nat) : V := .agg [.func 65 [] [.ptr c 0], .func 66 [] [.ptr c 0]]
noncomputable def setRd (L : Heap) (c : Nat) (v : V) : Heap := ⟨L.t.set c (rcell v), L.next⟩
/-- the bytes behind the next one -/
def nextV : V → V
  | .slice n o len cap q => if len = 0 then .slice n o len cap q else if q = true then .slice n (o + 1) (len - 1) (cap + 1) true else .slice n (if cap = 1 then o else o + 1) (len - 1) (cap - 1) false
  | v => v
/-- a row of bytes, in an older block than c -/
def Bs (c : Nat) (L : Heap) (v : V) (bs : List Int) : Prop :=
  (v = .nils ∧ bs = []) ∨ ∃ n o cap q, v = .slice n o bs.length cap q ∧ n < L.next ∧ n < c ∧ (q = false → bs.length ≤ cap) ∧ ∀ (i : Nat) (x : Int), bs[i]? = some x → Heap.load Try.prog L 5 n (o + i) = some (.int .u8 x)
theorem load_same {L L' : Heap} {n off : Nat} {ty : TypeId} (h : L'.t.get n = L.t.get n) : Heap.load Try.prog L' ty n off = Heap.load Try.prog L ty n off := by
  unfold Heap.load Heap.elem; rw [h]
/-- what is not at c stays -/
def KX (c : Nat) (L L' : Heap) : Prop := L.next ≤ L'.next ∧ ∀ n, n < L.next → n ≠ c → L'.t.get n = L.t.get n
theorem KX.refl (c : Nat) (L : Heap) : KX c L L := ⟨Nat.le_refl _, fun _ _ _ => rfl⟩
theorem KX.trans {c : Nat} {L L1 L2 : Heap} (h : KX c L L1) (h' : KX c L1 L2) : KX c L L2 := ⟨Nat.le_trans h.1 h'.1, fun n hn hc => (h'.2 n (Nat.lt_of_lt_of_le hn h.1) hc).trans (h.2 n hn hc)⟩
theorem KX.setRd (c : Nat) (L : Heap) (v : V) : KX c L (setRd L c v) := ⟨Nat.le_refl _, fun n _ hc => T.get_set_ne _ _ hc⟩
theorem KX.new (c : Nat) (L : Heap) (b : Blk) : KX c L ⟨L.t.set L.next b, L.next + 1⟩ := ⟨Nat.le_succ _, fun n hn _ => T.get_set_ne _ _ (by omega)⟩
theorem Bs.keep {c : Nat} {L L' : Heap} {v : V} {bs : List Int} (h : Bs c L v bs) (hk : KX c L L') : Bs c L' v bs := by
  rcases h with h | ⟨n, o, cap, q, rfl, hn, hnc, hc, hx⟩
  · exact .inl h
  · exact .inr ⟨n, o, cap, q, rfl, Nat.lt_of_lt_of_le hn hk.1, hnc, hc, fun i x hi => by rw [load_same (hk.2 n hn (by omega))]; exact hx i x hi⟩
theorem Bs.still {c : Nat} {L L' : Heap} {v : V} {bs : List Int} (h : Bs c L v bs) (hn : L.next ≤ L'.next) (hk : ∀ n, n < c → n < L.next → L'.t.get n = L.t.get n) : Bs c L' v bs := by
  rcases h with h | ⟨n, o, cap, q, rfl, hn', hnc, hc, hx⟩
  · exact .inl h
  · exact .inr ⟨n, o, cap, q, rfl, Nat.lt_of_lt_of_le hn' hn, hnc, hc, fun i x hi => by rw [load_same (hk n hnc hn')]; exact hx i x hi⟩
theorem Bs.next {c : Nat} {L : Heap} {v : V} {bs : List Int} (h : Bs c L v bs) : Bs c L (nextV v) bs.tail := by
  rcases h with ⟨rfl, rfl⟩ | ⟨n, o, cap, q, rfl, hn, hnc, hc, hx⟩
  · exact .inl ⟨rfl, rfl⟩
  · cases bs with
    | nil => exact .inr ⟨n, o, cap, q, by simp [nextV], hn, hnc, hc, hx⟩
    | cons b t =>
      have hx' : ∀ (off : Nat), (off = o + 1 ∨ t = []) → ∀ (i : Nat) (x : Int), t[i]? = some x → Heap.load Try.prog L 5 n (off + i) = some (.int .u8 x) := by
        intro off ho i x hi
        rcases ho with rfl | rfl
        · have := hx (i + 1) x (by simpa using hi)
          rw [show o + 1 + i = o + (i + 1) by omega]; exact this
        · simp at hi
      cases q with
      | true => exact .inr ⟨n, o + 1, cap + 1, true, by simp [nextV], hn, hnc, fun h => (by cases h), hx' _ (.inl rfl)⟩
      | false =>
        have hc := hc rfl
        simp only [List.length_cons] at hc
        refine .inr ⟨n, if cap = 1 then o else o + 1, cap - 1, false, by simp [nextV], hn, hnc, fun _ => by show t.length ≤ _; omega, hx' _ ?_⟩
        split
        · right; cases t with
          | nil => rfl
          | cons a b => simp at hc; omega
        · exact .inl rfl
theorem Bs.low {c : Nat} {L : Heap} {v : V} {bs : List Int} (h : Bs c L v bs) : v.low L.next = true := by
  rcases h with ⟨rfl, rfl⟩ | ⟨n, o, cap, q, rfl, hn, hnc, hc, hx⟩
  · rfl
  · simp [V.low, hn]

/-- a reader stands: its cell, and the bytes that are left -/
structure Rd (L : Heap) (c : Nat) (v : V) (bs : List Int) : Prop where
  cell : L.t.get c = some (rcell v)
  lt : c < L.next
  row : Bs c L v bs
  range : ∀ x ∈ bs, 0 ≤ x ∧ x ≤ 255
theorem Rd.keep {L L' : Heap} {c : Nat} {v : V} {bs : List Int} (h : Rd L c v bs) (hk : KX c L L') (hc : L'.t.get c = L.t.get c) : Rd L' c v bs :=
  ⟨by rw [hc, h.cell], Nat.lt_of_lt_of_le h.lt hk.1, h.row.keep hk, h.range⟩
theorem Rd.new {L : Heap} {c : Nat} {v : V} {bs : List Int} (h : Rd L c v bs) (b : Blk) : Rd ⟨L.t.set L.next b, L.next + 1⟩ c v bs :=
  h.keep (KX.new c L b) (T.get_set_ne _ _ (by have := h.lt; omega))
theorem Rd.next {L : Heap} {c : Nat} {v : V} {bs : List Int} (h : Rd L c v bs) : Rd (setRd L c (nextV v)) c (nextV v) bs.tail :=
  ⟨T.get_set_same _ _ _, h.lt, h.row.next.keep (KX.setRd c L _), fun x hx => h.range x (List.mem_of_mem_tail hx)⟩
theorem Rd.head {L : Heap} {c : Nat} {v : V} {bs : List Int} (h : Rd L c v bs) : 0 ≤ hd0 bs ∧ hd0 bs ≤ 255 := by
  cases bs with
  | nil => simp [hd0]
  | cons b t => exact h.range b (List.mem_cons_self ..)
theorem Rd.len {L : Heap} {c : Nat} {v : V} {bs : List Int} (h : Rd L c v bs) (L' : Heap) : Ev.builtinQ Try.prog .len #[38] [v] L' = some (.int .i64 (bs.length : Int)) := by
  rcases h.row with ⟨rfl, rfl⟩ | ⟨n, o, cap, q, rfl, hn, hnc, hc, hx⟩ <;> simp [Ev.builtinQ, pt38]

theorem left_ok {L : Heap} {c : Nat} {v : V} {bs : List Int} (h : Rd L c v bs) : ACall Try.prog 66 [.ptr c 0] L (.int .i64 (bs.length : Int)) L := by
  have hc := h.cell
  unfold rcell at hc
  refine ACall.of_body_same Try.func66 rfl ?_
  refine ACode.seq (ACode.regS noT_ok names_ok mix (t' := ?_) (L' := ?_) [0] (by rfl) ?_ ?_)
  rotate_left 2
  · refine sq rfl rfl rfl (by simp [go_sem, X, Try.f66]; rfl) ?_
    rfl
  refine ACode.seq (ACode.regS noT_ok names_ok mix (t' := ?_) (L' := ?_) [0, 1, 2] (by rfl) ?_ ?_)
  rotate_left 2
  · iterate 3 (refine sq rfl rfl rfl (by simp [go_sem, xl, xs, xe, xa, xi, xo, xb, xv, xc, xk, hc, h.len, Try.f66]; rfl) ?_)
    rfl
  exact ACode.ret ⟨.inr rfl, [.int .i64 (bs.length : Int)], rfl, by simp [Try.f66, resVals, tget_set], rfl⟩
theorem next_ok {L : Heap} {c : Nat} {v : V} {bs : List Int} (h : Rd L c v bs) : ACall Try.prog 65 [.ptr c 0] L (.int .i64 (hd0 bs)) (setRd L c (nextV v)) := by
  have hc := h.cell
  have hlen := h.len
  have hhd := h.head
  refine ACall.of_body_same Try.func65 rfl ?_
  refine ACode.seq (ACode.regS noT_ok names_ok mix (t' := ?_) (L' := ?_) [0] (by rfl) ?_ ?_)
  rotate_left 2
  · refine sq rfl rfl rfl (by simp [go_sem, X, Try.f65]; rfl) ?_
    rfl
  refine ACode.seq ?_
  rcases h.row with ⟨rfl, rfl⟩ | ⟨n, o, cap, q, rfl, hn, hnc, hcap, hx⟩
  ·
    have hself : setRd L c (nextV .nils) = L := by show (⟨_, _⟩ : Heap) = _; rw [show nextV .nils = .nils from rfl, T_set_self _ _ _ h.cell]
    rw [hself]
    unfold rcell at hc
    refine ACode.seq (ACode.regS noT_ok names_ok mix (t' := ?_) (L' := ?_) [0, 1, 2] (by rfl) ?_ ?_)
    rotate_left 2
    · iterate 3 (refine sq rfl rfl rfl (by simp [go_sem, X, hc, Try.f65]; rfl) ?_)
      rfl
    refine ACode.condF (by simp [tget_set, opd]) (ACode.skip ?_)
    show ACode _ _ _ _ _ _ _
    refine ACode.seq (ACode.regS noT_ok names_ok mix (t' := ?_) (L' := ?_) [0, 1] (by rfl) ?_ ?_)
    rotate_left 2
    · iterate 2 (refine sq rfl rfl rfl (by simp [go_sem, X, Try.f65]; rfl) ?_)
      rfl
    exact ACode.ret ⟨.inr rfl, [.int .i64 0], rfl, by simp [Try.f65, resVals, tget_set], rfl⟩
  cases bs with
  | nil =>
    have hself : setRd L c (nextV (.slice n o ([] : List Int).length cap q)) = L := by show (⟨_, _⟩ : Heap) = _; rw [show nextV (.slice n o ([] : List Int).length cap q) = .slice n o ([] : List Int).length cap q from rfl, T_set_self _ _ _ h.cell]
    rw [hself]
    unfold rcell at hc
    refine ACode.seq (ACode.regS noT_ok names_ok mix (t' := ?_) (L' := ?_) [0, 1, 2] (by rfl) ?_ ?_)
    rotate_left 2
    · iterate 3 (refine sq rfl rfl rfl (by simp [go_sem, X, hc, Try.f65]; rfl) ?_)
      rfl
    refine ACode.condF (by simp [tget_set, opd]) (ACode.skip ?_)
    show ACode _ _ _ _ _ _ _
    refine ACode.seq (ACode.regS noT_ok names_ok mix (t' := ?_) (L' := ?_) [0, 1] (by rfl) ?_ ?_)
    rotate_left 2
    · iterate 2 (refine sq rfl rfl rfl (by simp [go_sem, X, Try.f65]; rfl) ?_)
      rfl
    exact ACode.ret ⟨.inr rfl, [.int .i64 0], rfl, by simp [Try.f65, resVals, tget_set], rfl⟩
  | cons b t =>
    have hy := hx 0 b rfl
    rw [Nat.add_zero] at hy
    have hhd : 0 ≤ b ∧ b ≤ 255 := hhd
    have hw : IntKind.i64.wrap b = b := Go.IntWalk.i64_in _ (by omega)
    have h0 : (0 : Int) < (((b :: t).length : Nat) : Int) := by simp [List.length_cons]
    have h1 : 0 < (b :: t).length := by simp
    have hidx : Ev.indexAddr Try.prog 38 (.slice n o (b :: t).length cap q) (.int .i64 0) = some (.ptr n o) := by
      simp [Ev.indexAddr, pt38, ps5, idx_0, blt_dec, guardO]
    have hsl : Ev.sliceOp Try.prog 38 (.slice n o (b :: t).length cap q) (some (.int .i64 1)) none none = some (nextV (.slice n o (b :: t).length cap q)) := by
      cases q with
      | true => simp [Ev.sliceOp, pt38, ps5, guardO, Ev.bound, idx_1, blt_dec, nextV]
      | false => simp [Ev.sliceOp, pt38, ps5, guardO, Ev.bound, idx_1, blt_dec, nextV]
    generalize hvv : V.slice n o (b :: t).length cap q = vv at *
    have hsc : (nextV vv).scalar = true := by rw [← hvv]; simp only [nextV]; split <;> (try split) <;> rfl
    have hcs : (nextV vv).cells = [nextV vv] := by rw [← hvv]; simp only [nextV]; split <;> (try split) <;> rfl
    unfold rcell at hc
    have hld : Heap.load Try.prog L 38 c 0 = some vv := by simp [Heap.load, Heap.elem, hc, T.get_set, Ev.part, ps38, pa38]
    have hov : Ev.over [nextV vv] [vv] = some [nextV vv] := rfl
    refine ACode.seq (ACode.regS noT_ok names_ok mix (t' := ?_) (L' := ?_) [0, 1, 2] (by rfl) ?_ ?_)
    rotate_left 2
    · iterate 3 (refine sq rfl rfl rfl (by simp [go_sem, xl, xs, xe, xa, xi, xo, xb, xv, xc, xk, hc, hlen, h0, h1, Try.f65]; rfl) ?_)
      rfl
    refine ACode.condT (by simp [tget_set, opd]) ?_
    refine ACode.regD noT_ok names_ok mix (t' := ?_) (L' := ?_) [0,1,3,7,0,16,15,127] [0,1,2,3,4,5,6,7] (by decide +kernel) (by decide +kernel) (by decide +kernel) ?_ ?_
    rotate_left 2
    · refine dr rfl rfl rfl rfl (by simp [go_sem, xs, xi, xb, xv, hc, hld, hy, hidx, hsl, hw, hsc, hcs, pu3, Try.f65]; rfl) ?_
      refine dq rfl rfl rfl rfl (by simp [go_sem, xs, xi, xb, xv, hc, hld, hy, hidx, hsl, hw, hsc, hcs, pu3, Try.f65]; rfl) ?_
      iterate 3 (refine dr rfl rfl rfl rfl (by simp [go_sem, xs, xi, xb, xv, hc, hld, hy, hidx, hsl, hw, hsc, hcs, pu3, Try.f65]; rfl) ?_)
      iterate 2 (refine dq rfl rfl rfl rfl (by simp [go_sem, xs, xi, xb, xv, hc, hld, hy, hidx, hsl, hw, hsc, hcs, pu3, Try.f65]; rfl) ?_)
      refine dl rfl rfl rfl rfl (by simp [go_sem, xs, xi, xb, xv, hc, hld, hy, hidx, hsl, hw, hsc, hcs, pu3, Try.f65]; rfl) (by rfl) (by simp [go_sem, xs, xi, xb, xv, hc, hld, hy, hidx, hsl, hw, hsc, hcs, pu3, Try.f65]) ?_
      rfl
    show ACode _ _ _ _ _ (setRd L c (nextV vv)) _
    refine ACode.seq (ACode.regS noT_ok names_ok mix (t' := ?_) (L' := ?_) [0, 1] (by rfl) ?_ ?_)
    rotate_left 2
    · iterate 2 (refine sq rfl rfl rfl (by simp [go_sem, X, Try.f65]; rfl) ?_)
      rfl
    exact ACode.ret ⟨.inr rfl, [.int .i64 b], rfl, by simp [Try.f65, resVals, tget_set], rfl⟩
end Go.Proofs.Ytpfmoolpeecobaa
namespace Go.Proofs.Ytpfmoolpeecobaa
open Go Go.Proofs Go.Proofs.Ytpfmoolpeecobaa.Ev
set_option linter.unusedVariables false
set_option linter.unusedSimpArgs false
set_option maxRecDepth 100000
set_option maxHeartbeats 4000000

theorem rcell_low {nx : Nat} {v : V} (h : v.low nx = true) : (rcell v).low nx :=
  ⟨rfl, fun e l hl => by
    rw [T.get_set] at hl
    split at hl
    · injection hl with hl; subst hl; simp [V.lows, h]
    · simp [T.get_leaf] at hl⟩
/-- a call that reads: all that it leaves is the reader's cell -/
theorem tidyR {L L1 : Heap} {c : Nat} {v : V} (hc : c < L.next) (hv : v.low L.next = true) (h1 : L1.t.get c = some (rcell v)) (hk : ∀ n, n < L.next → n ≠ c → L1.t.get n = L.t.get n) : Tidy2 L L1 (setRd L c v) [] := by
  refine Tidy2.zero (T0 := L.t.set c (rcell v)) ?_ ?_ ?_
  · intro n hn
    rw [T.get_set]
    split
    · rename_i e; subst e; exact h1.symm
    · rename_i e; exact (hk n hn e).symm
  · intro n b hn hb
    by_cases e : n = c
    · subst e; rw [h1] at hb; injection hb with hb; subst hb; exact .inr (rcell_low hv)
    · rw [hk n hn e] at hb; exact .inl hb
  · intro n hn
    exact T.get_set_ne _ _ (by omega)
/-- the block of a boxed reader -/
noncomputable def boxB (c : Nat) : Blk := .cells (T.set .leaf 0 [.func 65 [] [.ptr c 0], .func 66 [] [.ptr c 0]]) 1 2 false false
theorem Bs.next_low {c : Nat} {L : Heap} {v : V} {bs : List Int} (h : Bs c L v bs) : (nextV v).low L.next = true := by
  have := h.next.low; exact this
theorem below_ok {L : Heap} {c : Nat} {v : V} {bs : List Int} (h : Rd L c v bs) (m : Int) (hm : 0 < m) : ACall Try.prog 67 [rdV c, .int .i64 m] L (.int .i64 (hd0 bs % m)) (setRd L c (nextV v)) := by
  have hr := h.new (boxB c)
  have hn := next_ok hr
  have hhd := h.head
  have hmod : (hd0 bs).tmod m = hd0 bs % m := Int.tmod_eq_emod_of_nonneg hhd.1
  have hm0 : m ≠ 0 := by omega
  unfold rdV
  refine ACall.of_body2 Try.func67 rfl ?_
  refine ACode.seq (ACode.regS noT_ok names_ok mix (t' := ?_) (L' := ?_) [0, 1] (by rfl) ?_ ?_)
  rotate_left 2
  · iterate 2 (refine sq rfl rfl rfl (by simp [go_sem, X, Try.f67]; rfl) ?_)
    rfl
  change ACode _ _ _ _ _ ⟨L.t.set L.next (boxB c), L.next + 1⟩ _
  have hb : (T.set L.t L.next (boxB c)).get L.next = some (.cells (T.set .leaf 0 [.func 65 [] [.ptr c 0], .func 66 [] [.ptr c 0]]) 1 2 false false) := T.get_set_same _ _ _
  have hk1 := KX.new c L (boxB c)
  have hk2 := KX.setRd c ⟨L.t.set L.next (boxB c), L.next + 1⟩ (nextV v)
  generalize hA : (⟨L.t.set L.next (boxB c), L.next + 1⟩ : Heap) = A at *
  have e1 : L.t.set L.next (boxB c) = A.t := by rw [← hA]
  rw [e1] at hb
  refine ACode.seq (ACode.regS (oneT_okP hn) names_ok mix (t' := ?_) (L' := ?_) [0, 1, 2, 3, 4, 5] (by rfl) ?_ ?_)
  rotate_left 2
  · iterate 6 (refine sq rfl rfl rfl (by simp [go_sem, X, hb, oneT_sameP, hmod, hm0, Try.f67]; rfl) ?_)
    rfl
  have hk := hk1.trans hk2
  exact ACode.ret ⟨.inr rfl, _, [.int .i64 (hd0 bs % m)], [], rfl, by simp [Try.f67, resVals, tget_set], tidyR h.lt h.row.next_low (T.get_set_same _ _ _) hk.2, fun κ1 z hz => VR_plain (κ := κ1) _ _ rfl hz⟩

/-! rows that a call makes -/
theorem rowFrom_getP (l : List (List V)) : ∀ (i e : Nat), (rowFrom l i).get e = if i ≤ e then l[e - i]? else none := by
  induction l with
  | nil => intro i e; simp [rowFrom, T.get_leaf]
  | cons x l ih =>
    intro i e
    rw [rowFrom, T.get_set]
    by_cases h : e = i
    · subst h; simp
    · rw [if_neg h, ih]
      by_cases h2 : i + 1 ≤ e
      · rw [if_pos h2, if_pos (by omega), show e - i = (e - (i + 1)) + 1 by omega, List.getElem?_cons_succ]
      · rw [if_neg h2, if_neg (by omega)]
def nmP : V → Option Nat
  | .slice m _ _ _ _ => some m
  | _ => none
section
variable {α : Type} {f : α → List V} {sz lo : Nat} {L L' : Heap} {v x : V} {l new : List α}
def OwnP (sz : Nat) (f : α → List V) (lo : Nat) (L : Heap) (v : V) (l : List α) : Prop :=
  (v = .nils ∧ l = []) ∨ (l ≠ [] ∧ ∃ m, v = .slice m 0 l.length 0 true ∧ lo ≤ m ∧ m < L.next ∧ L.t.get m = some (.cells (rowFrom (l.map f) 0) l.length sz true false))
theorem OwnP.nm_lt (h : OwnP sz f lo L v l) {m : Nat} (hm : nmP v = some m) : lo ≤ m ∧ m < L.next := by
  rcases h with ⟨rfl, _⟩ | ⟨_, k, rfl, h1, h2, _⟩
  · cases hm
  · simp only [nmP, Option.some.injEq] at hm; subst hm; exact ⟨h1, h2⟩
theorem OwnP.still (h : OwnP sz f lo L v l) (hn : L.next ≤ L'.next) (hk : ∀ m, nmP v = some m → L'.t.get m = L.t.get m) : OwnP sz f lo L' v l := by
  rcases h with h | ⟨hne, m, rfl, h1, h2, h3⟩
  · exact .inl h
  · exact .inr ⟨hne, m, rfl, h1, Nat.lt_of_lt_of_le h2 hn, by rw [hk m rfl, h3]⟩
theorem OwnP.keep {c : Nat} (h : OwnP sz f lo L v l) (hc : c < lo) (hk : KX c L L') : OwnP sz f lo L' v l :=
  h.still hk.1 fun m hm => hk.2 m (h.nm_lt hm).2 (by have := (h.nm_lt hm).1; omega)
theorem takeN_all : ∀ (l : List V), takeN l.length l = some l
  | [] => rfl
  | x :: l => by simp [takeN, takeN_all l]
theorem elems_rowP {m n : Nat} {q r : Bool} (hsz : 0 < sz) (hf : ∀ x, (f x).length = sz) (hb : L.t.get m = some (.cells (rowFrom (l.map f) 0) n sz q r)) :
    ∀ (k o : Nat), o + k = l.length → L.elems m (o * sz) sz k = some ((l.drop o).map f) := by
  intro k
  induction k with
  | zero => intro o h; simp [Heap.elems, List.drop_of_length_le (show l.length ≤ o by omega)]
  | succ k ih =>
    intro o h
    have hlt : o < l.length := by omega
    have he : L.elem m (o * sz) = some (f l[o], 0) := by
      simp [Heap.elem, hb, rowFrom_getP, Nat.mul_div_cancel _ hsz, hlt]
    have ht : takeN sz ((f l[o]).drop 0) = some (f l[o]) := by
      rw [List.drop_zero]; conv => lhs; rw [← hf l[o]]
      exact takeN_all _
    simp only [Heap.elems, he, Option.bind_some, ht, Option.map_some]
    rw [show o * sz + sz = (o + 1) * sz by rw [Nat.succ_mul], ih (o + 1) (by omega), List.drop_eq_getElem_cons hlt]
    rfl
theorem OwnP.src (hsz : 0 < sz) (hf : ∀ x, (f x).length = sz) (h : OwnP sz f lo L v l) : srcElems L sz v = some (l.map f) := by
  rcases h with ⟨rfl, rfl⟩ | ⟨hne, m, rfl, h1, h2, h3⟩
  · rfl
  · have := elems_rowP hsz hf h3 l.length 0 (by simp)
    simpa [srcElems] using this
theorem new_openP {T0 : T Blk} {all : List α} (hne : all ≠ []) (hlo : lo ≤ L.next) : OwnP sz f lo (newOpen sz (all.map f) L T0).2 (newOpen sz (all.map f) L T0).1 all :=
  .inr ⟨hne, L.next, by simp [newOpen], hlo, Nat.lt_succ_self _, by simp [newOpen, T.get_set_same]⟩
theorem append_P (hsz : 0 < sz) (hf : ∀ x, (f x).length = sz) (hsc : ∀ x, (f x).all V.scalar = true) {sT e : TypeId} {by_ : Nat} {z : V} (hts : tySlice Try.prog sT = some e) (hss : sizeT Try.prog e = some sz) (hby : bytesT Try.prog e = some by_) (hb64 : by_ ≤ 65536) (hz : zeroV Try.prog e = some z) (hzl : z.cells.length = sz)
    (h : OwnP sz f lo L v l) (hlo : lo ≤ L.next) (hx : srcElems L sz x = some (new.map f)) (hs : l.length + new.length ≤ 16777216) :
    ∃ v' L', Ev.append Try.prog sT v x L = some (v', L') ∧ OwnP sz f lo L' v' (l ++ new) ∧ L.next ≤ L'.next ∧ (∀ n, n < L.next → nmP v ≠ some n → L'.t.get n = L.t.get n) ∧ (nmP v' = nmP v ∨ nmP v' = some L.next) := by
  have hsm : ∀ k, k ≤ 16777216 → small k by_ = true := fun k hk => by simp [small, ble_dec, hk, hb64]
  have hs0 : (sz != 0 && sz == sz) = true := by simp; omega
  unfold Ev.append
  simp only [hts, hss, hby, hz, Option.bind_some, hx, hzl, hs0, guardO_true]
  rcases h with ⟨rfl, rfl⟩ | ⟨hne, m, rfl, h1, h2, h3⟩
  · cases new with
    | nil => exact ⟨.nils, L, rfl, .inl ⟨rfl, rfl⟩, Nat.le_refl _, fun _ _ _ => rfl, .inl rfl⟩
    | cons a r =>
      refine ⟨_, _, ?_, new_openP (f := f) (L := L) (T0 := L.t) (all := a :: r) (by simp) hlo, Nat.le_succ _, fun n hn _ => T.get_set_ne _ _ (by omega), .inr rfl⟩
      simp only [List.map_cons, List.length_cons, List.length_map]
      rw [hsm _ (by simpa using hs)]
      rfl
  · have hold := elems_rowP hsz hf h3 l.length 0 (by simp)
    rw [List.drop_zero, Nat.zero_mul] at hold
    have g0 : (sz == sz && 0 == 0 * sz) = true := by simp
    cases new with
    | nil =>
      refine ⟨.slice m 0 l.length 0 true, L, ?_, .inr ⟨by simpa using hne, m, by simp, h1, h2, by simpa using h3⟩, Nat.le_refl _, fun _ _ _ => rfl, .inl rfl⟩
      have hb : Nat.ble (0 + (l.length + 0) * sz) (l.length * sz) = true := by rw [ble_dec]; simp
      simp only [h3, Option.bind_some, g0, guardO_true, List.map_nil, List.length_nil, hb, Heap.storeElems]
      rfl
    | cons a r =>
      refine ⟨_, _, ?_, new_openP (f := f) (L := L) (T0 := L.t.del m) (all := l ++ a :: r) (by simp) hlo, Nat.le_succ _, fun n hn hnm => ?_, .inr rfl⟩
      · have hsc' : ((a :: r).map f).all (fun x => x.all V.scalar) = true := by
          rw [List.all_map]
          exact List.all_eq_true.2 fun x _ => hsc x
        have hb : Nat.ble (0 + (l.length + ((a :: r).map f).length) * sz) (l.length * sz) = false := by
          rw [ble_dec]
          have : l.length * sz < (l.length + ((a :: r).map f).length) * sz := Nat.mul_lt_mul_of_pos_right (by simp) hsz
          simp only [decide_eq_false_iff_not]; omega
        have hb2 : (0 + l.length * sz == l.length * sz) = true := by simp
        have hsm2 : small (l.length + ((a :: r).map f).length) by_ = true := hsm _ (by simpa using hs)
        simp only [h3, Option.bind_some, g0, guardO_true, hb, hb2, hsm2, hsc', Bool.and_self, hold, Option.map_some, List.map_append]
      · show T.get _ n = _
        have hnm' : n ≠ m := fun e => hnm (by rw [e]; rfl)
        rw [show (newOpen sz ((l ++ a :: r).map f) L (L.t.del m)).2.t = (L.t.del m).set L.next _ from rfl, T.get_set_ne _ _ (by omega), T.get_del, if_neg hnm']
/-- the row, as a new block of a heap -/
noncomputable def rowsVP (L : Heap) (l : List α) : V := match l with
  | [] => .nils
  | x :: r => .slice L.next 0 (x :: r).length 0 true
noncomputable def rowsHP (sz : Nat) (f : α → List V) (L : Heap) (l : List α) : Heap := match l with
  | [] => L
  | x :: r => ⟨L.t.set L.next (.cells (rowFrom ((x :: r).map f) 0) (x :: r).length sz true false), L.next + 1⟩
end
theorem VR_slice_newP {κ : KM} {nx m : Nat} {o len cap : Nat} {q : Bool} {z : Value} (h : VR κ (.slice m o len cap q) z) : VR (tidyK κ nx [m]) (.slice nx o len cap q) z := by
  simp only [VR] at h ⊢
  obtain ⟨k, a, c, hk, e3⟩ := h
  exact ⟨k, a, c, by simp [tidyK, hk], e3⟩
theorem rows_low {α : Type} {f : α → List V} {nx : Nat} (hf : ∀ x, V.lows nx (f x) = true) (l : List α) (n sz : Nat) (q : Bool) : (Blk.cells (rowFrom (l.map f) 0) n sz q false).low nx :=
  ⟨rfl, fun e x hx => by
    rw [rowFrom_getP] at hx
    simp only [Nat.zero_le, if_true, Nat.sub_zero, List.getElem?_map, Option.map_eq_some_iff] at hx
    obtain ⟨y, _, rfl⟩ := hx
    exact hf y⟩
/-- a call that reads, and hands back a row -/
theorem end_rowsP {α : Type} {f : α → List V} {sz : Nat} {L L1 : Heap} {c : Nat} {v v' : V} {l : List α} (hf : ∀ x, V.lows L.next (f x) = true) (hc : c < L.next) (hv : v.low L.next = true) (h1 : L1.t.get c = some (rcell v)) (hk : ∀ n, n < L.next → n ≠ c → L1.t.get n = L.t.get n) (hO : OwnP sz f L.next L1 v' l) :
    ∃ ms, Tidy2 L L1 (rowsHP sz f (setRd L c v) l) ms ∧ ∀ (κ1 : KM) (z : Value), VR κ1 v' z → VR (tidyK κ1 L.next ms) (rowsVP (setRd L c v) l) z := by
  have h0 := tidyR hc hv h1 hk
  rcases hO with ⟨rfl, rfl⟩ | ⟨hne, m, rfl, h2, h3, h4⟩
  · exact ⟨[], h0, fun κ1 z hz => VR_plain (κ := κ1) _ _ rfl hz⟩
  · cases l with
    | nil => exact absurd rfl hne
    | cons x r => exact ⟨[m], Tidy2.one (T0 := L.t.set c (rcell v)) h0.old h0.chg (fun n hn => T.get_set_ne _ _ (by omega)) h2 h4 (rows_low hf _ _ _ _), fun κ1 z hz => VR_slice_newP hz⟩
end Go.Proofs.Ytpfmoolpeecobaa
namespace Go.Proofs.Ytpfmoolpeecobaa
open Go Go.Proofs Go.Proofs.Ytpfmoolpeecobaa.Ev
set_option maxRecDepth 1000000
theorem works28_ran : isT (ev Try.prog 20000 (.call 28 [] ⟨.leaf, 0⟩)) = true := by decide +kernel
theorem works28_ok (L : Heap) : ACall Try.prog 28 [] L (.bool true) L := by
  obtain ⟨L1, h⟩ := isT_iff works28_ran
  exact (ACall.of_ev names_ok mix h).lift rfl rfl L
end Go.Proofs.Ytpfmoolpeecobaa
