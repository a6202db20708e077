/- Rows and grids (133, 126, 127, 119). -/
import Derived.Test.YtpfmoolpeecobaaV13
namespace Go.Proofs.Ytpfmoolpeecobaa
open Go Go.Proofs Go.Proofs.Ytpfmoolpeecobaa.Ev
set_option linter.unusedVariables false
set_option linter.unusedSimpArgs false
set_option maxRecDepth 100000
set_option maxHeartbeats 4000000

theorem qz205 : zeroV Try.prog 205 = some (.agg [.int .u8 0, .int .u8 0, .int .u8 0, .int .u8 0]) := by kernel_rfl
theorem qs205 : sizeT Try.prog 205 = some 4 := by kernel_rfl
theorem qa205 : isAggT Try.prog 205 = some true := by kernel_rfl
theorem qt205 : tySlice Try.prog 205 = none := by kernel_rfl
theorem qi205 : tyInt Try.prog 205 = none := by kernel_rfl
theorem qf205 : tyStruct Try.prog 205 = some #[{ name := "Kind", type := 5, offset := 0, embedded := false, tag := "", pkgPath := "", byteOffset := 0 }, { name := "R", type := 5, offset := 1, embedded := false, tag := "", pkgPath := "", byteOffset := 1 }, { name := "G", type := 5, offset := 2, embedded := false, tag := "", pkgPath := "", byteOffset := 2 }, { name := "B", type := 5, offset := 3, embedded := false, tag := "", pkgPath := "", byteOffset := 3 }] := by kernel_rfl
theorem qz207 : zeroV Try.prog 207 = some (.agg [.int .u8 0, .int .u8 0, .int .u8 0, .int .u8 0, .int .u8 0, .int .u8 0, .int .u8 0, .int .u8 0, .int .u16 0]) := by kernel_rfl
theorem qs207 : sizeT Try.prog 207 = some 9 := by kernel_rfl
theorem qa207 : isAggT Try.prog 207 = some true := by kernel_rfl
theorem qt207 : tySlice Try.prog 207 = none := by kernel_rfl
theorem qi207 : tyInt Try.prog 207 = none := by kernel_rfl
theorem qf207 : tyStruct Try.prog 207 = some #[{ name := "Fg", type := 205, offset := 0, embedded := false, tag := "", pkgPath := "", byteOffset := 0 }, { name := "Bg", type := 205, offset := 4, embedded := false, tag := "", pkgPath := "", byteOffset := 4 }, { name := "Flags", type := 48, offset := 8, embedded := false, tag := "", pkgPath := "", byteOffset := 8 }] := by kernel_rfl
theorem qz231 : zeroV Try.prog 231 = some (.nilp) := by kernel_rfl
theorem qs231 : sizeT Try.prog 231 = some 1 := by kernel_rfl
theorem qa231 : isAggT Try.prog 231 = some false := by kernel_rfl
theorem qt231 : tySlice Try.prog 231 = none := by kernel_rfl
theorem qi231 : tyInt Try.prog 231 = none := by kernel_rfl
theorem qz243 : zeroV Try.prog 243 = some (.agg [.int .i32 0, .int .i32 0]) := by kernel_rfl
theorem qs243 : sizeT Try.prog 243 = some 2 := by kernel_rfl
theorem qa243 : isAggT Try.prog 243 = some true := by kernel_rfl
theorem qt243 : tySlice Try.prog 243 = none := by kernel_rfl
theorem qi243 : tyInt Try.prog 243 = none := by kernel_rfl
theorem qr243 : tyArray Try.prog 243 = some (2, 21) := by kernel_rfl
theorem qz245 : zeroV Try.prog 245 = some (.agg [.int .i32 0, .int .i32 0, .int .i32 0, .int .u8 0, .int .u8 0, .int .u8 0, .int .u8 0, .int .u8 0, .int .u8 0, .int .u8 0, .int .u8 0, .int .u8 0, .int .u16 0, .int .u8 0]) := by kernel_rfl
theorem qs245 : sizeT Try.prog 245 = some 14 := by kernel_rfl
theorem qa245 : isAggT Try.prog 245 = some true := by kernel_rfl
theorem qt245 : tySlice Try.prog 245 = none := by kernel_rfl
theorem qi245 : tyInt Try.prog 245 = none := by kernel_rfl
theorem qf245 : tyStruct Try.prog 245 = some #[{ name := "Rune", type := 21, offset := 0, embedded := false, tag := "", pkgPath := "", byteOffset := 0 }, { name := "Marks", type := 243, offset := 1, embedded := false, tag := "", pkgPath := "", byteOffset := 4 }, { name := "Kind", type := 5, offset := 3, embedded := false, tag := "", pkgPath := "", byteOffset := 12 }, { name := "Attr", type := 207, offset := 4, embedded := false, tag := "", pkgPath := "", byteOffset := 14 }, { name := "Label", type := 51, offset := 13, embedded := false, tag := "", pkgPath := "", byteOffset := 24 }] := by kernel_rfl
theorem qz265 : zeroV Try.prog 265 = some (.agg [.nils, .int .i64 0]) := by kernel_rfl
theorem qs265 : sizeT Try.prog 265 = some 2 := by kernel_rfl
theorem qa265 : isAggT Try.prog 265 = some true := by kernel_rfl
theorem qt265 : tySlice Try.prog 265 = none := by kernel_rfl
theorem qi265 : tyInt Try.prog 265 = none := by kernel_rfl
theorem qf265 : tyStruct Try.prog 265 = some #[{ name := "rows", type := 261, offset := 0, embedded := false, tag := "", pkgPath := "marquee/grid", byteOffset := 0 }, { name := "cols", type := 3, offset := 1, embedded := false, tag := "", pkgPath := "marquee/grid", byteOffset := 24 }] := by kernel_rfl
theorem qz271 : zeroV Try.prog 271 = some (.nils) := by kernel_rfl
theorem qs271 : sizeT Try.prog 271 = some 1 := by kernel_rfl
theorem qa271 : isAggT Try.prog 271 = some false := by kernel_rfl
theorem qt271 : tySlice Try.prog 271 = some 245 := by kernel_rfl
theorem qi271 : tyInt Try.prog 271 = none := by kernel_rfl
set_option linter.defProp false in
/-- facts of types, in one -/
def TYH := And.intro @qz205 (And.intro @qs205 (And.intro @qa205 (And.intro @qt205 (And.intro @qi205 (And.intro @qf205 (And.intro @Try.underlying205 (And.intro @qz207 (And.intro @qs207 (And.intro @qa207 (And.intro @qt207 (And.intro @qi207 (And.intro @qf207 (And.intro @Try.underlying207 (And.intro @qz231 (And.intro @qs231 (And.intro @qa231 (And.intro @qt231 (And.intro @qi231 (And.intro @Try.underlying231 (And.intro @qz243 (And.intro @qs243 (And.intro @qa243 (And.intro @qt243 (And.intro @qi243 (And.intro @qr243 (And.intro @Try.underlying243 (And.intro @qz245 (And.intro @qs245 (And.intro @qa245 (And.intro @qt245 (And.intro @qi245 (And.intro @qf245 (And.intro @Try.underlying245 (And.intro @qz265 (And.intro @qs265 (And.intro @qa265 (And.intro @qt265 (And.intro @qi265 (And.intro @qf265 (And.intro @Try.underlying265 (And.intro @qz271 (And.intro @qs271 (And.intro @qa271 (And.intro @qt271 (And.intro @qi271 (@Try.underlying271))))))))))))))))))))))))))))))))))))))))))))))
attribute [go_sem] TYH
theorem qb245 : bytesT Try.prog 245 = some 28 := by kernel_rfl
theorem qb271 : bytesT Try.prog 271 = some 24 := by kernel_rfl
theorem rowOf_get (z : List V) : ∀ (n e : Nat), (rowOf z n).get e = if e < n then some z else none := by
  intro n
  induction n with
  | zero => intro e; simp [rowOf, T.get_leaf]
  | succ n ih =>
    intro e
    rw [rowOf, T.get_set]
    by_cases h : e = n
    · subst h; simp
    · rw [if_neg h, ih]
      by_cases h2 : e < n
      · rw [if_pos h2, if_pos (by omega)]
      · rw [if_neg h2, if_neg (by omega)]
theorem splice_all : ∀ (xs ys : List V), xs.length = ys.length → splice 0 xs ys = some xs
  | xs, ys, h => by
    unfold splice
    exact over_all2 xs ys h
where over_all2 : ∀ (xs ys : List V), xs.length = ys.length → Ev.over xs ys = some xs
  | [], [], h => rfl
  | x :: xs, [], h => by simp at h
  | [], y :: ys, h => by simp at h
  | x :: xs, y :: ys, h => by simp [Ev.over, over_all2 xs ys (by simpa using h)]
/-- a row of blanks: what it is does not matter -/
theorem rowNew_ok (n : Nat) (hn : n ≤ 1000) (cs : List V) (hc : cs.length = 14) (hs : cs.all V.scalar = true) (L : Heap) : ACall Try.prog 133 [.int .i64 (n : Int), .agg cs] L (.slice L.next 0 n n false) (nx L) := by
  have m0 := bmax_r (show (0 : Int) ≤ (n : Int) by omega)
  have hcl : (V.agg cs).cells = cs := rfl
  have htk : takeN 14 cs = some cs := by
    have := takeN_all cs
    rwa [hc] at this
  obtain ⟨A1, hA1⟩ : ∃ A : Heap, A = ⟨L.t.set L.next (.cells (T.set .leaf 0 cs) 1 14 false false), L.next + 1⟩ := ⟨_, rfl⟩
  have n1 : A1.next = L.next + 1 := by rw [hA1]
  have g1 : A1.t.get L.next = some (.cells (T.set .leaf 0 cs) 1 14 false false) := by rw [hA1]; exact T.get_set_same _ _ _
  have k1 : ∀ k, k < L.next → A1.t.get k = L.t.get k := fun k hk => by rw [hA1]; exact T.get_set_ne _ _ (by omega)
  obtain ⟨zc, hz, hzl⟩ : ∃ zc, zeroV Try.prog 245 = some (.agg zc) ∧ zc.length = 14 := ⟨_, qz245, rfl⟩
  refine ACall.of_body_forget Try.func133 rfl ?_
  refine ACode.seq (ACode.regS noT_ok names_ok mix (t' := ?_) (L' := ?_) [0, 1] (by rfl) ?_ ?_)
  rotate_left 2
  · iterate 2 (refine sq rfl rfl rfl (by simp [go_sem, X, hc, Try.f133]; rfl) ?_)
    rfl
  change ACode _ _ _ _ _ ⟨L.t.set L.next (.cells (T.set .leaf 0 cs) 1 14 false false), L.next + 1⟩ _
  rw [← hA1]
  have e1 : idx (.int .i64 (n : Int)) 16777216 = some n := by rw [idx_nat, blt_dec, decide_eq_true (show n < 16777216 by omega)]; rfl
  have e2 : idx (.int .i64 (n : Int)) (n + 1) = some n := by rw [idx_nat, blt_dec, decide_eq_true (show n < n + 1 by omega)]; rfl
  refine ACode.seq (ACode.regS noT_ok names_ok mix (t' := ?_) (L' := ?_) [0, 1, 2, 3] (by rfl) ?_ ?_)
  rotate_left 2
  · iterate 4 (refine sq rfl rfl rfl (by simp [go_sem, xl, xs, xe, xa, xi, xo, xb, xv, xc, xk, m0, e1, e2, hz, hzl, qb245, ble_dec, Try.f133]; rfl) ?_)
    rfl
  obtain ⟨A2, hA2⟩ : ∃ A : Heap, A = ⟨A1.t.set A1.next (.cells (rowOf zc n) n 14 false false), A1.next + 1⟩ := ⟨_, rfl⟩
  have g2 : A2.t.get A1.next = some (.cells (rowOf zc n) n 14 false false) := by rw [hA2]; exact T.get_set_same _ _ _
  have k2 : ∀ k, k < A1.next → A2.t.get k = A1.t.get k := fun k hk => by rw [hA2]; exact T.get_set_ne _ _ (by omega)
  have n2 : A2.next = A1.next + 1 := by rw [hA2]
  change ACode _ _ _ _ _ ⟨A1.t.set A1.next (.cells (rowOf zc n) n 14 false false), A1.next + 1⟩ _
  rw [← hA2]
  refine ACode.seq ?_
  have hlen : ∀ L', Ev.builtinQ Try.prog .len #[271] [.slice A1.next 0 n n false] L' = some (.int .i64 (n : Int)) := fun L' => by simp [Ev.builtinQ, qt271]
  refine ACode.seq (ACode.regS noT_ok names_ok mix (t' := ?_) (L' := ?_) [0, 1, 2] (by rfl) ?_ ?_)
  rotate_left 2
  · iterate 3 (refine sq rfl rfl rfl (by simp [go_sem, xl, xs, xe, xa, xi, xo, xb, xv, xc, xk, hlen, Try.f133]; rfl) ?_)
    rfl
  refine ACode.block (ACode.loop (fun t d A N => d = [] ∧ ∃ (i : Nat) (c : T (List V)), i ≤ n ∧ N = n - i ∧ A.next = A2.next ∧ (∀ k, k < A1.next → A.t.get k = A1.t.get k) ∧ A.t.get A1.next = some (.cells c n 14 false false) ∧ (∀ e, e < n → ∃ l, c.get e = some l ∧ l.length = 14) ∧ tget t 3 = .ptr L.next 0 ∧ tget t 5 = .slice A1.next 0 n n false ∧ tget t 11 = .int .i64 (n : Int) ∧ tget t 12 = .int .i64 (i : Int)) (N := n)
    ⟨rfl, 0, rowOf zc n, Nat.zero_le _, by omega, rfl, k2, g2, fun e he => ⟨zc, by rw [rowOf_get, if_pos he], hzl⟩, by simp [tget_set], by simp [tget_set], by simp [tget_set], by simp [tget_set]⟩ ?_)
  rintro t d A N ⟨rfl, i, c, hi, rfl, hnx, hkp, hR, hcs, t3, t5, t11, t12⟩
  refine ACode.seq (ACode.regS noT_ok names_ok mix (t' := ?_) (L' := ?_) [0] (by rfl) ?_ ?_)
  rotate_left 2
  · refine sq rfl rfl rfl (by simp [go_sem, X, t11, t12, Try.f133]; rfl) ?_
    rfl
  refine ACode.seq (ACode.cond (p := (i : Int) < (n : Int)) (by simp [tget_set, opd]) (fun hil => ACode.skip ?_) (fun hge => ACode.exit ?_))
  rotate_left 1
  ·
    show ACode _ _ _ _ _ _ _
    refine ACode.seq (ACode.regS noT_ok names_ok mix (t' := ?_) (L' := ?_) [0, 1] (by rfl) ?_ ?_)
    rotate_left 2
    · iterate 2 (refine sq rfl rfl rfl (by simp [go_sem, X, t5, Try.f133]; rfl) ?_)
      rfl
    exact ACode.ret ⟨.inr rfl, _, [.slice A1.next 0 n n false], A1.next, rfl, by simp [Try.f133, resVals, tget_set], fun k hk => by rw [hkp k (by omega)]; exact k1 k hk, fun κ1 z hz => VR_slice_f hz⟩
  have hil' : i < n := by omega
  have hw : IntKind.i64.wrap ((i : Int) + 1) = ((i + 1 : Nat) : Int) := by rw [Go.IntWalk.i64_in _ (by omega)]; omega
  obtain ⟨l, hl, hll⟩ := hcs i hil'
  have hix : Ev.indexAddr Try.prog 271 (.slice A1.next 0 n n false) (.int .i64 (i : Int)) = some (.ptr A1.next (i * 14)) := by
    simp [Ev.indexAddr, qt271, qs245, idx_nat, blt_dec, hil', guardO]
  have hld : Heap.load Try.prog A 245 L.next 0 = some (.agg cs) := by
    have : A.t.get L.next = some (.cells (T.set .leaf 0 cs) 1 14 false false) := by rw [hkp _ (by omega)]; exact g1
    simp [Heap.load, Heap.elem, this, T.get_set, Ev.part, qa245, qs245, htk]
  have hst : Heap.store A A1.next (i * 14) cs = some ⟨A.t.set A1.next (.cells (c.set i cs) n 14 false false), A.next⟩ := by
    have hsp := splice_all cs l (by rw [hc, hll])
    simp [Heap.store, hR, hl, guardO, hs, hsp]
  refine ACode.seq (ACode.block ?_)
  refine ACode.seq (ACode.regS noT_ok names_ok mix (t' := ?_) (L' := ?_) [0, 1] (by rfl) ?_ ?_)
  rotate_left 2
  · iterate 2 (refine sq rfl rfl rfl (by simp [go_sem, X, t12, Try.f133]; rfl) ?_)
    rfl
  show ACode _ _ (Code.region _ _ _) _ _ _ _
  refine ACode.regS noT_ok names_ok mix (t' := ?_) (L' := ?_) [0, 1, 2, 3, 4] (by rfl) ?_ ?_
  rotate_left 2
  · iterate 5 (refine sq rfl rfl rfl (by simp [go_sem, xe, xi, xo, xb, xq, xv, xc, xk, t3, t5, hix, hld, hst, hc, Try.f133]; rfl) ?_)
    rfl
  show ACode _ _ (Code.region _ _ _) _ _ _ _
  refine ACode.regS noT_ok names_ok mix (t' := ?_) (L' := ?_) [0, 1] (by rfl) ?_ ?_
  rotate_left 2
  · iterate 2 (refine sq rfl rfl rfl (by simp [go_sem, X, t12, hw, Try.f133]; rfl) ?_)
    rfl
  refine ⟨n - (i + 1), by omega, rfl, i + 1, c.set i cs, by omega, rfl, hnx, fun k hk => ?_, T.get_set_same _ _ _, fun e he => ?_, by simp [tget_set, t3], by simp [tget_set, t5], by simp [tget_set, t11], by simp [tget_set]⟩
  · show T.get (T.set _ _ _) _ = _
    rw [T.get_set_ne _ _ (by omega)]; exact hkp k hk
  · rw [T.get_set]
    split
    · exact ⟨cs, rfl, hc⟩
    · exact hcs e he
theorem may_ok (r c : Int) (hr : 1 ≤ r ∧ r ≤ 512) (hc : 1 ≤ c ∧ c ≤ 512) (L : Heap) : ACall Try.prog 126 [.int .i64 r, .int .i64 c] L (.bool true) L := by
  obtain ⟨m, hm, hm1⟩ : ∃ m : Int, (∀ B, Ev.builtinQ Try.prog .min #[3, 3] [.int .i64 r, .int .i64 c] B = some (.int .i64 m)) ∧ 1 ≤ m := by
    by_cases h : r ≤ c
    · exact ⟨r, bmin_l h, hr.1⟩
    · exact ⟨c, bmin_r (by omega), hc.1⟩
  refine ACall.of_body_same Try.func126 rfl ?_
  refine ACode.seq (ACode.regS noT_ok names_ok mix (t' := ?_) (L' := ?_) [0] (by rfl) ?_ ?_)
  rotate_left 2
  · refine sq rfl rfl rfl (by simp [go_sem, X, Try.f126]; rfl) ?_
    rfl
  refine ACode.seq (ACode.regS noT_ok names_ok mix (t' := ?_) (L' := ?_) [0, 1, 2, 3, 4, 5, 6, 7, 8, 9, 10, 11, 12] (by rfl) ?_ ?_)
  rotate_left 2
  · iterate 5 (refine sq rfl rfl rfl (by simp [go_sem, xl, xs, xe, xa, xi, xo, xb, xv, xc, xk, hm, hm1, hr, hc, Try.f126]; rfl) ?_)
    iterate 2 (refine sq rfl rfl (by simp [go_sem, xl, xs, xe, xa, xi, xo, xb, xv, xc, xk, hm, hm1, hr, hc, Try.f126]) (by simp [go_sem, xl, xs, xe, xa, xi, xo, xb, xv, xc, xk, hm, hm1, hr, hc, Try.f126]; rfl) ?_)
    iterate 2 (refine sq rfl rfl rfl (by simp [go_sem, xl, xs, xe, xa, xi, xo, xb, xv, xc, xk, hm, hm1, hr, hc, Try.f126]; rfl) ?_)
    iterate 2 (refine sq rfl rfl (by simp [go_sem, xl, xs, xe, xa, xi, xo, xb, xv, xc, xk, hm, hm1, hr, hc, Try.f126]) (by simp [go_sem, xl, xs, xe, xa, xi, xo, xb, xv, xc, xk, hm, hm1, hr, hc, Try.f126]; rfl) ?_)
    iterate 2 (refine sq rfl rfl rfl (by simp [go_sem, xl, xs, xe, xa, xi, xo, xb, xv, xc, xk, hm, hm1, hr, hc, Try.f126]; rfl) ?_)
    rfl
  exact ACode.ret ⟨.inr rfl, [.bool true], rfl, by simp [Try.f126, resVals, tget_set], rfl⟩
def rwV (w n : Nat) : List V := [.slice n 0 w w false]
theorem blanks_ok (n w : Nat) (hn : 1 ≤ n ∧ n ≤ 1000) (hw : w ≤ 1000) (cs : List V) (hc : cs.length = 14) (hs : cs.all V.scalar = true) (L : Heap) : ACall Try.prog 127 [.int .i64 (n : Int), .int .i64 (w : Int), .agg cs] L (.slice L.next 0 n 0 true) (nx L) := by
  have htk : takeN 14 cs = some cs := by
    have := takeN_all cs
    rwa [hc] at this
  obtain ⟨A1, hA1⟩ : ∃ A : Heap, A = ⟨L.t.set L.next (.cells (T.set .leaf 0 cs) 1 14 false false), L.next + 1⟩ := ⟨_, rfl⟩
  have n1 : A1.next = L.next + 1 := by rw [hA1]
  have g1 : A1.t.get L.next = some (.cells (T.set .leaf 0 cs) 1 14 false false) := by rw [hA1]; exact T.get_set_same _ _ _
  have k1 : ∀ k, k < L.next → A1.t.get k = L.t.get k := fun k hk => by rw [hA1]; exact T.get_set_ne _ _ (by omega)
  refine ACall.of_body_forget Try.func127 rfl ?_
  refine ACode.seq (ACode.regS noT_ok names_ok mix (t' := ?_) (L' := ?_) [0, 1] (by rfl) ?_ ?_)
  rotate_left 2
  · iterate 2 (refine sq rfl rfl rfl (by simp [go_sem, X, hc, Try.f127]; rfl) ?_)
    rfl
  change ACode _ _ _ _ _ ⟨L.t.set L.next (.cells (T.set .leaf 0 cs) 1 14 false false), L.next + 1⟩ _
  rw [← hA1]
  refine ACode.seq ?_
  refine ACode.seq (ACode.regS noT_ok names_ok mix (t' := ?_) (L' := ?_) [0, 1] (by rfl) ?_ ?_)
  rotate_left 2
  · iterate 2 (refine sq rfl rfl rfl (by simp [go_sem, X, Try.f127]; rfl) ?_)
    rfl
  refine ACode.block (ACode.loop (fun t d A N => d = [] ∧ ∃ (i : Nat) (l : List Nat), i ≤ n ∧ N = n - i ∧ l.length = i ∧ A1.next ≤ A.next ∧ (∀ k, k < A1.next → A.t.get k = A1.t.get k) ∧ OwnP 1 (rwV w) A1.next A (tget t 6) l ∧ tget t 1 = .int .i64 (w : Int) ∧ tget t 5 = .ptr L.next 0 ∧ tget t 7 = .int .i64 (n : Int) ∧ tget t 8 = .int .i64 (i : Int)) (N := n)
    ⟨rfl, 0, [], by omega, rfl, rfl, Nat.le_refl _, fun _ _ => rfl, .inl ⟨by simp [tget_set], rfl⟩, by simp [tget_set, argsT], by simp [tget_set], by simp [tget_set, argsT], by simp [tget_set]⟩ ?_)
  rintro t d A N ⟨rfl, i, l, hi, rfl, hl, hnx, hkp, hO, t1, t5, t7, t8⟩
  refine ACode.seq (ACode.regS noT_ok names_ok mix (t' := ?_) (L' := ?_) [0] (by rfl) ?_ ?_)
  rotate_left 2
  · refine sq rfl rfl rfl (by simp [go_sem, X, t7, t8, Try.f127]; rfl) ?_
    rfl
  refine ACode.seq (ACode.cond (p := (i : Int) < (n : Int)) (by simp [tget_set, opd]) (fun hil => ACode.skip ?_) (fun hge => ACode.exit ?_))
  rotate_left 1
  ·
    have hi2 : i = n := by omega
    subst hi2
    show ACode _ _ _ _ _ _ _
    generalize hv : tget t 6 = v at *
    rcases hO with ⟨rfl, rfl⟩ | ⟨hne, m, rfl, h1, h2, h3⟩
    · simp at hl; omega
    rw [hl] at hv
    refine ACode.seq (ACode.regS noT_ok names_ok mix (t' := ?_) (L' := ?_) [0, 1] (by rfl) ?_ ?_)
    rotate_left 2
    · iterate 2 (refine sq rfl rfl rfl (by simp [go_sem, X, hv, Try.f127]; rfl) ?_)
      rfl
    exact ACode.ret ⟨.inr rfl, _, [.slice m 0 i 0 true], m, rfl, by simp [Try.f127, resVals, tget_set], fun k hk => by rw [hkp k (by omega)]; exact k1 k hk, fun κ1 z hz => VR_slice_f hz⟩
  have hil' : i < n := by omega
  have hw1 : IntKind.i64.wrap ((i : Int) + 1) = ((i + 1 : Nat) : Int) := by rw [Go.IntWalk.i64_in _ (by omega)]; omega
  have hld : Heap.load Try.prog A 245 L.next 0 = some (.agg cs) := by
    have : A.t.get L.next = some (.cells (T.set .leaf 0 cs) 1 14 false false) := by rw [hkp _ (by omega)]; exact g1
    simp [Heap.load, Heap.elem, this, T.get_set, Ev.part, qa245, qs245, htk]
  have c133 := rowNew_ok w hw cs hc hs A
  generalize hv : tget t 6 = v at *
  have hOn : OwnP 1 (rwV w) A1.next (nx A) v l := hO.still (Nat.le_succ _) fun _ _ => rfl
  have hOC : OwnP 1 (rwV w) A1.next ⟨A.t.set (A.next + 1) (.cells (T.set .leaf 0 (rwV w A.next)) 1 1 false false), A.next + 2⟩ v l := hOn.still (Nat.le_succ _) fun m hm => T.get_set_ne _ _ (by have := (hO.nm_lt hm).2; omega)
  have hsrc : srcElems ⟨A.t.set (A.next + 1) (.cells (T.set .leaf 0 (rwV w A.next)) 1 1 false false), A.next + 2⟩ 1 (.slice (A.next + 1) 0 1 1 false) = some ([A.next].map (rwV w)) := by
    simp [srcElems, Heap.elems, Heap.elem, T.get_set, takeN, rwV]
  obtain ⟨v6, E, ha, hO3, hn3, hk3, _⟩ := append_P (sz := 1) (f := rwV w) (by decide) (fun _ => rfl) (fun _ => rfl) qt261 qs271 qb271 (by decide) qz271 rfl hOC (by simp only; omega) hsrc (by simp only [List.length_cons, List.length_nil]; omega)
  simp only [rwV] at ha
  simp only at hn3 hk3
  refine ACode.seq (ACode.block ?_)
  generalize V.agg cs = ca at *
  refine ACode.regS (oneT_okP c133) names_ok mix (t' := ?_) (L' := ?_) [0, 1, 2, 3, 4, 5, 6] (by rfl) ?_ ?_
  rotate_left 2
  · iterate 7 (refine sq rfl rfl rfl (by simp [go_sem, xs, xe, xa, xi, xo, xb, xq, xv, xc, xk, hv, t1, t5, hld, ha, nx, oneT_sameP, qi261, Try.f127]; rfl) ?_)
    rfl
  show ACode _ _ (Code.region _ _ _) _ _ _ _
  refine ACode.regS noT_ok names_ok mix (t' := ?_) (L' := ?_) [0, 1] (by rfl) ?_ ?_
  rotate_left 2
  · iterate 2 (refine sq rfl rfl rfl (by simp [go_sem, X, t8, hw1, Try.f127]; rfl) ?_)
    rfl
  refine ⟨n - (i + 1), by omega, rfl, i + 1, l ++ [A.next], by omega, rfl, by simp [hl], by omega, fun k hk => ?_, by simpa [tget_set] using hO3, by simp [tget_set, t1], by simp [tget_set, t5], by simp [tget_set, t7], by simp [tget_set]⟩
  rw [hk3 k (by omega) (fun e => by have := (hO.nm_lt e).1; omega)]
  show T.get (T.set _ _ _) _ = _
  rw [T.get_set_ne _ _ (by omega)]
  exact hkp k hk
theorem gridNew_ok (n w : Nat) (hn : 1 ≤ n ∧ n ≤ 512) (hw : 1 ≤ w ∧ w ≤ 512) (cs : List V) (hc : cs.length = 14) (hs : cs.all V.scalar = true) (L : Heap) : ACall Try.prog 119 [.int .i64 (n : Int), .int .i64 (w : Int), .agg cs] L (.ptr L.next 0) (nx L) := by
  have htk : takeN 14 cs = some cs := by
    have := takeN_all cs
    rwa [hc] at this
  obtain ⟨A1, hA1⟩ : ∃ A : Heap, A = ⟨L.t.set L.next (.cells (T.set .leaf 0 cs) 1 14 false false), L.next + 1⟩ := ⟨_, rfl⟩
  have n1 : A1.next = L.next + 1 := by rw [hA1]
  have g1 : A1.t.get L.next = some (.cells (T.set .leaf 0 cs) 1 14 false false) := by rw [hA1]; exact T.get_set_same _ _ _
  have k1 : ∀ k, k < L.next → A1.t.get k = L.t.get k := fun k hk => by rw [hA1]; exact T.get_set_ne _ _ (by omega)
  have cm := may_ok (n : Int) (w : Int) (by omega) (by omega) A1
  obtain ⟨A2, hA2⟩ : ∃ A : Heap, A = ⟨A1.t.set A1.next (.cells (T.set .leaf 0 [.nils, .int .i64 (w : Int)]) 1 2 false false), A1.next + 1⟩ := ⟨_, rfl⟩
  have g2 : A2.t.get A1.next = some (.cells (T.set .leaf 0 [.nils, .int .i64 (w : Int)]) 1 2 false false) := by rw [hA2]; exact T.get_set_same _ _ _
  have k2 : ∀ k, k < A1.next → A2.t.get k = A1.t.get k := fun k hk => by rw [hA2]; exact T.get_set_ne _ _ (by omega)
  have n2 : A2.next = A1.next + 1 := by rw [hA2]
  have cb := blanks_ok n w (by omega) (by omega) cs hc hs A2
  have hld : Heap.load Try.prog A2 245 L.next 0 = some (.agg cs) := by
    have : A2.t.get L.next = some (.cells (T.set .leaf 0 cs) 1 14 false false) := by rw [k2 _ (by omega)]; exact g1
    simp [Heap.load, Heap.elem, this, T.get_set, Ev.part, qa245, qs245, htk]
  refine ACall.of_body_forget Try.func119 rfl ?_
  refine ACode.seq (ACode.regS noT_ok names_ok mix (t' := ?_) (L' := ?_) [0, 1] (by rfl) ?_ ?_)
  rotate_left 2
  · iterate 2 (refine sq rfl rfl rfl (by simp [go_sem, X, hc, Try.f119]; rfl) ?_)
    rfl
  change ACode _ _ _ _ _ ⟨L.t.set L.next (.cells (T.set .leaf 0 cs) 1 14 false false), L.next + 1⟩ _
  rw [← hA1]
  generalize V.agg cs = ca at *
  refine ACode.seq ?_
  refine ACode.seq (ACode.regS (oneT_okP cm) names_ok mix (t' := ?_) (L' := ?_) [0, 1, 2, 3] (by rfl) ?_ ?_)
  rotate_left 2
  · iterate 4 (refine sq rfl rfl rfl (by simp [go_sem, X, oneT_sameP, Try.f119]; rfl) ?_)
    rfl
  refine ACode.condF (by simp [tget_set, opd]) (ACode.skip ?_)
  show ACode _ _ (Code.seq (Code.region _ _ _) _) _ _ _ _
  refine ACode.seq (ACode.regS noT_ok names_ok mix (t' := ?_) (L' := ?_) [0, 1, 2, 3] (by rfl) ?_ ?_)
  rotate_left 2
  · iterate 4 (refine sq rfl rfl rfl (by simp [go_sem, X, Try.f119]; rfl) ?_)
    rfl
  change ACode _ _ _ _ _ ⟨A1.t.set A1.next (.cells (T.set .leaf 0 [.nils, .int .i64 (w : Int)]) 1 2 false false), A1.next + 1⟩ _
  rw [← hA2]
  have g2n : (nx A2).t.get A1.next = some (.cells (T.set .leaf 0 [.nils, .int .i64 (w : Int)]) 1 2 false false) := g2
  refine ACode.seq (ACode.regS (oneT_okP cb) names_ok mix (t' := ?_) (L' := ?_) [0, 1, 2, 3, 4, 5, 6, 7] (by rfl) ?_ ?_)
  rotate_left 2
  · iterate 8 (refine sq rfl rfl rfl (by simp [go_sem, xs, xe, xa, xi, xo, xb, xq, xv, xc, xk, hld, g2n, oneT_sameP, Try.f119]; rfl) ?_)
    rfl
  refine ACode.seq (ACode.regS noT_ok names_ok mix (t' := ?_) (L' := ?_) [0, 1] (by rfl) ?_ ?_)
  rotate_left 2
  · iterate 2 (refine sq rfl rfl rfl (by simp [go_sem, X, Try.f119]; rfl) ?_)
    rfl
  refine ACode.ret ⟨.inr rfl, _, [.ptr A1.next 0], A1.next, rfl, by simp [Try.f119, resVals, tget_set], fun k hk => ?_, fun κ1 z hz => VR_ptr_f hz⟩
  show T.get (T.set _ _ _) _ = _
  rw [T.get_set_ne _ _ (by omega)]
  show A2.t.get k = _
  rw [k2 k (by omega)]
  exact k1 k hk
end Go.Proofs.Ytpfmoolpeecobaa
