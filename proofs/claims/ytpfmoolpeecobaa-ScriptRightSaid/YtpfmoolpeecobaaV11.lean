/- Small things that are made: queues, banner, parser, ring, area, cursor. -/
import Derived.Test.YtpfmoolpeecobaaV10
namespace Go.Proofs.Ytpfmoolpeecobaa
open Go Go.Proofs Go.Proofs.Ytpfmoolpeecobaa.Ev
set_option linter.unusedVariables false
set_option linter.unusedSimpArgs false
set_option maxRecDepth 100000
set_option maxHeartbeats 4000000

theorem qz112 : zeroV Try.prog 112 = some (.nilp) := by kernel_rfl
theorem qs112 : sizeT Try.prog 112 = some 1 := by kernel_rfl
theorem qa112 : isAggT Try.prog 112 = some false := by kernel_rfl
theorem qt112 : tySlice Try.prog 112 = none := by kernel_rfl
theorem qi112 : tyInt Try.prog 112 = none := by kernel_rfl
theorem qz152 : zeroV Try.prog 152 = some (.agg [.nils, .int .i64 0, .nils, .int .i64 0, .nils, .int .i64 0, .nils, .int .i64 0, .nils, .int .i64 0, .nils, .int .i64 0, .nils, .int .i64 0, .nils, .int .i64 0, .nils, .int .i64 0, .nils, .int .i64 0, .nils, .int .i64 0, .nils, .int .i64 0, .nils, .int .i64 0, .nils, .int .i64 0, .nils, .int .i64 0, .nils, .int .i64 0]) := by kernel_rfl
theorem qs152 : sizeT Try.prog 152 = some 32 := by kernel_rfl
theorem qa152 : isAggT Try.prog 152 = some true := by kernel_rfl
theorem qt152 : tySlice Try.prog 152 = none := by kernel_rfl
theorem qi152 : tyInt Try.prog 152 = none := by kernel_rfl
theorem qr152 : tyArray Try.prog 152 = some (16, 151) := by kernel_rfl
theorem qz154 : zeroV Try.prog 154 = some (.agg [.nils, .int .i64 0, .nils, .int .i64 0, .nils, .int .i64 0, .nils, .int .i64 0, .nils, .int .i64 0, .nils, .int .i64 0, .nils, .int .i64 0, .nils, .int .i64 0, .nils, .int .i64 0, .nils, .int .i64 0, .nils, .int .i64 0, .nils, .int .i64 0, .nils, .int .i64 0, .nils, .int .i64 0, .nils, .int .i64 0, .nils, .int .i64 0, .int .i64 0]) := by kernel_rfl
theorem qs154 : sizeT Try.prog 154 = some 33 := by kernel_rfl
theorem qa154 : isAggT Try.prog 154 = some true := by kernel_rfl
theorem qt154 : tySlice Try.prog 154 = none := by kernel_rfl
theorem qi154 : tyInt Try.prog 154 = none := by kernel_rfl
theorem qf154 : tyStruct Try.prog 154 = some #[{ name := "all", type := 152, offset := 0, embedded := false, tag := "", pkgPath := "marquee/queue", byteOffset := 0 }, { name := "many", type := 3, offset := 32, embedded := false, tag := "", pkgPath := "marquee/queue", byteOffset := 512 }] := by kernel_rfl
theorem qz116 : zeroV Try.prog 116 = some (.nilp) := by kernel_rfl
theorem qs116 : sizeT Try.prog 116 = some 1 := by kernel_rfl
theorem qa116 : isAggT Try.prog 116 = some false := by kernel_rfl
theorem qt116 : tySlice Try.prog 116 = none := by kernel_rfl
theorem qi116 : tyInt Try.prog 116 = none := by kernel_rfl
theorem qz176 : zeroV Try.prog 176 = some (.agg [.str [], .int .u8 0]) := by kernel_rfl
theorem qs176 : sizeT Try.prog 176 = some 2 := by kernel_rfl
theorem qa176 : isAggT Try.prog 176 = some true := by kernel_rfl
theorem qt176 : tySlice Try.prog 176 = none := by kernel_rfl
theorem qi176 : tyInt Try.prog 176 = none := by kernel_rfl
theorem qf176 : tyStruct Try.prog 176 = some #[{ name := "text", type := 9, offset := 0, embedded := false, tag := "", pkgPath := "marquee/banner", byteOffset := 0 }, { name := "label", type := 51, offset := 1, embedded := false, tag := "", pkgPath := "marquee/banner", byteOffset := 16 }] := by kernel_rfl
theorem qz213 : zeroV Try.prog 213 = some (.nilp) := by kernel_rfl
theorem qs213 : sizeT Try.prog 213 = some 1 := by kernel_rfl
theorem qa213 : isAggT Try.prog 213 = some false := by kernel_rfl
theorem qt213 : tySlice Try.prog 213 = none := by kernel_rfl
theorem qi213 : tyInt Try.prog 213 = none := by kernel_rfl
theorem qz26 : zeroV Try.prog 26 = some (.agg [.int .i32 0, .int .u8 0, .int .u8 0, .int .u8 0, .int .u8 0]) := by kernel_rfl
theorem qs26 : sizeT Try.prog 26 = some 5 := by kernel_rfl
theorem qa26 : isAggT Try.prog 26 = some true := by kernel_rfl
theorem qt26 : tySlice Try.prog 26 = none := by kernel_rfl
theorem qi26 : tyInt Try.prog 26 = none := by kernel_rfl
theorem qf26 : tyStruct Try.prog 26 = some #[{ name := "code", type := 21, offset := 0, embedded := false, tag := "", pkgPath := "marquee/utf", byteOffset := 0 }, { name := "left", type := 5, offset := 1, embedded := false, tag := "", pkgPath := "marquee/utf", byteOffset := 4 }, { name := "got", type := 5, offset := 2, embedded := false, tag := "", pkgPath := "marquee/utf", byteOffset := 5 }, { name := "next", type := 24, offset := 3, embedded := false, tag := "", pkgPath := "marquee/utf", byteOffset := 6 }] := by kernel_rfl
theorem qz179 : zeroV Try.prog 179 = some (.nilp) := by kernel_rfl
theorem qs179 : sizeT Try.prog 179 = some 1 := by kernel_rfl
theorem qa179 : isAggT Try.prog 179 = some false := by kernel_rfl
theorem qt179 : tySlice Try.prog 179 = none := by kernel_rfl
theorem qi179 : tyInt Try.prog 179 = none := by kernel_rfl
theorem qz216 : zeroV Try.prog 216 = some (.agg [.int .i32 0, .int .u8 0, .int .u8 0, .int .u8 0, .int .u8 0, .int .i64 0, .nilp, .int .u8 0, .nils, .bool false, .int .u8 0, .nils, .bool false, .bool false]) := by kernel_rfl
theorem qs216 : sizeT Try.prog 216 = some 14 := by kernel_rfl
theorem qa216 : isAggT Try.prog 216 = some true := by kernel_rfl
theorem qt216 : tySlice Try.prog 216 = none := by kernel_rfl
theorem qi216 : tyInt Try.prog 216 = none := by kernel_rfl
theorem qf216 : tyStruct Try.prog 216 = some #[{ name := "Decoder", type := 26, offset := 0, embedded := true, tag := "", pkgPath := "", byteOffset := 0 }, { name := "state", type := 3, offset := 5, embedded := false, tag := "", pkgPath := "marquee/parse", byteOffset := 8 }, { name := "params", type := 213, offset := 6, embedded := false, tag := "", pkgPath := "marquee/parse", byteOffset := 16 }, { name := "mark", type := 5, offset := 7, embedded := false, tag := "", pkgPath := "marquee/parse", byteOffset := 24 }, { name := "inter", type := 38, offset := 8, embedded := false, tag := "", pkgPath := "marquee/parse", byteOffset := 32 }, { name := "first", type := 4, offset := 9, embedded := false, tag := "", pkgPath := "marquee/parse", byteOffset := 56 }, { name := "final", type := 5, offset := 10, embedded := false, tag := "", pkgPath := "marquee/parse", byteOffset := 57 }, { name := "data", type := 38, offset := 11, embedded := false, tag := "", pkgPath := "marquee/parse", byteOffset := 64 }, { name := "spoilt", type := 4, offset := 12, embedded := false, tag := "", pkgPath := "marquee/parse", byteOffset := 88 }, { name := "ended", type := 4, offset := 13, embedded := false, tag := "", pkgPath := "marquee/parse", byteOffset := 89 }] := by kernel_rfl
theorem qz225 : zeroV Try.prog 225 = some (.agg [.int .i64 0, .int .i64 0, .int .i64 0, .int .i64 0, .bool false, .int .u8 0]) := by kernel_rfl
theorem qs225 : sizeT Try.prog 225 = some 6 := by kernel_rfl
theorem qa225 : isAggT Try.prog 225 = some true := by kernel_rfl
theorem qt225 : tySlice Try.prog 225 = none := by kernel_rfl
theorem qi225 : tyInt Try.prog 225 = none := by kernel_rfl
theorem qf225 : tyStruct Try.prog 225 = some #[{ name := "Rows", type := 3, offset := 0, embedded := false, tag := "", pkgPath := "", byteOffset := 0 }, { name := "Cols", type := 3, offset := 1, embedded := false, tag := "", pkgPath := "", byteOffset := 8 }, { name := "Top", type := 3, offset := 2, embedded := false, tag := "", pkgPath := "", byteOffset := 16 }, { name := "Bottom", type := 3, offset := 3, embedded := false, tag := "", pkgPath := "", byteOffset := 24 }, { name := "Origin", type := 4, offset := 4, embedded := false, tag := "", pkgPath := "", byteOffset := 32 }, { name := "Base", type := 51, offset := 5, embedded := false, tag := "", pkgPath := "", byteOffset := 33 }] := by kernel_rfl
theorem qz273 : zeroV Try.prog 273 = some (.agg [.int .i64 0, .int .i64 0, .int .i64 0, .int .i64 0, .bool false, .int .u8 0]) := by kernel_rfl
theorem qs273 : sizeT Try.prog 273 = some 6 := by kernel_rfl
theorem qa273 : isAggT Try.prog 273 = some true := by kernel_rfl
theorem qt273 : tySlice Try.prog 273 = none := by kernel_rfl
theorem qi273 : tyInt Try.prog 273 = none := by kernel_rfl
theorem qf273 : tyStruct Try.prog 273 = some #[{ name := "Area", type := 225, offset := 0, embedded := true, tag := "", pkgPath := "", byteOffset := 0 }] := by kernel_rfl
theorem qz203 : zeroV Try.prog 203 = some (.agg [.int .i64 0, .int .i64 0, .bool false, .int .u8 0]) := by kernel_rfl
theorem qs203 : sizeT Try.prog 203 = some 4 := by kernel_rfl
theorem qa203 : isAggT Try.prog 203 = some true := by kernel_rfl
theorem qt203 : tySlice Try.prog 203 = none := by kernel_rfl
theorem qi203 : tyInt Try.prog 203 = none := by kernel_rfl
theorem qf203 : tyStruct Try.prog 203 = some #[{ name := "Row", type := 3, offset := 0, embedded := false, tag := "", pkgPath := "", byteOffset := 0 }, { name := "Col", type := 3, offset := 1, embedded := false, tag := "", pkgPath := "", byteOffset := 8 }, { name := "Wrap", type := 4, offset := 2, embedded := false, tag := "", pkgPath := "", byteOffset := 16 }, { name := "Label", type := 51, offset := 3, embedded := false, tag := "", pkgPath := "", byteOffset := 17 }] := by kernel_rfl
theorem qz229 : zeroV Try.prog 229 = some (.nilp) := by kernel_rfl
theorem qs229 : sizeT Try.prog 229 = some 1 := by kernel_rfl
theorem qa229 : isAggT Try.prog 229 = some false := by kernel_rfl
theorem qt229 : tySlice Try.prog 229 = none := by kernel_rfl
theorem qi229 : tyInt Try.prog 229 = none := by kernel_rfl
theorem qz261 : zeroV Try.prog 261 = some (.nils) := by kernel_rfl
theorem qs261 : sizeT Try.prog 261 = some 1 := by kernel_rfl
theorem qa261 : isAggT Try.prog 261 = some false := by kernel_rfl
theorem qt261 : tySlice Try.prog 261 = some 271 := by kernel_rfl
theorem qi261 : tyInt Try.prog 261 = none := by kernel_rfl
theorem qz263 : zeroV Try.prog 263 = some (.agg [.nils, .int .i64 0, .int .i64 0, .int .u8 0]) := by kernel_rfl
theorem qs263 : sizeT Try.prog 263 = some 4 := by kernel_rfl
theorem qa263 : isAggT Try.prog 263 = some true := by kernel_rfl
theorem qt263 : tySlice Try.prog 263 = none := by kernel_rfl
theorem qi263 : tyInt Try.prog 263 = none := by kernel_rfl
theorem qf263 : tyStruct Try.prog 263 = some #[{ name := "lines", type := 261, offset := 0, embedded := false, tag := "", pkgPath := "marquee/ring", byteOffset := 0 }, { name := "first", type := 3, offset := 1, embedded := false, tag := "", pkgPath := "marquee/ring", byteOffset := 24 }, { name := "most", type := 3, offset := 2, embedded := false, tag := "", pkgPath := "marquee/ring", byteOffset := 32 }, { name := "label", type := 51, offset := 3, embedded := false, tag := "", pkgPath := "marquee/ring", byteOffset := 40 }] := by kernel_rfl
set_option linter.defProp false in
/-- facts of types, in one -/
def TYF := And.intro @qz112 (And.intro @qs112 (And.intro @qa112 (And.intro @qt112 (And.intro @qi112 (And.intro @Try.underlying112 (And.intro @qz152 (And.intro @qs152 (And.intro @qa152 (And.intro @qt152 (And.intro @qi152 (And.intro @qr152 (And.intro @Try.underlying152 (And.intro @qz154 (And.intro @qs154 (And.intro @qa154 (And.intro @qt154 (And.intro @qi154 (And.intro @qf154 (And.intro @Try.underlying154 (And.intro @qz116 (And.intro @qs116 (And.intro @qa116 (And.intro @qt116 (And.intro @qi116 (And.intro @Try.underlying116 (And.intro @qz176 (And.intro @qs176 (And.intro @qa176 (And.intro @qt176 (And.intro @qi176 (And.intro @qf176 (And.intro @Try.underlying176 (And.intro @qz213 (And.intro @qs213 (And.intro @qa213 (And.intro @qt213 (And.intro @qi213 (And.intro @Try.underlying213 (And.intro @qz26 (And.intro @qs26 (And.intro @qa26 (And.intro @qt26 (And.intro @qi26 (And.intro @qf26 (And.intro @Try.underlying26 (And.intro @qz179 (And.intro @qs179 (And.intro @qa179 (And.intro @qt179 (And.intro @qi179 (And.intro @Try.underlying179 (And.intro @qz216 (And.intro @qs216 (And.intro @qa216 (And.intro @qt216 (And.intro @qi216 (And.intro @qf216 (And.intro @Try.underlying216 (And.intro @qz225 (And.intro @qs225 (And.intro @qa225 (And.intro @qt225 (And.intro @qi225 (And.intro @qf225 (And.intro @Try.underlying225 (And.intro @qz273 (And.intro @qs273 (And.intro @qa273 (And.intro @qt273 (And.intro @qi273 (And.intro @qf273 (And.intro @Try.underlying273 (And.intro @qz203 (And.intro @qs203 (And.intro @qa203 (And.intro @qt203 (And.intro @qi203 (And.intro @qf203 (And.intro @Try.underlying203 (And.intro @qz229 (And.intro @qs229 (And.intro @qa229 (And.intro @qt229 (And.intro @qi229 (And.intro @Try.underlying229 (And.intro @qz261 (And.intro @qs261 (And.intro @qa261 (And.intro @qt261 (And.intro @qi261 (And.intro @Try.underlying261 (And.intro @qz263 (And.intro @qs263 (And.intro @qa263 (And.intro @qt263 (And.intro @qi263 (And.intro @qf263 (@Try.underlying263))))))))))))))))))))))))))))))))))))))))))))))))))))))))))))))))))))))))))))))))))))))))))))))))))
attribute [go_sem] TYF

/-- a call that is known, from every heap -/
noncomputable def allT (f : FuncId) (args : List V) (v : V) : Tab := by
  classical exact fun f' args' L => if f' = f ∧ args' = args then some (v, L) else none
theorem allT_ok {f : FuncId} {args : List V} {v : V} (h : ∀ L, ACall Try.prog f args L v L) : TabOk Try.prog (allT f args v) := by
  intro f' args' L v' L1 e
  unfold allT at e
  split at e
  · rename_i hc
    obtain ⟨rfl, rfl⟩ := hc
    simp only [Option.some.injEq, Prod.mk.injEq] at e
    obtain ⟨rfl, rfl⟩ := e
    exact h L
  · cases e
theorem allT_at {f : FuncId} {args : List V} {v : V} (L : Heap) : allT f args v f args L = some (v, L) := by
  unfold allT
  rw [if_pos ⟨rfl, rfl⟩]
theorem allT_ne {f f' : FuncId} {args args' : List V} {v : V} {L : Heap} (h : f' ≠ f) : allT f args v f' args' L = none := by
  unfold allT
  rw [if_neg fun hc => h hc.1]
theorem fin_ptr {P : Program} {fn : Func} {L : Heap} {t : T V} {b : Blk} (h : resVals P t ⟨L.t.set L.next b, L.next + 1⟩ fn.results.toList = some [.ptr L.next 0]) : EndF P fn L (.ptr L.next 0) .ret t [] ⟨L.t.set L.next b, L.next + 1⟩ :=
  ⟨.inr rfl, _, [.ptr L.next 0], L.next, rfl, h, fun n hn => T.get_set_ne _ _ (by omega), fun κ1 z hz => VR_ptr_f hz⟩
theorem queueNew_ok (n : Int) (h : 0 ≤ n ∧ n ≤ 16) (L : Heap) : ACall Try.prog 54 [.int .i64 n] L (.ptr L.next 0) (nx L) := by
  have c1 : ¬ n < 0 := by omega
  have c2 : ¬ 16 < n := by omega
  refine ACall.of_body_forget Try.func54 rfl ?_
  refine ACode.seq (ACode.regS noT_ok names_ok mix (t' := ?_) (L' := ?_) [0] (by rfl) ?_ ?_)
  rotate_left 2
  · refine sq rfl rfl rfl (by simp [go_sem, X, Try.f54]; rfl) ?_
    rfl
  refine ACode.seq ?_
  refine ACode.seq (ACode.regS noT_ok names_ok mix (t' := ?_) (L' := ?_) [0, 1, 2, 3, 4, 5] (by rfl) ?_ ?_)
  rotate_left 2
  · iterate 3 (refine sq rfl rfl rfl (by simp [go_sem, X, c1, c2, Try.f54]; rfl) ?_)
    iterate 2 (refine sq rfl rfl (by simp [go_sem, X, c1, c2, Try.f54]) (by simp [go_sem, X, c1, c2, Try.f54]; rfl) ?_)
    refine sq rfl rfl rfl (by simp [go_sem, X, c1, c2, Try.f54]; rfl) ?_
    rfl
  refine ACode.condF (by simp [tget_set, opd]) (ACode.skip ?_)
  show ACode _ _ _ _ _ _ _
  refine ACode.seq (ACode.regS noT_ok names_ok mix (t' := ?_) (L' := ?_) [0, 1, 2, 3] (by rfl) ?_ ?_)
  rotate_left 2
  · iterate 4 (refine sq rfl rfl rfl (by simp [go_sem, X, Try.f54]; rfl) ?_)
    rfl
  exact ACode.ret (fin_ptr (by simp [Try.f54, resVals, tget_set]))
theorem bannerNew_ok (L : Heap) : ACall Try.prog 56 [] L (.ptr L.next 0) (nx L) := by
  refine ACall.of_body_forget Try.func56 rfl ?_
  refine ACode.seq (ACode.regS noT_ok names_ok mix (t' := ?_) (L' := ?_) [0] (by rfl) ?_ ?_)
  rotate_left 2
  · refine sq rfl rfl rfl (by simp [go_sem, X, Try.f56]; rfl) ?_
    rfl
  refine ACode.seq (ACode.regS noT_ok names_ok mix (t' := ?_) (L' := ?_) [0, 1, 2] (by rfl) ?_ ?_)
  rotate_left 2
  · iterate 3 (refine sq rfl rfl rfl (by simp [go_sem, X, Try.f56]; rfl) ?_)
    rfl
  exact ACode.ret (fin_ptr (by simp [Try.f56, resVals, tget_set]))
def isAggO : Option V → Bool
  | some (.agg cs) => cs.all V.scalar
  | _ => false
theorem b255 : isAggO (Ev.build Try.prog 255 []) = true := by decide +kernel
theorem agg_of {o : Option V} (h : isAggO o = true) : ∃ cs, o = some (.agg cs) ∧ cs.all V.scalar = true := by
  unfold isAggO at h
  split at h
  · exact ⟨_, rfl, h⟩
  · cases h
theorem paramNew_ok (L : Heap) : ACall Try.prog 111 [] L (.ptr L.next 0) (nx L) := by
  obtain ⟨z, hz, _⟩ := agg_of b255
  refine ACall.of_body_forget Try.func111 rfl ?_
  refine ACode.seq (ACode.regS noT_ok names_ok mix (t' := ?_) (L' := ?_) [0] (by rfl) ?_ ?_)
  rotate_left 2
  · refine sq rfl rfl rfl (by simp [go_sem, X, Try.f111]; rfl) ?_
    rfl
  refine ACode.seq (ACode.regS noT_ok names_ok mix (t' := ?_) (L' := ?_) [0, 1, 2] (by rfl) ?_ ?_)
  rotate_left 2
  · iterate 3 (refine sq rfl rfl rfl (by simp [go_sem, xl, xs, xe, xa, xi, xo, xq, xv, xc, xk, hz, Try.f111]; rfl) ?_)
    rfl
  exact ACode.ret (fin_ptr (by simp [Try.f111, resVals, tget_set]))
theorem parseNew_ok (L : Heap) : ACall Try.prog 89 [] L (.ptr L.next 0) (nx L) := by
  have hc := paramNew_ok L
  refine ACall.of_body_forget Try.func89 rfl ?_
  refine ACode.seq (ACode.regS noT_ok names_ok mix (t' := ?_) (L' := ?_) [0] (by rfl) ?_ ?_)
  rotate_left 2
  · refine sq rfl rfl rfl (by simp [go_sem, X, Try.f89]; rfl) ?_
    rfl
  refine ACode.seq (ACode.regS (oneT_okP hc) names_ok mix (t' := ?_) (L' := ?_) [0, 1, 2, 3] (by rfl) ?_ ?_)
  rotate_left 2
  · iterate 4 (refine sq rfl rfl rfl (by simp [go_sem, X, oneT_sameP, nx, Try.f89]; rfl) ?_)
    rfl
  refine ACode.ret ⟨.inr rfl, _, [.ptr (L.next + 1) 0], L.next + 1, rfl, by simp [Try.f89, resVals, tget_set], fun n hn => ?_, fun κ1 z hz => VR_ptr_f hz⟩
  show T.get (T.set _ _ _) _ = _
  exact T.get_set_ne _ _ (by omega)
theorem ringNew_ok (most lb : Int) (h : 0 ≤ most ∧ most ≤ 1000) (L : Heap) : ACall Try.prog 118 [.int .i64 most, .int .u8 lb] L (.ptr L.next 0) (nx L) := by
  have c1 : ¬ most < 0 := by omega
  have c2 : ¬ 1000 < most := by omega
  refine ACall.of_body_forget Try.func118 rfl ?_
  refine ACode.seq (ACode.regS noT_ok names_ok mix (t' := ?_) (L' := ?_) [0] (by rfl) ?_ ?_)
  rotate_left 2
  · refine sq rfl rfl rfl (by simp [go_sem, X, Try.f118]; rfl) ?_
    rfl
  refine ACode.seq ?_
  refine ACode.seq (ACode.regS noT_ok names_ok mix (t' := ?_) (L' := ?_) [0, 1, 2, 3, 4, 5] (by rfl) ?_ ?_)
  rotate_left 2
  · iterate 3 (refine sq rfl rfl rfl (by simp [go_sem, X, c1, c2, Try.f118]; rfl) ?_)
    iterate 2 (refine sq rfl rfl (by simp [go_sem, X, c1, c2, Try.f118]) (by simp [go_sem, X, c1, c2, Try.f118]; rfl) ?_)
    refine sq rfl rfl rfl (by simp [go_sem, X, c1, c2, Try.f118]; rfl) ?_
    rfl
  refine ACode.condF (by simp [tget_set, opd]) (ACode.skip ?_)
  show ACode _ _ _ _ _ _ _
  refine ACode.seq (ACode.regS noT_ok names_ok mix (t' := ?_) (L' := ?_) [0, 1, 2, 3, 4] (by rfl) ?_ ?_)
  rotate_left 2
  · iterate 5 (refine sq rfl rfl rfl (by simp [go_sem, X, Try.f118]; rfl) ?_)
    rfl
  exact ACode.ret (fin_ptr (by simp [Try.f118, resVals, tget_set]))
theorem within_ok (n a b : Int) (h : a ≤ n ∧ n ≤ b) (L : Heap) : ACall Try.prog 132 [.int .i64 n, .int .i64 a, .int .i64 b] L (.int .i64 n) L := by
  have m1 := bmin_l h.2
  have m2 := bmax_r h.1
  refine ACall.of_body_same Try.func132 rfl ?_
  refine ACode.seq (ACode.regS noT_ok names_ok mix (t' := ?_) (L' := ?_) [0] (by rfl) ?_ ?_)
  rotate_left 2
  · refine sq rfl rfl rfl (by simp [go_sem, X, Try.f132]; rfl) ?_
    rfl
  refine ACode.seq (ACode.regS noT_ok names_ok mix (t' := ?_) (L' := ?_) [0, 1, 2, 3, 4, 5] (by rfl) ?_ ?_)
  rotate_left 2
  · iterate 6 (refine sq rfl rfl rfl (by simp [go_sem, xl, xs, xe, xa, xi, xo, xb, xv, xc, xk, m1, m2, Try.f132]; rfl) ?_)
    rfl
  exact ACode.ret ⟨.inr rfl, [.int .i64 n], rfl, by simp [Try.f132, resVals, tget_set], rfl⟩
/-- calls of within that hold -/
noncomputable def withinT : Tab := by
  classical exact fun f args L => if f = 132 ∧ ∃ n a b : Int, (a ≤ n ∧ n ≤ b) ∧ args = [.int .i64 n, .int .i64 a, .int .i64 b] then some (args.headD .nilp, L) else none
theorem withinT_ok : TabOk Try.prog withinT := by
  intro f args L v L1 e
  unfold withinT at e
  split at e
  · rename_i hc
    obtain ⟨rfl, n, a, b, h, rfl⟩ := hc
    simp only [List.headD_cons, Option.some.injEq, Prod.mk.injEq] at e
    obtain ⟨rfl, rfl⟩ := e
    exact within_ok n a b h L
  · cases e
theorem withinT_at {n a b : Int} (h : a ≤ n ∧ n ≤ b) (L : Heap) : withinT 132 [.int .i64 n, .int .i64 a, .int .i64 b] L = some (.int .i64 n, L) := by
  unfold withinT
  rw [if_pos ⟨rfl, n, a, b, h, rfl⟩]
  rfl
theorem withinT_ne {f : FuncId} (h : f ≠ 132) (args : List V) (L : Heap) : withinT f args L = none := by
  unfold withinT
  rw [if_neg fun hc => h hc.1]
def arV (r c t b : Int) (o : Bool) (l : Int) : List V := [.int .i64 r, .int .i64 c, .int .i64 t, .int .i64 b, .bool o, .int .u8 l]
theorem tidy0 {L A : Heap} {v : V} {vs : List V} {fn : Func} {t : T V} {x : Ex} (hx : x = .normal ∨ x = .ret) (h : resVals Try.prog t A fn.results.toList = some vs) (h1 : one1 vs = v) (hp : v.plain = true) (hk : ∀ n, n < L.next → A.t.get n = L.t.get n) : EndK Try.prog fn L v L x t [] A :=
  ⟨hx, A, vs, [], rfl, h, Tidy.zero hk, fun κ1 z hz => by rw [← h1] at hp ⊢; exact VR_plain (κ := κ1) _ _ hp hz⟩
theorem areaResize_ok (r0 c0 t0 b0 : Int) (o : Bool) (l r c : Int) (hr : 1 ≤ r ∧ r ≤ 512) (hc : 1 ≤ c ∧ c ≤ 512) (L : Heap) : ACall Try.prog 125 [.agg (arV r0 c0 t0 b0 o l), .int .i64 r, .int .i64 c] L (.agg (arV r c 0 (r - 1) o l)) L := by
  have w1 := withinT_at hr
  have w2 := withinT_at hc
  have hw : IntKind.i64.wrap (r - 1) = r - 1 := Go.IntWalk.i64_in _ (by omega)
  refine ACall.of_body Try.func125 rfl ?_
  unfold arV
  refine ACode.seq (ACode.regS noT_ok names_ok mix (t' := ?_) (L' := ?_) [0, 1] (by rfl) ?_ ?_)
  rotate_left 2
  · iterate 2 (refine sq rfl rfl rfl (by simp [go_sem, X, Try.f125]; rfl) ?_)
    rfl
  have h1 : ∀ n : Nat, n < L.next → (n = L.next + 1) = False ∧ (n = L.next) = False := fun n hn => ⟨eq_false (by omega), eq_false (by omega)⟩
  generalize hA : (⟨(L.t.set L.next (.cells (T.set .leaf 0 [.int .i64 r0, .int .i64 c0, .int .i64 t0, .int .i64 b0, .bool o, .int .u8 l]) 1 6 false false)).set (L.next + 1) (.cells (T.set .leaf 0 [.int .i64 0, .int .i64 0, .int .i64 0, .int .i64 0, .bool false, .int .u8 0]) 1 6 false false), L.next + 2⟩ : Heap) = A
  have g0 : A.t.get L.next = some (.cells (T.set .leaf 0 [.int .i64 r0, .int .i64 c0, .int .i64 t0, .int .i64 b0, .bool o, .int .u8 l]) 1 6 false false) := by rw [← hA]; show T.get (T.set _ _ _) _ = _; rw [T.get_set_ne _ _ (by omega)]; exact T.get_set_same _ _ _
  have g1 : A.t.get (L.next + 1) = some (.cells (T.set .leaf 0 [.int .i64 0, .int .i64 0, .int .i64 0, .int .i64 0, .bool false, .int .u8 0]) 1 6 false false) := by rw [← hA]; exact T.get_set_same _ _ _
  have k0 : ∀ n, n < L.next → A.t.get n = L.t.get n := fun n hn => by rw [← hA]; show T.get (T.set _ _ _) _ = _; rw [T.get_set_ne _ _ (by omega), T.get_set_ne _ _ (by omega)]
  clear hA
  refine ACode.seq (ACode.regS withinT_ok names_ok mix (t' := ?_) (L' := ?_) [0, 1, 2, 3, 4, 5, 6, 7] (by rfl) ?_ ?_)
  rotate_left 2
  · iterate 8 (refine sq rfl rfl rfl (by simp [go_sem, X, g0, w1, w2, Try.f125]; rfl) ?_)
    rfl
  refine ACode.seq (ACode.regS noT_ok names_ok mix (t' := ?_) (L' := ?_) [0, 1, 2, 3, 4, 5, 6] (by rfl) ?_ ?_)
  rotate_left 2
  · iterate 7 (refine sq rfl rfl rfl (by simp [go_sem, X, g0, hw, Try.f125]; rfl) ?_)
    rfl
  refine ACode.seq (ACode.regS noT_ok names_ok mix (t' := ?_) (L' := ?_) [0, 1] (by rfl) ?_ ?_)
  rotate_left 2
  · iterate 2 (refine sq rfl rfl rfl (by simp [go_sem, X, g0, g1, Try.f125]; rfl) ?_)
    rfl
  refine ACode.ret (tidy0 (.inr rfl) (vs := [.agg [.int .i64 r, .int .i64 c, .int .i64 0, .int .i64 (r - 1), .bool o, .int .u8 l]]) ?_ rfl rfl ?_)
  · simp [Try.f125, resVals, tget_set, V.asPtr, Heap.load, Heap.elem, T.get_set, Ev.part, qa225, qs225, takeN]
  · intro k hk
    show T.get _ k = _
    repeat rw [T.get_set_ne _ _ (by omega)]
    exact k0 k hk
theorem areaNew_ok (r c l : Int) (hr : 1 ≤ r ∧ r ≤ 512) (hc : 1 ≤ c ∧ c ≤ 512) (L : Heap) : ACall Try.prog 117 [.int .i64 r, .int .i64 c, .int .u8 l] L (.agg (arV r c 0 (r - 1) false l)) L := by
  have hz := fun B => areaResize_ok 0 0 0 0 false l r c hr hc B
  unfold arV at hz ⊢
  refine ACall.of_body Try.func117 rfl ?_
  refine ACode.seq (ACode.regS noT_ok names_ok mix (t' := ?_) (L' := ?_) [0] (by rfl) ?_ ?_)
  rotate_left 2
  · refine sq rfl rfl rfl (by simp [go_sem, X, Try.f117]; rfl) ?_
    rfl
  refine ACode.seq (ACode.regS (allT_ok hz) names_ok mix (t' := ?_) (L' := ?_) [0, 1, 2, 3, 4, 5] (by rfl) ?_ ?_)
  rotate_left 2
  · iterate 6 (refine sq rfl rfl rfl (by simp [go_sem, X, allT_at, Try.f117]; rfl) ?_)
    rfl
  refine ACode.ret (tidy0 (.inr rfl) (vs := [.agg [.int .i64 r, .int .i64 c, .int .i64 0, .int .i64 (r - 1), .bool false, .int .u8 l]]) ?_ rfl rfl ?_)
  · simp [Try.f117, resVals, tget_set, V.asPtr, Heap.load, Heap.elem, T.get_set, Ev.part, qa225, qs225, takeN]
  · intro k hk
    show T.get _ k = _
    repeat rw [T.get_set_ne _ _ (by omega)]
theorem nrow_ok (r c t b l : Int) (hr : 1 ≤ r ∧ r ≤ 512) (L : Heap) : ACall Try.prog 134 [.agg (arV r c t b false l), .int .i64 1] L (.int .i64 0) L := by
  have w1 := withinT_at (show (1 : Int) ≤ 1 ∧ 1 ≤ r by omega)
  have w2 := withinT_at (show (0 : Int) ≤ 0 ∧ 0 ≤ r - 1 by omega)
  have hw : IntKind.i64.wrap (r - 1) = r - 1 := Go.IntWalk.i64_in _ (by omega)
  have hw0 : IntKind.i64.wrap (1 - 1) = 0 := rfl
  have hw1 : IntKind.i64.wrap (0 + 0) = 0 := rfl
  have hw2 : IntKind.i64.wrap 0 = 0 := rfl
  refine ACall.of_body Try.func134 rfl ?_
  unfold arV
  refine ACode.seq (ACode.regS noT_ok names_ok mix (t' := ?_) (L' := ?_) [0, 1] (by rfl) ?_ ?_)
  rotate_left 2
  · iterate 2 (refine sq rfl rfl rfl (by simp [go_sem, X, Try.f134]; rfl) ?_)
    rfl
  have g0 : (L.t.set L.next (.cells (T.set .leaf 0 [.int .i64 r, .int .i64 c, .int .i64 t, .int .i64 b, .bool false, .int .u8 l]) 1 6 false false)).get L.next = some (.cells (T.set .leaf 0 [.int .i64 r, .int .i64 c, .int .i64 t, .int .i64 b, .bool false, .int .u8 l]) 1 6 false false) := T.get_set_same _ _ _
  have k0 : ∀ k, k < L.next → (L.t.set L.next (.cells (T.set .leaf 0 [.int .i64 r, .int .i64 c, .int .i64 t, .int .i64 b, .bool false, .int .u8 l]) 1 6 false false)).get k = L.t.get k := fun k hk => T.get_set_ne _ _ (by omega)
  generalize L.t.set L.next (.cells (T.set .leaf 0 [.int .i64 r, .int .i64 c, .int .i64 t, .int .i64 b, .bool false, .int .u8 l]) 1 6 false false) = T1 at *
  refine ACode.seq (ACode.regD noT_ok names_ok mix (t' := ?_) (L' := ?_) [0,1,3,7,0,31] [0,1,2,3,4,5] (by decide +kernel) (by decide +kernel) (by decide +kernel) ?_ ?_)
  rotate_left 2
  · iterate 2 (refine dq rfl rfl rfl rfl (by simp [go_sem, X, g0, hw, Try.f134]; rfl) ?_)
    refine dr rfl rfl rfl rfl (by simp [go_sem, X, g0, hw, Try.f134]; rfl) ?_
    iterate 3 (refine dq rfl rfl rfl rfl (by simp [go_sem, X, g0, hw, Try.f134]; rfl) ?_)
    rfl
  refine ACode.seq ?_
  refine ACode.seq (ACode.regS noT_ok names_ok mix (t' := ?_) (L' := ?_) [0, 1, 2] (by rfl) ?_ ?_)
  rotate_left 2
  · iterate 3 (refine sq rfl rfl rfl (by simp [go_sem, X, g0, Try.f134]; rfl) ?_)
    rfl
  refine ACode.condF (by simp [tget_set, opd]) (ACode.skip ?_)
  show ACode _ _ _ _ _ _ _
  refine ACode.seq (ACode.regS withinT_ok names_ok mix (t' := ?_) (L' := ?_) [0, 1, 2, 3, 4, 5, 6, 7, 8, 9, 10, 11] (by rfl) ?_ ?_)
  rotate_left 2
  · iterate 12 (refine sq rfl rfl rfl (by simp [go_sem, X, g0, hw0, hw1, hw2, w1, w2, Try.f134]; rfl) ?_)
    rfl
  exact ACode.ret (tidy0 (.inr rfl) (vs := [.int .i64 0]) (by simp [Try.f134, resVals, tget_set]) rfl rfl k0)
theorem ncol_ok (r c t b l : Int) (hc : 1 ≤ c ∧ c ≤ 512) (L : Heap) : ACall Try.prog 135 [.agg (arV r c t b false l), .int .i64 1] L (.int .i64 0) L := by
  have w1 := withinT_at (show (1 : Int) ≤ 1 ∧ 1 ≤ c by omega)
  have hw0 : IntKind.i64.wrap (1 - 1) = 0 := rfl
  have hw2 : IntKind.i64.wrap 0 = 0 := rfl
  refine ACall.of_body Try.func135 rfl ?_
  unfold arV
  refine ACode.seq (ACode.regS noT_ok names_ok mix (t' := ?_) (L' := ?_) [0, 1] (by rfl) ?_ ?_)
  rotate_left 2
  · iterate 2 (refine sq rfl rfl rfl (by simp [go_sem, X, Try.f135]; rfl) ?_)
    rfl
  refine ACode.seq (ACode.regS withinT_ok names_ok mix (t' := ?_) (L' := ?_) [0, 1, 2, 3, 4, 5, 6] (by rfl) ?_ ?_)
  rotate_left 2
  · iterate 7 (refine sq rfl rfl rfl (by simp [go_sem, X, hw0, hw2, w1, Try.f135]; rfl) ?_)
    rfl
  refine ACode.ret (tidy0 (.inr rfl) (vs := [.int .i64 0]) (by simp [Try.f135, resVals, tget_set]) rfl rfl ?_)
  intro k hk
  exact T.get_set_ne _ _ (by omega)
def crV (l : Int) : List V := [.int .i64 0, .int .i64 0, .bool false, .int .u8 l]
theorem goto_ok (r c t b l : Int) (hr : 1 ≤ r ∧ r ≤ 512) (hc : 1 ≤ c ∧ c ≤ 512) (L : Heap) : ACall Try.prog 128 [.agg (arV r c t b false l), .int .i64 1, .int .i64 1] L (.agg (crV l)) L := by
  obtain ⟨A, hA⟩ : ∃ A : Heap, A = ⟨((L.t.set L.next (.cells (T.set .leaf 0 (arV r c t b false l)) 1 6 false false)).set (L.next + 1) (.cells (T.set .leaf 0 (.int .i64 0 :: .int .i64 0 :: .bool false :: [.int .u8 0])) 1 4 false false)).set (L.next + 2) (.cells (T.set .leaf 0 (arV r c t b false l)) 1 6 false false), L.next + 3⟩ := ⟨_, rfl⟩
  have g0 : A.t.get L.next = some (.cells (T.set .leaf 0 (arV r c t b false l)) 1 6 false false) := by rw [hA]; show T.get (T.set _ _ _) _ = _; rw [T.get_set_ne _ _ (by omega), T.get_set_ne _ _ (by omega)]; exact T.get_set_same _ _ _
  have g1 : A.t.get (L.next + 1) = some (.cells (T.set .leaf 0 [.int .i64 0, .int .i64 0, .bool false, .int .u8 0]) 1 4 false false) := by rw [hA]; show T.get (T.set _ _ _) _ = _; rw [T.get_set_ne _ _ (by omega)]; exact T.get_set_same _ _ _
  have g2 : A.t.get (L.next + 2) = some (.cells (T.set .leaf 0 (arV r c t b false l)) 1 6 false false) := by rw [hA]; exact T.get_set_same _ _ _
  have k0 : ∀ n, n < L.next → A.t.get n = L.t.get n := fun n hn => by rw [hA]; show T.get (T.set _ _ _) _ = _; rw [T.get_set_ne _ _ (by omega), T.get_set_ne _ _ (by omega), T.get_set_ne _ _ (by omega)]
  have c1 := nrow_ok r c t b l hr A
  have c2 := ncol_ok r c t b l hc A
  unfold arV at *
  refine ACall.of_body Try.func128 rfl ?_
  refine ACode.seq (ACode.regS noT_ok names_ok mix (t' := ?_) (L' := ?_) [0, 1] (by rfl) ?_ ?_)
  rotate_left 2
  · iterate 2 (refine sq rfl rfl rfl (by simp [go_sem, X, Try.f128]; rfl) ?_)
    rfl
  refine ACode.seq (ACode.regS noT_ok names_ok mix (t' := ?_) (L' := ?_) [0, 1, 2, 3] (by rfl) ?_ ?_)
  rotate_left 2
  · iterate 4 (refine sq rfl rfl rfl (by simp [go_sem, X, Try.f128]; rfl) ?_)
    rfl
  change ACode _ _ _ _ _ ⟨((L.t.set L.next (.cells (T.set .leaf 0 [.int .i64 r, .int .i64 c, .int .i64 t, .int .i64 b, .bool false, .int .u8 l]) 1 6 false false)).set (L.next + 1) (.cells (T.set .leaf 0 (.int .i64 0 :: .int .i64 0 :: .bool false :: [.int .u8 0])) 1 4 false false)).set (L.next + 2) (.cells (T.set .leaf 0 [.int .i64 r, .int .i64 c, .int .i64 t, .int .i64 b, .bool false, .int .u8 l]) 1 6 false false), L.next + 3⟩ _
  rw [← hA]
  refine ACode.seq (ACode.regD ((oneT_okP c1).or (oneT_okP c2)) names_ok mix (t' := ?_) (L' := ?_) [0,0,3,0,0,31,0,64,255,511] [0,1,3,4,6,7,2,5,8,9] (by decide +kernel) (by decide +kernel) (by decide +kernel) ?_ ?_)
  rotate_left 2
  · refine dr rfl rfl rfl rfl (by simp [go_sem, X, g0, g1, g2, orT, oneT_sameP, oneT_neP, Try.f128]; rfl) ?_
    refine dq rfl rfl rfl rfl (by simp [go_sem, X, g0, g1, g2, orT, oneT_sameP, oneT_neP, Try.f128]; rfl) ?_
    refine dr rfl rfl rfl rfl (by simp [go_sem, X, g0, g1, g2, orT, oneT_sameP, oneT_neP, Try.f128]; rfl) ?_
    iterate 2 (refine dq rfl rfl rfl rfl (by simp [go_sem, X, g0, g1, g2, orT, oneT_sameP, oneT_neP, Try.f128]; rfl) ?_)
    refine dr rfl rfl rfl rfl (by simp [go_sem, X, g0, g1, g2, orT, oneT_sameP, oneT_neP, Try.f128]; rfl) ?_
    iterate 2 (refine dl rfl rfl (by simp [go_sem, X, g0, g1, g2, orT, oneT_sameP, oneT_neP, Try.f128]) rfl (by simp [go_sem, X, g0, g1, g2, orT, oneT_sameP, oneT_neP, Try.f128]; rfl) (by rfl) (by simp [go_sem, X, g0, g1, g2, orT, oneT_sameP, oneT_neP, Try.f128]) ?_)
    refine dq rfl rfl rfl rfl (by simp [go_sem, X, g0, g1, g2, orT, oneT_sameP, oneT_neP, Try.f128]; rfl) ?_
    refine dl rfl rfl rfl rfl (by simp [go_sem, X, g0, g1, g2, orT, oneT_sameP, oneT_neP, Try.f128]; rfl) (by rfl) (by simp [go_sem, X, g0, g1, g2, orT, oneT_sameP, oneT_neP, Try.f128]) ?_
    rfl
  refine ACode.ret (tidy0 (.inr rfl) (vs := [.agg (crV l)]) ?_ rfl rfl ?_)
  · simp [Try.f128, resVals, tget_set, V.asPtr, Heap.load, Heap.elem, T.get_set, Ev.part, qa203, qs203, takeN, crV]
  · intro k hk
    show T.get _ k = _
    rw [T.get_set_ne _ _ (by omega)]
    exact k0 k hk
theorem home_ok (r c t b l : Int) (hr : 1 ≤ r ∧ r ≤ 512) (hc : 1 ≤ c ∧ c ≤ 512) (L : Heap) : ACall Try.prog 120 [.agg (arV r c t b false l)] L (.agg (crV l)) L := by
  have hz := fun B => goto_ok r c t b l hr hc B
  unfold arV crV at *
  refine ACall.of_body Try.func120 rfl ?_
  refine ACode.seq (ACode.regS noT_ok names_ok mix (t' := ?_) (L' := ?_) [0, 1] (by rfl) ?_ ?_)
  rotate_left 2
  · iterate 2 (refine sq rfl rfl rfl (by simp [go_sem, X, Try.f120]; rfl) ?_)
    rfl
  refine ACode.seq (ACode.regS (allT_ok hz) names_ok mix (t' := ?_) (L' := ?_) [0, 1, 2] (by rfl) ?_ ?_)
  rotate_left 2
  · iterate 3 (refine sq rfl rfl rfl (by simp [go_sem, X, allT_at, Try.f120]; rfl) ?_)
    rfl
  refine ACode.ret (tidy0 (.inr rfl) (vs := [.agg [.int .i64 0, .int .i64 0, .bool false, .int .u8 l]]) ?_ rfl rfl ?_)
  · simp [Try.f120, resVals, tget_set, V.asPtr, Heap.load, Heap.elem, T.get_set, Ev.part, qa203, qs203, takeN]
  · intro k hk
    show T.get _ k = _
    repeat rw [T.get_set_ne _ _ (by omega)]
end Go.Proofs.Ytpfmoolpeecobaa
