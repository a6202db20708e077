/- The document: rows. -/
import Derived.Test.YtpfmoolpeecobaaS23
import Derived.Test.YtpfmoolpeecobaaS17
import Derived.Test.YtpfmoolpeecobaaS35
namespace Go.Proofs.Ytpfmoolpeecobaa
open Go Go.Proofs Go.Proofs.Ytpfmoolpeecobaa.Ev
set_option linter.unusedVariables false
set_option linter.unusedSimpArgs false
set_option maxRecDepth 100000
set_option maxHeartbeats 4000000

/-- a call that leaves no garbage: its heap is as it stands -/
theorem ACall.of_body_same {P : Program} {f : FuncId} {fn : Func} {c : Code} {args : List V} {L : Heap} {v : V} {L' : Heap} (hfn : P.funcs[f]? = some fn) (hc : fn.body = some c)
    (h : ACode P ⟨none, fn.ntmps⟩ c (argsT args 0) [] L (fun x t1 d1 L1 => (x = .normal ∨ x = .ret) ∧ ∃ vs, closeMarks L1 d1 = some L' ∧ resVals P t1 L' fn.results.toList = some vs ∧ one1 vs = v)) : ACall P f args L v L' := by
  intro w0 κ args' w ro n H hv
  refine ⟨fn, c, hfn, hc, callsIn_ro (ro := none) (callsIn_of_wp_marks hfn hc trivial ?_)⟩
  refine h w0 κ _ w none n _ H (argsT_AR hv _) (by simp; omega) rfl rfl ?_
  rintro x t1 d1 L1 κ' a' w' ⟨hx, vs, hL2, hvs, hvr⟩ hle H' ha' _ hd' hU
  have hl : LeavesInM (WF none) n P fn a'.tmps (ResE w0 κ L v L') a'.defers .returning w' := by
    refine leaves_sound d1 L1 w' _ hd' H' hL2 fun w2 H2 hU2 => ?_
    obtain ⟨z, hz, hvz⟩ := results_sound ha' H2 hvs
    exact ⟨z, hz, z, rfl, _, hle, H2, hvr ▸ hvz, UN_trans hU hU2⟩
  rcases hx with rfl | rfl <;> exact hl
def flats : List (List Int) := [[0, 127], [194, 223, 128, 191], [224, 224, 160, 191, 128, 191], [225, 236, 128, 191, 128, 191], [237, 237, 128, 159, 128, 191], [238, 239, 128, 191, 128, 191], [240, 240, 144, 191, 128, 191, 128, 191], [241, 243, 128, 191, 128, 191, 128, 191], [244, 244, 128, 143, 128, 191, 128, 191]]
noncomputable def fbC (l : List Int) : T (List V) := setParts ((List.range l.length).zip (l.map fun x => V.int .i64 x)) (rowOf [.int .i64 0] l.length)
noncomputable def fb (l : List Int) : Blk := .cells (fbC l) l.length 1 false false
noncomputable def obC (L : Heap) : T (List V) := setParts [(0, .slice (L.next) 0 2 2 false), (1, .slice (L.next + 1) 0 4 4 false), (2, .slice (L.next + 2) 0 6 6 false), (3, .slice (L.next + 3) 0 6 6 false), (4, .slice (L.next + 4) 0 6 6 false), (5, .slice (L.next + 5) 0 6 6 false), (6, .slice (L.next + 6) 0 8 8 false), (7, .slice (L.next + 7) 0 8 8 false), (8, .slice (L.next + 8) 0 8 8 false)] (rowOf [.nils] 9)
noncomputable def rowsHp (L : Heap) : Heap := ⟨(((((((((L.t.set (L.next) (fb [0, 127])).set (L.next + 1) (fb [194, 223, 128, 191])).set (L.next + 2) (fb [224, 224, 160, 191, 128, 191])).set (L.next + 3) (fb [225, 236, 128, 191, 128, 191])).set (L.next + 4) (fb [237, 237, 128, 159, 128, 191])).set (L.next + 5) (fb [238, 239, 128, 191, 128, 191])).set (L.next + 6) (fb [240, 240, 144, 191, 128, 191, 128, 191])).set (L.next + 7) (fb [241, 243, 128, 191, 128, 191, 128, 191])).set (L.next + 8) (fb [244, 244, 128, 143, 128, 191, 128, 191])).set (L.next + 9) (.cells (obC L) 9 1 false false), L.next + 10⟩
theorem ts131 : tySlice Try.prog 131 = some 3 := by kernel_rfl
theorem ts128 : tySlice Try.prog 128 = some 131 := by kernel_rfl
theorem s3 : sizeT Try.prog 3 = some 1 := by kernel_rfl
theorem z3 : zeroV Try.prog 3 = some (.int .i64 0) := by kernel_rfl
theorem s131 : sizeT Try.prog 131 = some 1 := by kernel_rfl
theorem z131 : zeroV Try.prog 131 = some .nils := by kernel_rfl
theorem a131 : isAggT Try.prog 131 = some false := by kernel_rfl
theorem a3 : isAggT Try.prog 3 = some false := by kernel_rfl
def i64v (x : Int) : V := .int .i64 x
theorem rows_ok (L : Heap) : ACall Try.prog 62 [] L (.slice (L.next + 9) 0 9 9 false) (rowsHp L) := by
  refine ACall.of_body_same Try.func62 rfl ?_
  refine ACode.seq (ACode.regS noT_ok names_ok mix (t' := ?_) (L' := ?_) [0] (by rfl) ?_ ?_)
  rotate_left 2
  · refine seqE_cons rfl rfl rfl (by simp (config := {decide := false}) [Nat.add_assoc, Go.IntWalk.i64_in, Go.IntWalk.i32_in, Go.IntWalk.u8_in, Go.IntWalk.u64_in, Ev.T.set_set, Ev.seqE, Ev.drawE, Ev.fits, Ev.wantedE, Ev.oneE, Ev.cls, Ev.quiet, Ev.making, Ev.setParts, Ev.rowOf, Ev.loud, Ev.opd, Ev.opds, Ev.optOpd, Ev.pairs, Ev.ofVal_bool, Ev.ofVal_int, Ev.ofVal_str, Ev.ofVal_nils, Ev.ofVal_nilp, Ev.putD, Ev.guardO_true, Ev.guardO_false, Ev.builtinQ, Ev.tget_set, Ev.argsT, Ev.V.beq_refl, Ev.isAnc, Ev.tb, Ev.ble_dec, Ev.blt_dec, Ev.beq_dec, Ev.bne_dec, Ev.idx_nat, Ev.idx_0, Ev.idx_1, Ev.idx_2, Ev.idx_3, Ev.idx_4, Ev.idx_5, Ev.idx_6, Ev.idx_7, Ev.idx_8, Ev.idx_9, Ev.index, Ev.indexAddr, Ev.sliceOp, Ev.bound, Ev.NV.mk, Ev.Heap.load, Ev.Heap.store, Ev.Heap.elem, Ev.T.get_set, Ev.T.get_leaf, Ev.V.cells, Ev.V.scalar, Ev.V.asPtr, Ev.V.asBool, Ev.V.asInt, Ev.V.asStr, Ev.V.asAgg, Ev.V.asTup, Ev.V.asMap, Ev.build, Ev.fillCells, Ev.splice, Ev.over, Ev.takeN, Ev.part, Ev.unV, Ev.binV, Ev.isShift, Ev.binI_add, Ev.binI_sub, Ev.binI_mul, Ev.binI_and, Ev.binI_or, Ev.binI_xor, Ev.binI_eql, Ev.binI_neq, Ev.binI_lss, Ev.binI_leq, Ev.binI_gtr, Ev.binI_geq, Ev.binI_quo, Ev.binI_rem, Ev.shiftI_shl, Ev.shiftI_shr, Ev.isConstO, Ev.fieldAddr, Ev.placeS, Ev.placeA, Ev.goal, Ev.recT, Ev.recheck, Ev.undefV, Ev.convQ, Ev.convNew, z24, s24, s5, a24, a5, z186, s186, a186, z187, s187, a187, st24, ar187, st186, z26, s26, a26, s21, a21, z21, ts27, ts21, st26, Try.underlying24, Try.underlying26, Try.underlying5, Try.underlying21, Try.underlying27, Try.underlying186, Try.underlying187, Try.f62]; rfl) (by rfl) (by simp only [Ev.putD]; rfl) ?_
    rfl
  refine ACode.seq (ACode.regS noT_ok names_ok mix (t' := ?_) (L' := ?_) [0, 1, 2, 3, 4, 5, 6, 7, 8, 9, 10] (by rfl) ?_ ?_)
  rotate_left 2
  · iterate 11 (refine seqE_cons rfl rfl rfl (by simp (config := {decide := false}) [Nat.add_assoc, Go.IntWalk.i64_in, Go.IntWalk.i32_in, Go.IntWalk.u8_in, Go.IntWalk.u64_in, Ev.T.set_set, Ev.seqE, Ev.drawE, Ev.fits, Ev.wantedE, Ev.oneE, Ev.cls, Ev.quiet, Ev.making, Ev.loud, Ev.opd, Ev.opds, Ev.optOpd, Ev.pairs, Ev.ofVal_bool, Ev.ofVal_int, Ev.ofVal_str, Ev.ofVal_nils, Ev.ofVal_nilp, Ev.putD, Ev.guardO_true, Ev.guardO_false, Ev.builtinQ, Ev.tget_set, Ev.argsT, Ev.V.beq_refl, Ev.isAnc, Ev.tb, Ev.ble_dec, Ev.blt_dec, Ev.beq_dec, Ev.bne_dec, Ev.idx_nat, Ev.idx_0, Ev.idx_1, Ev.idx_2, Ev.idx_3, Ev.idx_4, Ev.idx_5, Ev.idx_6, Ev.idx_7, Ev.idx_8, Ev.idx_9, Ev.index, Ev.indexAddr, Ev.sliceOp, Ev.bound, Ev.NV.mk, Ev.Heap.load, Ev.Heap.store, Ev.Heap.elem, Ev.T.get_set, Ev.T.get_leaf, Ev.V.cells, Ev.V.scalar, Ev.V.asPtr, Ev.V.asBool, Ev.V.asInt, Ev.V.asStr, Ev.V.asAgg, Ev.V.asTup, Ev.V.asMap, Ev.build, Ev.fillCells, Ev.splice, Ev.over, Ev.takeN, Ev.part, Ev.unV, Ev.binV, Ev.isShift, Ev.binI_add, Ev.binI_sub, Ev.binI_mul, Ev.binI_and, Ev.binI_or, Ev.binI_xor, Ev.binI_eql, Ev.binI_neq, Ev.binI_lss, Ev.binI_leq, Ev.binI_gtr, Ev.binI_geq, Ev.binI_quo, Ev.binI_rem, Ev.shiftI_shl, Ev.shiftI_shr, Ev.isConstO, Ev.fieldAddr, Ev.placeS, Ev.placeA, Ev.goal, Ev.recT, Ev.recheck, Ev.undefV, Ev.convQ, Ev.convNew, z24, s24, s5, a24, a5, z186, s186, a186, z187, s187, a187, st24, ar187, st186, z26, s26, a26, s21, a21, z21, ts27, ts21, st26, Try.underlying24, Try.underlying26, Try.underlying5, Try.underlying21, Try.underlying27, Try.underlying186, Try.underlying187, ts131, ts128, s3, z3, s131, z131, Try.f62]; rfl) (by rfl) (by simp only [Ev.putD]; rfl) ?_)
    rfl
  refine ACode.ret ⟨.inr rfl, [.slice (L.next + 9) 0 9 9 false], rfl, by simp [Try.f62, resVals, tget_set], rfl⟩
theorem rowsHp_keep (L : Heap) : Keep L (rowsHp L) := by
  refine ⟨by simp [rowsHp], fun n hn => ?_⟩
  show T.get _ n = _
  unfold rowsHp
  repeat rw [T.get_set_ne _ _ (by omega)]
theorem fb_sl {L : Heap} {m : Nat} {l : List Int} (hm : m < L.next) (hg : L.t.get m = some (fb l)) (h : (List.range l.length).map (fun i => (fbC l).get i) = l.map (fun x => some [V.int .i64 x])) : Sl 3 i64v L (.slice m 0 l.length l.length false) l := by
  refine .inr ⟨m, 0, l.length, false, rfl, hm, fun _ => Nat.le_refl _, ?_⟩
  intro i x hx
  have hlt : i < l.length := (List.getElem?_eq_some_iff.1 hx).1
  have h := congrArg (fun l => l[i]?) h
  simp only [List.getElem?_map, hx, Option.map_some, List.getElem?_range hlt] at h
  have h2 : (fbC l).get i = some [V.int .i64 x] := Option.some.inj h
  simp [Heap.load, Heap.elem, hg, fb, Nat.mod_one, h2, Ev.part, s3, a3, i64v]
theorem rows_sl (L : Heap) (k : Nat) (l : List Int) (h : flats[k]? = some l) : k < 9 ∧ Heap.load Try.prog (rowsHp L) 131 (L.next + 9) k = some (.slice (L.next + k) 0 l.length l.length false) ∧ Sl 3 i64v (rowsHp L) (.slice (L.next + k) 0 l.length l.length false) l := by
  have hk : k < 9 := (List.getElem?_eq_some_iff.1 h).1
  refine ⟨hk, ?_⟩
  match k, hk, h with
  | 0, _, h => obtain rfl : [0, 127] = l := Option.some.inj h; exact ⟨by simp [Heap.load, Heap.elem, rowsHp, obC, setParts, rowOf, Ev.V.cells, T.get_set, Nat.mod_one, Ev.part, s131, a131], fb_sl (by simp [rowsHp]) (by simp [rowsHp, T.get_set]) (by kernel_rfl)⟩
  | 1, _, h => obtain rfl : [194, 223, 128, 191] = l := Option.some.inj h; exact ⟨by simp [Heap.load, Heap.elem, rowsHp, obC, setParts, rowOf, Ev.V.cells, T.get_set, Nat.mod_one, Ev.part, s131, a131], fb_sl (by simp [rowsHp]) (by simp [rowsHp, T.get_set]) (by kernel_rfl)⟩
  | 2, _, h => obtain rfl : [224, 224, 160, 191, 128, 191] = l := Option.some.inj h; exact ⟨by simp [Heap.load, Heap.elem, rowsHp, obC, setParts, rowOf, Ev.V.cells, T.get_set, Nat.mod_one, Ev.part, s131, a131], fb_sl (by simp [rowsHp]) (by simp [rowsHp, T.get_set]) (by kernel_rfl)⟩
  | 3, _, h => obtain rfl : [225, 236, 128, 191, 128, 191] = l := Option.some.inj h; exact ⟨by simp [Heap.load, Heap.elem, rowsHp, obC, setParts, rowOf, Ev.V.cells, T.get_set, Nat.mod_one, Ev.part, s131, a131], fb_sl (by simp [rowsHp]) (by simp [rowsHp, T.get_set]) (by kernel_rfl)⟩
  | 4, _, h => obtain rfl : [237, 237, 128, 159, 128, 191] = l := Option.some.inj h; exact ⟨by simp [Heap.load, Heap.elem, rowsHp, obC, setParts, rowOf, Ev.V.cells, T.get_set, Nat.mod_one, Ev.part, s131, a131], fb_sl (by simp [rowsHp]) (by simp [rowsHp, T.get_set]) (by kernel_rfl)⟩
  | 5, _, h => obtain rfl : [238, 239, 128, 191, 128, 191] = l := Option.some.inj h; exact ⟨by simp [Heap.load, Heap.elem, rowsHp, obC, setParts, rowOf, Ev.V.cells, T.get_set, Nat.mod_one, Ev.part, s131, a131], fb_sl (by simp [rowsHp]) (by simp [rowsHp, T.get_set]) (by kernel_rfl)⟩
  | 6, _, h => obtain rfl : [240, 240, 144, 191, 128, 191, 128, 191] = l := Option.some.inj h; exact ⟨by simp [Heap.load, Heap.elem, rowsHp, obC, setParts, rowOf, Ev.V.cells, T.get_set, Nat.mod_one, Ev.part, s131, a131], fb_sl (by simp [rowsHp]) (by simp [rowsHp, T.get_set]) (by kernel_rfl)⟩
  | 7, _, h => obtain rfl : [241, 243, 128, 191, 128, 191, 128, 191] = l := Option.some.inj h; exact ⟨by simp [Heap.load, Heap.elem, rowsHp, obC, setParts, rowOf, Ev.V.cells, T.get_set, Nat.mod_one, Ev.part, s131, a131], fb_sl (by simp [rowsHp]) (by simp [rowsHp, T.get_set]) (by kernel_rfl)⟩
  | 8, _, h => obtain rfl : [244, 244, 128, 143, 128, 191, 128, 191] = l := Option.some.inj h; exact ⟨by simp [Heap.load, Heap.elem, rowsHp, obC, setParts, rowOf, Ev.V.cells, T.get_set, Nat.mod_one, Ev.part, s131, a131], fb_sl (by simp [rowsHp]) (by simp [rowsHp, T.get_set]) (by kernel_rfl)⟩
end Go.Proofs.Ytpfmoolpeecobaa
