/- Short words for runs: the laws of an operation in one, steps whose last parts go by themselves. -/
import Derived.Test.YtpfmoolpeecobaaX17
namespace Go.Proofs.Ytpfmoolpeecobaa.Ev
open Go.RowKit
set_option linter.unusedVariables false
set_option linter.defProp false
variable {P : Program} {L : Heap} {t : T V}
attribute [go_sem] EVT seqE drawE fits wantedE oneE cls quiet making setParts rowOf loud opd opds optOpd pairs putD argsT isAnc bound NV.mk V.asPtr V.asBool V.asInt V.asStr V.asAgg V.asTup V.asMap fillCells splice over takeN Ev.part unV binV isShift isConstO fieldAddr placeS placeA goal recT recR recheck undefV convNew
def xl := @Heap.load.eq_1
def xs := @Heap.store.eq_1
def xe := @Heap.elem.eq_1
def xa := And.intro @Ev.indexAddr.eq_1 (And.intro @Ev.indexAddr.eq_2 @Ev.indexAddr.eq_3)
def xi := And.intro @Ev.index.eq_1 (And.intro @Ev.index.eq_2 @Ev.index.eq_3)
def xo := And.intro @Ev.sliceOp.eq_1 (And.intro @Ev.sliceOp.eq_2 (And.intro @Ev.sliceOp.eq_3 (And.intro @Ev.sliceOp.eq_4 (And.intro @Ev.sliceOp.eq_5 @Ev.sliceOp.eq_6))))
def xb := @Ev.build.eq_1
def xq := And.intro @Ev.builtinQ.eq_1 (And.intro @Ev.builtinQ.eq_2 (And.intro @Ev.builtinQ.eq_3 @Ev.builtinQ.eq_4))
def xv := And.intro @Ev.convQ.eq_1 (And.intro @Ev.convQ.eq_2 (And.intro @Ev.convQ.eq_3 (And.intro @Ev.convQ.eq_4 @Ev.convQ.eq_5)))
def xc := And.intro @V.cells.eq_1 @V.cells.eq_2
def xk := And.intro @V.scalar.eq_1 (And.intro @V.scalar.eq_2 @V.scalar.eq_3)
def X := And.intro @xl (And.intro @xs (And.intro @xe (And.intro @xa (And.intro @xi (And.intro @xo (And.intro @xb (And.intro @xq (And.intro @xv (And.intro @xc @xk)))))))))
theorem sq {rec : Cmd → Rs} {e : Env} {ops : Array Oper} {i : Nat} {rest : List Nat} {o : Oper} {q : V × Heap} {r : T V × Heap} (ho : ops.toList[i]? = some o) (hf : fits e o = true) (hw : wantedE ops o t = true)
    (h1 : oneE P rec o t L = some q) {v : V} {L1 : Heap} {t1 : T V} (h2 : seqE P rec e ops rest t1 L1 = some r) (hq : q = (v, L1) := by rfl) (ht : putD t o.dst v = t1 := by simp only [putD]; rfl) : seqE P rec e ops (i :: rest) t L = some r :=
  seqE_cons ho hf hw h1 hq ht h2
theorem sk {rec : Cmd → Rs} {e : Env} {ops : Array Oper} {i : Nat} {rest : List Nat} {o : Oper} {r : T V × Heap} (ho : ops.toList[i]? = some o) (hf : fits e o = true) (hw : wantedE ops o t = false)
    {t1 : T V} (h2 : seqE P rec e ops rest t1 L = some r) (ht : putD t o.dst undefV = t1 := by simp only [putD]; rfl) : seqE P rec e ops (i :: rest) t L = some r :=
  seqE_skip ho hf hw ht h2
theorem dq {rec : Cmd → Rs} {e : Env} {ops : Array Oper} {anc : List Nat} {i : Nat} {rest : List Nat} {pd : List Pend} {o : Oper} {v : V} {r : T V × Heap} (ho : ops.toList[i]? = some o) (hf : fits e o = true) (hw : wantedE ops o t = true)
    (hc : cls P o = .quiet false) (h1 : quiet P o t L = some v) {t1 : T V} (h2 : drawE P rec e ops anc rest t1 pd L = some r) (ht : putD t o.dst v = t1 := by simp only [putD]; rfl) : drawE P rec e ops anc (i :: rest) t pd L = some r :=
  drawE_quiet ho hf hw hc h1 ht h2
theorem dr {rec : Cmd → Rs} {e : Env} {ops : Array Oper} {anc : List Nat} {i : Nat} {rest : List Nat} {pd : List Pend} {o : Oper} {v : V} {r : T V × Heap} (ho : ops.toList[i]? = some o) (hf : fits e o = true) (hw : wantedE ops o t = true)
    (hc : cls P o = .quiet true) (h1 : quiet P o t L = some v) {t1 : T V} (h2 : drawE P rec e ops anc rest t1 (⟨i, o, t, v⟩ :: pd) L = some r) (ht : putD t o.dst v = t1 := by simp only [putD]; rfl) : drawE P rec e ops anc (i :: rest) t pd L = some r :=
  drawE_quietR ho hf hw hc h1 ht h2
theorem dm {rec : Cmd → Rs} {e : Env} {ops : Array Oper} {anc : List Nat} {i : Nat} {rest : List Nat} {pd : List Pend} {o : Oper} {p : Blk × NV} {r : T V × Heap} (ho : ops.toList[i]? = some o) (hf : fits e o = true) (hw : wantedE ops o t = true)
    (hc : cls P o = .making) (h1 : making P o t = some p) {bl : Blk} {nv : NV} {t1 : T V} (h2 : drawE P rec e ops anc rest t1 pd ⟨L.t.set L.next bl, L.next + 1⟩ = some r) (hq : p = (bl, nv) := by rfl) (ht : putD t o.dst (nv.mk L.next) = t1 := by simp only [putD, NV.mk]; rfl) : drawE P rec e ops anc (i :: rest) t pd L = some r :=
  drawE_make ho hf hw hc h1 hq ht h2
theorem dl {rec : Cmd → Rs} {e : Env} {ops : Array Oper} {anc : List Nat} {i : Nat} {rest : List Nat} {pd : List Pend} {o : Oper} {q : V × Heap} {r : T V × Heap} (ho : ops.toList[i]? = some o) (hf : fits e o = true) (hw : wantedE ops o t = true)
    (hc : isQuiet (cls P o) = false) (h1 : oneE P rec o t L = some q) {v : V} {L1 : Heap} (hq : q = (v, L1)) (hr : recheck P anc i L1 pd = true) {t1 : T V} (h2 : drawE P rec e ops anc rest t1 pd L1 = some r) (ht : putD t o.dst v = t1 := by simp only [putD]; rfl) : drawE P rec e ops anc (i :: rest) t pd L = some r :=
  drawE_loud ho hf hw hc h1 hq hr ht h2
theorem ds {rec : Cmd → Rs} {e : Env} {ops : Array Oper} {anc : List Nat} {i : Nat} {rest : List Nat} {pd : List Pend} {o : Oper} {r : T V × Heap} (ho : ops.toList[i]? = some o) (hf : fits e o = true) (hw : wantedE ops o t = false)
    {t1 : T V} (h2 : drawE P rec e ops anc rest t1 pd L = some r) (ht : putD t o.dst undefV = t1 := by simp only [putD]; rfl) : drawE P rec e ops anc (i :: rest) t pd L = some r :=
  drawE_skip ho hf hw ht h2
end Go.Proofs.Ytpfmoolpeecobaa.Ev
