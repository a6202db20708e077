/- The law ScriptLays holds for every row of bytes and every row of turns: the walk of P57 stands on every machine. Conditions: none. -/
import Derived.Test.YtpfmoolpeecobaaUZ
import Derived.Test.YtpfmoolpeecobaaRows
import Derived.WalkKit
import Derived.ProofKit
import Derived.OpenShut
import Derived.ShutString
import Derived.ChangeOld
import Derived.Below
import Derived.SizedLaws
import Derived.ChangeSlices
import Derived.Carry
namespace Go.Proofs.Ytpfmoolpeecobaa.scriptLays
open Go.ChangeShapes Go.WideShapes Go.ChangeAt Go.RowKit
open Go.ChangeMaps (open_string shut_string)
open Go.Proofs.Ytpfmoolpeecobaa.Ev
set_option linter.unusedVariables false
set_option maxRecDepth 100000
theorem laidOut : laidOutB Try.prog = true := by kernel_rfl
theorem walk (a0 : Option Addr) (len0 cap0 : Nat) (z0 : List Int) (a1 : Option Addr) (len1 cap1 : Nat) (l : List TrnV) (W : World) (w0 : IsRowP .u8 W a0 len0 cap0 z0) (w1 : IsTurns W a1 len1 cap1 l) :
    Calls Try.prog 11 #[.slice a0 len0 cap0, .slice a1 len1 cap1] W fun e W' => e = .returned (.bool true) ∧ Below W.heap.size W W' := by
  obtain ⟨κ, L, v0, v1, H, hv0, hv1, hb0, hb1⟩ := turns_start w0 w1
  have h := lays_ok hb0 (row_range w0) hb1 (turns_range w1)
  obtain ⟨fn, cd, _, _, hcall⟩ := h W κ #[.slice a0 len0 cap0, .slice a1 len1 cap1] W none 0 H (by simp only [VRs_cons, VRs_nil]; exact ⟨_, _, rfl, hv0, _, _, rfl, hv1, rfl⟩)
  refine (callsIn_wide.1 hcall).mono ?_
  rintro e w' ⟨z, rfl, κ', _, H', hz, _⟩
  simp only [VR] at hz
  exact ⟨by rw [hz], H'.below⟩
theorem own : ownKnob Try.prog.godebug = none := by kernel_rfl
theorem row_of {H : Type} {W : World} {base : Nat} {a : Option Addr} {len cap : Nat} {d : DataW H} {p : List MemPlace} {enc : TypeId × Value → H}
    (hv : Value.okWide Try.prog W .any base 38 (.slice a len cap)) (h : DataW.Trod enc Try.prog W 0 (fun _ => true) true 38 (.slice a len cap) d p) : ∃ zs, IsRowP .u8 W a len cap zs := by
  obtain ⟨fuel, hf⟩ := h
  rcases open_ints Try.underlying38 Try.underlying5 (by kernel_rfl) hf with ⟨hcs, _⟩ | ⟨x, l, c, zs, hcs, _, hl, hm, hz, _, hcell, hwz⟩
  · simp [Value.cells] at hcs
    obtain ⟨rfl, rfl, rfl⟩ := hcs
    exact ⟨[], .inl ⟨rfl, rfl, rfl, rfl⟩⟩
  · simp [Value.cells] at hcs
    obtain ⟨rfl, rfl, rfl⟩ := hcs
    simp only [Value.okWide, Try.underlying38, Cell.okWide, Cell.ok, World.has] at hv
    obtain ⟨_, _, _, hs, row, cells, hsh, _⟩ := hv
    refine ⟨zs, .inr ⟨_, rfl, hl, hm, by simpa using hz, hcell, hwz, hs, ?_⟩⟩
    unfold World.shape? at hsh
    split at hsh
    · exact ⟨_, _, _, by assumption⟩
    · cases hsh
theorem c65 : Try.prog.cellsOf 65 = 4 := by kernel_rfl
theorem c5 : Try.prog.cellsOf 5 = 1 := by kernel_rfl
theorem c63 : Try.prog.cellsOf 63 = 1 := by kernel_rfl
theorem c9 : Try.prog.cellsOf 9 = 1 := by kernel_rfl
theorem strOf_le (a : ByteArray) : ∀ b ∈ Ev.strOf a, b ≤ 255 := by
  intro b hb
  simp only [Ev.strOf, List.mem_map] at hb
  obtain ⟨x, _, rfl⟩ := hb
  have := x.toNat_lt
  omega
theorem turns_of {H : Type} {W : World} {base : Nat} {a : Option Addr} {len cap : Nat} {d : DataW H} {p : List MemPlace} {enc : TypeId × Value → H}
    (hv : Value.okWide Try.prog W .any base 62 (.slice a len cap)) (h : DataW.Trod enc Try.prog W 0 (fun _ => true) true 62 (.slice a len cap) d p) : ∃ l, IsTurns W a len cap l := by
  obtain ⟨fuel, hf⟩ := h
  rcases DataW.trod_slice Try.underlying62 hf with ⟨hcs, _⟩ | ⟨x, l, c, elems, rest, n, _, hcs, _, hb, hl, hm, hlen, hel, _⟩
  · simp [Value.cells] at hcs
    obtain ⟨rfl, rfl, rfl⟩ := hcs
    exact ⟨[], .inl ⟨rfl, rfl, rfl, rfl⟩⟩
  · simp [Value.cells] at hcs
    obtain ⟨rfl, rfl, rfl⟩ := hcs
    have each : ∀ i, i < len → ∃ q : TrnV, (∀ (j : Nat) (v : Value), q.vals[j]? = some v → W.cell? ((x.add (i * 4)).add j) = some v) ∧ TrnR q.trn := by
      intro i hi
      have h1 := hel i hi
      rw [List.getElem?_eq_getElem (by omega), c65, Option.bind_eq_some_iff] at h1
      obtain ⟨cs, hcs, hy⟩ := h1
      obtain ⟨_, hcl, hcc⟩ := World.cells?_some hcs
      obtain ⟨ys, m, _, _, _, hyl, hys⟩ := DataW.trod_struct Try.underlying65 hy
      have hyl : ys.length = 4 := hyl
      have f0 := hys 0 _ rfl
      have f1 := hys 1 _ rfl
      have f2 := hys 2 _ rfl
      have f3 := hys 3 _ rfl
      rw [List.getElem?_eq_getElem (by omega)] at f0 f1 f2 f3
      obtain ⟨w, e0, _, w0⟩ := DataW.trod_int Try.underlying5 f0
      obtain ⟨b, e1, _, w1⟩ := DataW.trod_int Try.underlying5 f1
      obtain ⟨k, e2, _, w2⟩ := DataW.trod_int Try.underlying63 f2
      obtain ⟨s, e3, _, _⟩ := DataW.trod_string Try.underlying9 f3
      have e0 : (cs.drop 0).take (Try.prog.cellsOf 5) = _ := e0
      have e1 : (cs.drop 1).take (Try.prog.cellsOf 5) = _ := e1
      have e2 : (cs.drop 2).take (Try.prog.cellsOf 63) = _ := e2
      have e3 : (cs.drop 3).take (Try.prog.cellsOf 9) = _ := e3
      rw [c5] at e0 e1
      rw [c63] at e2
      rw [c9] at e3
      match cs, hcl with
      | [v0, v1, v2, v3], _ =>
        simp at e0 e1 e2 e3
        subst e0; subst e1; subst e2; subst e3
        refine ⟨⟨w, b, k, s⟩, fun j v hj => ?_, ?_, ?_, ?_, fun y hy => strOf_le s y hy⟩
        · have hjl := (List.getElem?_eq_some_iff.1 hj).1
          simp only [TrnV.vals, List.length_cons, List.length_nil] at hjl
          rw [hcc j (by omega)]
          exact hj
        · simp [Lit.wf, IntKind.min, IntKind.max, IntKind.signed, IntKind.bits] at w0
          simp only [TrnV.trn]
          omega
        · simp [Lit.wf, IntKind.min, IntKind.max, IntKind.signed, IntKind.bits] at w1
          simp only [TrnV.trn]
          omega
        · simp [Lit.wf, IntKind.min, IntKind.max, IntKind.signed, IntKind.bits] at w2
          simp only [TrnV.trn]
          omega
    obtain ⟨ts, htl, hts⟩ := list_of len each
    simp only [Value.okWide, Try.underlying62, Cell.okWide, Cell.ok, World.has] at hv
    obtain ⟨_, _, _, hs, row, cells, hsh, _⟩ := hv
    refine ⟨ts, .inr ⟨x, rfl, hl, htl, hs, ?_, fun i q hq => (hts i q hq).1, fun q hq => ?_⟩⟩
    · unfold World.shape? at hsh
      split at hsh
      · exact ⟨_, _, _, by assumption⟩
      · cases hsh
    · obtain ⟨i, hi⟩ := List.getElem?_of_mem hq
      exact (hts i q hi).2
theorem lifted (os : Os) (started : os.Started) (H : Type) (enc : TypeId × Value → H) :
    ReturnsInHanded {} Try.checked os 11 .any (Rows.scriptLaysSpec.pre6 enc Try.prog Try.f11 Rows.scriptLaysRow.domain false) (Rows.scriptLaysSpec.post enc Try.prog Try.f11 false true false false) := by
  refine returnsInHanded_of_change_sized (C := Try.checked) own started (by kernel_rfl) Try.func11
    (ChangeSpec.witness6 (enc := enc) (C := Try.checked) false ⟨#[], #[.slice none 0 0, .slice none 0 0], []⟩ 8 (by kernel_rfl) (by kernel_rfl) (by kernel_rfl) (by kernel_rfl)) ?_
  intro W base args ds gs before hval0 hW hcnd hsz0 _
  have hval : ∀ (j : Nat) t v, Try.f11.params[j]? = some t → args[j]? = some v → Value.okWide Try.prog W .any base t v := hval0
  have hW' := hW
  obtain ⟨p, q, hA0, hV, rfl, hfz, hnd⟩ := hW
  have hA : DataW.TrodAll enc Try.prog W 0 (fun _ => true) true Try.f11.params.toList args.toList ds p := hA0
  rw [Try.params11] at hA hval
  obtain ⟨v0, vs0, d0, ds0, p0, q0, hargs, rfl, rfl, h0, r0⟩ := trodAll_cons hA
  obtain ⟨v1, vs1, d1, ds1, p1, q1, rfl, rfl, rfl, h1, r1⟩ := trodAll_cons r0
  obtain ⟨rfl, rfl, rfl⟩ := trodAll_nil r1
  obtain rfl : args = #[v0, v1] := by cases args; simp_all
  obtain ⟨rfl, rfl⟩ := trodVars_none hV
  obtain ⟨a0, len0, cap0, rfl⟩ := okWide_slice Try.underlying38 (hval 0 38 v0 rfl rfl)
  have k0 := h0
  have lt0 : ∀ x ∈ p0, x.block < W.heap.size := by obtain ⟨m, hm⟩ := k0; exact DataW.trod_lt m _ _ _ hm
  obtain ⟨z0, w0⟩ := row_of (hval 0 38 _ rfl rfl) h0
  obtain ⟨a1, len1, cap1, rfl⟩ := okWide_slice Try.underlying62 (hval 1 62 v1 rfl rfl)
  have k1 := h1
  have lt1 : ∀ x ∈ p1, x.block < W.heap.size := by obtain ⟨m, hm⟩ := k1; exact DataW.trod_lt m _ _ _ hm
  obtain ⟨l, w1⟩ := turns_of (hval 1 62 _ rfl rfl) h1
  clear hA0 hval0 hsz0
  refine (walk a0 len0 cap0 z0 a1 len1 cap1 l W w0 w1).mono fun e W' ⟨he, bel⟩ => ?_
  subst he
  exact ⟨_, rfl, _, _, _, [], _, [], hW', trodAll_mk1 (shut_bool (by kernel_rfl) _), (trodAll_cons_mk (Below.trod laidOut (by kernel_rfl) (of_decide_eq_true (by kernel_rfl)) k0 bel lt0) (trodAll_cons_mk (Below.trod laidOut (by kernel_rfl) (of_decide_eq_true (by kernel_rfl)) k1 bel lt1) trodAll_mk0)), rfl, bel.frame _, fun h => by cases h⟩
theorem over : Rows.scriptLaysRow.holds Try.pinned (OpenSpec.ofChange Rows.scriptLaysSpec) :=
  OpenClaim.holds_of_wide 11 Try.f11 rfl rfl rfl rfl rfl rfl rfl ⟨rfl, rfl, rfl, rfl, rfl⟩ rfl rfl rfl rfl rfl (by kernel_rfl) Try.func11 (by kernel_rfl)
    (of_decide_eq_true (by kernel_rfl)) (by unfold Func.isWrapper; first | (rw [if_pos (by decide +kernel)]; kernel_rfl) | (rw [if_neg (by decide +kernel)]; exact ⟨rfl, rfl⟩))
    (fun os started H enc _ => lifted os started H enc)
theorem proved : Rows.ScriptLaysSaid := over
#print axioms proved
end Go.Proofs.Ytpfmoolpeecobaa.scriptLays
namespace Go.Proofs.Ytpfmoolpeecobaa
/-- The row, under a short name, for the claim. -/
theorem scriptLays_holds : Rows.ScriptLaysSaid := scriptLays.proved
end Go.Proofs.Ytpfmoolpeecobaa
