/- The law ScriptRight holds for every row of bytes: the walk of P73 stands on every machine. Conditions: none. -/
import Derived.Test.YtpfmoolpeecobaaV8
import Derived.Test.YtpfmoolpeecobaaV17
import Derived.Test.YtpfmoolpeecobaaRows
import Derived.WalkKit
import Derived.ProofKit
import Derived.OpenShut
import Derived.ShutString
import Derived.ChangeOld
import Derived.Below
import Derived.SizedLaws
import Derived.ChangeSlices
import Derived.Carry
namespace Go.Proofs.Ytpfmoolpeecobaa.scriptRight
open Go.ChangeShapes Go.WideShapes Go.ChangeAt Go.RowKit
open Go.ChangeMaps (open_string shut_string)
open Go.Proofs.Ytpfmoolpeecobaa.Ev
set_option linter.unusedVariables false
set_option maxRecDepth 100000
theorem laidOut : laidOutB Try.prog = true := by kernel_rfl
theorem walk (a0 : Option Addr) (len0 cap0 : Nat) (z0 : List Int) (W : World) (w0 : IsRowP .u8 W a0 len0 cap0 z0) :
    Calls Try.prog 13 #[.slice a0 len0 cap0] W fun e W' => e = .returned (.bool true) ∧ Below W.heap.size W W' := by
  have w1 : IsRowP .u8 W none 0 0 [] := .inl ⟨rfl, rfl, rfl, rfl⟩
  obtain ⟨κ, L, v0, v1, H, hv0, hv1, hb0, hb1⟩ := rows_start2 w0 w1
  have h := law13_ok hb0 (row_range w0)
  obtain ⟨fn, cd, _, _, hcall⟩ := h W κ #[.slice a0 len0 cap0] W none 0 H (by simp only [VRs_cons, VRs_nil]; exact ⟨_, _, rfl, hv0, rfl⟩)
  refine (callsIn_wide.1 hcall).mono ?_
  rintro e w' ⟨z, rfl, κ', _, H', hz, _⟩
  simp only [VR] at hz
  exact ⟨by rw [hz], H'.below⟩
theorem own : ownKnob Try.prog.godebug = none := by kernel_rfl
theorem row_of {H : Type} {W : World} {base : Nat} {a : Option Addr} {len cap : Nat} {d : DataW H} {p : List MemPlace} {enc : TypeId × Value → H}
    (hv : Value.okWide Try.prog W .any base 38 (.slice a len cap)) (h : DataW.Trod enc Try.prog W 0 (fun _ => true) true 38 (.slice a len cap) d p) : ∃ zs, IsRowP .u8 W a len cap zs := by
  obtain ⟨fuel, hf⟩ := h
  rcases open_ints Try.underlying38 Try.underlying5 (by kernel_rfl) hf with ⟨hcs, _⟩ | ⟨x, l, c, zs, hcs, _, hl, hm, hz, _, hcell, hwz⟩
  · simp [Value.cells] at hcs
    obtain ⟨rfl, rfl, rfl⟩ := hcs
    exact ⟨[], .inl ⟨rfl, rfl, rfl, rfl⟩⟩
  · simp [Value.cells] at hcs
    obtain ⟨rfl, rfl, rfl⟩ := hcs
    simp only [Value.okWide, Try.underlying38, Cell.okWide, Cell.ok, World.has] at hv
    obtain ⟨_, _, _, hs, row, cells, hsh, _⟩ := hv
    refine ⟨zs, .inr ⟨_, rfl, hl, hm, by simpa using hz, hcell, hwz, hs, ?_⟩⟩
    unfold World.shape? at hsh
    split at hsh
    · exact ⟨_, _, _, by assumption⟩
    · cases hsh
theorem lifted (os : Os) (started : os.Started) (H : Type) (enc : TypeId × Value → H) :
    ReturnsInHanded {} Try.checked os 13 .any (Rows.scriptRightSpec.pre6 enc Try.prog Try.f13 Rows.scriptRightRow.domain false) (Rows.scriptRightSpec.post enc Try.prog Try.f13 false true false false) := by
  refine returnsInHanded_of_change_sized (C := Try.checked) own started (by kernel_rfl) Try.func13
    (ChangeSpec.witness6 (enc := enc) (C := Try.checked) false ⟨#[], #[.slice none 0 0], []⟩ 8 (by kernel_rfl) (by kernel_rfl) (by kernel_rfl) (by kernel_rfl)) ?_
  intro W base args ds gs before hval0 hW hcnd hsz0 _
  have hval : ∀ (j : Nat) t v, Try.f13.params[j]? = some t → args[j]? = some v → Value.okWide Try.prog W .any base t v := hval0
  have hW' := hW
  obtain ⟨p, q, hA0, hV, rfl, hfz, hnd⟩ := hW
  have hA : DataW.TrodAll enc Try.prog W 0 (fun _ => true) true Try.f13.params.toList args.toList ds p := hA0
  rw [Try.params13] at hA hval
  obtain ⟨v0, vs0, d0, ds0, p0, q0, hargs, rfl, rfl, h0, r0⟩ := trodAll_cons hA
  obtain ⟨rfl, rfl, rfl⟩ := trodAll_nil r0
  obtain rfl : args = #[v0] := by cases args; simp_all
  obtain ⟨rfl, rfl⟩ := trodVars_none hV
  obtain ⟨a0, len0, cap0, rfl⟩ := okWide_slice Try.underlying38 (hval 0 38 v0 rfl rfl)
  have k0 := h0
  have lt0 : ∀ x ∈ p0, x.block < W.heap.size := by obtain ⟨m, hm⟩ := k0; exact DataW.trod_lt m _ _ _ hm
  obtain ⟨z0, w0⟩ := row_of (hval 0 38 _ rfl rfl) h0
  clear hA0 hval0 hsz0
  refine (walk a0 len0 cap0 z0 W w0).mono fun e W' ⟨he, bel⟩ => ?_
  subst he
  exact ⟨_, rfl, _, _, _, [], _, [], hW', trodAll_mk1 (shut_bool (by kernel_rfl) _), (trodAll_cons_mk (Below.trod laidOut (by kernel_rfl) (of_decide_eq_true (by kernel_rfl)) k0 bel lt0) trodAll_mk0), rfl, bel.frame _, fun h => by cases h⟩
theorem over : Rows.scriptRightRow.holds Try.pinned (OpenSpec.ofChange Rows.scriptRightSpec) :=
  OpenClaim.holds_of_wide 13 Try.f13 rfl rfl rfl rfl rfl rfl rfl ⟨rfl, rfl, rfl, rfl, rfl⟩ rfl rfl rfl rfl rfl (by kernel_rfl) Try.func13 (by kernel_rfl)
    (of_decide_eq_true (by kernel_rfl)) (by unfold Func.isWrapper; first | (rw [if_pos (by decide +kernel)]; kernel_rfl) | (rw [if_neg (by decide +kernel)]; exact ⟨rfl, rfl⟩))
    (fun os started H enc _ => lifted os started H enc)
theorem proved : Rows.ScriptRightSaid := over
#print axioms proved
end Go.Proofs.Ytpfmoolpeecobaa.scriptRight
namespace Go.Proofs.Ytpfmoolpeecobaa
/-- The row, under a short name, for the claim. -/
theorem scriptRight_holds : Rows.ScriptRightSaid := scriptRight.proved
end Go.Proofs.Ytpfmoolpeecobaa
