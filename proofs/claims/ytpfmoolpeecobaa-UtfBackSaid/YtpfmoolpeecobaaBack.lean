/- The law UtfBack holds for every row of runes and every text: the walk of S24 stands on every machine. Conditions: none. -/
import Derived.Test.YtpfmoolpeecobaaS24
import Derived.Test.YtpfmoolpeecobaaS30
import Derived.Test.YtpfmoolpeecobaaRows
import Derived.WalkKit
import Derived.ProofKit
import Derived.OpenShut
import Derived.ShutString
import Derived.ChangeOld
import Derived.Below
import Derived.SizedLaws
import Derived.ChangeSlices
import Derived.Carry
namespace Go.Proofs.Ytpfmoolpeecobaa.utfBack
open Go.ChangeShapes Go.WideShapes Go.ChangeAt Go.RowKit
open Go.ChangeMaps (open_string shut_string)
open Go.Proofs.Ytpfmoolpeecobaa.Ev
set_option linter.unusedVariables false
set_option maxRecDepth 100000
theorem laidOut : laidOutB Try.prog = true := by kernel_rfl
theorem strOf_lt (a : ByteArray) : ∀ b ∈ Ev.strOf a, b < 256 := by
  intro b hb
  simp only [Ev.strOf, List.mem_map] at hb
  obtain ⟨x, _, rfl⟩ := hb
  exact x.toNat_lt
theorem walk (a0 : Option Addr) (len0 cap0 : Nat) (z0 : List Int) (a1 : ByteArray) (W : World) (w0 : IsRow .i32 W a0 len0 cap0 z0) : Calls Try.prog 7 #[.slice a0 len0 cap0, .string a1] W fun e W' => e = .returned (.bool true) ∧ Below W.heap.size W W' := by
  obtain ⟨κ, L, v, H, hv, hl, _⟩ := row_start s21 a21 w0
  have h := utfBack_ok (s0 := Ev.strOf a1) hl (strOf_lt a1)
  obtain ⟨fn, c, _, _, hc⟩ := h W κ #[.slice a0 len0 cap0, .string a1] W none 0 H (by simp only [VRs_cons, VRs_nil]; exact ⟨_, _, rfl, hv, _, _, rfl, by simp [VR], rfl⟩)
  refine (callsIn_wide.1 hc).mono ?_
  rintro e w' ⟨z, rfl, κ', _, H', hz, _⟩
  simp only [VR] at hz
  exact ⟨by rw [hz], H'.below⟩
theorem own : ownKnob Try.prog.godebug = none := by kernel_rfl
theorem row_of {H : Type} {W : World} {base : Nat} {a : Option Addr} {len cap : Nat} {d : DataW H} {p : List MemPlace} {enc : TypeId × Value → H}
    (hv : Value.okWide Try.prog W .any base 27 (.slice a len cap)) (h : DataW.Trod enc Try.prog W 0 (fun _ => true) true 27 (.slice a len cap) d p) : ∃ zs, IsRow .i32 W a len cap zs := by
  obtain ⟨fuel, hf⟩ := h
  rcases open_ints Try.underlying27 Try.underlying21 (by kernel_rfl) hf with ⟨hcs, _⟩ | ⟨x, l, c, zs, hcs, _, hl, hm, hz, _, hcell, hwz⟩
  · simp [Value.cells] at hcs
    obtain ⟨rfl, rfl, rfl⟩ := hcs
    exact ⟨[], .inl ⟨rfl, rfl, rfl, rfl⟩⟩
  · simp [Value.cells] at hcs
    obtain ⟨rfl, rfl, rfl⟩ := hcs
    simp only [Value.okWide, Try.underlying27, Cell.okWide, Cell.ok, World.has] at hv
    obtain ⟨_, _, _, hs, row, cells, hsh, _⟩ := hv
    refine ⟨zs, .inr ⟨_, rfl, hl, hm, by simpa using hz, hcell, hwz, hs, ?_⟩⟩
    unfold World.shape? at hsh
    split at hsh
    · exact ⟨_, _, _, by assumption⟩
    · cases hsh
theorem lifted (os : Os) (started : os.Started) (H : Type) (enc : TypeId × Value → H) :
    ReturnsInHanded {} Try.checked os 7 .any (Rows.utfBackSpec.pre6 enc Try.prog Try.f7 Rows.utfBackRow.domain false) (Rows.utfBackSpec.post enc Try.prog Try.f7 false true false false) := by
  refine returnsInHanded_of_change_sized (C := Try.checked) own started (by kernel_rfl) Try.func7
    (ChangeSpec.witness6 (enc := enc) (C := Try.checked) false ⟨#[], #[.slice none 0 0, .string ByteArray.empty], []⟩ 8 (by kernel_rfl) (by kernel_rfl) (by kernel_rfl) (by kernel_rfl)) ?_
  intro W base args ds gs before hval0 hW hcnd hsz0 _
  have hval : ∀ (j : Nat) t v, Try.f7.params[j]? = some t → args[j]? = some v → Value.okWide Try.prog W .any base t v := hval0
  have hW' := hW
  obtain ⟨p, q, hA0, hV, rfl, hfz, hnd⟩ := hW
  have hA : DataW.TrodAll enc Try.prog W 0 (fun _ => true) true Try.f7.params.toList args.toList ds p := hA0
  rw [Try.params7] at hA hval
  obtain ⟨v0, vs0, d0, ds0, p0, q0, hargs, rfl, rfl, h0, r0⟩ := trodAll_cons hA
  obtain ⟨v1, vs1, d1, ds1, p1, q1, rfl, rfl, rfl, h1, r1⟩ := trodAll_cons r0
  obtain ⟨rfl, rfl, rfl⟩ := trodAll_nil r1
  obtain rfl : args = #[v0, v1] := by cases args; simp_all
  obtain ⟨rfl, rfl⟩ := trodVars_none hV
  obtain ⟨a0, len0, cap0, rfl⟩ := okWide_slice Try.underlying27 (hval 0 27 v0 rfl rfl)
  have k0 := h0
  have lt0 : ∀ x ∈ p0, x.block < W.heap.size := by obtain ⟨m, hm⟩ := k0; exact DataW.trod_lt m _ _ _ hm
  obtain ⟨z0, w0⟩ := row_of (hval 0 27 _ rfl rfl) h0
  obtain ⟨a1, rfl, rfl, rfl, y1⟩ := open_string Try.underlying9 (hval 1 9 v1 rfl rfl) h1
  clear hA0 hval0 hsz0
  refine (walk a0 len0 cap0 z0 a1 W w0).mono fun e W' ⟨he, bel⟩ => ?_
  subst he
  exact ⟨_, rfl, _, _, _, [], _, [], hW', trodAll_mk1 (shut_bool (by kernel_rfl) _), (trodAll_cons_mk (Below.trod laidOut (by kernel_rfl) (of_decide_eq_true (by kernel_rfl)) k0 bel lt0) (trodAll_cons_mk (shut_string Try.underlying9 y1) trodAll_mk0)), rfl, bel.frame _, fun h => by cases h⟩
theorem over : Rows.utfBackRow.holds Try.pinned (OpenSpec.ofChange Rows.utfBackSpec) :=
  OpenClaim.holds_of_wide 7 Try.f7 rfl rfl rfl rfl rfl rfl rfl ⟨rfl, rfl, rfl, rfl, rfl⟩ rfl rfl rfl rfl rfl (by kernel_rfl) Try.func7 (by kernel_rfl)
    (of_decide_eq_true (by kernel_rfl)) (by unfold Func.isWrapper; first | (rw [if_pos (by decide +kernel)]; kernel_rfl) | (rw [if_neg (by decide +kernel)]; exact ⟨rfl, rfl⟩))
    (fun os started H enc _ => lifted os started H enc)
theorem proved : Rows.UtfBackSaid := over
#print axioms proved
end Go.Proofs.Ytpfmoolpeecobaa.utfBack
namespace Go.Proofs.Ytpfmoolpeecobaa
/-- The row, under a short name, for the claim. -/
theorem utfBack_holds : Rows.UtfBackSaid := utfBack.proved
end Go.Proofs.Ytpfmoolpeecobaa
