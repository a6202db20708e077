/- A row of whole numbers that was given, on named states. -/
import Derived.Test.YtpfmoolpeecobaaS21
import Derived.Test.YtpfmoolpeecobaaS17
namespace Go.Proofs.Ytpfmoolpeecobaa
open Go Go.Proofs Go.Proofs.Ytpfmoolpeecobaa.Ev
set_option linter.unusedVariables false
set_option linter.unusedSimpArgs false

def IsRow (k : IntKind) (w : World) (a : Option Addr) (len cap : Nat) (zs : List Int) : Prop :=
  (a = none ∧ len = 0 ∧ cap = 0 ∧ zs = []) ∨
  ∃ x, a = some x ∧ len ≤ cap ∧ cap ≤ maxLen ∧ zs.length = cap ∧ (∀ i, i < zs.length → w.cell? (x.add i) = some (.int k (zs.getD i 0))) ∧ (∀ n ∈ zs, (Lit.int k n).wf = true) ∧
    x.spot = none ∧ ∃ xs el fr, w.heap[x.block]? = some (.cells xs el fr)
theorem given_sl {k : IntKind} {e : TypeId} {zs : List Int} {len cap : Nat} (hsz : sizeT Try.prog e = some 1) (ha : isAggT Try.prog e = some false) (hl : len ≤ cap) (hz : zs.length = cap) :
    Sl e (fun x => V.int k x) (givenH k zs) (.slice 0 0 len cap false) (zs.take len) := by
  have hlen : (zs.take len).length = len := by rw [List.length_take]; omega
  refine .inr ⟨0, 0, cap, false, by rw [hlen], by simp [givenH], fun _ => by rw [hlen]; exact hl, ?_⟩
  intro i x hx
  have hlt := (List.getElem?_eq_some_iff.1 hx).1
  rw [hlen] at hlt
  rw [List.getElem?_take_of_lt hlt] at hx
  simp [Heap.load, Heap.elem, givenH, T.get_set, intRow_get, Nat.mod_one, hx, Ev.part, hsz, ha]
/-- a given row of whole numbers, as the named states have it -/
theorem row_start {k : IntKind} {e : TypeId} (hsz : sizeT Try.prog e = some 1) (ha : isAggT Try.prog e = some false) {W : World} {a : Option Addr} {len cap : Nat} {zs : List Int} (h : IsRow k W a len cap zs) :
    ∃ κ L v, HR W κ L W ∧ VR κ v (.slice a len cap) ∧ Sl e (fun x => V.int k x) L v (zs.take len) ∧ len ≤ maxLen := by
  rcases h with ⟨rfl, rfl, rfl, rfl⟩ | ⟨x, rfl, hl, hm, hz, hc, hw, hs, hb⟩
  · exact ⟨_, _, .nils, HR.start W, by simp [VR], .inl ⟨rfl, by simp⟩, by simp⟩
  · exact ⟨_, _, _, given_HR k W x cap zs hs hb hc, given_VR hs (by simp) hl, given_sl hsz ha hl hz, by omega⟩
end Go.Proofs.Ytpfmoolpeecobaa
