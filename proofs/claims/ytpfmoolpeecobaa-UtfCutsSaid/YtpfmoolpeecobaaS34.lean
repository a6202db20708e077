/- Appends that leave all else as it was. -/
import Derived.Test.YtpfmoolpeecobaaS17
namespace Go.Proofs.Ytpfmoolpeecobaa
open Go Go.Proofs Go.Proofs.Ytpfmoolpeecobaa.Ev
set_option linter.unusedVariables false
set_option linter.unusedSimpArgs false
set_option maxRecDepth 100000
set_option maxHeartbeats 4000000

/-- the name of a row's block -/
def nm : V → Option Nat
  | .slice m _ _ _ _ => some m
  | _ => none
theorem OwnG.nm_lt {α : Type} {f : α → V} {lo : Nat} {L : Heap} {v : V} {l : List α} (h : OwnG f lo L v l) {m : Nat} (hm : nm v = some m) : lo ≤ m ∧ m < L.next := by
  rcases h with ⟨rfl, _⟩ | ⟨_, k, rfl, h1, h2, _⟩
  · cases hm
  · simp only [nm, Option.some.injEq] at hm; subst hm; exact ⟨h1, h2⟩
theorem OwnG.still {α : Type} {f : α → V} {lo : Nat} {L L' : Heap} {v : V} {l : List α} (h : OwnG f lo L v l) (hn : L.next ≤ L'.next) (hk : ∀ m, nm v = some m → L'.t.get m = L.t.get m) : OwnG f lo L' v l := by
  rcases h with h | ⟨hne, m, rfl, h1, h2, h3⟩
  · exact .inl h
  · exact .inr ⟨hne, m, rfl, h1, Nat.lt_of_lt_of_le h2 hn, by rw [hk m rfl, h3]⟩
/-- an append to a row of the call's own: no other block is changed -/
theorem append_ownX {α : Type} {f : α → V} (hsc : ∀ x, (f x).scalar = true) {sT e : TypeId} {by_ : Nat} {z : V} (hts : tySlice Try.prog sT = some e) (hsz : sizeT Try.prog e = some 1) (hby : bytesT Try.prog e = some by_) (hb64 : by_ ≤ 65536) (hz : zeroV Try.prog e = some z) (hzl : z.cells.length = 1)
    {lo : Nat} {L : Heap} {v x : V} {l new : List α} (h : OwnG f lo L v l) (hlo : lo ≤ L.next) (hx : srcElems L 1 x = some (new.map fun x => [f x])) (hs : l.length + new.length ≤ 16777216) :
    ∃ v' L', Ev.append Try.prog sT v x L = some (v', L') ∧ OwnG f lo L' v' (l ++ new) ∧ L.next ≤ L'.next ∧ (∀ n, n < L.next → nm v ≠ some n → L'.t.get n = L.t.get n) ∧ (nm v' = nm v ∨ nm v' = some L.next) := by
  have hsm : ∀ k, k ≤ 16777216 → small k by_ = true := fun k hk => by simp [small, ble_dec, hk, hb64]
  unfold Ev.append
  simp only [hts, hsz, hby, hz, Option.bind_some, hx, hzl]
  rcases h with ⟨rfl, rfl⟩ | ⟨hne, m, rfl, h1, h2, h3⟩
  · cases new with
    | nil => exact ⟨.nils, L, by simp [guardO], .inl ⟨rfl, rfl⟩, Nat.le_refl _, fun _ _ _ => rfl, .inl rfl⟩
    | cons a r =>
      refine ⟨_, _, ?_, new_openG (f := f) (L := L) (T0 := L.t) (all := a :: r) (by simp) hlo, Nat.le_succ _, fun n hn _ => T.get_set_ne _ _ (by omega), .inr rfl⟩
      simp only [List.map_cons, List.length_cons, List.length_map]
      rw [hsm _ (by simpa using hs)]
      rfl
  · have hold := elems_rowG h3 l.length 0 (by simp)
    rw [List.drop_zero] at hold
    cases new with
    | nil =>
      refine ⟨.slice m 0 l.length 0 true, L, ?_, .inr ⟨by simpa using hne, m, by simp, h1, h2, by simpa using h3⟩, Nat.le_refl _, fun _ _ _ => rfl, .inl rfl⟩
      simp [h3, guardO, ble_dec, Heap.storeElems]
    | cons a r =>
      refine ⟨_, _, ?_, new_openG (f := f) (L := L) (T0 := L.t.del m) (all := l ++ a :: r) (by simp) hlo, Nat.le_succ _, fun n hn hnm => ?_, .inr rfl⟩
      · have hsc' : ((a :: r).map fun x => [f x]).all (fun x => x.all V.scalar) = true := by
          rw [List.all_map]
          exact List.all_eq_true.2 fun x _ => by simp [hsc]
        have hb : Nat.ble (0 + (l.length + ((a :: r).map fun x => [f x]).length) * 1) (l.length * 1) = false := by
          rw [ble_dec]; simp
        have hb2 : (l.length + (r.length + 1)).ble l.length = false := by
          rw [ble_dec]; simp
        simp only [h3, Option.bind_some, hb, hold, Option.map_some, hsc', Bool.and_true, List.length_map]
        rw [hsm _ hs]
        simp [guardO, hb2]
      · show T.get _ n = _
        have hnm' : n ≠ m := fun e => hnm (by rw [e]; rfl)
        rw [show (newOpen 1 ((l ++ a :: r).map fun x => [f x]) L (L.t.del m)).2.t = (L.t.del m).set L.next _ from rfl, T.get_set_ne _ _ (by omega), T.get_del, if_neg hnm']
/-- a row of runes -/
abbrev OwnR := OwnG i32v
theorem append_runes {lo : Nat} {L : Heap} {v x : V} {l new : List Int} (h : OwnR lo L v l) (hlo : lo ≤ L.next) (hx : srcElems L 1 x = some (new.map i32c)) (hs : l.length + new.length ≤ 16777216) :
    ∃ v' L', Ev.append Try.prog 27 v x L = some (v', L') ∧ OwnR lo L' v' (l ++ new) ∧ L.next ≤ L'.next ∧ (∀ n, n < L.next → nm v ≠ some n → L'.t.get n = L.t.get n) ∧ (nm v' = nm v ∨ nm v' = some L.next) :=
  append_ownX (fun _ => rfl) ts27 s21 b27 (by decide) z21 rfl h hlo hx hs
theorem OwnG.own {lo : Nat} {L : Heap} {v : V} {l : List Int} (h : OwnR lo L v l) : Own lo L v l := h
theorem rowV_len (L : Heap) (l : List Int) (L' : Heap) : Ev.builtinQ Try.prog .len #[27] [rowV L l] L' = some (.int .i64 (l.length : Int)) := by
  match l with
  | [] => simp [Ev.builtinQ, rowV, ts27]
  | [x] => simp [Ev.builtinQ, rowV, ts27]
  | x :: y :: r => simp [Ev.builtinQ, rowV, ts27]
theorem rowV_nm {L : Heap} {l : List Int} {m : Nat} (h : nm (rowV L l) = some m) : m = L.next := by
  match l, h with
  | [], h => cases h
  | [x], h => simpa [nm, rowV, eq_comm] using h
  | x :: y :: r, h => simpa [nm, rowV, eq_comm] using h
/-- a row that a step handed back, elsewhere -/
theorem row_src2 {L L2 : Heap} {l : List Int} (h : (rowH L l).next ≤ L2.next) (hk : l ≠ [] → L2.t.get L.next = (rowH L l).t.get L.next) : srcElems L2 1 (rowV L l) = some (l.map i32c) := by
  match l with
  | [] => rfl
  | [x] =>
    have h := elems_row (L := L2) (m := L.next) (n := 1) (l := [x]) (q := false) (r := false) (by rw [hk (by simp)]; exact T.get_set_same _ _ _) 1 0 rfl
    simpa [rowV, srcElems] using h
  | x :: y :: r =>
    have h := elems_row (L := L2) (m := L.next) (n := (x :: y :: r).length) (l := x :: y :: r) (q := true) (r := false) (by rw [hk (by simp)]; exact T.get_set_same _ _ _) (x :: y :: r).length 0 (by simp)
    simpa [rowV, srcElems] using h
/-- the cell of a decoder -/
noncomputable def decB (d : Dec) : Blk := .cells (T.set .leaf 0 d.V.cells) 1 5 false false
theorem b39 : bytesT Try.prog 9 = some 16 := by kernel_rfl
end Go.Proofs.Ytpfmoolpeecobaa
