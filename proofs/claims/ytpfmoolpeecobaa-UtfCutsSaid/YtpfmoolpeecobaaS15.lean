/- Rows of bytes that a call makes. -/
import Derived.Test.YtpfmoolpeecobaaS14
namespace Go.Proofs.Ytpfmoolpeecobaa
open Go Go.Proofs Go.Proofs.Ytpfmoolpeecobaa.Ev
set_option linter.unusedVariables false
set_option linter.unusedSimpArgs false
set_option maxRecDepth 100000
set_option maxHeartbeats 4000000

/-- a row of one-celled things that this call has made: from name `lo` on -/
def OwnG {α : Type} (f : α → V) (lo : Nat) (L : Heap) (v : V) (l : List α) : Prop :=
  (v = .nils ∧ l = []) ∨ (l ≠ [] ∧ ∃ m, v = .slice m 0 l.length 0 true ∧ lo ≤ m ∧ m < L.next ∧ L.t.get m = some (.cells (rowFrom (l.map fun x => [f x]) 0) l.length 1 true false))
theorem OwnG.keep {α : Type} {f : α → V} {lo : Nat} {L L' : Heap} {v : V} {l : List α} (h : OwnG f lo L v l) (hk : Keep L L') : OwnG f lo L' v l := by
  rcases h with h | ⟨hne, m, rfl, h1, h2, h3⟩
  · exact .inl h
  · exact .inr ⟨hne, m, rfl, h1, Nat.lt_of_lt_of_le h2 hk.1, by rw [hk.2 m h2, h3]⟩
theorem elems_rowG {α : Type} {f : α → V} {L : Heap} {m n : Nat} {l : List α} {q r : Bool} (hb : L.t.get m = some (.cells (rowFrom (l.map fun x => [f x]) 0) n 1 q r)) :
    ∀ (k o : Nat), o + k = l.length → L.elems m o 1 k = some ((l.drop o).map fun x => [f x]) := by
  intro k
  induction k with
  | zero => intro o h; simp [Heap.elems, List.drop_of_length_le (show l.length ≤ o by omega)]
  | succ k ih =>
    intro o h
    have hlt : o < l.length := by omega
    have he : L.elem m o = some ([f l[o]], 0) := by
      simp [Heap.elem, hb, rowFrom_get, Nat.mod_one, hlt]
    simp only [Heap.elems, he, Option.bind_some, List.drop_zero, takeN, Option.map_some, ih (o + 1) (by omega)]
    rw [List.drop_eq_getElem_cons hlt]
    rfl
theorem ownG_src {α : Type} {f : α → V} {lo : Nat} {L : Heap} {v : V} {l : List α} (h : OwnG f lo L v l) : srcElems L 1 v = some (l.map fun x => [f x]) := by
  rcases h with ⟨rfl, rfl⟩ | ⟨hne, m, rfl, h1, h2, h3⟩
  · rfl
  · have := elems_rowG h3 l.length 0 (by simp)
    simpa [srcElems] using this
theorem new_openG {α : Type} {f : α → V} {L : Heap} {T0 : T Blk} {all : List α} {lo : Nat} (hne : all ≠ []) (hlo : lo ≤ L.next) : OwnG f lo (newOpen 1 (all.map fun x => [f x]) L T0).2 (newOpen 1 (all.map fun x => [f x]) L T0).1 all :=
  .inr ⟨hne, L.next, by simp [newOpen], hlo, Nat.lt_succ_self _, by simp [newOpen, T.get_set_same]⟩

/-- an append to a row of the call's own -/
theorem append_ownG {α : Type} {f : α → V} (hsc : ∀ x, (f x).scalar = true) {sT e : TypeId} {by_ : Nat} {z : V} (hts : tySlice Try.prog sT = some e) (hsz : sizeT Try.prog e = some 1) (hby : bytesT Try.prog e = some by_) (hb64 : by_ ≤ 65536) (hz : zeroV Try.prog e = some z) (hzl : z.cells.length = 1)
    {lo : Nat} {L : Heap} {v x : V} {l new : List α} (h : OwnG f lo L v l) (hlo : lo ≤ L.next) (hx : srcElems L 1 x = some (new.map fun x => [f x])) (hs : l.length + new.length ≤ 16777216) :
    ∃ v' L', Ev.append Try.prog sT v x L = some (v', L') ∧ OwnG f lo L' v' (l ++ new) ∧ L.next ≤ L'.next ∧ ∀ n, n < lo → L'.t.get n = L.t.get n := by
  have hsm : ∀ k, k ≤ 16777216 → small k by_ = true := fun k hk => by simp [small, ble_dec, hk, hb64]
  unfold Ev.append
  simp only [hts, hsz, hby, hz, Option.bind_some, hx, hzl]
  rcases h with ⟨rfl, rfl⟩ | ⟨hne, m, rfl, h1, h2, h3⟩
  · cases new with
    | nil => exact ⟨.nils, L, by simp [guardO], .inl ⟨rfl, rfl⟩, Nat.le_refl _, fun _ _ => rfl⟩
    | cons a r =>
      refine ⟨_, _, ?_, new_openG (f := f) (L := L) (T0 := L.t) (all := a :: r) (by simp) hlo, Nat.le_succ _, fun n hn => T.get_set_ne _ _ (by omega)⟩
      simp only [List.map_cons, List.length_cons, List.length_map]
      rw [hsm _ (by simpa using hs)]
      rfl
  · have hold := elems_rowG h3 l.length 0 (by simp)
    rw [List.drop_zero] at hold
    cases new with
    | nil =>
      refine ⟨.slice m 0 l.length 0 true, L, ?_, .inr ⟨by simpa using hne, m, by simp, h1, h2, by simpa using h3⟩, Nat.le_refl _, fun _ _ => rfl⟩
      simp [h3, guardO, ble_dec, Heap.storeElems]
    | cons a r =>
      refine ⟨_, _, ?_, new_openG (f := f) (L := L) (T0 := L.t.del m) (all := l ++ a :: r) (by simp) hlo, Nat.le_succ _, fun n hn => ?_⟩
      · have hsc' : ((a :: r).map fun x => [f x]).all (fun x => x.all V.scalar) = true := by
          rw [List.all_map]
          exact List.all_eq_true.2 fun x _ => by simp [hsc]
        have hb : Nat.ble (0 + (l.length + ((a :: r).map fun x => [f x]).length) * 1) (l.length * 1) = false := by
          rw [ble_dec]; simp
        have hb2 : (l.length + (r.length + 1)).ble l.length = false := by
          rw [ble_dec]; simp
        simp only [h3, Option.bind_some, hb, hold, Option.map_some, hsc', Bool.and_true, List.length_map]
        rw [hsm _ hs]
        simp [guardO, hb2]
      · show T.get _ n = _
        rw [show (newOpen 1 ((l ++ a :: r).map fun x => [f x]) L (L.t.del m)).2.t = (L.t.del m).set L.next _ from rfl, T.get_set_ne _ _ (by omega), T.get_del, if_neg (by omega)]

def u8v (x : Int) : V := .int .u8 x
theorem b5 : bytesT Try.prog 5 = some 1 := by kernel_rfl
theorem append_own8 {lo : Nat} {L : Heap} {v x : V} {l new : List Int} (h : OwnG u8v lo L v l) (hlo : lo ≤ L.next) (hx : srcElems L 1 x = some (new.map fun x => [u8v x])) (hs : l.length + new.length ≤ 16777216) :
    ∃ v' L', Ev.append Try.prog 38 v x L = some (v', L') ∧ OwnG u8v lo L' v' (l ++ new) ∧ L.next ≤ L'.next ∧ ∀ n, n < lo → L'.t.get n = L.t.get n :=
  append_ownG (fun _ => rfl) ts38' s5 b5 (by decide) z5' rfl h hlo hx hs

theorem lay_src (L : Heap) (r : Int) : srcElems (layH L r) 1 (layV L r) = some ((layB r).map fun x => [u8v x]) := by
  unfold layH layV layC layB
  by_cases h1 : r < 128
  · simp [h1, srcElems, Heap.elems, Heap.elem, T.get_set, takeN, u8v]
  · by_cases h2 : r < 2048
    · simp [h1, h2, srcElems, Heap.elems, Heap.elem, T.get_set, takeN, u8v]
    · by_cases h3 : r < 65536
      · simp [h1, h2, h3, srcElems, Heap.elems, Heap.elem, T.get_set, takeN, u8v]
      · simp [h1, h2, h3, srcElems, Heap.elems, Heap.elem, T.get_set, takeN, u8v]
theorem layH_keep (L : Heap) (r : Int) : Keep L (layH L r) := ⟨Nat.le_succ _, fun n hn => T.get_set_ne _ _ (by omega)⟩
end Go.Proofs.Ytpfmoolpeecobaa
