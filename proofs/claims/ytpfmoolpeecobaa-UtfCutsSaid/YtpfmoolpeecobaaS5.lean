/- Rows of runes that a call makes. -/
import Derived.Test.YtpfmoolpeecobaaS4
namespace Go.Proofs.Ytpfmoolpeecobaa
open Go Go.Proofs Go.Proofs.Ytpfmoolpeecobaa.Ev
set_option linter.unusedVariables false
set_option linter.unusedSimpArgs false
set_option maxRecDepth 100000
set_option maxHeartbeats 4000000

/-- old names stand as they did -/
def Keep (L L' : Heap) : Prop := L.next ≤ L'.next ∧ ∀ n, n < L.next → L'.t.get n = L.t.get n
theorem Keep.refl (L : Heap) : Keep L L := ⟨Nat.le_refl _, fun _ _ => rfl⟩
theorem Keep.trans {a b c : Heap} (h : Keep a b) (h' : Keep b c) : Keep a c := ⟨Nat.le_trans h.1 h'.1, fun n hn => (h'.2 n (Nat.lt_of_lt_of_le hn h.1)).trans (h.2 n hn)⟩

def i32c (x : Int) : List V := [.int .i32 x]
/-- a row of runes that this call has made: from name `lo` on -/
def Own (lo : Nat) (L : Heap) (v : V) (l : List Int) : Prop :=
  (v = .nils ∧ l = []) ∨ (l ≠ [] ∧ ∃ m, v = .slice m 0 l.length 0 true ∧ lo ≤ m ∧ m < L.next ∧ L.t.get m = some (.cells (rowFrom (l.map i32c) 0) l.length 1 true false))

theorem rowFrom_get (l : List (List V)) : ∀ (i e : Nat), (rowFrom l i).get e = if i ≤ e then l[e - i]? else none := by
  induction l with
  | nil => intro i e; simp [rowFrom, T.get_leaf]
  | cons x l ih =>
    intro i e
    rw [rowFrom, T.get_set]
    by_cases h : e = i
    · subst h; simp
    · rw [if_neg h, ih]
      by_cases h2 : i + 1 ≤ e
      · rw [if_pos h2, if_pos (by omega), show e - i = (e - (i + 1)) + 1 by omega, List.getElem?_cons_succ]
      · rw [if_neg h2, if_neg (by omega)]

theorem elems_row {L : Heap} {m n : Nat} {l : List Int} {q r : Bool} (hb : L.t.get m = some (.cells (rowFrom (l.map i32c) 0) n 1 q r)) :
    ∀ (k o : Nat), o + k = l.length → L.elems m o 1 k = some ((l.drop o).map i32c) := by
  intro k
  induction k with
  | zero => intro o h; simp [Heap.elems, List.drop_of_length_le (show l.length ≤ o by omega)]
  | succ k ih =>
    intro o h
    have hlt : o < l.length := by omega
    have he : L.elem m o = some ([V.int .i32 l[o]], 0) := by
      simp [Heap.elem, hb, rowFrom_get, Nat.mod_one, hlt, i32c]
    simp only [Heap.elems, he, Option.bind_some, List.drop_zero, takeN, Option.map_some, ih (o + 1) (by omega)]
    rw [List.drop_eq_getElem_cons hlt]
    rfl

theorem rows_src {L : Heap} {l : List Int} : srcElems (rowH L l) 1 (rowV L l) = some (l.map i32c) := by
  match l with
  | [] => rfl
  | [x] =>
    have h := elems_row (L := rowH L [x]) (m := L.next) (n := 1) (l := [x]) (q := false) (r := false) (T.get_set_same _ _ _) 1 0 rfl
    simpa [rowV, srcElems] using h
  | x :: y :: r =>
    have h := elems_row (L := rowH L (x :: y :: r)) (m := L.next) (n := (x :: y :: r).length) (l := x :: y :: r) (q := true) (r := false) (T.get_set_same _ _ _) (x :: y :: r).length 0 (by simp)
    simpa [rowV, srcElems] using h
theorem rowH_keep (L : Heap) (l : List Int) : Keep L (rowH L l) := by
  match l with
  | [] => exact Keep.refl L
  | [x] => exact ⟨Nat.le_succ _, fun n hn => T.get_set_ne _ _ (by omega)⟩
  | x :: y :: r => exact ⟨Nat.le_succ _, fun n hn => T.get_set_ne _ _ (by omega)⟩

theorem new_open {L : Heap} {T0 : T Blk} {all : List Int} {lo : Nat} (hne : all ≠ []) (hlo : lo ≤ L.next) : Own lo (newOpen 1 (all.map i32c) L T0).2 (newOpen 1 (all.map i32c) L T0).1 all :=
  .inr ⟨hne, L.next, by simp [newOpen], hlo, Nat.lt_succ_self _, by simp [newOpen, T.get_set_same]⟩

/-- an append to a row of the call's own -/
theorem append_own {lo : Nat} {L : Heap} {v x : V} {l new : List Int} (h : Own lo L v l) (hlo : lo ≤ L.next) (hx : srcElems L 1 x = some (new.map i32c)) (hs : l.length + new.length ≤ 16777216) :
    ∃ v' L', Ev.append Try.prog 27 v x L = some (v', L') ∧ Own lo L' v' (l ++ new) ∧ L.next ≤ L'.next ∧ ∀ n, n < lo → L'.t.get n = L.t.get n := by
  have hsm : ∀ k, k ≤ 16777216 → small k 4 = true := fun k hk => by simp [small, ble_dec, hk]
  unfold Ev.append
  simp only [ts27, s21, b27, z21, Option.bind_some, hx]
  rcases h with ⟨rfl, rfl⟩ | ⟨hne, m, rfl, h1, h2, h3⟩
  · cases new with
    | nil => exact ⟨.nils, L, by simp [V.cells, guardO], .inl ⟨rfl, rfl⟩, Nat.le_refl _, fun _ _ => rfl⟩
    | cons a r =>
      refine ⟨_, _, ?_, new_open (L := L) (T0 := L.t) (all := a :: r) (by simp) hlo, Nat.le_succ _, fun n hn => T.get_set_ne _ _ (by omega)⟩
      simp only [List.map_cons, List.length_cons, List.length_map]
      rw [hsm _ (by simpa using hs)]
      rfl
  · have hold := elems_row h3 l.length 0 (by simp)
    rw [List.drop_zero] at hold
    cases new with
    | nil =>
      refine ⟨.slice m 0 l.length 0 true, L, ?_, .inr ⟨by simpa using hne, m, by simp, h1, h2, by simpa using h3⟩, Nat.le_refl _, fun _ _ => rfl⟩
      simp [h3, V.cells, guardO, ble_dec, Heap.storeElems]
    | cons a r =>
      refine ⟨_, _, ?_, new_open (L := L) (T0 := L.t.del m) (all := l ++ a :: r) (by simp) hlo, Nat.le_succ _, fun n hn => ?_⟩
      · have hsc : ((a :: r).map i32c).all (fun x => x.all V.scalar) = true := by
          rw [List.all_map]
          exact List.all_eq_true.2 fun x _ => rfl
        have hb : Nat.ble (0 + (l.length + ((a :: r).map i32c).length) * 1) (l.length * 1) = false := by
          rw [ble_dec]; simp
        have hb2 : (l.length + (r.length + 1)).ble l.length = false := by
          rw [ble_dec]; simp
        simp only [h3, Option.bind_some, hb, hold, Option.map_some, hsc, Bool.and_true, List.length_map]
        rw [hsm _ hs]
        simp [guardO, V.cells, hb2]
      · show T.get _ n = _
        rw [show (newOpen 1 ((l ++ a :: r).map i32c) L (L.t.del m)).2.t = (L.t.del m).set L.next _ from rfl, T.get_set_ne _ _ (by omega), T.get_del, if_neg (by omega)]

/-- the state of a decoder that has read bytes, and what it has handed out -/
def stepD (q : Dec × List Int) (b : Nat) : Dec × List Int := ((pushD q.1 b).1, q.2 ++ (pushD q.1 b).2)
def runD (q : Dec × List Int) (l : List Nat) : Dec × List Int := l.foldl stepD q
def decodeP (l : List Nat) : List Int := (runD (.zero, []) l).2 ++ (endD (runD (.zero, []) l).1).2

theorem wrap8 (n : Int) : 0 ≤ IntKind.u8.wrap n ∧ IntKind.u8.wrap n ≤ 255 := by rw [IntKind.wrap_u8]; omega
theorem pushD_got (d : Dec) (b : Int) (h : 0 ≤ d.got ∧ d.got ≤ 255) : 0 ≤ (pushD d b).1.got ∧ (pushD d b).1.got ≤ 255 := by
  have hb : 0 ≤ (beginD b).1.got ∧ (beginD b).1.got ≤ 255 := by
    unfold beginD
    split
    · simp [Dec.zero]
    · split
      · simp [Dec.zero]
      · split
        · simp [Dec.zero]
        · split <;> simp [Dec.zero]
  unfold pushD
  split
  · exact hb
  · split
    · exact hb
    · split
      · simp [Dec.zero]
      · exact wrap8 _
theorem runD_got : ∀ (l : List Nat) (q : Dec × List Int), (0 ≤ q.1.got ∧ q.1.got ≤ 255) → 0 ≤ (runD q l).1.got ∧ (runD q l).1.got ≤ 255
  | [], q, h => h
  | b :: l, q, h => runD_got l (stepD q b) (pushD_got _ _ h)
theorem pushD_len (d : Dec) (b : Int) : (pushD d b).2.length ≤ 2 := by
  have hb : (beginD b).2.length ≤ 1 := by rcases beginD_len b with h | ⟨x, h⟩ <;> rw [h] <;> simp
  unfold pushD
  split
  · omega
  · split
    · simp; omega
    · split <;> simp
theorem runD_len : ∀ (l : List Nat) (q : Dec × List Int), (runD q l).2.length ≤ q.2.length + 2 * l.length
  | [], q => by simp [runD]
  | b :: l, q => by
    have := runD_len l (stepD q b)
    have h2 := pushD_len q.1 b
    simp only [stepD, List.length_append] at this
    simp only [runD, List.foldl_cons, List.length_cons] at this ⊢
    simp only [runD, stepD] at this ⊢
    omega
theorem runD_append (q : Dec × List Int) (a b : List Nat) : runD q (a ++ b) = runD (runD q a) b := by simp [runD]
end Go.Proofs.Ytpfmoolpeecobaa
