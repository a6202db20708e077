/- Rows of bytes that are written; a writer. A number that is laid. -/
import Derived.Test.YtpfmoolpeecobaaQ7
namespace Go.Proofs.Ytpfmoolpeecobaa
open Go Go.Proofs Go.Proofs.Ytpfmoolpeecobaa.Ev
set_option linter.unusedVariables false
set_option linter.unusedSimpArgs false
set_option maxRecDepth 100000
set_option maxHeartbeats 4000000

theorem pz103 : zeroV Try.prog 103 = some (.agg [.nils, .bool false]) := by kernel_rfl
theorem ps103 : sizeT Try.prog 103 = some 2 := by kernel_rfl
theorem pa103 : isAggT Try.prog 103 = some true := by kernel_rfl
theorem pz101 : zeroV Try.prog 101 = some .nilp := by kernel_rfl
theorem ps101 : sizeT Try.prog 101 = some 1 := by kernel_rfl
theorem pa101 : isAggT Try.prog 101 = some false := by kernel_rfl
theorem pz67 : zeroV Try.prog 67 = some (.int .i64 0) := by kernel_rfl
theorem ps67 : sizeT Try.prog 67 = some 1 := by kernel_rfl
theorem pa67 : isAggT Try.prog 67 = some false := by kernel_rfl
theorem pt131 : tySlice Try.prog 131 = some 3 := by kernel_rfl
theorem pi131 : tyInt Try.prog 131 = none := by kernel_rfl
theorem pi9 : tyInt Try.prog 9 = none := by kernel_rfl
theorem pst103 : tyStruct Try.prog 103 = some #[{ name := "b", type := 38, offset := 0, embedded := false, tag := "", pkgPath := "marquee/script", byteOffset := 0 }, { name := "bad", type := 4, offset := 1, embedded := false, tag := "", pkgPath := "marquee/script", byteOffset := 24 }] := by kernel_rfl

set_option linter.defProp false in
/-- facts of types, in one -/
def TYB := And.intro @pz103 (And.intro @ps103 (And.intro @pa103 (And.intro @pz101 (And.intro @ps101 (And.intro @pa101 (And.intro @pz67 (And.intro @ps67 (And.intro @pa67 (And.intro @pt131 (And.intro @pi131 (And.intro @pi9 (And.intro @pst103 (And.intro @Try.underlying103 (And.intro @Try.underlying101 (And.intro @Try.underlying131 (@Try.underlying67))))))))))))))))
/-- a row of bytes that is written: so many cells behind it are free -/
def RowS (L : Heap) (v : V) (l : List Int) (sl : Nat) : Prop :=
  (v = .nils ∧ l = [] ∧ sl = 0) ∨ ∃ m c, v = .slice m 0 l.length 0 true ∧ m < L.next ∧ L.t.get m = some (.cells c (l.length + sl) 1 true false) ∧ (∀ (i : Nat) (x : Int), l[i]? = some x → c.get i = some [.int .u8 x]) ∧ ∀ i, i < sl → ∃ y, c.get (l.length + i) = some [y]
theorem RowS.nm_lt {L : Heap} {v : V} {l : List Int} {sl m : Nat} (h : RowS L v l sl) (hm : nmP v = some m) : m < L.next := by
  rcases h with ⟨rfl, _⟩ | ⟨k, c, rfl, h1, _⟩
  · cases hm
  · simp only [nmP, Option.some.injEq] at hm; subst hm; exact h1
theorem RowS.still {L L' : Heap} {v : V} {l : List Int} {sl : Nat} (h : RowS L v l sl) (hn : L.next ≤ L'.next) (hk : ∀ m, nmP v = some m → L'.t.get m = L.t.get m) : RowS L' v l sl := by
  rcases h with h | ⟨m, c, rfl, h1, h2, h3, h4⟩
  · exact .inl h
  · exact .inr ⟨m, c, rfl, Nat.lt_of_lt_of_le h1 hn, by rw [hk m rfl, h2], h3, h4⟩
theorem elems_S {L : Heap} {m n : Nat} {l : List Int} {c : T (List V)} {q r : Bool} (hb : L.t.get m = some (.cells c n 1 q r)) (hc : ∀ (i : Nat) (x : Int), l[i]? = some x → c.get i = some [.int .u8 x]) :
    ∀ (k o : Nat), o + k = l.length → L.elems m o 1 k = some ((l.drop o).map u8c) := by
  intro k
  induction k with
  | zero => intro o h; simp [Heap.elems, List.drop_of_length_le (show l.length ≤ o by omega)]
  | succ k ih =>
    intro o h
    have hlt : o < l.length := by omega
    have he : L.elem m o = some ([V.int .u8 l[o]], 0) := by
      simp [Heap.elem, hb, Nat.mod_one, hc o l[o] (by simp [hlt])]
    simp only [Heap.elems, he, Option.bind_some, List.drop_zero, takeN, Option.map_some, ih (o + 1) (by omega)]
    rw [List.drop_eq_getElem_cons hlt]
    rfl
theorem RowS.src {L : Heap} {v : V} {l : List Int} {sl : Nat} (h : RowS L v l sl) : srcElems L 1 v = some (l.map u8c) := by
  rcases h with ⟨rfl, rfl, _⟩ | ⟨m, c, rfl, h1, h2, h3, h4⟩
  · rfl
  · have := elems_S h2 h3 l.length 0 (by simp)
    simpa [srcElems] using this
theorem RowS.len {L : Heap} {v : V} {l : List Int} {sl : Nat} (h : RowS L v l sl) (L' : Heap) : Ev.builtinQ Try.prog .len #[38] [v] L' = some (.int .i64 (l.length : Int)) := by
  rcases h with ⟨rfl, rfl, _⟩ | ⟨m, c, rfl, h1, h2, h3, h4⟩ <;> simp [Ev.builtinQ, pt38]
theorem RowS.ne {L : Heap} {v : V} {l : List Int} {sl m : Nat} (h : RowS L v l sl) {c : T (List V)} {n sz : Nat} {ro : Bool} (hb : L.t.get m = some (.cells c n sz false ro)) : nmP v ≠ some m := by
  rcases h with ⟨rfl, _⟩ | ⟨k, c', rfl, h1, h2, h3, h4⟩
  · simp [nmP]
  · simp only [nmP, ne_eq, Option.some.injEq]
    rintro rfl
    rw [hb] at h2
    simp at h2
theorem RowS.cells {L : Heap} {v : V} {l : List Int} {sl : Nat} (h : RowS L v l sl) : v.cells = [v] ∧ v.scalar = true := by
  rcases h with ⟨rfl, _⟩ | ⟨k, c', rfl, h1, h2, h3, h4⟩ <;> exact ⟨rfl, rfl⟩
theorem rowS_new {L : Heap} {T0 : T Blk} {all : List Int} : RowS (newOpen 1 (all.map u8c) L T0).2 (newOpen 1 (all.map u8c) L T0).1 all 0 := by
  refine .inr ⟨L.next, rowFrom (all.map u8c) 0, by simp [newOpen], Nat.lt_succ_self _, by simp [newOpen, T.get_set_same], fun i x hx => ?_, fun i hi => by omega⟩
  rw [rowFrom_getP]
  simp [List.getElem?_map, hx, u8c]

/-- bytes are appended: to a row without free cells -/
theorem append_S {L : Heap} {v x : V} {l new : List Int} (h : RowS L v l 0) (hx : srcElems L 1 x = some (new.map u8c)) (hs : l.length + new.length ≤ 16777216) :
    ∃ v' L', Ev.append Try.prog 38 v x L = some (v', L') ∧ RowS L' v' (l ++ new) 0 ∧ L.next ≤ L'.next ∧ (∀ n, n < L.next → nmP v ≠ some n → L'.t.get n = L.t.get n) ∧ (nmP v' = nmP v ∨ nmP v' = some L.next) := by
  have hsm : ∀ k, k ≤ 16777216 → small k 1 = true := fun k hk => by simp [small, ble_dec, hk]
  have hs0 : ((1 != 0) && (V.int IntKind.u8 0).cells.length == 1) = true := rfl
  unfold Ev.append
  simp only [pt38, ps5, pb5, pz5, Option.bind_some, hx, hs0, guardO_true]
  rcases h with ⟨rfl, rfl, _⟩ | ⟨m, c, rfl, h1, h2, h3, h4⟩
  · cases new with
    | nil => exact ⟨.nils, L, rfl, .inl ⟨rfl, rfl, rfl⟩, Nat.le_refl _, fun _ _ _ => rfl, .inl rfl⟩
    | cons a r =>
      refine ⟨_, _, ?_, rowS_new (L := L) (T0 := L.t) (all := a :: r), Nat.le_succ _, fun n hn _ => T.get_set_ne _ _ (by omega), .inr rfl⟩
      simp only [List.map_cons, List.length_cons, List.length_map]
      rw [hsm _ (by simpa using hs)]
      rfl
  · have hold := elems_S h2 h3 l.length 0 (by simp)
    rw [List.drop_zero] at hold
    rw [Nat.add_zero] at h2
    have g0 : ((1 == 1) && (0 == 0 * 1)) = true := rfl
    cases new with
    | nil =>
      refine ⟨.slice m 0 l.length 0 true, L, ?_, .inr ⟨m, c, by simp, h1, by simpa using h2, by simpa using h3, fun i hi => by omega⟩, Nat.le_refl _, fun _ _ _ => rfl, .inl rfl⟩
      have hb : Nat.ble (0 + (l.length + 0) * 1) (l.length * 1) = true := by rw [ble_dec]; simp
      simp only [h2, Option.bind_some, g0, guardO_true, List.map_nil, List.length_nil, hb, Heap.storeElems]
      rfl
    | cons a r =>
      refine ⟨_, _, ?_, rowS_new (L := L) (T0 := L.t.del m) (all := l ++ a :: r), Nat.le_succ _, fun n hn hnm => ?_, .inr rfl⟩
      · have hsc' : ((a :: r).map u8c).all (fun x => x.all V.scalar) = true := by
          rw [List.all_map]
          exact List.all_eq_true.2 fun x _ => rfl
        have hb : Nat.ble (0 + (l.length + ((a :: r).map u8c).length) * 1) (l.length * 1) = false := by
          rw [ble_dec]; simp
        have hb2 : (0 + l.length * 1 == l.length * 1) = true := by simp
        have hsm2 : small (l.length + ((a :: r).map u8c).length) 1 = true := hsm _ (by simpa using hs)
        simp only [h2, Option.bind_some, g0, guardO_true, hb, hb2, hsm2, hsc', Bool.and_self, hold, Option.map_some, List.map_append]
      · show T.get _ n = _
        have hnm' : n ≠ m := fun e => hnm (by rw [e]; rfl)
        rw [show (newOpen 1 ((l ++ a :: r).map u8c) L (L.t.del m)).2.t = (L.t.del m).set L.next _ from rfl, T.get_set_ne _ _ (by omega), T.get_del, if_neg hnm']
/-- to one that has -/
theorem append_in {L : Heap} {v x : V} {l : List Int} {sl : Nat} {y : Int} (h : RowS L v l (sl + 1)) (hx : srcElems L 1 x = some [u8c y]) :
    ∃ v' L', Ev.append Try.prog 38 v x L = some (v', L') ∧ RowS L' v' (l ++ [y]) sl ∧ L.next ≤ L'.next ∧ (∀ n, n < L.next → nmP v ≠ some n → L'.t.get n = L.t.get n) ∧ (nmP v' = nmP v ∨ nmP v' = some L.next) := by
  have hs0 : ((1 != 0) && (V.int IntKind.u8 0).cells.length == 1) = true := rfl
  unfold Ev.append
  simp only [pt38, ps5, pb5, pz5, Option.bind_some, hx, hs0, guardO_true]
  rcases h with ⟨_, _, h0⟩ | ⟨m, c, rfl, h1, h2, h3, h4⟩
  · omega
  · have g0 : ((1 == 1) && (0 == 0 * 1)) = true := rfl
    obtain ⟨y0, hy0⟩ := h4 0 (by omega)
    rw [Nat.add_zero] at hy0
    have hb : Nat.ble (0 + (l.length + [u8c y].length) * 1) ((l.length + (sl + 1)) * 1) = true := by rw [ble_dec]; simp
    refine ⟨.slice m 0 (l.length + 1) 0 true, ⟨L.t.set m (.cells (c.set l.length [.int .u8 y]) (l.length + (sl + 1)) 1 true false), L.next⟩, ?_, .inr ⟨m, c.set l.length [.int .u8 y], by simp, h1, ?_, ?_, ?_⟩, Nat.le_refl _, fun n hn hnm => T.get_set_ne _ _ (fun e => hnm (by rw [e]; rfl)), .inl rfl⟩
    · simp only [h2, Option.bind_some, g0, guardO_true, hb, Heap.storeElems, Heap.store]
      simp [hy0, splice, guardO, u8c, V.scalar, over, Nat.mod_one]
    · show T.get (T.set _ _ _) _ = _
      rw [T.get_set_same]; simp; omega
    · intro i z hz
      rw [T.get_set]
      by_cases hi : i < l.length
      · rw [if_neg (by omega)]
        rw [List.getElem?_append_left hi] at hz
        exact h3 i z hz
      · rw [List.getElem?_append_right (by omega)] at hz
        have := (List.getElem?_eq_some_iff.1 hz).1
        simp at this
        have hi : i = l.length := by omega
        subst hi
        simp at hz
        rw [if_pos rfl, hz]
    · intro i hi
      obtain ⟨y1, hy1⟩ := h4 (i + 1) (by omega)
      exact ⟨y1, by rw [T.get_set_ne _ _ (by simp only [List.length_append, List.length_singleton]; omega)]; simp only [List.length_append, List.length_singleton]; rw [show l.length + 1 + i = l.length + (i + 1) by omega]; exact hy1⟩
theorem append_one {L : Heap} {v x : V} {l : List Int} {sl : Nat} {y : Int} (h : RowS L v l sl) (hx : srcElems L 1 x = some [u8c y]) (hs : l.length + 1 ≤ 16777216) :
    ∃ v' L', Ev.append Try.prog 38 v x L = some (v', L') ∧ RowS L' v' (l ++ [y]) (sl - 1) ∧ L.next ≤ L'.next ∧ (∀ n, n < L.next → nmP v ≠ some n → L'.t.get n = L.t.get n) ∧ (nmP v' = nmP v ∨ nmP v' = some L.next) := by
  cases sl with
  | zero => exact append_S (new := [y]) h hx hs
  | succ sl => exact append_in h hx
/-- the last ones are free again -/
theorem cut_S {L : Heap} {v : V} {l : List Int} {j : Nat} (h : RowS L v l 0) (hj : j ≤ l.length) (h1 : 1 ≤ l.length) :
    ∃ v', Ev.sliceOp Try.prog 38 v none (some (.int .i64 (j : Int))) none = some v' ∧ RowS L v' (l.take j) (l.length - j) ∧ nmP v' = nmP v := by
  rcases h with ⟨rfl, rfl, _⟩ | ⟨m, c, rfl, h1, h2, h3, h4⟩
  · simp at h1
  · have e2 : Nat.blt j (l.length + 1) = true := by rw [blt_dec]; simp; omega
    have hl : (l.take j).length = j := by rw [List.length_take]; omega
    refine ⟨.slice m 0 j 0 true, by simp [Ev.sliceOp, pt38, ps5, guardO, Ev.bound, idx_nat, e2], .inr ⟨m, c, by rw [hl], h1, by rw [hl, h2]; congr 2; omega, fun i x hx => ?_, fun i hi => ?_⟩, rfl⟩
    · have hlt := (List.getElem?_eq_some_iff.1 hx).1
      rw [hl] at hlt
      rw [List.getElem?_take_of_lt hlt] at hx
      exact h3 i x hx
    · rw [hl]
      exact ⟨_, h3 (j + i) l[j + i] (by simp)⟩

/-- the block of a writer -/
noncomputable def wB (v : V) (bad : Bool) : Blk := .cells (T.set .leaf 0 [v, .bool bad]) 1 2 false false
/-- a writer stands -/
structure Wr (L : Heap) (W : Nat) (v : V) (bad : Bool) (l : List Int) (sl : Nat) : Prop where
  cell : L.t.get W = some (wB v bad)
  lt : W < L.next
  row : RowS L v l sl
/-- all but the writer, and its row, is as it was -/
structure Old (W : Nat) (v : V) (L L' : Heap) (v' : V) : Prop where
  next : L.next ≤ L'.next
  old : ∀ n, n < L.next → n ≠ W → nmP v ≠ some n → L'.t.get n = L.t.get n
  nm : nmP v' = nmP v ∨ ∃ m, nmP v' = some m ∧ L.next ≤ m
theorem Old.refl (W : Nat) (v : V) (L : Heap) : Old W v L L v := ⟨Nat.le_refl _, fun _ _ _ _ => rfl, .inl rfl⟩
theorem Old.trans {W : Nat} {v v1 v2 : V} {L L1 L2 : Heap} (h : Old W v L L1 v1) (h' : Old W v1 L1 L2 v2) : Old W v L L2 v2 := by
  refine ⟨Nat.le_trans h.next h'.next, fun n hn hw hv => ?_, ?_⟩
  · rw [h'.old n (Nat.lt_of_lt_of_le hn h.next) hw, h.old n hn hw hv]
    rcases h.nm with e | ⟨m, e, hm⟩
    · rw [e]; exact hv
    · rw [e]; simp only [ne_eq, Option.some.injEq]; omega
  · rcases h'.nm with e | ⟨m, e, hm⟩
    · rcases h.nm with e' | ⟨m', e', hm'⟩
      · exact .inl (e.trans e')
      · exact .inr ⟨m', e.trans e', hm'⟩
    · exact .inr ⟨m, e, Nat.le_trans h.next hm⟩
theorem Old.new (W : Nat) (v : V) (L : Heap) (b : Blk) : Old W v L ⟨L.t.set L.next b, L.next + 1⟩ v := ⟨Nat.le_succ _, fun n hn _ _ => T.get_set_ne _ _ (by omega), .inl rfl⟩
theorem Old.put (W : Nat) (v : V) (L : Heap) (b : Blk) : Old W v L ⟨L.t.set W b, L.next⟩ v := ⟨Nat.le_refl _, fun n hn hw _ => T.get_set_ne _ _ hw, .inl rfl⟩
theorem Old.app {W : Nat} {v v' : V} {L L' : Heap} (h1 : L.next ≤ L'.next) (h2 : ∀ n, n < L.next → nmP v ≠ some n → L'.t.get n = L.t.get n) (h3 : nmP v' = nmP v ∨ nmP v' = some L.next) : Old W v L L' v' :=
  ⟨h1, fun n hn _ hv => h2 n hn hv, h3.imp id fun h => ⟨_, h, Nat.le_refl _⟩⟩
theorem Wr.ne {L : Heap} {W : Nat} {v : V} {bad : Bool} {l : List Int} {sl : Nat} (h : Wr L W v bad l sl) : nmP v ≠ some W := h.row.ne h.cell
theorem Wr.new {L : Heap} {W : Nat} {v : V} {bad : Bool} {l : List Int} {sl : Nat} (h : Wr L W v bad l sl) (b : Blk) : Wr ⟨L.t.set L.next b, L.next + 1⟩ W v bad l sl :=
  ⟨by show T.get (T.set _ _ _) _ = _; rw [T.get_set_ne _ _ (by have := h.lt; omega)]; exact h.cell, Nat.lt_succ_of_lt h.lt, h.row.still (Nat.le_succ _) fun m hm => T.get_set_ne _ _ (by have := h.row.nm_lt hm; omega)⟩
theorem Wr.bad {L : Heap} {W : Nat} {v : V} {bad : Bool} {l : List Int} {sl : Nat} (h : Wr L W v bad l sl) (bad' : Bool) : Wr ⟨L.t.set W (wB v bad'), L.next⟩ W v bad' l sl :=
  ⟨T.get_set_same _ _ _, h.lt, h.row.still (Nat.le_refl _) fun m hm => T.get_set_ne _ _ (by rintro rfl; exact h.ne hm)⟩
/-- something is appended, and put -/
theorem Wr.app {L L' : Heap} {W : Nat} {v v' : V} {bad : Bool} {l l' : List Int} {sl sl' : Nat} (h : Wr L W v bad l sl) (h0 : RowS L' v' l' sl') (h1 : L.next ≤ L'.next) (h2 : ∀ n, n < L.next → nmP v ≠ some n → L'.t.get n = L.t.get n) (h3 : nmP v' = nmP v ∨ nmP v' = some L.next) :
    Wr ⟨L'.t.set W (wB v' bad), L'.next⟩ W v' bad l' sl' ∧ Old W v L ⟨L'.t.set W (wB v' bad), L'.next⟩ v' ∧ L'.t.get W = some (wB v bad) := by
  have hW : L'.t.get W = some (wB v bad) := by rw [h2 W h.lt h.ne]; exact h.cell
  have hne : nmP v' ≠ some W := by
    rcases h3 with e | e
    · rw [e]; exact h.ne
    · rw [e]; have := h.lt; simp; omega
  exact ⟨⟨T.get_set_same _ _ _, Nat.lt_of_lt_of_le h.lt h1, h0.still (Nat.le_refl _) fun m hm => T.get_set_ne _ _ (by rintro rfl; exact hne hm)⟩, (Old.app h1 h2 h3).trans (Old.put W v' L' _), hW⟩
end Go.Proofs.Ytpfmoolpeecobaa
namespace Go.Proofs.Ytpfmoolpeecobaa
open Go Go.Proofs Go.Proofs.Ytpfmoolpeecobaa.Ev
set_option linter.unusedVariables false
set_option linter.unusedSimpArgs false
set_option maxRecDepth 100000
set_option maxHeartbeats 4000000

/-- a number's low byte -/
def lowB (n : Int) : Int := IntKind.u8.wrap n
theorem lowB_eq (n : Int) : IntKind.u8.wrap n = lowB n := rfl
/-- a block of one number -/
noncomputable def oneB (x : V) : Blk := .cells (T.set .leaf 0 [x]) 1 1 false false
theorem oneB_src {L : Heap} {m : Nat} {y : Int} (h : L.t.get m = some (oneB (.int .u8 y))) : srcElems L 1 (.slice m 0 1 1 false) = some [u8c y] := by
  simp [srcElems, Heap.elems, Heap.elem, h, oneB, T.get_set, takeN, u8c]

theorem cellsI (k : IntKind) (n : Int) : (V.int k n).cells = [.int k n] := rfl
theorem ACode.at {P : Program} {e : Env} {c : Code} {t : T V} {d : List Nat} {L : Heap} {K : Ex → T V → List Nat → Heap → Prop} (F : T V → Prop) (hF : F t) (h : ∀ t, F t → ACode P e c t d L K) : ACode P e c t d L K := h t hF
theorem belowW_ok {L : Heap} {W : Nat} {v : V} {bad : Bool} {l : List Int} {sl : Nat} (h : Wr L W v bad l sl) (most n : Int) {s : Nat} (hs : L.t.get s = some (oneB (.int .i64 n))) (hsl : s < L.next) (hl : l.length ≤ 10000000) :
    ∃ L' v', ACall Try.prog 101 [.ptr W 0, .int .i64 most, .slice s 0 1 1 false] L (.tuple []) L' ∧ Wr L' W v' (bad || decide (n < 0) || decide (most ≤ n)) (l ++ [lowB n]) (sl - 1) ∧ Old W v L L' v' := by
  have hcell := h.cell
  generalize hbad : (bad || decide (n < 0) || decide (most ≤ n)) = bad'
  have h1 := h.bad bad'
  have o1 := Old.put W v L (wB v bad')
  have hself : bad' = bad → (⟨L.t.set W (wB v bad'), L.next⟩ : Heap) = L := fun e => by
    show (⟨_, _⟩ : Heap) = _
    rw [e, T_set_self _ _ _ hcell]
  generalize hA1 : (⟨L.t.set W (wB v bad'), L.next⟩ : Heap) = A1 at *
  have h2 := h1.new (oneB (.int .u8 (lowB n)))
  have o2 := Old.new W v A1 (oneB (.int .u8 (lowB n)))
  have hy : (⟨A1.t.set A1.next (oneB (.int .u8 (lowB n))), A1.next + 1⟩ : Heap).t.get A1.next = some (oneB (.int .u8 (lowB n))) := T.get_set_same _ _ _
  have hA2t : (⟨A1.t.set A1.next (oneB (.int .u8 (lowB n))), A1.next + 1⟩ : Heap).t = A1.t.set A1.next (oneB (.int .u8 (lowB n))) := rfl
  generalize hA2 : (⟨A1.t.set A1.next (oneB (.int .u8 (lowB n))), A1.next + 1⟩ : Heap) = A2 at *
  obtain ⟨v', A3, happ, hr3, hn3, hk3, hm3⟩ := append_one h2.row (oneB_src hy) (by omega)
  obtain ⟨hw4, ho4, hW3⟩ := h2.app hr3 hn3 hk3 hm3
  refine ⟨_, v', ?_, hw4, (o1.trans o2).trans ho4⟩
  have hv := h.row.cells
  have hv' := hr3.cells
  have hc1 := h1.cell
  have hc2 := h2.cell
  unfold wB at hcell hc1 hc2 hW3
  unfold oneB at hs
  have hlen : Ev.builtinQ Try.prog .len #[131] [.slice s 0 1 1 false] L = some (.int .i64 1) := by simp [Ev.builtinQ, pt131]
  have hix : Ev.indexAddr Try.prog 131 (.slice s 0 1 1 false) (.int .i64 0) = some (.ptr s 0) := by simp [Ev.indexAddr, pt131, ps3, idx_0, blt_dec, guardO]
  have hld : Heap.load Try.prog L 3 s 0 = some (.int .i64 n) := by simp [Heap.load, Heap.elem, hs, T.get_set, Ev.part, pa3]
  refine ACall.of_body_same Try.func101 rfl ?_
  refine ACode.seq (ACode.regS noT_ok names_ok mix (t' := ?_) (L' := ?_) [0, 1, 2] (by rfl) ?_ ?_)
  rotate_left 2
  · iterate 3 (refine seqE_cons rfl rfl rfl (by simp (config := {decide := false}) [EVT, Ev.seqE, Ev.drawE, Ev.fits, Ev.wantedE, Ev.oneE, Ev.cls, Ev.quiet, Ev.making, Ev.setParts, Ev.rowOf, Ev.loud, Ev.opd, Ev.opds, Ev.optOpd, Ev.pairs, Ev.putD, Ev.argsT, Ev.isAnc, Ev.index, Ev.indexAddr, Ev.sliceOp, Ev.bound, Ev.NV.mk, Ev.Heap.load, Ev.Heap.store, Ev.Heap.elem, Ev.V.cells, Ev.V.scalar, Ev.V.asPtr, Ev.V.asBool, Ev.V.asInt, Ev.V.asStr, Ev.V.asAgg, Ev.V.asTup, Ev.V.asMap, Ev.build, Ev.fillCells, Ev.splice, Ev.over, Ev.takeN, Ev.part, Ev.unV, Ev.binV, Ev.isShift, Ev.isConstO, Ev.fieldAddr, Ev.placeS, Ev.placeA, Ev.goal, Ev.recT, Ev.recR, Ev.recheck, Ev.undefV, Ev.convQ, Ev.convNew, TYA, TYB, hlen, Try.f101]; rfl) (by rfl) (by simp only [Ev.putD]; rfl) ?_)
    rfl
  refine ACode.block (ACode.rounds 2 ?_)
  unfold Rounds
  refine ACode.seq (ACode.regS noT_ok names_ok mix (t' := ?_) (L' := ?_) [0] (by rfl) ?_ ?_)
  rotate_left 2
  · refine seqE_cons rfl rfl rfl (by simp (config := {decide := false}) [EVT, Ev.seqE, Ev.drawE, Ev.fits, Ev.wantedE, Ev.oneE, Ev.cls, Ev.quiet, Ev.making, Ev.setParts, Ev.rowOf, Ev.loud, Ev.opd, Ev.opds, Ev.optOpd, Ev.pairs, Ev.putD, Ev.builtinQ, Ev.argsT, Ev.isAnc, Ev.index, Ev.indexAddr, Ev.sliceOp, Ev.bound, Ev.NV.mk, Ev.Heap.load, Ev.Heap.store, Ev.Heap.elem, Ev.V.cells, Ev.V.scalar, Ev.V.asPtr, Ev.V.asBool, Ev.V.asInt, Ev.V.asStr, Ev.V.asAgg, Ev.V.asTup, Ev.V.asMap, Ev.build, Ev.fillCells, Ev.splice, Ev.over, Ev.takeN, Ev.part, Ev.unV, Ev.binV, Ev.isShift, Ev.isConstO, Ev.fieldAddr, Ev.placeS, Ev.placeA, Ev.goal, Ev.recT, Ev.recR, Ev.recheck, Ev.undefV, Ev.convQ, Ev.convNew, TYA, TYB, Try.f101]; rfl) (by rfl) (by simp only [Ev.putD]; rfl) ?_
    rfl
  refine ACode.seq (ACode.condT (by simp [tget_set, opd]) (ACode.skip ?_))
  refine ACode.seq (ACode.block ?_)
  refine ACode.seq (ACode.regS noT_ok names_ok mix (t' := ?_) (L' := ?_) [0, 1, 2] (by rfl) ?_ ?_)
  rotate_left 2
  · iterate 3 (refine seqE_cons rfl rfl rfl (by simp (config := {decide := false}) [EVT, Ev.seqE, Ev.drawE, Ev.fits, Ev.wantedE, Ev.oneE, Ev.cls, Ev.quiet, Ev.making, Ev.setParts, Ev.rowOf, Ev.loud, Ev.opd, Ev.opds, Ev.optOpd, Ev.pairs, Ev.putD, Ev.builtinQ, Ev.argsT, Ev.isAnc, Ev.index, Ev.sliceOp, Ev.bound, Ev.NV.mk, Ev.Heap.store, Ev.V.cells, Ev.V.scalar, Ev.V.asPtr, Ev.V.asBool, Ev.V.asInt, Ev.V.asStr, Ev.V.asAgg, Ev.V.asTup, Ev.V.asMap, Ev.build, Ev.fillCells, Ev.splice, Ev.over, Ev.takeN, Ev.part, Ev.unV, Ev.binV, Ev.isShift, Ev.isConstO, Ev.fieldAddr, Ev.placeS, Ev.placeA, Ev.goal, Ev.recT, Ev.recR, Ev.recheck, Ev.undefV, Ev.convQ, Ev.convNew, TYA, TYB, hix, hld, Try.f101]; rfl) (by rfl) (by simp only [Ev.putD]; rfl) ?_)
    rfl
  refine ACode.at (fun t => tget t 0 = .ptr W 0 ∧ tget t 7 = .int .i64 n ∧ tget t 9 = .int .i64 1 ∧ tget t 10 = .int .i64 0 ∧ tget t 1 = .int .i64 most) (by simp [tget_set, argsT]) ?_
  rintro t1 ⟨t0, t7, t9, t10, tm⟩
  refine ACode.seq (ACode.mono (K := fun x t' d' L' => x = .normal ∧ d' = [] ∧ L' = A1 ∧ tget t' 0 = .ptr W 0 ∧ tget t' 7 = .int .i64 n ∧ tget t' 9 = .int .i64 1 ∧ tget t' 10 = .int .i64 0) ?_ ?_)
  ·
    have hst : ∀ b, b = bad' → (⟨L.t.set W (.cells (T.set .leaf 0 [v, .bool b]) 1 2 false false), L.next⟩ : Heap) = A1 := fun b e => by rw [← hA1, e]; rfl
    cases bad with
    | true =>
      have hb : true = bad' := by simpa using hbad
      refine ACode.regS noT_ok names_ok mix (t' := ?_) (L' := ?_) [0, 1, 2, 3, 4, 5, 6, 7, 8, 9, 10, 11, 12, 13, 14, 15, 16] (by rfl) ?_ ?_
      rotate_left 2
      · iterate 6 (refine seqE_cons rfl rfl rfl (by simp (config := {decide := false}) [EVT, Ev.seqE, Ev.drawE, Ev.fits, Ev.wantedE, Ev.oneE, Ev.cls, Ev.quiet, Ev.making, Ev.setParts, Ev.rowOf, Ev.loud, Ev.opd, Ev.opds, Ev.optOpd, Ev.pairs, Ev.putD, Ev.builtinQ, Ev.argsT, Ev.isAnc, Ev.index, Ev.indexAddr, Ev.sliceOp, Ev.bound, Ev.NV.mk, Ev.Heap.load, Ev.Heap.store, Ev.Heap.elem, Ev.V.cells, Ev.V.scalar, Ev.V.asPtr, Ev.V.asBool, Ev.V.asInt, Ev.V.asStr, Ev.V.asAgg, Ev.V.asTup, Ev.V.asMap, Ev.build, Ev.fillCells, Ev.splice, Ev.over, Ev.takeN, Ev.part, Ev.unV, Ev.binV, Ev.isShift, Ev.isConstO, Ev.fieldAddr, Ev.placeS, Ev.placeA, Ev.goal, Ev.recT, Ev.recR, Ev.recheck, Ev.undefV, Ev.convQ, Ev.convNew, TYA, TYB, t0, t7, hcell, hv, Try.f101]; rfl) (by rfl) (by simp only [Ev.putD]; rfl) ?_)
        iterate 2 (refine seqE_skip rfl rfl (by simp [EVT, Ev.seqE, Ev.drawE, Ev.fits, Ev.wantedE, Ev.oneE, Ev.cls, Ev.quiet, Ev.making, Ev.setParts, Ev.rowOf, Ev.loud, Ev.opd, Ev.opds, Ev.optOpd, Ev.pairs, Ev.putD, Ev.builtinQ, Ev.argsT, Ev.isAnc, Ev.index, Ev.indexAddr, Ev.sliceOp, Ev.bound, Ev.NV.mk, Ev.Heap.load, Ev.Heap.store, Ev.Heap.elem, Ev.V.cells, Ev.V.scalar, Ev.V.asPtr, Ev.V.asBool, Ev.V.asInt, Ev.V.asStr, Ev.V.asAgg, Ev.V.asTup, Ev.V.asMap, Ev.build, Ev.fillCells, Ev.splice, Ev.over, Ev.takeN, Ev.part, Ev.unV, Ev.binV, Ev.isShift, Ev.isConstO, Ev.fieldAddr, Ev.placeS, Ev.placeA, Ev.goal, Ev.recT, Ev.recR, Ev.recheck, Ev.undefV, Ev.convQ, Ev.convNew, TYA, TYB, t0, t7, hcell, hv, Try.f101]) (by simp only [Ev.putD]; rfl) ?_)
        iterate 2 (refine seqE_cons rfl rfl rfl (by simp (config := {decide := false}) [EVT, Ev.seqE, Ev.drawE, Ev.fits, Ev.wantedE, Ev.oneE, Ev.cls, Ev.quiet, Ev.making, Ev.setParts, Ev.rowOf, Ev.loud, Ev.opd, Ev.opds, Ev.optOpd, Ev.pairs, Ev.putD, Ev.builtinQ, Ev.argsT, Ev.isAnc, Ev.index, Ev.indexAddr, Ev.sliceOp, Ev.bound, Ev.NV.mk, Ev.Heap.load, Ev.Heap.store, Ev.Heap.elem, Ev.V.cells, Ev.V.scalar, Ev.V.asPtr, Ev.V.asBool, Ev.V.asInt, Ev.V.asStr, Ev.V.asAgg, Ev.V.asTup, Ev.V.asMap, Ev.build, Ev.fillCells, Ev.splice, Ev.over, Ev.takeN, Ev.part, Ev.unV, Ev.binV, Ev.isShift, Ev.isConstO, Ev.fieldAddr, Ev.placeS, Ev.placeA, Ev.goal, Ev.recT, Ev.recR, Ev.recheck, Ev.undefV, Ev.convQ, Ev.convNew, TYA, TYB, t0, t7, hcell, hv, Try.f101]; rfl) (by rfl) (by simp only [Ev.putD]; rfl) ?_)
        iterate 3 (refine seqE_skip rfl rfl (by simp [EVT, Ev.seqE, Ev.drawE, Ev.fits, Ev.wantedE, Ev.oneE, Ev.cls, Ev.quiet, Ev.making, Ev.setParts, Ev.rowOf, Ev.loud, Ev.opd, Ev.opds, Ev.optOpd, Ev.pairs, Ev.putD, Ev.builtinQ, Ev.argsT, Ev.isAnc, Ev.index, Ev.indexAddr, Ev.sliceOp, Ev.bound, Ev.NV.mk, Ev.Heap.load, Ev.Heap.store, Ev.Heap.elem, Ev.V.cells, Ev.V.scalar, Ev.V.asPtr, Ev.V.asBool, Ev.V.asInt, Ev.V.asStr, Ev.V.asAgg, Ev.V.asTup, Ev.V.asMap, Ev.build, Ev.fillCells, Ev.splice, Ev.over, Ev.takeN, Ev.part, Ev.unV, Ev.binV, Ev.isShift, Ev.isConstO, Ev.fieldAddr, Ev.placeS, Ev.placeA, Ev.goal, Ev.recT, Ev.recR, Ev.recheck, Ev.undefV, Ev.convQ, Ev.convNew, TYA, TYB, t0, t7, hcell, hv, Try.f101]) (by simp only [Ev.putD]; rfl) ?_)
        iterate 4 (refine seqE_cons rfl rfl rfl (by simp (config := {decide := false}) [EVT, Ev.seqE, Ev.drawE, Ev.fits, Ev.wantedE, Ev.oneE, Ev.cls, Ev.quiet, Ev.making, Ev.setParts, Ev.rowOf, Ev.loud, Ev.opd, Ev.opds, Ev.optOpd, Ev.pairs, Ev.putD, Ev.builtinQ, Ev.argsT, Ev.isAnc, Ev.index, Ev.indexAddr, Ev.sliceOp, Ev.bound, Ev.NV.mk, Ev.Heap.load, Ev.Heap.store, Ev.Heap.elem, Ev.V.cells, Ev.V.scalar, Ev.V.asPtr, Ev.V.asBool, Ev.V.asInt, Ev.V.asStr, Ev.V.asAgg, Ev.V.asTup, Ev.V.asMap, Ev.build, Ev.fillCells, Ev.splice, Ev.over, Ev.takeN, Ev.part, Ev.unV, Ev.binV, Ev.isShift, Ev.isConstO, Ev.fieldAddr, Ev.placeS, Ev.placeA, Ev.goal, Ev.recT, Ev.recR, Ev.recheck, Ev.undefV, Ev.convQ, Ev.convNew, TYA, TYB, t0, t7, hcell, hv, Try.f101]; rfl) (by rfl) (by simp only [Ev.putD]; rfl) ?_)
        rfl
      refine ⟨rfl, rfl, hst _ hb, by simp [tget_set, t0], by simp [tget_set, t7], by simp [tget_set, t9], by simp [tget_set, t10]⟩
    | false =>
      by_cases hn0 : n < 0
      ·
        have hb : true = bad' := by simpa [hn0] using hbad
        refine ACode.regS noT_ok names_ok mix (t' := ?_) (L' := ?_) [0, 1, 2, 3, 4, 5, 6, 7, 8, 9, 10, 11, 12, 13, 14, 15, 16] (by rfl) ?_ ?_
        rotate_left 2
        · iterate 6 (refine seqE_cons rfl rfl rfl (by simp (config := {decide := false}) [EVT, Ev.seqE, Ev.drawE, Ev.fits, Ev.wantedE, Ev.oneE, Ev.cls, Ev.quiet, Ev.making, Ev.setParts, Ev.rowOf, Ev.loud, Ev.opd, Ev.opds, Ev.optOpd, Ev.pairs, Ev.putD, Ev.builtinQ, Ev.argsT, Ev.isAnc, Ev.index, Ev.indexAddr, Ev.sliceOp, Ev.bound, Ev.NV.mk, Ev.Heap.load, Ev.Heap.store, Ev.Heap.elem, Ev.V.cells, Ev.V.scalar, Ev.V.asPtr, Ev.V.asBool, Ev.V.asInt, Ev.V.asStr, Ev.V.asAgg, Ev.V.asTup, Ev.V.asMap, Ev.build, Ev.fillCells, Ev.splice, Ev.over, Ev.takeN, Ev.part, Ev.unV, Ev.binV, Ev.isShift, Ev.isConstO, Ev.fieldAddr, Ev.placeS, Ev.placeA, Ev.goal, Ev.recT, Ev.recR, Ev.recheck, Ev.undefV, Ev.convQ, Ev.convNew, TYA, TYB, t0, t7, hcell, hv, hn0, Try.f101]; rfl) (by rfl) (by simp only [Ev.putD]; rfl) ?_)
          iterate 2 (refine seqE_cons rfl rfl (by simp [EVT, Ev.seqE, Ev.drawE, Ev.fits, Ev.wantedE, Ev.oneE, Ev.cls, Ev.quiet, Ev.making, Ev.setParts, Ev.rowOf, Ev.loud, Ev.opd, Ev.opds, Ev.optOpd, Ev.pairs, Ev.putD, Ev.builtinQ, Ev.argsT, Ev.isAnc, Ev.index, Ev.indexAddr, Ev.sliceOp, Ev.bound, Ev.NV.mk, Ev.Heap.load, Ev.Heap.store, Ev.Heap.elem, Ev.V.cells, Ev.V.scalar, Ev.V.asPtr, Ev.V.asBool, Ev.V.asInt, Ev.V.asStr, Ev.V.asAgg, Ev.V.asTup, Ev.V.asMap, Ev.build, Ev.fillCells, Ev.splice, Ev.over, Ev.takeN, Ev.part, Ev.unV, Ev.binV, Ev.isShift, Ev.isConstO, Ev.fieldAddr, Ev.placeS, Ev.placeA, Ev.goal, Ev.recT, Ev.recR, Ev.recheck, Ev.undefV, Ev.convQ, Ev.convNew, TYA, TYB, t0, t7, hcell, hv, hn0, Try.f101]) (by simp (config := {decide := false}) [EVT, Ev.seqE, Ev.drawE, Ev.fits, Ev.wantedE, Ev.oneE, Ev.cls, Ev.quiet, Ev.making, Ev.setParts, Ev.rowOf, Ev.loud, Ev.opd, Ev.opds, Ev.optOpd, Ev.pairs, Ev.putD, Ev.builtinQ, Ev.argsT, Ev.isAnc, Ev.index, Ev.indexAddr, Ev.sliceOp, Ev.bound, Ev.NV.mk, Ev.Heap.load, Ev.Heap.store, Ev.Heap.elem, Ev.V.cells, Ev.V.scalar, Ev.V.asPtr, Ev.V.asBool, Ev.V.asInt, Ev.V.asStr, Ev.V.asAgg, Ev.V.asTup, Ev.V.asMap, Ev.build, Ev.fillCells, Ev.splice, Ev.over, Ev.takeN, Ev.part, Ev.unV, Ev.binV, Ev.isShift, Ev.isConstO, Ev.fieldAddr, Ev.placeS, Ev.placeA, Ev.goal, Ev.recT, Ev.recR, Ev.recheck, Ev.undefV, Ev.convQ, Ev.convNew, TYA, TYB, t0, t7, hcell, hv, hn0, Try.f101]; rfl) (by rfl) (by simp only [Ev.putD]; rfl) ?_)
          iterate 2 (refine seqE_cons rfl rfl rfl (by simp (config := {decide := false}) [EVT, Ev.seqE, Ev.drawE, Ev.fits, Ev.wantedE, Ev.oneE, Ev.cls, Ev.quiet, Ev.making, Ev.setParts, Ev.rowOf, Ev.loud, Ev.opd, Ev.opds, Ev.optOpd, Ev.pairs, Ev.putD, Ev.builtinQ, Ev.argsT, Ev.isAnc, Ev.index, Ev.indexAddr, Ev.sliceOp, Ev.bound, Ev.NV.mk, Ev.Heap.load, Ev.Heap.store, Ev.Heap.elem, Ev.V.cells, Ev.V.scalar, Ev.V.asPtr, Ev.V.asBool, Ev.V.asInt, Ev.V.asStr, Ev.V.asAgg, Ev.V.asTup, Ev.V.asMap, Ev.build, Ev.fillCells, Ev.splice, Ev.over, Ev.takeN, Ev.part, Ev.unV, Ev.binV, Ev.isShift, Ev.isConstO, Ev.fieldAddr, Ev.placeS, Ev.placeA, Ev.goal, Ev.recT, Ev.recR, Ev.recheck, Ev.undefV, Ev.convQ, Ev.convNew, TYA, TYB, t0, t7, hcell, hv, hn0, Try.f101]; rfl) (by rfl) (by simp only [Ev.putD]; rfl) ?_)
          iterate 3 (refine seqE_skip rfl rfl (by simp [EVT, Ev.seqE, Ev.drawE, Ev.fits, Ev.wantedE, Ev.oneE, Ev.cls, Ev.quiet, Ev.making, Ev.setParts, Ev.rowOf, Ev.loud, Ev.opd, Ev.opds, Ev.optOpd, Ev.pairs, Ev.putD, Ev.builtinQ, Ev.argsT, Ev.isAnc, Ev.index, Ev.indexAddr, Ev.sliceOp, Ev.bound, Ev.NV.mk, Ev.Heap.load, Ev.Heap.store, Ev.Heap.elem, Ev.V.cells, Ev.V.scalar, Ev.V.asPtr, Ev.V.asBool, Ev.V.asInt, Ev.V.asStr, Ev.V.asAgg, Ev.V.asTup, Ev.V.asMap, Ev.build, Ev.fillCells, Ev.splice, Ev.over, Ev.takeN, Ev.part, Ev.unV, Ev.binV, Ev.isShift, Ev.isConstO, Ev.fieldAddr, Ev.placeS, Ev.placeA, Ev.goal, Ev.recT, Ev.recR, Ev.recheck, Ev.undefV, Ev.convQ, Ev.convNew, TYA, TYB, t0, t7, hcell, hv, hn0, Try.f101]) (by simp only [Ev.putD]; rfl) ?_)
          iterate 4 (refine seqE_cons rfl rfl rfl (by simp (config := {decide := false}) [EVT, Ev.seqE, Ev.drawE, Ev.fits, Ev.wantedE, Ev.oneE, Ev.cls, Ev.quiet, Ev.making, Ev.setParts, Ev.rowOf, Ev.loud, Ev.opd, Ev.opds, Ev.optOpd, Ev.pairs, Ev.putD, Ev.builtinQ, Ev.argsT, Ev.isAnc, Ev.index, Ev.indexAddr, Ev.sliceOp, Ev.bound, Ev.NV.mk, Ev.Heap.load, Ev.Heap.store, Ev.Heap.elem, Ev.V.cells, Ev.V.scalar, Ev.V.asPtr, Ev.V.asBool, Ev.V.asInt, Ev.V.asStr, Ev.V.asAgg, Ev.V.asTup, Ev.V.asMap, Ev.build, Ev.fillCells, Ev.splice, Ev.over, Ev.takeN, Ev.part, Ev.unV, Ev.binV, Ev.isShift, Ev.isConstO, Ev.fieldAddr, Ev.placeS, Ev.placeA, Ev.goal, Ev.recT, Ev.recR, Ev.recheck, Ev.undefV, Ev.convQ, Ev.convNew, TYA, TYB, t0, t7, hcell, hv, hn0, Try.f101]; rfl) (by rfl) (by simp only [Ev.putD]; rfl) ?_)
          rfl
        refine ⟨rfl, rfl, hst _ hb, by simp [tget_set, t0], by simp [tget_set, t7], by simp [tget_set, t9], by simp [tget_set, t10]⟩
      ·
        have hb : decide (most ≤ n) = bad' := by simpa [hn0] using hbad
        refine ACode.regS noT_ok names_ok mix (t' := ?_) (L' := ?_) [0, 1, 2, 3, 4, 5, 6, 7, 8, 9, 10, 11, 12, 13, 14, 15, 16] (by rfl) ?_ ?_
        rotate_left 2
        · iterate 6 (refine seqE_cons rfl rfl rfl (by simp (config := {decide := false}) [EVT, Ev.seqE, Ev.drawE, Ev.fits, Ev.wantedE, Ev.oneE, Ev.cls, Ev.quiet, Ev.making, Ev.setParts, Ev.rowOf, Ev.loud, Ev.opd, Ev.opds, Ev.optOpd, Ev.pairs, Ev.putD, Ev.builtinQ, Ev.argsT, Ev.isAnc, Ev.index, Ev.indexAddr, Ev.sliceOp, Ev.bound, Ev.NV.mk, Ev.Heap.load, Ev.Heap.store, Ev.Heap.elem, Ev.V.cells, Ev.V.scalar, Ev.V.asPtr, Ev.V.asBool, Ev.V.asInt, Ev.V.asStr, Ev.V.asAgg, Ev.V.asTup, Ev.V.asMap, Ev.build, Ev.fillCells, Ev.splice, Ev.over, Ev.takeN, Ev.part, Ev.unV, Ev.binV, Ev.isShift, Ev.isConstO, Ev.fieldAddr, Ev.placeS, Ev.placeA, Ev.goal, Ev.recT, Ev.recR, Ev.recheck, Ev.undefV, Ev.convQ, Ev.convNew, TYA, TYB, t0, t7, hcell, hv, hn0, tm, Try.f101]; rfl) (by rfl) (by simp only [Ev.putD]; rfl) ?_)
          iterate 2 (refine seqE_cons rfl rfl (by simp [EVT, Ev.seqE, Ev.drawE, Ev.fits, Ev.wantedE, Ev.oneE, Ev.cls, Ev.quiet, Ev.making, Ev.setParts, Ev.rowOf, Ev.loud, Ev.opd, Ev.opds, Ev.optOpd, Ev.pairs, Ev.putD, Ev.builtinQ, Ev.argsT, Ev.isAnc, Ev.index, Ev.indexAddr, Ev.sliceOp, Ev.bound, Ev.NV.mk, Ev.Heap.load, Ev.Heap.store, Ev.Heap.elem, Ev.V.cells, Ev.V.scalar, Ev.V.asPtr, Ev.V.asBool, Ev.V.asInt, Ev.V.asStr, Ev.V.asAgg, Ev.V.asTup, Ev.V.asMap, Ev.build, Ev.fillCells, Ev.splice, Ev.over, Ev.takeN, Ev.part, Ev.unV, Ev.binV, Ev.isShift, Ev.isConstO, Ev.fieldAddr, Ev.placeS, Ev.placeA, Ev.goal, Ev.recT, Ev.recR, Ev.recheck, Ev.undefV, Ev.convQ, Ev.convNew, TYA, TYB, t0, t7, hcell, hv, hn0, tm, Try.f101]) (by simp (config := {decide := false}) [EVT, Ev.seqE, Ev.drawE, Ev.fits, Ev.wantedE, Ev.oneE, Ev.cls, Ev.quiet, Ev.making, Ev.setParts, Ev.rowOf, Ev.loud, Ev.opd, Ev.opds, Ev.optOpd, Ev.pairs, Ev.putD, Ev.builtinQ, Ev.argsT, Ev.isAnc, Ev.index, Ev.indexAddr, Ev.sliceOp, Ev.bound, Ev.NV.mk, Ev.Heap.load, Ev.Heap.store, Ev.Heap.elem, Ev.V.cells, Ev.V.scalar, Ev.V.asPtr, Ev.V.asBool, Ev.V.asInt, Ev.V.asStr, Ev.V.asAgg, Ev.V.asTup, Ev.V.asMap, Ev.build, Ev.fillCells, Ev.splice, Ev.over, Ev.takeN, Ev.part, Ev.unV, Ev.binV, Ev.isShift, Ev.isConstO, Ev.fieldAddr, Ev.placeS, Ev.placeA, Ev.goal, Ev.recT, Ev.recR, Ev.recheck, Ev.undefV, Ev.convQ, Ev.convNew, TYA, TYB, t0, t7, hcell, hv, hn0, tm, Try.f101]; rfl) (by rfl) (by simp only [Ev.putD]; rfl) ?_)
          iterate 2 (refine seqE_cons rfl rfl rfl (by simp (config := {decide := false}) [EVT, Ev.seqE, Ev.drawE, Ev.fits, Ev.wantedE, Ev.oneE, Ev.cls, Ev.quiet, Ev.making, Ev.setParts, Ev.rowOf, Ev.loud, Ev.opd, Ev.opds, Ev.optOpd, Ev.pairs, Ev.putD, Ev.builtinQ, Ev.argsT, Ev.isAnc, Ev.index, Ev.indexAddr, Ev.sliceOp, Ev.bound, Ev.NV.mk, Ev.Heap.load, Ev.Heap.store, Ev.Heap.elem, Ev.V.cells, Ev.V.scalar, Ev.V.asPtr, Ev.V.asBool, Ev.V.asInt, Ev.V.asStr, Ev.V.asAgg, Ev.V.asTup, Ev.V.asMap, Ev.build, Ev.fillCells, Ev.splice, Ev.over, Ev.takeN, Ev.part, Ev.unV, Ev.binV, Ev.isShift, Ev.isConstO, Ev.fieldAddr, Ev.placeS, Ev.placeA, Ev.goal, Ev.recT, Ev.recR, Ev.recheck, Ev.undefV, Ev.convQ, Ev.convNew, TYA, TYB, t0, t7, hcell, hv, hn0, tm, Try.f101]; rfl) (by rfl) (by simp only [Ev.putD]; rfl) ?_)
          iterate 3 (refine seqE_cons rfl rfl (by simp [EVT, Ev.seqE, Ev.drawE, Ev.fits, Ev.wantedE, Ev.oneE, Ev.cls, Ev.quiet, Ev.making, Ev.setParts, Ev.rowOf, Ev.loud, Ev.opd, Ev.opds, Ev.optOpd, Ev.pairs, Ev.putD, Ev.builtinQ, Ev.argsT, Ev.isAnc, Ev.index, Ev.indexAddr, Ev.sliceOp, Ev.bound, Ev.NV.mk, Ev.Heap.load, Ev.Heap.store, Ev.Heap.elem, Ev.V.cells, Ev.V.scalar, Ev.V.asPtr, Ev.V.asBool, Ev.V.asInt, Ev.V.asStr, Ev.V.asAgg, Ev.V.asTup, Ev.V.asMap, Ev.build, Ev.fillCells, Ev.splice, Ev.over, Ev.takeN, Ev.part, Ev.unV, Ev.binV, Ev.isShift, Ev.isConstO, Ev.fieldAddr, Ev.placeS, Ev.placeA, Ev.goal, Ev.recT, Ev.recR, Ev.recheck, Ev.undefV, Ev.convQ, Ev.convNew, TYA, TYB, t0, t7, hcell, hv, hn0, tm, Try.f101]) (by simp (config := {decide := false}) [EVT, Ev.seqE, Ev.drawE, Ev.fits, Ev.wantedE, Ev.oneE, Ev.cls, Ev.quiet, Ev.making, Ev.setParts, Ev.rowOf, Ev.loud, Ev.opd, Ev.opds, Ev.optOpd, Ev.pairs, Ev.putD, Ev.builtinQ, Ev.argsT, Ev.isAnc, Ev.index, Ev.indexAddr, Ev.sliceOp, Ev.bound, Ev.NV.mk, Ev.Heap.load, Ev.Heap.store, Ev.Heap.elem, Ev.V.cells, Ev.V.scalar, Ev.V.asPtr, Ev.V.asBool, Ev.V.asInt, Ev.V.asStr, Ev.V.asAgg, Ev.V.asTup, Ev.V.asMap, Ev.build, Ev.fillCells, Ev.splice, Ev.over, Ev.takeN, Ev.part, Ev.unV, Ev.binV, Ev.isShift, Ev.isConstO, Ev.fieldAddr, Ev.placeS, Ev.placeA, Ev.goal, Ev.recT, Ev.recR, Ev.recheck, Ev.undefV, Ev.convQ, Ev.convNew, TYA, TYB, t0, t7, hcell, hv, hn0, tm, Try.f101]; rfl) (by rfl) (by simp only [Ev.putD]; rfl) ?_)
          iterate 4 (refine seqE_cons rfl rfl rfl (by simp (config := {decide := false}) [EVT, Ev.seqE, Ev.drawE, Ev.fits, Ev.wantedE, Ev.oneE, Ev.cls, Ev.quiet, Ev.making, Ev.setParts, Ev.rowOf, Ev.loud, Ev.opd, Ev.opds, Ev.optOpd, Ev.pairs, Ev.putD, Ev.builtinQ, Ev.argsT, Ev.isAnc, Ev.index, Ev.indexAddr, Ev.sliceOp, Ev.bound, Ev.NV.mk, Ev.Heap.load, Ev.Heap.store, Ev.Heap.elem, Ev.V.cells, Ev.V.scalar, Ev.V.asPtr, Ev.V.asBool, Ev.V.asInt, Ev.V.asStr, Ev.V.asAgg, Ev.V.asTup, Ev.V.asMap, Ev.build, Ev.fillCells, Ev.splice, Ev.over, Ev.takeN, Ev.part, Ev.unV, Ev.binV, Ev.isShift, Ev.isConstO, Ev.fieldAddr, Ev.placeS, Ev.placeA, Ev.goal, Ev.recT, Ev.recR, Ev.recheck, Ev.undefV, Ev.convQ, Ev.convNew, TYA, TYB, t0, t7, hcell, hv, hn0, tm, Try.f101]; rfl) (by rfl) (by simp only [Ev.putD]; rfl) ?_)
          rfl
        refine ⟨rfl, rfl, hst _ hb, by simp [tget_set, t0], by simp [tget_set, t7], by simp [tget_set, t9], by simp [tget_set, t10]⟩
  rintro x t2 d2 L2 ⟨rfl, rfl, rfl, u0, u7, u9, u10⟩
  show ACode _ _ _ _ _ _ _
  have hw : IntKind.i64.wrap (0 + 1) = 1 := rfl
  have happ' := happ
  rw [← hA2] at happ'
  unfold oneB at happ'
  refine ACode.regS noT_ok names_ok mix (t' := ?_) (L' := ?_) [0, 1, 2, 3, 4, 5, 6, 7, 8, 9, 10, 11] (by rfl) ?_ ?_
  rotate_left 2
  · iterate 12 (refine seqE_cons rfl rfl rfl (by simp (config := {decide := false}) [EVT, Ev.seqE, Ev.drawE, Ev.fits, Ev.wantedE, Ev.oneE, Ev.cls, Ev.quiet, Ev.making, Ev.setParts, Ev.rowOf, Ev.loud, Ev.opd, Ev.opds, Ev.optOpd, Ev.pairs, Ev.putD, Ev.builtinQ, Ev.argsT, Ev.isAnc, Ev.index, Ev.indexAddr, Ev.sliceOp, Ev.bound, Ev.NV.mk, Ev.Heap.load, Ev.Heap.store, Ev.Heap.elem, Ev.V.asPtr, Ev.V.asBool, Ev.V.asInt, Ev.V.asStr, Ev.V.asAgg, Ev.V.asTup, Ev.V.asMap, Ev.build, Ev.fillCells, Ev.splice, Ev.over, Ev.takeN, Ev.part, Ev.unV, Ev.binV, Ev.isShift, Ev.isConstO, Ev.fieldAddr, Ev.placeS, Ev.placeA, Ev.goal, Ev.recT, Ev.recR, Ev.recheck, Ev.undefV, Ev.convQ, Ev.convNew, TYA, TYB, cellsI, scal1, u0, u7, hc1, hW3, hv, hv', lowB_eq, happ', Try.f101]; rfl) (by rfl) (by simp only [Ev.putD]; rfl) ?_)
    rfl
  show ACode _ _ _ _ _ _ _
  refine ACode.regS noT_ok names_ok mix (t' := ?_) (L' := ?_) [0, 1] (by rfl) ?_ ?_
  rotate_left 2
  · iterate 2 (refine seqE_cons rfl rfl rfl (by simp (config := {decide := false}) [EVT, Ev.seqE, Ev.drawE, Ev.fits, Ev.wantedE, Ev.oneE, Ev.cls, Ev.quiet, Ev.making, Ev.setParts, Ev.rowOf, Ev.loud, Ev.opd, Ev.opds, Ev.optOpd, Ev.pairs, Ev.putD, Ev.builtinQ, Ev.argsT, Ev.isAnc, Ev.index, Ev.indexAddr, Ev.sliceOp, Ev.bound, Ev.NV.mk, Ev.Heap.load, Ev.Heap.store, Ev.Heap.elem, Ev.V.cells, Ev.V.scalar, Ev.V.asPtr, Ev.V.asBool, Ev.V.asInt, Ev.V.asStr, Ev.V.asAgg, Ev.V.asTup, Ev.V.asMap, Ev.build, Ev.fillCells, Ev.splice, Ev.over, Ev.takeN, Ev.part, Ev.unV, Ev.binV, Ev.isShift, Ev.isConstO, Ev.fieldAddr, Ev.placeS, Ev.placeA, Ev.goal, Ev.recT, Ev.recR, Ev.recheck, Ev.undefV, Ev.convQ, Ev.convNew, TYA, TYB, u10, hw, Try.f101]; rfl) (by rfl) (by simp only [Ev.putD]; rfl) ?_)
    rfl
  show ACode _ _ _ _ _ _ _
  refine ACode.seq (ACode.regS noT_ok names_ok mix (t' := ?_) (L' := ?_) [0] (by rfl) ?_ ?_)
  rotate_left 2
  · refine seqE_cons rfl rfl rfl (by simp (config := {decide := false}) [EVT, Ev.seqE, Ev.drawE, Ev.fits, Ev.wantedE, Ev.oneE, Ev.cls, Ev.quiet, Ev.making, Ev.setParts, Ev.rowOf, Ev.loud, Ev.opd, Ev.opds, Ev.optOpd, Ev.pairs, Ev.putD, Ev.builtinQ, Ev.argsT, Ev.isAnc, Ev.index, Ev.indexAddr, Ev.sliceOp, Ev.bound, Ev.NV.mk, Ev.Heap.load, Ev.Heap.store, Ev.Heap.elem, Ev.V.cells, Ev.V.scalar, Ev.V.asPtr, Ev.V.asBool, Ev.V.asInt, Ev.V.asStr, Ev.V.asAgg, Ev.V.asTup, Ev.V.asMap, Ev.build, Ev.fillCells, Ev.splice, Ev.over, Ev.takeN, Ev.part, Ev.unV, Ev.binV, Ev.isShift, Ev.isConstO, Ev.fieldAddr, Ev.placeS, Ev.placeA, Ev.goal, Ev.recT, Ev.recR, Ev.recheck, Ev.undefV, Ev.convQ, Ev.convNew, TYA, TYB, u9, Try.f101]; rfl) (by rfl) (by simp only [Ev.putD]; rfl) ?_
    rfl
  refine ACode.seq (ACode.condF (by simp [tget_set, opd]) (ACode.exit ?_))
  exact ⟨.inl rfl, [], rfl, by simp [Try.f101, resVals], rfl⟩
end Go.Proofs.Ytpfmoolpeecobaa
