/- Rows of bytes that are written; a writer. A number that is laid. An event that is laid: its beginning. Equal events; the end of one that is laid. -/
import Derived.Test.YtpfmoolpeecobaaU7
namespace Go.Proofs.Ytpfmoolpeecobaa
open Go Go.Proofs Go.Proofs.Ytpfmoolpeecobaa.Ev
set_option linter.unusedVariables false
set_option linter.unusedSimpArgs false
set_option maxRecDepth 100000
set_option maxHeartbeats 4000000

theorem pz103 : zeroV Try.prog 103 = some (.agg [.nils, .bool false]) := by kernel_rfl
theorem ps103 : sizeT Try.prog 103 = some 2 := by kernel_rfl
theorem pa103 : isAggT Try.prog 103 = some true := by kernel_rfl
theorem pz101 : zeroV Try.prog 101 = some .nilp := by kernel_rfl
theorem ps101 : sizeT Try.prog 101 = some 1 := by kernel_rfl
theorem pa101 : isAggT Try.prog 101 = some false := by kernel_rfl
theorem pz67 : zeroV Try.prog 67 = some (.int .i64 0) := by kernel_rfl
theorem ps67 : sizeT Try.prog 67 = some 1 := by kernel_rfl
theorem pa67 : isAggT Try.prog 67 = some false := by kernel_rfl
theorem pt131 : tySlice Try.prog 131 = some 3 := by kernel_rfl
theorem pi131 : tyInt Try.prog 131 = none := by kernel_rfl
theorem pi9 : tyInt Try.prog 9 = none := by kernel_rfl
theorem pst103 : tyStruct Try.prog 103 = some #[{ name := "b", type := 38, offset := 0, embedded := false, tag := "", pkgPath := "marquee/script", byteOffset := 0 }, { name := "bad", type := 4, offset := 1, embedded := false, tag := "", pkgPath := "marquee/script", byteOffset := 24 }] := by kernel_rfl

set_option linter.defProp false in
/-- facts of types, in one -/
def TYB := And.intro @pz103 (And.intro @ps103 (And.intro @pa103 (And.intro @pz101 (And.intro @ps101 (And.intro @pa101 (And.intro @pz67 (And.intro @ps67 (And.intro @pa67 (And.intro @pt131 (And.intro @pi131 (And.intro @pi9 (And.intro @pst103 (And.intro @Try.underlying103 (And.intro @Try.underlying101 (And.intro @Try.underlying131 (@Try.underlying67))))))))))))))))
attribute [go_sem] TYB
/-- a row of bytes that is written: so many cells behind it are free -/
def RowS (L : Heap) (v : V) (l : List Int) (sl : Nat) : Prop :=
  (v = .nils ∧ l = [] ∧ sl = 0) ∨ ∃ m c, v = .slice m 0 l.length 0 true ∧ m < L.next ∧ L.t.get m = some (.cells c (l.length + sl) 1 true false) ∧ (∀ (i : Nat) (x : Int), l[i]? = some x → c.get i = some [.int .u8 x]) ∧ ∀ i, i < sl → ∃ y, c.get (l.length + i) = some [y]
theorem RowS.nm_lt {L : Heap} {v : V} {l : List Int} {sl m : Nat} (h : RowS L v l sl) (hm : nmP v = some m) : m < L.next := by
  rcases h with ⟨rfl, _⟩ | ⟨k, c, rfl, h1, _⟩
  · cases hm
  · simp only [nmP, Option.some.injEq] at hm; subst hm; exact h1
theorem RowS.still {L L' : Heap} {v : V} {l : List Int} {sl : Nat} (h : RowS L v l sl) (hn : L.next ≤ L'.next) (hk : ∀ m, nmP v = some m → L'.t.get m = L.t.get m) : RowS L' v l sl := by
  rcases h with h | ⟨m, c, rfl, h1, h2, h3, h4⟩
  · exact .inl h
  · exact .inr ⟨m, c, rfl, Nat.lt_of_lt_of_le h1 hn, by rw [hk m rfl, h2], h3, h4⟩
theorem elems_S {L : Heap} {m n : Nat} {l : List Int} {c : T (List V)} {q r : Bool} (hb : L.t.get m = some (.cells c n 1 q r)) (hc : ∀ (i : Nat) (x : Int), l[i]? = some x → c.get i = some [.int .u8 x]) :
    ∀ (k o : Nat), o + k = l.length → L.elems m o 1 k = some ((l.drop o).map u8c) := by
  intro k
  induction k with
  | zero => intro o h; simp [Heap.elems, List.drop_of_length_le (show l.length ≤ o by omega)]
  | succ k ih =>
    intro o h
    have hlt : o < l.length := by omega
    have he : L.elem m o = some ([V.int .u8 l[o]], 0) := by
      simp [Heap.elem, hb, Nat.mod_one, hc o l[o] (by simp [hlt])]
    simp only [Heap.elems, he, Option.bind_some, List.drop_zero, takeN, Option.map_some, ih (o + 1) (by omega)]
    rw [List.drop_eq_getElem_cons hlt]
    rfl
theorem RowS.src {L : Heap} {v : V} {l : List Int} {sl : Nat} (h : RowS L v l sl) : srcElems L 1 v = some (l.map u8c) := by
  rcases h with ⟨rfl, rfl, _⟩ | ⟨m, c, rfl, h1, h2, h3, h4⟩
  · rfl
  · have := elems_S h2 h3 l.length 0 (by simp)
    simpa [srcElems] using this
theorem RowS.len {L : Heap} {v : V} {l : List Int} {sl : Nat} (h : RowS L v l sl) (L' : Heap) : Ev.builtinQ Try.prog .len #[38] [v] L' = some (.int .i64 (l.length : Int)) := by
  rcases h with ⟨rfl, rfl, _⟩ | ⟨m, c, rfl, h1, h2, h3, h4⟩ <;> simp [Ev.builtinQ, pt38]
theorem RowS.ne {L : Heap} {v : V} {l : List Int} {sl m : Nat} (h : RowS L v l sl) {c : T (List V)} {n sz : Nat} {ro : Bool} (hb : L.t.get m = some (.cells c n sz false ro)) : nmP v ≠ some m := by
  rcases h with ⟨rfl, _⟩ | ⟨k, c', rfl, h1, h2, h3, h4⟩
  · simp [nmP]
  · simp only [nmP, ne_eq, Option.some.injEq]
    rintro rfl
    rw [hb] at h2
    simp at h2
theorem RowS.cells {L : Heap} {v : V} {l : List Int} {sl : Nat} (h : RowS L v l sl) : v.cells = [v] ∧ v.scalar = true := by
  rcases h with ⟨rfl, _⟩ | ⟨k, c', rfl, h1, h2, h3, h4⟩ <;> exact ⟨rfl, rfl⟩
theorem rowS_new {L : Heap} {T0 : T Blk} {all : List Int} : RowS (newOpen 1 (all.map u8c) L T0).2 (newOpen 1 (all.map u8c) L T0).1 all 0 := by
  refine .inr ⟨L.next, rowFrom (all.map u8c) 0, by simp [newOpen], Nat.lt_succ_self _, by simp [newOpen, T.get_set_same], fun i x hx => ?_, fun i hi => by omega⟩
  rw [rowFrom_getP]
  simp [List.getElem?_map, hx, u8c]

/-- bytes are appended: to a row without free cells -/
theorem append_S {L : Heap} {v x : V} {l new : List Int} (h : RowS L v l 0) (hx : srcElems L 1 x = some (new.map u8c)) (hs : l.length + new.length ≤ 16777216) :
    ∃ v' L', Ev.append Try.prog 38 v x L = some (v', L') ∧ RowS L' v' (l ++ new) 0 ∧ L.next ≤ L'.next ∧ (∀ n, n < L.next → nmP v ≠ some n → L'.t.get n = L.t.get n) ∧ (nmP v' = nmP v ∨ nmP v' = some L.next) := by
  have hsm : ∀ k, k ≤ 16777216 → small k 1 = true := fun k hk => by simp [small, ble_dec, hk]
  have hs0 : ((1 != 0) && (V.int IntKind.u8 0).cells.length == 1) = true := rfl
  unfold Ev.append
  simp only [pt38, ps5, pb5, pz5, Option.bind_some, hx, hs0, guardO_true]
  rcases h with ⟨rfl, rfl, _⟩ | ⟨m, c, rfl, h1, h2, h3, h4⟩
  · cases new with
    | nil => exact ⟨.nils, L, rfl, .inl ⟨rfl, rfl, rfl⟩, Nat.le_refl _, fun _ _ _ => rfl, .inl rfl⟩
    | cons a r =>
      refine ⟨_, _, ?_, rowS_new (L := L) (T0 := L.t) (all := a :: r), Nat.le_succ _, fun n hn _ => T.get_set_ne _ _ (by omega), .inr rfl⟩
      simp only [List.map_cons, List.length_cons, List.length_map]
      rw [hsm _ (by simpa using hs)]
      rfl
  · have hold := elems_S h2 h3 l.length 0 (by simp)
    rw [List.drop_zero] at hold
    rw [Nat.add_zero] at h2
    have g0 : ((1 == 1) && (0 == 0 * 1)) = true := rfl
    cases new with
    | nil =>
      refine ⟨.slice m 0 l.length 0 true, L, ?_, .inr ⟨m, c, by simp, h1, by simpa using h2, by simpa using h3, fun i hi => by omega⟩, Nat.le_refl _, fun _ _ _ => rfl, .inl rfl⟩
      have hb : Nat.ble (0 + (l.length + 0) * 1) (l.length * 1) = true := by rw [ble_dec]; simp
      simp only [h2, Option.bind_some, g0, guardO_true, List.map_nil, List.length_nil, hb, Heap.storeElems]
      rfl
    | cons a r =>
      refine ⟨_, _, ?_, rowS_new (L := L) (T0 := L.t.del m) (all := l ++ a :: r), Nat.le_succ _, fun n hn hnm => ?_, .inr rfl⟩
      · have hsc' : ((a :: r).map u8c).all (fun x => x.all V.scalar) = true := by
          rw [List.all_map]
          exact List.all_eq_true.2 fun x _ => rfl
        have hb : Nat.ble (0 + (l.length + ((a :: r).map u8c).length) * 1) (l.length * 1) = false := by
          rw [ble_dec]; simp
        have hb2 : (0 + l.length * 1 == l.length * 1) = true := by simp
        have hsm2 : small (l.length + ((a :: r).map u8c).length) 1 = true := hsm _ (by simpa using hs)
        simp only [h2, Option.bind_some, g0, guardO_true, hb, hb2, hsm2, hsc', Bool.and_self, hold, Option.map_some, List.map_append]
      · show T.get _ n = _
        have hnm' : n ≠ m := fun e => hnm (by rw [e]; rfl)
        rw [show (newOpen 1 ((l ++ a :: r).map u8c) L (L.t.del m)).2.t = (L.t.del m).set L.next _ from rfl, T.get_set_ne _ _ (by omega), T.get_del, if_neg hnm']
/-- to one that has -/
theorem append_in {L : Heap} {v x : V} {l : List Int} {sl : Nat} {y : Int} (h : RowS L v l (sl + 1)) (hx : srcElems L 1 x = some [u8c y]) :
    ∃ v' L', Ev.append Try.prog 38 v x L = some (v', L') ∧ RowS L' v' (l ++ [y]) sl ∧ L.next ≤ L'.next ∧ (∀ n, n < L.next → nmP v ≠ some n → L'.t.get n = L.t.get n) ∧ (nmP v' = nmP v ∨ nmP v' = some L.next) := by
  have hs0 : ((1 != 0) && (V.int IntKind.u8 0).cells.length == 1) = true := rfl
  unfold Ev.append
  simp only [pt38, ps5, pb5, pz5, Option.bind_some, hx, hs0, guardO_true]
  rcases h with ⟨_, _, h0⟩ | ⟨m, c, rfl, h1, h2, h3, h4⟩
  · omega
  · have g0 : ((1 == 1) && (0 == 0 * 1)) = true := rfl
    obtain ⟨y0, hy0⟩ := h4 0 (by omega)
    rw [Nat.add_zero] at hy0
    have hb : Nat.ble (0 + (l.length + [u8c y].length) * 1) ((l.length + (sl + 1)) * 1) = true := by rw [ble_dec]; simp
    refine ⟨.slice m 0 (l.length + 1) 0 true, ⟨L.t.set m (.cells (c.set l.length [.int .u8 y]) (l.length + (sl + 1)) 1 true false), L.next⟩, ?_, .inr ⟨m, c.set l.length [.int .u8 y], by simp, h1, ?_, ?_, ?_⟩, Nat.le_refl _, fun n hn hnm => T.get_set_ne _ _ (fun e => hnm (by rw [e]; rfl)), .inl rfl⟩
    · simp only [h2, Option.bind_some, g0, guardO_true, hb, Heap.storeElems, Heap.store]
      simp [hy0, splice, guardO, u8c, V.scalar, over, Nat.mod_one]
    · show T.get (T.set _ _ _) _ = _
      rw [T.get_set_same]; simp; omega
    · intro i z hz
      rw [T.get_set]
      by_cases hi : i < l.length
      · rw [if_neg (by omega)]
        rw [List.getElem?_append_left hi] at hz
        exact h3 i z hz
      · rw [List.getElem?_append_right (by omega)] at hz
        have := (List.getElem?_eq_some_iff.1 hz).1
        simp at this
        have hi : i = l.length := by omega
        subst hi
        simp at hz
        rw [if_pos rfl, hz]
    · intro i hi
      obtain ⟨y1, hy1⟩ := h4 (i + 1) (by omega)
      exact ⟨y1, by rw [T.get_set_ne _ _ (by simp only [List.length_append, List.length_singleton]; omega)]; simp only [List.length_append, List.length_singleton]; rw [show l.length + 1 + i = l.length + (i + 1) by omega]; exact hy1⟩
theorem append_one {L : Heap} {v x : V} {l : List Int} {sl : Nat} {y : Int} (h : RowS L v l sl) (hx : srcElems L 1 x = some [u8c y]) (hs : l.length + 1 ≤ 16777216) :
    ∃ v' L', Ev.append Try.prog 38 v x L = some (v', L') ∧ RowS L' v' (l ++ [y]) (sl - 1) ∧ L.next ≤ L'.next ∧ (∀ n, n < L.next → nmP v ≠ some n → L'.t.get n = L.t.get n) ∧ (nmP v' = nmP v ∨ nmP v' = some L.next) := by
  cases sl with
  | zero => exact append_S (new := [y]) h hx hs
  | succ sl => exact append_in h hx
/-- the last ones are free again -/
theorem cut_S {L : Heap} {v : V} {l : List Int} {j : Nat} (h : RowS L v l 0) (hj : j ≤ l.length) (h1 : 1 ≤ l.length) :
    ∃ v', Ev.sliceOp Try.prog 38 v none (some (.int .i64 (j : Int))) none = some v' ∧ RowS L v' (l.take j) (l.length - j) ∧ nmP v' = nmP v := by
  rcases h with ⟨rfl, rfl, _⟩ | ⟨m, c, rfl, h1, h2, h3, h4⟩
  · simp at h1
  · have e2 : Nat.blt j (l.length + 1) = true := by rw [blt_dec]; simp; omega
    have hl : (l.take j).length = j := by rw [List.length_take]; omega
    refine ⟨.slice m 0 j 0 true, by simp [Ev.sliceOp, pt38, ps5, guardO, Ev.bound, idx_nat, e2], .inr ⟨m, c, by rw [hl], h1, by rw [hl, h2]; congr 2; omega, fun i x hx => ?_, fun i hi => ?_⟩, rfl⟩
    · have hlt := (List.getElem?_eq_some_iff.1 hx).1
      rw [hl] at hlt
      rw [List.getElem?_take_of_lt hlt] at hx
      exact h3 i x hx
    · rw [hl]
      exact ⟨_, h3 (j + i) l[j + i] (by simp)⟩

/-- the block of a writer -/
noncomputable def wB (v : V) (bad : Bool) : Blk := .cells (T.set .leaf 0 [v, .bool bad]) 1 2 false false
/-- a writer stands -/
structure Wr (L : Heap) (W : Nat) (v : V) (bad : Bool) (l : List Int) (sl : Nat) : Prop where
  cell : L.t.get W = some (wB v bad)
  lt : W < L.next
  row : RowS L v l sl
/-- all but the writer, and its row, is as it was -/
structure Old (W : Nat) (v : V) (L L' : Heap) (v' : V) : Prop where
  next : L.next ≤ L'.next
  old : ∀ n, n < L.next → n ≠ W → nmP v ≠ some n → L'.t.get n = L.t.get n
  nm : nmP v' = nmP v ∨ ∃ m, nmP v' = some m ∧ L.next ≤ m
theorem Old.refl (W : Nat) (v : V) (L : Heap) : Old W v L L v := ⟨Nat.le_refl _, fun _ _ _ _ => rfl, .inl rfl⟩
theorem Old.trans {W : Nat} {v v1 v2 : V} {L L1 L2 : Heap} (h : Old W v L L1 v1) (h' : Old W v1 L1 L2 v2) : Old W v L L2 v2 := by
  refine ⟨Nat.le_trans h.next h'.next, fun n hn hw hv => ?_, ?_⟩
  · rw [h'.old n (Nat.lt_of_lt_of_le hn h.next) hw, h.old n hn hw hv]
    rcases h.nm with e | ⟨m, e, hm⟩
    · rw [e]; exact hv
    · rw [e]; simp only [ne_eq, Option.some.injEq]; omega
  · rcases h'.nm with e | ⟨m, e, hm⟩
    · rcases h.nm with e' | ⟨m', e', hm'⟩
      · exact .inl (e.trans e')
      · exact .inr ⟨m', e.trans e', hm'⟩
    · exact .inr ⟨m, e, Nat.le_trans h.next hm⟩
theorem Old.new (W : Nat) (v : V) (L : Heap) (b : Blk) : Old W v L ⟨L.t.set L.next b, L.next + 1⟩ v := ⟨Nat.le_succ _, fun n hn _ _ => T.get_set_ne _ _ (by omega), .inl rfl⟩
theorem Old.put (W : Nat) (v : V) (L : Heap) (b : Blk) : Old W v L ⟨L.t.set W b, L.next⟩ v := ⟨Nat.le_refl _, fun n hn hw _ => T.get_set_ne _ _ hw, .inl rfl⟩
theorem Old.app {W : Nat} {v v' : V} {L L' : Heap} (h1 : L.next ≤ L'.next) (h2 : ∀ n, n < L.next → nmP v ≠ some n → L'.t.get n = L.t.get n) (h3 : nmP v' = nmP v ∨ nmP v' = some L.next) : Old W v L L' v' :=
  ⟨h1, fun n hn _ hv => h2 n hn hv, h3.imp id fun h => ⟨_, h, Nat.le_refl _⟩⟩
theorem Wr.ne {L : Heap} {W : Nat} {v : V} {bad : Bool} {l : List Int} {sl : Nat} (h : Wr L W v bad l sl) : nmP v ≠ some W := h.row.ne h.cell
theorem Wr.new {L : Heap} {W : Nat} {v : V} {bad : Bool} {l : List Int} {sl : Nat} (h : Wr L W v bad l sl) (b : Blk) : Wr ⟨L.t.set L.next b, L.next + 1⟩ W v bad l sl :=
  ⟨by show T.get (T.set _ _ _) _ = _; rw [T.get_set_ne _ _ (by have := h.lt; omega)]; exact h.cell, Nat.lt_succ_of_lt h.lt, h.row.still (Nat.le_succ _) fun m hm => T.get_set_ne _ _ (by have := h.row.nm_lt hm; omega)⟩
theorem Wr.bad {L : Heap} {W : Nat} {v : V} {bad : Bool} {l : List Int} {sl : Nat} (h : Wr L W v bad l sl) (bad' : Bool) : Wr ⟨L.t.set W (wB v bad'), L.next⟩ W v bad' l sl :=
  ⟨T.get_set_same _ _ _, h.lt, h.row.still (Nat.le_refl _) fun m hm => T.get_set_ne _ _ (by rintro rfl; exact h.ne hm)⟩
/-- something is appended, and put -/
theorem Wr.app {L L' : Heap} {W : Nat} {v v' : V} {bad : Bool} {l l' : List Int} {sl sl' : Nat} (h : Wr L W v bad l sl) (h0 : RowS L' v' l' sl') (h1 : L.next ≤ L'.next) (h2 : ∀ n, n < L.next → nmP v ≠ some n → L'.t.get n = L.t.get n) (h3 : nmP v' = nmP v ∨ nmP v' = some L.next) :
    Wr ⟨L'.t.set W (wB v' bad), L'.next⟩ W v' bad l' sl' ∧ Old W v L ⟨L'.t.set W (wB v' bad), L'.next⟩ v' ∧ L'.t.get W = some (wB v bad) := by
  have hW : L'.t.get W = some (wB v bad) := by rw [h2 W h.lt h.ne]; exact h.cell
  have hne : nmP v' ≠ some W := by
    rcases h3 with e | e
    · rw [e]; exact h.ne
    · rw [e]; have := h.lt; simp; omega
  exact ⟨⟨T.get_set_same _ _ _, Nat.lt_of_lt_of_le h.lt h1, h0.still (Nat.le_refl _) fun m hm => T.get_set_ne _ _ (by rintro rfl; exact hne hm)⟩, (Old.app h1 h2 h3).trans (Old.put W v' L' _), hW⟩
end Go.Proofs.Ytpfmoolpeecobaa
namespace Go.Proofs.Ytpfmoolpeecobaa
open Go Go.Proofs Go.Proofs.Ytpfmoolpeecobaa.Ev
set_option linter.unusedVariables false
set_option linter.unusedSimpArgs false
set_option maxRecDepth 100000
set_option maxHeartbeats 4000000

/-- a number's low byte -/
def lowB (n : Int) : Int := IntKind.u8.wrap n
theorem lowB_eq (n : Int) : IntKind.u8.wrap n = lowB n := rfl
/-- a block of one number -/
noncomputable def oneB (x : V) : Blk := .cells (T.set .leaf 0 [x]) 1 1 false false
theorem oneB_src {L : Heap} {m : Nat} {y : Int} (h : L.t.get m = some (oneB (.int .u8 y))) : srcElems L 1 (.slice m 0 1 1 false) = some [u8c y] := by
  simp [srcElems, Heap.elems, Heap.elem, h, oneB, T.get_set, takeN, u8c]

theorem cellsI (k : IntKind) (n : Int) : (V.int k n).cells = [.int k n] := rfl
theorem ACode.at {P : Program} {e : Env} {c : Code} {t : T V} {d : List Nat} {L : Heap} {K : Ex → T V → List Nat → Heap → Prop} (F : T V → Prop) (hF : F t) (h : ∀ t, F t → ACode P e c t d L K) : ACode P e c t d L K := h t hF
theorem belowW_ok {L : Heap} {W : Nat} {v : V} {bad : Bool} {l : List Int} {sl : Nat} (h : Wr L W v bad l sl) (most n : Int) {s : Nat} (hs : L.t.get s = some (oneB (.int .i64 n))) (hsl : s < L.next) (hl : l.length ≤ 10000000) :
    ∃ L' v', ACall Try.prog 101 [.ptr W 0, .int .i64 most, .slice s 0 1 1 false] L (.tuple []) L' ∧ Wr L' W v' (bad || decide (n < 0) || decide (most ≤ n)) (l ++ [lowB n]) (sl - 1) ∧ Old W v L L' v' := by
  have hcell := h.cell
  generalize hbad : (bad || decide (n < 0) || decide (most ≤ n)) = bad'
  have h1 := h.bad bad'
  have o1 := Old.put W v L (wB v bad')
  have hself : bad' = bad → (⟨L.t.set W (wB v bad'), L.next⟩ : Heap) = L := fun e => by
    show (⟨_, _⟩ : Heap) = _
    rw [e, T_set_self _ _ _ hcell]
  generalize hA1 : (⟨L.t.set W (wB v bad'), L.next⟩ : Heap) = A1 at *
  have h2 := h1.new (oneB (.int .u8 (lowB n)))
  have o2 := Old.new W v A1 (oneB (.int .u8 (lowB n)))
  have hy : (⟨A1.t.set A1.next (oneB (.int .u8 (lowB n))), A1.next + 1⟩ : Heap).t.get A1.next = some (oneB (.int .u8 (lowB n))) := T.get_set_same _ _ _
  have hA2t : (⟨A1.t.set A1.next (oneB (.int .u8 (lowB n))), A1.next + 1⟩ : Heap).t = A1.t.set A1.next (oneB (.int .u8 (lowB n))) := rfl
  generalize hA2 : (⟨A1.t.set A1.next (oneB (.int .u8 (lowB n))), A1.next + 1⟩ : Heap) = A2 at *
  obtain ⟨v', A3, happ, hr3, hn3, hk3, hm3⟩ := append_one h2.row (oneB_src hy) (by omega)
  obtain ⟨hw4, ho4, hW3⟩ := h2.app hr3 hn3 hk3 hm3
  refine ⟨_, v', ?_, hw4, (o1.trans o2).trans ho4⟩
  have hv := h.row.cells
  have hv' := hr3.cells
  have hc1 := h1.cell
  have hc2 := h2.cell
  unfold wB at hcell hc1 hc2 hW3
  unfold oneB at hs
  have hlen : Ev.builtinQ Try.prog .len #[131] [.slice s 0 1 1 false] L = some (.int .i64 1) := by simp [Ev.builtinQ, pt131]
  have hix : Ev.indexAddr Try.prog 131 (.slice s 0 1 1 false) (.int .i64 0) = some (.ptr s 0) := by simp [Ev.indexAddr, pt131, ps3, idx_0, blt_dec, guardO]
  have hld : Heap.load Try.prog L 3 s 0 = some (.int .i64 n) := by simp [Heap.load, Heap.elem, hs, T.get_set, Ev.part, pa3]
  refine ACall.of_body_same Try.func101 rfl ?_
  refine ACode.seq (ACode.regS noT_ok names_ok mix (t' := ?_) (L' := ?_) [0, 1, 2] (by rfl) ?_ ?_)
  rotate_left 2
  · iterate 3 (refine sq rfl rfl rfl (by simp [go_sem, xl, xs, xe, xa, xi, xo, xb, xv, xc, xk, hlen, Try.f101]; rfl) ?_)
    rfl
  refine ACode.block (ACode.rounds 2 ?_)
  unfold Rounds
  refine ACode.seq (ACode.regS noT_ok names_ok mix (t' := ?_) (L' := ?_) [0] (by rfl) ?_ ?_)
  rotate_left 2
  · refine sq rfl rfl rfl (by simp [go_sem, X, Try.f101]; rfl) ?_
    rfl
  refine ACode.seq (ACode.condT (by simp [tget_set, opd]) (ACode.skip ?_))
  refine ACode.seq (ACode.block ?_)
  refine ACode.seq (ACode.regS noT_ok names_ok mix (t' := ?_) (L' := ?_) [0, 1, 2] (by rfl) ?_ ?_)
  rotate_left 2
  · iterate 3 (refine sq rfl rfl rfl (by simp [go_sem, xs, xi, xo, xb, xq, xv, xc, xk, hix, hld, Try.f101]; rfl) ?_)
    rfl
  refine ACode.at (fun t => tget t 0 = .ptr W 0 ∧ tget t 7 = .int .i64 n ∧ tget t 9 = .int .i64 1 ∧ tget t 10 = .int .i64 0 ∧ tget t 1 = .int .i64 most) (by simp [tget_set, argsT]) ?_
  rintro t1 ⟨t0, t7, t9, t10, tm⟩
  refine ACode.seq (ACode.mono (K := fun x t' d' L' => x = .normal ∧ d' = [] ∧ L' = A1 ∧ tget t' 0 = .ptr W 0 ∧ tget t' 7 = .int .i64 n ∧ tget t' 9 = .int .i64 1 ∧ tget t' 10 = .int .i64 0) ?_ ?_)
  ·
    have hst : ∀ b, b = bad' → (⟨L.t.set W (.cells (T.set .leaf 0 [v, .bool b]) 1 2 false false), L.next⟩ : Heap) = A1 := fun b e => by rw [← hA1, e]; rfl
    cases bad with
    | true =>
      have hb : true = bad' := by simpa using hbad
      refine ACode.regS noT_ok names_ok mix (t' := ?_) (L' := ?_) [0, 1, 2, 3, 4, 5, 6, 7, 8, 9, 10, 11, 12, 13, 14, 15, 16] (by rfl) ?_ ?_
      rotate_left 2
      · iterate 6 (refine sq rfl rfl rfl (by simp [go_sem, X, t0, t7, hcell, hv, Try.f101]; rfl) ?_)
        iterate 2 (refine sk rfl rfl (by simp [go_sem, X, t0, t7, hcell, hv, Try.f101]) ?_)
        iterate 2 (refine sq rfl rfl rfl (by simp [go_sem, X, t0, t7, hcell, hv, Try.f101]; rfl) ?_)
        iterate 3 (refine sk rfl rfl (by simp [go_sem, X, t0, t7, hcell, hv, Try.f101]) ?_)
        iterate 4 (refine sq rfl rfl rfl (by simp [go_sem, X, t0, t7, hcell, hv, Try.f101]; rfl) ?_)
        rfl
      refine ⟨rfl, rfl, hst _ hb, by simp [tget_set, t0], by simp [tget_set, t7], by simp [tget_set, t9], by simp [tget_set, t10]⟩
    | false =>
      by_cases hn0 : n < 0
      ·
        have hb : true = bad' := by simpa [hn0] using hbad
        refine ACode.regS noT_ok names_ok mix (t' := ?_) (L' := ?_) [0, 1, 2, 3, 4, 5, 6, 7, 8, 9, 10, 11, 12, 13, 14, 15, 16] (by rfl) ?_ ?_
        rotate_left 2
        · iterate 6 (refine sq rfl rfl rfl (by simp [go_sem, X, t0, t7, hcell, hv, hn0, Try.f101]; rfl) ?_)
          iterate 2 (refine sq rfl rfl (by simp [go_sem, X, t0, t7, hcell, hv, hn0, Try.f101]) (by simp [go_sem, X, t0, t7, hcell, hv, hn0, Try.f101]; rfl) ?_)
          iterate 2 (refine sq rfl rfl rfl (by simp [go_sem, X, t0, t7, hcell, hv, hn0, Try.f101]; rfl) ?_)
          iterate 3 (refine sk rfl rfl (by simp [go_sem, X, t0, t7, hcell, hv, hn0, Try.f101]) ?_)
          iterate 4 (refine sq rfl rfl rfl (by simp [go_sem, X, t0, t7, hcell, hv, hn0, Try.f101]; rfl) ?_)
          rfl
        refine ⟨rfl, rfl, hst _ hb, by simp [tget_set, t0], by simp [tget_set, t7], by simp [tget_set, t9], by simp [tget_set, t10]⟩
      ·
        have hb : decide (most ≤ n) = bad' := by simpa [hn0] using hbad
        refine ACode.regS noT_ok names_ok mix (t' := ?_) (L' := ?_) [0, 1, 2, 3, 4, 5, 6, 7, 8, 9, 10, 11, 12, 13, 14, 15, 16] (by rfl) ?_ ?_
        rotate_left 2
        · iterate 6 (refine sq rfl rfl rfl (by simp [go_sem, X, t0, t7, hcell, hv, hn0, tm, Try.f101]; rfl) ?_)
          iterate 2 (refine sq rfl rfl (by simp [go_sem, X, t0, t7, hcell, hv, hn0, tm, Try.f101]) (by simp [go_sem, X, t0, t7, hcell, hv, hn0, tm, Try.f101]; rfl) ?_)
          iterate 2 (refine sq rfl rfl rfl (by simp [go_sem, X, t0, t7, hcell, hv, hn0, tm, Try.f101]; rfl) ?_)
          iterate 3 (refine sq rfl rfl (by simp [go_sem, X, t0, t7, hcell, hv, hn0, tm, Try.f101]) (by simp [go_sem, X, t0, t7, hcell, hv, hn0, tm, Try.f101]; rfl) ?_)
          iterate 4 (refine sq rfl rfl rfl (by simp [go_sem, X, t0, t7, hcell, hv, hn0, tm, Try.f101]; rfl) ?_)
          rfl
        refine ⟨rfl, rfl, hst _ hb, by simp [tget_set, t0], by simp [tget_set, t7], by simp [tget_set, t9], by simp [tget_set, t10]⟩
  rintro x t2 d2 L2 ⟨rfl, rfl, rfl, u0, u7, u9, u10⟩
  show ACode _ _ _ _ _ _ _
  have hw : IntKind.i64.wrap (0 + 1) = 1 := rfl
  have happ' := happ
  rw [← hA2] at happ'
  unfold oneB at happ'
  refine ACode.regS noT_ok names_ok mix (t' := ?_) (L' := ?_) [0, 1, 2, 3, 4, 5, 6, 7, 8, 9, 10, 11] (by rfl) ?_ ?_
  rotate_left 2
  · iterate 12 (refine sq rfl rfl rfl (by simp [go_sem, xl, xs, xe, xa, xi, xo, xb, xq, xv, cellsI, scal1, u0, u7, hc1, hW3, hv, hv', lowB_eq, happ', Try.f101]; rfl) ?_)
    rfl
  show ACode _ _ _ _ _ _ _
  refine ACode.regS noT_ok names_ok mix (t' := ?_) (L' := ?_) [0, 1] (by rfl) ?_ ?_
  rotate_left 2
  · iterate 2 (refine sq rfl rfl rfl (by simp [go_sem, X, u10, hw, Try.f101]; rfl) ?_)
    rfl
  show ACode _ _ _ _ _ _ _
  refine ACode.seq (ACode.regS noT_ok names_ok mix (t' := ?_) (L' := ?_) [0] (by rfl) ?_ ?_)
  rotate_left 2
  · refine sq rfl rfl rfl (by simp [go_sem, X, u9, Try.f101]; rfl) ?_
    rfl
  refine ACode.seq (ACode.condF (by simp [tget_set, opd]) (ACode.exit ?_))
  exact ⟨.inl rfl, [], rfl, by simp [Try.f101, resVals], rfl⟩
end Go.Proofs.Ytpfmoolpeecobaa
namespace Go.Proofs.Ytpfmoolpeecobaa
open Go Go.Proofs Go.Proofs.Ytpfmoolpeecobaa.Ev
set_option linter.unusedVariables false
set_option linter.unusedSimpArgs false
set_option maxRecDepth 100000
set_option maxHeartbeats 4000000

def cFst : Code → Code
  | .seq a _ => a
  | c => c
def cSnd : Code → Code
  | .seq _ b => b
  | c => c
theorem Old.at {W : Nat} {v v' : V} {L L' : Heap} {l : List Int} {sl : Nat} (h : Old W v L L' v') (hr : RowS L v l sl) {X : Nat} {c : T (List V)} {n sz : Nat} {ro : Bool} (hX : L.t.get X = some (.cells c n sz false ro)) (hlt : X < L.next) (hne : X ≠ W) : L'.t.get X = some (.cells c n sz false ro) := by
  rw [h.old X hlt hne (hr.ne hX)]; exact hX
theorem below_step {A : Heap} {W : Nat} {v : V} {bad : Bool} {l : List Int} {sl : Nat} (h : Wr A W v bad l sl) (most n : Int) (hl : l.length ≤ 10000000) :
    ∃ A2 v', ACall Try.prog 101 [.ptr W 0, .int .i64 most, .slice A.next 0 1 1 false] ⟨A.t.set A.next (.cells (T.set .leaf 0 [.int .i64 n]) 1 1 false false), A.next + 1⟩ (.tuple []) A2 ∧
      Wr A2 W v' (bad || decide (n < 0) || decide (most ≤ n)) (l ++ [lowB n]) (sl - 1) ∧ Old W v A A2 v' := by
  have h1 := h.new (oneB (.int .i64 n))
  obtain ⟨A2, v', hc, hw, ho⟩ := belowW_ok h1 most n (s := A.next) (T.get_set_same _ _ _) (Nat.lt_succ_self _) hl
  exact ⟨A2, v', hc, hw, (Old.new W v A _).trans ho⟩
/-- an event that is laid, and its own parts: two blocks that stand -/
structure ES (L A : Heap) (W : Nat) (v0 v : V) (bad : Bool) (l : List Int) (sl E O : Nat) (ce co : List V) : Prop where
  wr : Wr A W v bad l sl
  ev : A.t.get E = some (evB ce)
  own : A.t.get O = some (evB co)
  elt : E < A.next
  olt : O < A.next
  eW : E ≠ W
  oW : O ≠ W
  eO : E ≠ O
  old : Old W v0 L A v
  oge : L.next ≤ O
theorem ES.step {L A A' : Heap} {W : Nat} {v0 v v' : V} {bad bad' : Bool} {l l' : List Int} {sl sl' E O : Nat} {ce co : List V} (h : ES L A W v0 v bad l sl E O ce co) (hw : Wr A' W v' bad' l' sl') (ho : Old W v A A' v') : ES L A' W v0 v' bad' l' sl' E O ce co :=
  ⟨hw, ho.at h.wr.row h.ev h.elt h.eW, ho.at h.wr.row h.own h.olt h.oW, Nat.lt_of_lt_of_le h.elt ho.next, Nat.lt_of_lt_of_le h.olt ho.next, h.eW, h.oW, h.eO, h.old.trans ho, h.oge⟩
/-- the own event's block is put -/
theorem ES.put {L A : Heap} {W : Nat} {v0 v : V} {bad : Bool} {l : List Int} {sl E O : Nat} {ce co : List V} (h : ES L A W v0 v bad l sl E O ce co) (co' : List V) : ES L ⟨A.t.set O (evB co'), A.next⟩ W v0 v bad l sl E O ce co' := by
  have hne : nmP v ≠ some O := h.wr.row.ne h.own
  refine ⟨⟨by show T.get (T.set _ _ _) _ = _; rw [T.get_set_ne _ _ (fun e => h.oW e.symm)]; exact h.wr.cell, h.wr.lt, h.wr.row.still (Nat.le_refl _) fun m hm => T.get_set_ne _ _ (by rintro rfl; exact hne hm)⟩, by show T.get (T.set _ _ _) _ = _; rw [T.get_set_ne _ _ h.eO]; exact h.ev, T.get_set_same _ _ _, h.elt, h.olt, h.eW, h.oW, h.eO, ?_, h.oge⟩
  exact ⟨h.old.next, fun n hn hw hv => by show T.get (T.set _ _ _) _ = _; rw [T.get_set_ne _ _ (by have := h.oge; omega)]; exact h.old.old n hn hw hv, h.old.nm⟩

/-- the code behind an event's beginning -/
noncomputable def sfx76 : Code := cSnd (cSnd (cSnd (cSnd (cSnd (Try.f76.body.getD .skip)))))
theorem arg5 {x : V} : ([x, V.int .i64 5] : List V) ≠ [x, V.int .i64 9] := by simp
theorem cellsAg (l : List V) : (V.agg l).cells = l := rfl
theorem cellsS (n o l c : Nat) (q : Bool) : (V.slice n o l c q).cells = [V.slice n o l c q] := rfl
theorem wevent_pre {L : Heap} {W : Nat} {v : V} {bad : Bool} {l : List Int} {sl : Nat} (h : Wr L W v bad l sl) (hsl : sl ≤ 1) (e : Evt) (hk : -1000 ≤ e.k ∧ e.k ≤ 1000) (hs : -1000 ≤ e.s ∧ e.s ≤ 1000) (hl : l.length ≤ 1000000) :
    ∃ A v' E O, ES L A W v v' (bad || decide (e.k < 0) || decide (9 ≤ e.k) || decide (e.s < 0) || decide (5 ≤ e.s)) (l ++ [lowB (e.k + 9 * e.s)]) 1 E O (evF e) (evF ⟨e.k, e.s, [], 0, 0, 0, 0, 0, 0⟩) ∧
      ∀ L', (∀ t : T V, tget t 0 = .ptr W 0 → tget t 3 = .ptr E 0 → tget t 4 = .ptr O 0 → ACode Try.prog ⟨none, 148⟩ sfx76 t [] A (fun x _ d A' => x = .normal ∧ d = [] ∧ A' = L')) →
        ACall Try.prog 76 [.ptr W 0, .agg (evF e)] L (.tuple []) L' := by
  have hE : (⟨L.t.set L.next (evB (evF e)), L.next + 1⟩ : Heap).t.get L.next = some (evB (evF e)) := T.get_set_same _ _ _
  have h1 := h.new (evB (evF e))
  have o1 := Old.new W v L (evB (evF e))
  have hEW : L.next ≠ W := by have := h.lt; omega
  have hElt : L.next < (⟨L.t.set L.next (evB (evF e)), L.next + 1⟩ : Heap).next := Nat.lt_succ_self _
  generalize hA1 : (⟨L.t.set L.next (evB (evF e)), L.next + 1⟩ : Heap) = A1 at *
  obtain ⟨A2, v2, c2, w2, o2⟩ := below_step h1 9 e.k (by omega)
  have hE2 := o2.at h1.row hE hElt hEW
  obtain ⟨A3, v3, c3, w3, o3⟩ := below_step w2 5 e.s (by simp; omega)
  have hElt2 := Nat.lt_of_lt_of_le hElt o2.next
  have hE3 := o3.at w2.row hE2 hElt2 hEW
  have hElt3 := Nat.lt_of_lt_of_le hElt2 o3.next
  have hsl0 : sl - 1 - 1 = 0 := by omega
  rw [hsl0] at w3
  generalize (bad || decide (e.k < 0) || decide (9 ≤ e.k) || decide (e.s < 0) || decide (5 ≤ e.s)) = bx at *
  obtain ⟨vc, hcut, hrc, hnm⟩ := cut_S (j := l.length) w3.row (by simp) (by simp)
  have htk : (l ++ [lowB e.k] ++ [lowB e.s]).take l.length = l := by simp
  have hdl : (l ++ [lowB e.k] ++ [lowB e.s]).length - l.length = 1 + 1 := by simp
  rw [htk, hdl] at hrc
  have hb5 : RowS ⟨A3.t.set A3.next (oneB (.int .u8 (lowB (e.k + 9 * e.s)))), A3.next + 1⟩ vc l (1 + 1) := hrc.still (Nat.le_succ _) fun m hm => T.get_set_ne _ _ (by have := hrc.nm_lt hm; omega)
  have hy : (⟨A3.t.set A3.next (oneB (.int .u8 (lowB (e.k + 9 * e.s)))), A3.next + 1⟩ : Heap).t.get A3.next = some (oneB (.int .u8 (lowB (e.k + 9 * e.s)))) := T.get_set_same _ _ _
  have w3b := w3.new (oneB (.int .u8 (lowB (e.k + 9 * e.s))))
  have o3b := Old.new W v3 A3 (oneB (.int .u8 (lowB (e.k + 9 * e.s))))
  generalize hA3b : (⟨A3.t.set A3.next (oneB (.int .u8 (lowB (e.k + 9 * e.s)))), A3.next + 1⟩ : Heap) = A3b at *
  obtain ⟨v4, A4, happ, hr4, hn4, hk4, hm4⟩ := append_one hb5 (oneB_src hy) (by omega)
  rw [hnm] at hk4 hm4
  obtain ⟨w5, o5, hW4⟩ := w3b.app hr4 hn4 hk4 hm4
  have hE5 := (o3b.trans o5).at w3.row hE3 hElt3 hEW
  have hElt5 := Nat.lt_of_lt_of_le hElt3 (o3b.trans o5).next
  have hoall := ((o1.trans o2).trans o3).trans (o3b.trans o5)
  have hWlt5 := w5.lt
  generalize hA5 : (⟨A4.t.set W (wB v4 bx), A4.next⟩ : Heap) = A5 at *
  have hES : ES L ⟨A5.t.set A5.next (evB (evF ⟨e.k, e.s, [], 0, 0, 0, 0, 0, 0⟩)), A5.next + 1⟩ W v v4 bx (l ++ [lowB (e.k + 9 * e.s)]) 1 L.next A5.next (evF e) (evF ⟨e.k, e.s, [], 0, 0, 0, 0, 0, 0⟩) :=
    ⟨w5.new _, (Old.new W v4 A5 _).at w5.row hE5 hElt5 hEW, T.get_set_same _ _ _, Nat.lt_succ_of_lt hElt5, Nat.lt_succ_self _, hEW, by omega, by omega, hoall.trans (Old.new W v4 A5 _), hoall.next⟩
  refine ⟨_, v4, L.next, A5.next, hES, fun L' hsuf => ?_⟩
  have happ' := happ
  rw [← hA3b] at happ'
  unfold oneB at happ'
  have e1 : A1.t = L.t.set L.next (evB (evF e)) := by rw [← hA1]
  have e2 : A1.next = L.next + 1 := by rw [← hA1]
  have hw3c := w3.cell
  have hcs := hr4.cells
  have hlen : ∀ L', Ev.builtinQ Try.prog .len #[38] [v3] L' = some (.int .i64 (((l.length : Nat) : Int) + 2)) := fun L' => by rw [w3.row.len]; simp
  have hwk : IntKind.i64.wrap (9 * e.s) = 9 * e.s := Go.IntWalk.i64_in _ (by omega)
  have hwl : IntKind.i64.wrap (e.k + 9 * e.s) = e.k + 9 * e.s := Go.IntWalk.i64_in _ (by omega)
  have hwj : IntKind.i64.wrap ((l.length : Nat) : Int) = ((l.length : Nat) : Int) := Go.IntWalk.i64_in _ (by omega)
  unfold wB at hw3c hW4
  have hA1E := hE
  simp only [evB, evF] at hA1E hE2 hE3 hE5
  refine ACall.of_body_same Try.func76 rfl ?_
  refine ACode.seq (ACode.regS noT_ok names_ok mix (t' := ?_) (L' := ?_) [0] (by rfl) ?_ ?_)
  rotate_left 2
  · refine sq rfl rfl rfl (by simp [go_sem, X, Try.f76]; rfl) ?_
    rfl
  change ACode _ _ _ _ _ ⟨L.t.set L.next (evB (evF e)), L.next + 1⟩ _
  rw [hA1]
  refine ACode.seq (ACode.regS (oneT_okP c2) names_ok mix (t' := ?_) (L' := ?_) [0, 1, 2, 3, 4] (by rfl) ?_ ?_)
  rotate_left 2
  · iterate 5 (refine sq rfl rfl rfl (by simp [go_sem, X, hA1E, oneT_sameP, Try.f76]; rfl) ?_)
    rfl
  refine ACode.seq (ACode.regS (oneT_okP c3) names_ok mix (t' := ?_) (L' := ?_) [0, 1, 2, 3, 4] (by rfl) ?_ ?_)
  rotate_left 2
  · iterate 5 (refine sq rfl rfl rfl (by simp [go_sem, X, hE2, oneT_sameP, Try.f76]; rfl) ?_)
    rfl
  refine ACode.seq (ACode.regD noT_ok names_ok mix (t' := ?_) (L' := ?_) [0,0,2,6,14,0,32,96,224,480,992,2046,0,4096,0,16384,49152,126976,258048,520192,1048574,2097151,4194303,8388607] [0,1,2,3,4,5,6,7,8,9,10,11,12,13,14,15,16,17,18,19,20,21,22,23] (by decide +kernel) (by decide +kernel) (by decide +kernel) ?_ ?_)
  rotate_left 2
  · iterate 4 (refine dq rfl rfl rfl rfl (by simp [go_sem, xl, xs, xe, xa, xi, xb, xv, cellsI, scal1, scal2, scal3, hw3c, hE3, hW4, hlen, hwk, hwl, hwj, hcut, hcs, lowB_eq, happ', Try.f76]; rfl) ?_)
    refine dr rfl rfl rfl rfl (by simp [go_sem, xl, xs, xe, xa, xi, xb, xv, cellsI, scal1, scal2, scal3, hw3c, hE3, hW4, hlen, hwk, hwl, hwj, hcut, hcs, lowB_eq, happ', Try.f76]; rfl) ?_
    iterate 3 (refine dq rfl rfl rfl rfl (by simp [go_sem, xl, xs, xe, xa, xi, xb, xv, cellsI, scal1, scal2, scal3, hw3c, hE3, hW4, hlen, hwk, hwl, hwj, hcut, hcs, lowB_eq, happ', Try.f76]; rfl) ?_)
    iterate 2 (refine dr rfl rfl rfl rfl (by simp [go_sem, xl, xs, xe, xa, xi, xb, xv, cellsI, scal1, scal2, scal3, hw3c, hE3, hW4, hlen, hwk, hwl, hwj, hcut, hcs, lowB_eq, happ', Try.f76]; rfl) ?_)
    iterate 3 (refine dq rfl rfl rfl rfl (by simp [go_sem, xl, xs, xe, xa, xi, xb, xv, cellsI, scal1, scal2, scal3, hw3c, hE3, hW4, hlen, hwk, hwl, hwj, hcut, hcs, lowB_eq, happ', Try.f76]; rfl) ?_)
    refine dr rfl rfl rfl rfl (by simp [go_sem, xl, xs, xe, xa, xi, xb, xv, cellsI, scal1, scal2, scal3, hw3c, hE3, hW4, hlen, hwk, hwl, hwj, hcut, hcs, lowB_eq, happ', Try.f76]; rfl) ?_
    refine dq rfl rfl rfl rfl (by simp [go_sem, xl, xs, xe, xa, xi, xb, xv, cellsI, scal1, scal2, scal3, hw3c, hE3, hW4, hlen, hwk, hwl, hwj, hcut, hcs, lowB_eq, happ', Try.f76]; rfl) ?_
    refine dr rfl rfl rfl rfl (by simp [go_sem, xl, xs, xe, xa, xi, xb, xv, cellsI, scal1, scal2, scal3, hw3c, hE3, hW4, hlen, hwk, hwl, hwj, hcut, hcs, lowB_eq, happ', Try.f76]; rfl) ?_
    iterate 2 (refine dq rfl rfl rfl rfl (by simp [go_sem, xl, xs, xe, xa, xi, xb, xv, cellsI, scal1, scal2, scal3, hw3c, hE3, hW4, hlen, hwk, hwl, hwj, hcut, hcs, lowB_eq, happ', Try.f76]; rfl) ?_)
    refine dr rfl rfl rfl rfl (by simp [go_sem, xl, xs, xe, xa, xi, xb, xv, cellsI, scal1, scal2, scal3, hw3c, hE3, hW4, hlen, hwk, hwl, hwj, hcut, hcs, lowB_eq, happ', Try.f76]; rfl) ?_
    refine dm rfl rfl rfl rfl (by simp [go_sem, xl, xs, xe, xa, xi, xb, xv, cellsI, scal1, scal2, scal3, hw3c, hE3, hW4, hlen, hwk, hwl, hwj, hcut, hcs, lowB_eq, happ', Try.f76]; rfl) ?_
    refine dl rfl rfl rfl rfl (by simp [go_sem, xl, xs, xe, xa, xi, xb, xv, cellsI, scal1, scal2, scal3, hw3c, hE3, hW4, hlen, hwk, hwl, hwj, hcut, hcs, lowB_eq, happ', Try.f76]; rfl) (by rfl) (by simp [go_sem, xl, xs, xe, xa, xi, xb, xv, cellsI, scal1, scal2, scal3, hw3c, hE3, hW4, hlen, hwk, hwl, hwj, hcut, hcs, lowB_eq, happ', Try.f76]) ?_
    iterate 2 (refine dq rfl rfl rfl rfl (by simp [go_sem, xl, xs, xe, xa, xi, xb, xv, cellsI, scal1, scal2, scal3, hw3c, hE3, hW4, hlen, hwk, hwl, hwj, hcut, hcs, lowB_eq, happ', Try.f76]; rfl) ?_)
    refine dl rfl rfl rfl rfl (by simp [go_sem, xl, xs, xe, xa, xi, xb, xv, cellsI, scal1, scal2, scal3, hw3c, hE3, hW4, hlen, hwk, hwl, hwj, hcut, hcs, lowB_eq, happ', Try.f76]; rfl) (by rfl) (by simp [go_sem, xl, xs, xe, xa, xi, xb, xv, cellsI, scal1, scal2, scal3, hw3c, hE3, hW4, hlen, hwk, hwl, hwj, hcut, hcs, lowB_eq, happ', Try.f76]) ?_
    rfl
  change ACode _ _ _ _ _ ⟨A4.t.set W (wB v4 bx), A4.next⟩ _
  rw [hA5]
  refine ACode.seq (ACode.regS noT_ok names_ok mix (t' := ?_) (L' := ?_) [0, 1, 2, 3, 4, 5, 6] (by rfl) ?_ ?_)
  rotate_left 2
  · iterate 7 (refine sq rfl rfl rfl (by simp [go_sem, X, hE5, Try.f76]; rfl) ?_)
    rfl
  refine (hsuf _ ?_ ?_ ?_).mono ?_
  · simp [tget_set, argsT]
  · simp [tget_set, argsT]
  · simp [tget_set, argsT]
  rintro x t' d' A' ⟨rfl, rfl, rfl⟩
  exact ⟨.inl rfl, [], rfl, by simp [Try.f76, resVals], rfl⟩
end Go.Proofs.Ytpfmoolpeecobaa
namespace Go.Proofs.Ytpfmoolpeecobaa
open Go Go.Proofs Go.Proofs.Ytpfmoolpeecobaa.Ev
set_option linter.unusedVariables false
set_option linter.unusedSimpArgs false
set_option maxRecDepth 100000
set_option maxHeartbeats 4000000

instance : DecidableEq Evt := fun a b => decidable_of_iff (a.k = b.k ∧ a.s = b.s ∧ a.t = b.t ∧ a.lv = b.lv ∧ a.r1 = b.r1 ∧ a.r2 = b.r2 ∧ a.r3 = b.r3 ∧ a.r4 = b.r4 ∧ a.w = b.w) (by cases a; cases b; simp)
theorem en3g (f : Nat) (x y : Int) : equalN Try.prog (f + 1) 3 (.int .i64 x) (.int .i64 y) = some (decide (x = y)) := eqN3 f x y
theorem en51g (f : Nat) (x y : Int) : equalN Try.prog (f + 1) 51 (.int .u8 x) (.int .u8 y) = some (decide (x = y)) := by
  simp only [equalN, Try.underlying51]; simp [guardO, beq_dec]
theorem en9g (f : Nat) (x y : List Nat) : equalN Try.prog (f + 1) 9 (.str x) (.str y) = some (decide (x = y)) := by
  simp only [equalN, Try.underlying9]
  by_cases h : x = y
  · rw [Ev.strEq_iff.2 h, decide_eq_true h]
  · cases hs : strEq x y with
    | true => exact absurd (Ev.strEq_iff.1 hs) h
    | false => rw [decide_eq_false h]
theorem en81g (f : Nat) (a b c d a' b' c' d' : Int) : equalN Try.prog (f + 2) 81 (.agg [.int .i64 a, .int .i64 b, .int .i64 c, .int .i64 d]) (.agg [.int .i64 a', .int .i64 b', .int .i64 c', .int .i64 d']) = some (decide (a = a' ∧ b = b' ∧ c = c' ∧ d = d')) := by
  rw [show f + 2 = (f + 1) + 1 from rfl, equalN_struct Try.underlying81]
  simp [ph81, guardO, allR, eqPart, Ev.part, pa3, ps3, en3g]
  by_cases h1 : a = a' <;> by_cases h2 : b = b' <;> by_cases h3 : c = c' <;> by_cases h4 : d = d' <;> simp [h1, h2, h3, h4]
theorem ev86g (cst : Bool) (x y : Evt) : equalV Try.prog 86 cst (.agg (evF x)) (.agg (evF y)) = some (decide (x = y)) := by
  unfold equalV
  simp only [Try.underlying86, pg86, Ev.guardO_true]
  rw [show (20 : Nat) = 19 + 1 from rfl, equalN_struct Try.underlying86]
  cases x with | mk k s t lv r1 r2 r3 r4 w =>
  cases y with | mk k' s' t' lv' r1' r2' r3' r4' w' =>
  rw [show decide (Evt.mk k s t lv r1 r2 r3 r4 w = Evt.mk k' s' t' lv' r1' r2' r3' r4' w') = decide (k = k' ∧ s = s' ∧ t = t' ∧ lv = lv' ∧ (r1 = r1' ∧ r2 = r2' ∧ r3 = r3' ∧ r4 = r4') ∧ w = w') from decide_eq_decide.2 (by simp [and_assoc])]
  simp [ph86, guardO, allR, eqPart, Ev.part, pa3, pa51, pa9, pa81, ps81, takeN, en3g, en51g, en9g, en81g, evF]
  by_cases h1 : k = k' <;> by_cases h2 : s = s' <;> by_cases h3 : t = t' <;> by_cases h4 : lv = lv' <;> by_cases h5 : (r1 = r1' ∧ r2 = r2' ∧ r3 = r3' ∧ r4 = r4') <;> by_cases h6 : w = w' <;> simp [h1, h2, h3, h4, h5, h6] <;> (generalize (decide (r1 = r1') && (decide (r2 = r2') && (decide (r3 = r3') && decide (r4 = r4')))) = q; cases q <;> rfl)

/-- the last look: the own parts are all -/
theorem wevent_end {L A : Heap} {W : Nat} {v0 v : V} {bad : Bool} {l : List Int} {sl E O : Nat} {e o : Evt} (h : ES L A W v0 v bad l sl E O (evF e) (evF o)) (t : T V) (t0 : tget t 0 = .ptr W 0) (t3 : tget t 3 = .ptr E 0) (t4 : tget t 4 = .ptr O 0) :
    ACode Try.prog ⟨none, 148⟩ (cSnd sfx76) t [] A (fun x _ d A' => x = .normal ∧ d = [] ∧ A' = ⟨A.t.set W (wB v (bad || decide (o ≠ e))), A.next⟩) := by
  have hW := h.wr.cell
  have hE := h.ev
  have hO := h.own
  have hev := ev86g false o e
  have hcs := h.wr.row.cells
  have hst : ∀ b, b = (bad || decide (o ≠ e)) → (⟨A.t.set W (.cells (T.set .leaf 0 [v, .bool b]) 1 2 false false), A.next⟩ : Heap) = ⟨A.t.set W (wB v (bad || decide (o ≠ e))), A.next⟩ := fun b e => by rw [e]; rfl
  unfold wB at hW
  unfold evB at hE hO
  have hlE : Heap.load Try.prog A 86 E 0 = some (.agg (evF e)) := by simp [Heap.load, Heap.elem, hE, T.get_set, Ev.part, pa86, ps86, evF, takeN]
  have hlO : Heap.load Try.prog A 86 O 0 = some (.agg (evF o)) := by simp [Heap.load, Heap.elem, hO, T.get_set, Ev.part, pa86, ps86, evF, takeN]
  have hlW : Heap.load Try.prog A 4 W 1 = some (.bool bad) := by simp [Heap.load, Heap.elem, hW, T.get_set, Ev.part, pa4]
  generalize evF e = ce at *
  generalize evF o = co at *
  show ACode _ _ (Code.region 25 _ false) _ _ _ _
  cases bad with
  | true =>
    refine ACode.regS noT_ok names_ok mix (t' := ?_) (L' := ?_) [0, 1, 2, 3, 4, 5, 6, 7, 8, 9, 10, 11, 12] (by rfl) ?_ ?_
    rotate_left 2
    · iterate 6 (refine sq rfl rfl rfl (by simp [go_sem, xs, xe, xa, xi, xo, xb, xq, xv, xc, xk, t0, t3, t4, hW, hlW, hlE, hlO, hev, hcs, Try.f76]; rfl) ?_)
      iterate 3 (refine sk rfl rfl (by simp [go_sem, xs, xe, xa, xi, xo, xb, xq, xv, xc, xk, t0, t3, t4, hW, hlW, hlE, hlO, hev, hcs, Try.f76]) ?_)
      iterate 4 (refine sq rfl rfl rfl (by simp [go_sem, xs, xe, xa, xi, xo, xb, xq, xv, xc, xk, t0, t3, t4, hW, hlW, hlE, hlO, hev, hcs, Try.f76]; rfl) ?_)
      rfl
    exact ⟨rfl, rfl, hst _ (by simp)⟩
  | false =>
    refine ACode.regS noT_ok names_ok mix (t' := ?_) (L' := ?_) [0, 1, 2, 3, 4, 5, 6, 7, 8, 9, 10, 11, 12] (by rfl) ?_ ?_
    rotate_left 2
    · iterate 6 (refine sq rfl rfl rfl (by simp [go_sem, xs, xe, xa, xi, xo, xb, xq, xv, xc, xk, t0, t3, t4, hW, hlW, hlE, hlO, hev, hcs, Try.f76]; rfl) ?_)
      iterate 3 (refine sq rfl rfl (by simp [go_sem, xs, xe, xa, xi, xo, xb, xq, xv, xc, xk, t0, t3, t4, hW, hlW, hlE, hlO, hev, hcs, Try.f76]) (by simp [go_sem, xs, xe, xa, xi, xo, xb, xq, xv, xc, xk, t0, t3, t4, hW, hlW, hlE, hlO, hev, hcs, Try.f76]; rfl) ?_)
      iterate 4 (refine sq rfl rfl rfl (by simp [go_sem, xs, xe, xa, xi, xo, xb, xq, xv, xc, xk, t0, t3, t4, hW, hlW, hlE, hlO, hev, hcs, Try.f76]; rfl) ?_)
      rfl
    exact ⟨rfl, rfl, hst _ (by simp)⟩
end Go.Proofs.Ytpfmoolpeecobaa
