/- So many bytes of a reader. The text of an event. The other parts of an event. -/
import Derived.Test.YtpfmoolpeecobaaV0
namespace Go.Proofs.Ytpfmoolpeecobaa
open Go Go.Proofs Go.Proofs.Ytpfmoolpeecobaa.Ev
set_option linter.unusedVariables false
set_option linter.unusedSimpArgs false
set_option maxRecDepth 100000
set_option maxHeartbeats 4000000

/-- so many bytes on -/
def advV : Nat → V → V
  | 0, v => v
  | k + 1, v => nextV (advV k v)
/-- so many of the next bytes; noughts behind their end -/
def takeZ (k : Nat) (bs : List Int) : List Int := (List.range k).map fun j => bs.getD j 0
theorem takeZ_len (k : Nat) (bs : List Int) : (takeZ k bs).length = k := by simp [takeZ]
theorem takeZ_succ (k : Nat) (bs : List Int) : takeZ (k + 1) bs = takeZ k bs ++ [hd0 (bs.drop k)] := by
  simp only [takeZ, List.range_succ, List.map_append, List.map_cons, List.map_nil]
  congr 2
  simp [hd0, List.getD, List.headD_eq_head?_getD]
theorem takeZ_range {bs : List Int} (h : ∀ x ∈ bs, 0 ≤ x ∧ x ≤ 255) (k : Nat) : ∀ x ∈ takeZ k bs, 0 ≤ x ∧ x ≤ 255 := by
  intro x hx
  simp only [takeZ, List.mem_map] at hx
  obtain ⟨j, _, rfl⟩ := hx
  cases hj : bs[j]? with
  | none => simp [List.getD, hj]
  | some y => simp [List.getD, hj]; exact h y (List.mem_of_getElem? hj)
theorem nextV_low (v : V) (nx : Nat) : (nextV v).low nx = v.low nx := by
  unfold nextV
  split
  · split
    · rfl
    · split <;> rfl
  · rfl
theorem advV_low (k : Nat) (v : V) (nx : Nat) : (advV k v).low nx = v.low nx := by
  induction k with
  | zero => rfl
  | succ k ih => rw [advV, nextV_low, ih]
theorem Bs.adv {c : Nat} {L : Heap} {v : V} {bs : List Int} (h : Bs c L v bs) : ∀ k, Bs c L (advV k v) (bs.drop k)
  | 0 => by simpa [advV] using h
  | k + 1 => by
    have := (Bs.adv h k).next
    rw [List.tail_drop] at this
    exact this
theorem Rd.adv {L A : Heap} {c : Nat} {v : V} {bs : List Int} (h : Rd L c v bs) (k : Nat) (hk : KX c L A) (hc : A.t.get c = some (rcell (advV k v))) : Rd A c (advV k v) (bs.drop k) :=
  ⟨hc, Nat.lt_of_lt_of_le h.lt hk.1, (h.row.adv k).keep hk, fun x hx => h.range x (List.mem_of_mem_drop hx)⟩
theorem advV_add (i : Nat) (v : V) : ∀ j, advV j (advV i v) = advV (i + j) v
  | 0 => rfl
  | j + 1 => by rw [advV, advV_add i v j]; rfl
def u8c (x : Int) : List V := [.int .u8 x]
theorem Rd.low {L : Heap} {c : Nat} {v : V} {bs : List Int} (h : Rd L c v bs) : v.low L.next = true := h.row.low
theorem setRd_setRd (L : Heap) (c : Nat) (v v' : V) : setRd (setRd L c v) c v' = setRd L c v' := by
  unfold setRd; simp only [T.set_set]

theorem textOne_ok {L : Heap} {c r : Nat} {v : V} {bs : List Int} (h : Rd L c v bs) (hr : L.t.get r = some (boxB c)) : ACall Try.prog 114 [.ptr r 0] L (.int .u8 (hd0 bs)) (setRd L c (nextV v)) := by
  have hn := next_ok h
  have hhd := h.head
  have hw : IntKind.u8.wrap (hd0 bs) = hd0 bs := Go.IntWalk.u8_in _ (by omega)
  unfold boxB at hr
  refine ACall.of_body_same Try.func114 rfl ?_
  refine ACode.seq (ACode.regS noT_ok names_ok mix (t' := ?_) (L' := ?_) [0] (by rfl) ?_ ?_)
  rotate_left 2
  · refine sq rfl rfl rfl (by simp [go_sem, X, Try.f114]; rfl) ?_
    rfl
  refine ACode.seq (ACode.regS (oneT_okP hn) names_ok mix (t' := ?_) (L' := ?_) [0, 1, 2, 3, 4] (by rfl) ?_ ?_)
  rotate_left 2
  · iterate 5 (refine sq rfl rfl rfl (by simp [go_sem, X, hr, oneT_sameP, hw, pu3, Try.f114]; rfl) ?_)
    rfl
  exact ACode.ret ⟨.inr rfl, [.int .u8 (hd0 bs)], rfl, by simp [Try.f114, resVals, tget_set], rfl⟩

theorem listed_ok {L : Heap} {c r : Nat} {v : V} {bs : List Int} (h : Rd L c v bs) (hr : L.t.get r = some (boxB c)) (hrn : r < L.next) (hrc : r ≠ c) (k : Nat) (hk : k ≤ 1000) :
    ACall Try.prog 113 [.int .i64 (k : Int), .func 114 [] [.ptr r 0]] L (rowsVP (setRd L c (advV k v)) (takeZ k bs)) (rowsHP 1 u8c (setRd L c (advV k v)) (takeZ k bs)) := by
  refine ACall.of_body2 Try.func113 rfl ?_
  refine ACode.seq (ACode.regS noT_ok names_ok mix (t' := ?_) (L' := ?_) [0] (by rfl) ?_ ?_)
  rotate_left 2
  · refine sq rfl rfl rfl (by simp [go_sem, X, Try.f113]; rfl) ?_
    rfl
  refine ACode.seq ?_
  refine ACode.seq (ACode.regS noT_ok names_ok mix (t' := ?_) (L' := ?_) [0, 1] (by rfl) ?_ ?_)
  rotate_left 2
  · iterate 2 (refine sq rfl rfl rfl (by simp [go_sem, X, Try.f113]; rfl) ?_)
    rfl
  refine ACode.block (ACode.loop (fun t d A N => d = [] ∧ ∃ i, i ≤ k ∧ N = k - i ∧ tget t 1 = .func 114 [] [.ptr r 0] ∧ tget t 5 = .int .i64 (k : Int) ∧ tget t 6 = .int .i64 (i : Int) ∧
    Rd A c (advV i v) (bs.drop i) ∧ KX c L A ∧ OwnP 1 u8c L.next A (tget t 4) (takeZ i bs)) (N := k)
    ⟨rfl, 0, Nat.zero_le _, by omega, by simp [tget_set, argsT], by simp [tget_set], by simp [tget_set], by simpa [advV] using h, KX.refl c L, .inl ⟨by simp [tget_set], rfl⟩⟩ ?_)
  rintro t d A N ⟨rfl, i, hi, rfl, t1, t5, t6, hR, hK, hO⟩
  refine ACode.seq (ACode.regS noT_ok names_ok mix (t' := ?_) (L' := ?_) [0] (by rfl) ?_ ?_)
  rotate_left 2
  · refine sq rfl rfl rfl (by simp [go_sem, X, t5, t6, Try.f113]; rfl) ?_
    rfl
  refine ACode.seq (ACode.cond (p := (i : Int) < (k : Int)) (by simp [tget_set, opd]) (fun hil => ACode.skip ?_) (fun hge => ACode.exit ?_))
  rotate_left 1
  ·
    show ACode _ _ _ _ _ _ _
    obtain rfl : i = k := by omega
    refine ACode.seq (ACode.regS noT_ok names_ok mix (t' := ?_) (L' := ?_) [0, 1] (by rfl) ?_ ?_)
    rotate_left 2
    · iterate 2 (refine sq rfl rfl rfl (by simp [go_sem, X, Try.f113]; rfl) ?_)
      rfl
    obtain ⟨ms, hT, hV⟩ := end_rowsP (sz := 1) (f := u8c) (fun _ => rfl) h.lt (by rw [advV_low]; exact h.low) hR.cell hK.2 hO
    exact ACode.ret ⟨.inr rfl, _, [tget t 4], ms, rfl, by simp [Try.f113, resVals, tget_set], hT, hV⟩
  have hil' : i < k := by omega
  have hrA : A.t.get r = some (boxB c) := by rw [hK.2 r hrn hrc]; exact hr
  have hcall := textOne_ok hR hrA
  have hR1 := hR.next
  have hK1 := KX.setRd c A (nextV (advV i v))
  have hw6 : IntKind.i64.wrap ((i : Int) + 1) = (i : Int) + 1 := Go.IntWalk.i64_in _ (by omega)
  have hO1 := hO.keep (f := u8c) (show c < L.next from h.lt) hK1
  generalize hb : hd0 (bs.drop i) = b at *
  generalize hA1 : setRd A c (nextV (advV i v)) = A1 at *
  have hK2 := KX.new c A1 (.cells (T.set .leaf 0 [.int .u8 b]) 1 1 false false)
  have hR2 := hR1.new (.cells (T.set .leaf 0 [.int .u8 b]) 1 1 false false)
  have hO2 := hO1.keep (show c < L.next from h.lt) hK2
  have hsrc : srcElems ⟨A1.t.set A1.next (.cells (T.set .leaf 0 [.int .u8 b]) 1 1 false false), A1.next + 1⟩ 1 (.slice A1.next 0 1 1 false) = some ([b].map u8c) := by
    simp [srcElems, Heap.elems, Heap.elem, T.get_set, takeN, u8c]
  obtain ⟨v4, A3, ha, hO3, hn3, hk3, _⟩ := append_P (sz := 1) (f := u8c) (by decide) (fun _ => rfl) (fun _ => rfl) pt38 ps5 pb5 (by decide) pz5 rfl hO2 (by have := hK.1; have := hK1.1; simp only; omega) hsrc (by rw [takeZ_len]; simp; omega)
  rw [← hb, ← takeZ_succ] at hO3
  have hcne : nmP (tget t 4) ≠ some c := fun e => by have := (hO.nm_lt e).1; have := h.lt; omega
  have hK3 : KX c L A3 := by
    refine ⟨by have := hK.1; have := hK1.1; have := hn3; simp only at this; omega, fun n hn hc => ?_⟩
    have hlt : n < A.next := Nat.lt_of_lt_of_le hn hK.1
    rw [hk3 n (by have := hK1.1; simp only; omega) (fun e => by have := (hO.nm_lt e).1; omega), hK2.2 n (by have := hK1.1; omega) hc, hK1.2 n hlt hc, hK.2 n hn hc]
  have hR3 : Rd A3 c (advV (i + 1) v) (bs.drop (i + 1)) := by
    refine h.adv (i + 1) hK3 ?_
    rw [hk3 c hR2.lt hcne]; exact hR2.cell
  refine ACode.seq (ACode.block ?_)
  refine ACode.regS (oneT_okP hcall) names_ok mix (t' := ?_) (L' := ?_) [0, 1, 2, 3, 4, 5] (by rfl) ?_ ?_
  rotate_left 2
  · iterate 6 (refine sq rfl rfl rfl (by simp [go_sem, X, t1, ha, pi38, oneT_sameP, Try.f113]; rfl) ?_)
    rfl
  show ACode _ _ _ _ _ _ _
  refine ACode.regS noT_ok names_ok mix (t' := ?_) (L' := ?_) [0, 1] (by rfl) ?_ ?_
  rotate_left 2
  · iterate 2 (refine sq rfl rfl rfl (by simp [go_sem, X, t6, hw6, Try.f113]; rfl) ?_)
    rfl
  exact ⟨k - (i + 1), by omega, rfl, i + 1, by omega, rfl, by simp [tget_set, t1], by simp [tget_set, t5], by simp [tget_set], hR3, hK3, by simpa [tget_set] using hO3⟩
end Go.Proofs.Ytpfmoolpeecobaa
namespace Go.Proofs.Ytpfmoolpeecobaa
open Go Go.Proofs Go.Proofs.Ytpfmoolpeecobaa.Ev
set_option linter.unusedVariables false
set_option linter.unusedSimpArgs false
set_option maxRecDepth 100000
set_option maxHeartbeats 4000000

mutual
theorem plain_low (nx : Nat) : ∀ (v : V), v.plain = true → v.low nx = true
  | .bool b, h => rfl
  | .int k n, h => rfl
  | .str l, h => rfl
  | .nilp, h => rfl
  | .nils, h => rfl
  | .nilm, h => rfl
  | .nilf, h => rfl
  | .nili, h => rfl
  | .agg cs, h => by simp only [V.low]; exact plains_low nx cs (by simpa [V.plain] using h)
  | .tuple cs, h => by simp only [V.low]; exact plains_low nx cs (by simpa [V.plain] using h)
  | .ptr n o, h => by simp [V.plain] at h
  | .slice n o l c q, h => by simp [V.plain] at h
  | .map n, h => by simp [V.plain] at h
  | .func f a b, h => by simp [V.plain] at h
  | .yield n, h => by simp [V.plain] at h
  | .iface t v, h => by simp [V.plain] at h
theorem plains_low (nx : Nat) : ∀ (l : List V), V.plains l = true → V.lows nx l = true
  | [], h => rfl
  | v :: vs, h => by
    simp only [V.plains, Bool.and_eq_true] at h
    simp only [V.lows, Bool.and_eq_true]
    exact ⟨plain_low nx v h.1, plains_low nx vs h.2⟩
end
/-- the block of an event -/
noncomputable def evB (cs : List V) : Blk := .cells (T.set .leaf 0 cs) 1 9 false false
noncomputable def setRE (L : Heap) (c : Nat) (v : V) (e : Nat) (cs : List V) : Heap := ⟨(L.t.set c (rcell v)).set e (evB cs), L.next⟩
theorem evB_low {nx : Nat} {cs : List V} (h : V.lows nx cs = true) : (evB cs).low nx :=
  ⟨rfl, fun e l hl => by
    rw [T.get_set] at hl
    split at hl
    · injection hl with hl; subst hl; exact h
    · simp [T.get_leaf] at hl⟩
theorem tidyRE {L L1 : Heap} {c e : Nat} {v : V} {cs : List V} (hc : c < L.next) (he : e < L.next) (hne : e ≠ c) (hv : v.low L.next = true) (hcs : V.lows L.next cs = true) (h1 : L1.t.get c = some (rcell v)) (h2 : L1.t.get e = some (evB cs)) (hk : ∀ n, n < L.next → n ≠ c → n ≠ e → L1.t.get n = L.t.get n) : Tidy2 L L1 (setRE L c v e cs) [] := by
  refine Tidy2.zero (T0 := (L.t.set c (rcell v)).set e (evB cs)) ?_ ?_ ?_
  · intro n hn
    rw [T.get_set]
    split
    · rename_i h; subst h; exact h2.symm
    · rename_i h
      rw [T.get_set]
      split
      · rename_i h; subst h; exact h1.symm
      · rename_i h'; exact (hk n hn h' h).symm
  · intro n b hn hb
    by_cases h : n = c
    · subst h; rw [h1] at hb; injection hb with hb; subst hb; exact .inr (rcell_low hv)
    · by_cases h' : n = e
      · subst h'; rw [h2] at hb; injection hb with hb; subst hb; exact .inr (evB_low hcs)
      · rw [hk n hn h h'] at hb; exact .inl hb
  · intro n hn
    rw [T.get_set_ne _ _ (by omega)]; exact T.get_set_ne _ _ (by omega)
theorem rowsHP_keep {α : Type} (c : Nat) (sz : Nat) (f : α → List V) (L : Heap) (l : List α) : KX c L (rowsHP sz f L l) := by
  match l with
  | [] => exact KX.refl c L
  | x :: r => exact KX.new c L _
theorem rowsHP_at {α : Type} {c : Nat} (sz : Nat) (f : α → List V) {L : Heap} (hc : c < L.next) (l : List α) : (rowsHP sz f L l).t.get c = L.t.get c := by
  match l with
  | [] => rfl
  | x :: r => exact T.get_set_ne _ _ (by omega)
theorem rowsVP_own {α : Type} (sz : Nat) (f : α → List V) (L : Heap) (l : List α) : OwnP sz f L.next (rowsHP sz f L l) (rowsVP L l) l := by
  match l with
  | [] => exact .inl ⟨rfl, rfl⟩
  | x :: r => exact .inr ⟨by simp, L.next, rfl, Nat.le_refl _, Nat.lt_succ_self _, T.get_set_same _ _ _⟩
theorem bytes_ofP (l : List Int) (h : ∀ b ∈ l, 0 ≤ b ∧ b ≤ 255) : bytesOf (l.map u8c) = some (l.map Int.toNat) := by
  induction l with
  | nil => rfl
  | cons x l ih =>
    have hx := h x (List.mem_cons_self ..)
    have ih := ih fun b hb => h b (List.mem_cons_of_mem _ hb)
    simp only [List.map_cons, u8c, bytesOf] at ih ⊢
    rw [ih]
    have : (UInt8.ofNat x.toNat).toNat = x.toNat := by simp; omega
    rw [this]
    rfl
theorem conv_rows {L : Heap} {v : V} {lo : Nat} {l : List Int} (h : OwnP 1 u8c lo L v l) (hr : ∀ b ∈ l, 0 ≤ b ∧ b ≤ 255) : convQ Try.prog 38 9 v L = some (.str (l.map Int.toNat)) := by
  rcases h with ⟨rfl, rfl⟩ | ⟨hne, m, rfl, h1, h2, h3⟩
  · simp [convQ, pt38, pstr9, guardO, Try.underlying5]
  · have he := elems_rowP (sz := 1) (f := u8c) (by decide) (fun _ => rfl) h3 l.length 0 (by simp)
    rw [List.drop_zero, Nat.zero_mul] at he
    simp [convQ, pt38, pstr9, guardO, Try.underlying5, he, bytes_ofP l hr]
/-- so many bytes of a text -/
def tlen (bs : List Int) : Nat := (hd0 bs % 64).toNat
def textP (bs : List Int) : List Nat := (takeZ (tlen bs) bs.tail).map Int.toNat
theorem setRE_at {L : Heap} {c e : Nat} {v : V} {cs : List V} (hne : e ≠ c) : (setRE L c v e cs).t.get c = some (rcell v) ∧ (setRE L c v e cs).t.get e = some (evB cs) := by
  refine ⟨?_, T.get_set_same _ _ _⟩
  show T.get (T.set _ _ _) _ = _
  rw [T.get_set_ne _ _ (fun h => hne h.symm)]
  exact T.get_set_same _ _ _

theorem text_ok {L : Heap} {c e : Nat} {v : V} {bs : List Int} (h : Rd L c v bs) {k s b lv r1 r2 r3 r4 wh : V} (he : L.t.get e = some (evB [k, s, b, lv, r1, r2, r3, r4, wh])) (hel : e < L.next) (hce : c < e)
    (hp : V.plains [k, s, b, lv, r1, r2, r3, r4, wh] = true) :
    ACall Try.prog 96 [rdV c, .ptr e 0] L (.tuple []) (setRE L c (advV (1 + tlen bs) v) e [k, s, .str (textP bs), lv, r1, r2, r3, r4, wh]) := by
  have hec : e ≠ c := by omega
  have hk1 := KX.new c L (boxB c)
  have hr := h.new (boxB c)
  have hbx : (T.set L.t L.next (boxB c)).get L.next = some (boxB c) := T.get_set_same _ _ _
  have hhd := h.head
  refine ACall.of_body2 Try.func96 rfl ?_
  unfold rdV
  refine ACode.seq (ACode.regS noT_ok names_ok mix (t' := ?_) (L' := ?_) [0] (by rfl) ?_ ?_)
  rotate_left 2
  · refine sq rfl rfl rfl (by simp [go_sem, X, Try.f96]; rfl) ?_
    rfl
  change ACode _ _ _ _ _ ⟨L.t.set L.next (boxB c), L.next + 1⟩ _
  generalize hA : (⟨L.t.set L.next (boxB c), L.next + 1⟩ : Heap) = A at *
  have e1 : L.t.set L.next (boxB c) = A.t := by rw [← hA]
  have e2 : L.next + 1 = A.next := by rw [← hA]
  rw [e1] at hbx
  have c1 := below_ok hr 64 (by decide)
  have hR1 := hr.next
  have hk2 := KX.setRd c A (nextV v)
  have hbx1 : (setRd A c (nextV v)).t.get L.next = some (boxB c) := by rw [hk2.2 _ (by omega) (by have := h.lt; omega)]; exact hbx
  have htl : hd0 bs % 64 = ((tlen bs : Nat) : Int) := by unfold tlen; omega
  have htl64 : tlen bs < 64 := by unfold tlen; omega
  have c2 := listed_ok hR1 hbx1 (by show L.next < A.next; omega) (by have := h.lt; omega) (tlen bs) (by omega)
  rw [htl] at c1
  have hrow := rowsVP_own 1 u8c (setRd (setRd A c (nextV v)) c (advV (tlen bs) (nextV v))) (takeZ (tlen bs) bs.tail)
  have hconv := conv_rows hrow (takeZ_range (fun x hx => h.range x (List.mem_of_mem_tail hx)) _)
  have hKall : KX c L (rowsHP 1 u8c (setRd (setRd A c (nextV v)) c (advV (tlen bs) (nextV v))) (takeZ (tlen bs) bs.tail)) := hk1.trans (hk2.trans ((KX.setRd c _ _).trans (rowsHP_keep c 1 u8c _ _)))
  have hcell : (rowsHP 1 u8c (setRd (setRd A c (nextV v)) c (advV (tlen bs) (nextV v))) (takeZ (tlen bs) bs.tail)).t.get c = some (rcell (advV (1 + tlen bs) v)) := by
    rw [rowsHP_at (c := c) (L := setRd (setRd A c (nextV v)) c (advV (tlen bs) (nextV v))) 1 u8c (show c < A.next by have := h.lt; omega)]
    have : advV (tlen bs) (nextV v) = advV (1 + tlen bs) v := advV_add 1 v _
    rw [this]
    exact T.get_set_same _ _ _
  change convQ _ _ _ _ _ = some (.str (textP bs)) at hconv
  generalize rowsVP (setRd (setRd A c (nextV v)) c (advV (tlen bs) (nextV v))) (takeZ (tlen bs) bs.tail) = vr at *
  generalize rowsHP 1 u8c (setRd (setRd A c (nextV v)) c (advV (tlen bs) (nextV v))) (takeZ (tlen bs) bs.tail) = A2 at *
  have he2 : A2.t.get e = some (evB [k, s, b, lv, r1, r2, r3, r4, wh]) := by rw [hKall.2 e hel hec]; exact he
  have hbx' := hbx
  unfold boxB at hbx'
  unfold evB at he2
  unfold rdV at c1
  refine ACode.regS ((oneT_okP c1).or (oneT_okP c2)) names_ok mix (t' := ?_) (L' := ?_) [0, 1, 2, 3, 4, 5, 6, 7, 8] (by rfl) ?_ ?_
  rotate_left 2
  · iterate 9 (refine sq rfl rfl rfl (by simp [go_sem, xl, xs, xe, xa, xi, xo, xb, xq, xc, xk, hbx', orT, oneT_sameP, oneT_neP, hconv, he2, Try.f96]; rfl) ?_)
    rfl
  refine ⟨.inl rfl, ⟨A2.t.set e (evB [k, s, .str (textP bs), lv, r1, r2, r3, r4, wh]), A2.next⟩, [], [], rfl, by simp [Try.f96, resVals], ?_, fun κ1 z hz => VR_plain (κ := κ1) _ _ rfl hz⟩
  refine tidyRE h.lt hel hec (by rw [advV_low]; exact h.low) ?_ ?_ (T.get_set_same _ _ _) ?_
  · refine plains_low _ _ ?_
    simp only [V.plains, Bool.and_eq_true] at hp ⊢
    simp only [hp, V.plain, and_self]
  · show T.get (T.set _ _ _) _ = _
    rw [T.get_set_ne _ _ (fun h => hec h.symm)]; exact hcell
  · intro n hn hc hne
    show T.get (T.set _ _ _) _ = _
    rw [T.get_set_ne _ _ hne]; exact hKall.2 n hn hc
end Go.Proofs.Ytpfmoolpeecobaa
namespace Go.Proofs.Ytpfmoolpeecobaa
open Go Go.Proofs Go.Proofs.Ytpfmoolpeecobaa.Ev
set_option linter.unusedVariables false
set_option linter.unusedSimpArgs false
set_option maxRecDepth 100000
set_option maxHeartbeats 4000000

theorem arg16 {x : V} : ([x, V.int .i64 48] : List V) ≠ [x, V.int .i64 16] := by simp
theorem KX.store {e : Nat} {L : Heap} {b : Blk} : KX e L ⟨L.t.set e b, L.next⟩ := ⟨Nat.le_refl _, fun n _ hn => T.get_set_ne _ _ hn⟩
theorem size_ok {L : Heap} {c e : Nat} {v : V} {bs : List Int} (h : Rd L c v bs) {k s b lv r1 r2 r3 r4 wh : V} (he : L.t.get e = some (evB [k, s, b, lv, r1, r2, r3, r4, wh])) (hel : e < L.next) (hce : c < e)
    (hp : V.plains [k, s, b, lv, r1, r2, r3, r4, wh] = true) :
    ACall Try.prog 99 [rdV c, .ptr e 0] L (.tuple []) (setRE L c (advV 2 v) e [k, s, b, lv, r1, r2, .int .i64 (hd0 bs % 16), .int .i64 (hd0 bs.tail % 48), wh]) := by
  have hec : e ≠ c := by omega
  have hk1 := KX.new c L (boxB c)
  have hr := h.new (boxB c)
  have hbx : (T.set L.t L.next (boxB c)).get L.next = some (boxB c) := T.get_set_same _ _ _
  refine ACall.of_body2 Try.func99 rfl ?_
  unfold rdV
  refine ACode.seq (ACode.regS noT_ok names_ok mix (t' := ?_) (L' := ?_) [0] (by rfl) ?_ ?_)
  rotate_left 2
  · refine sq rfl rfl rfl (by simp [go_sem, X, Try.f99]; rfl) ?_
    rfl
  change ACode _ _ _ _ _ ⟨L.t.set L.next (boxB c), L.next + 1⟩ _
  generalize hA : (⟨L.t.set L.next (boxB c), L.next + 1⟩ : Heap) = A at *
  have e1 : L.t.set L.next (boxB c) = A.t := by rw [← hA]
  have e2 : L.next + 1 = A.next := by rw [← hA]
  rw [e1] at hbx
  have c1 := below_ok hr 16 (by decide)
  have hR1 := hr.next
  have hk2 := KX.setRd c A (nextV v)
  have hbx1 : (setRd A c (nextV v)).t.get L.next = some (boxB c) := by rw [hk2.2 _ (by omega) (by have := h.lt; omega)]; exact hbx
  have c2 := below_ok hR1 48 (by decide)
  have hR2 := hR1.next
  have hKall : KX c L (setRd (setRd A c (nextV v)) c (nextV (nextV v))) := hk1.trans (hk2.trans (KX.setRd c _ _))
  generalize setRd (setRd A c (nextV v)) c (nextV (nextV v)) = A2 at *
  generalize setRd A c (nextV v) = A1 at *
  have he2 : A2.t.get e = some (evB [k, s, b, lv, r1, r2, r3, r4, wh]) := by rw [hKall.2 e hel hec]; exact he
  unfold boxB at hbx hbx1
  unfold evB at he2
  unfold rdV at c1 c2
  have hneA : A1 ≠ A ∨ True := .inr trivial
  refine ACode.regD ((oneT_okP c1).or (oneT_okP c2)) names_ok mix (t' := ?_) (L' := ?_) [0,0,0,4,0,28,61,125,253,509,1023,2047,4095,8191] [0,1,2,4,3,5,6,7,8,9,10,11,12,13] (by decide +kernel) (by decide +kernel) (by decide +kernel) ?_ ?_
  rotate_left 2
  · iterate 2 (refine dq rfl rfl rfl rfl (by simp [go_sem, X, hbx, hbx1, orT, oneT_sameP, oneT_neAP arg16, he2, Try.f99]; rfl) ?_)
    iterate 2 (refine dr rfl rfl rfl rfl (by simp [go_sem, X, hbx, hbx1, orT, oneT_sameP, oneT_neAP arg16, he2, Try.f99]; rfl) ?_)
    iterate 2 (refine dl rfl rfl rfl rfl (by simp [go_sem, X, hbx, hbx1, orT, oneT_sameP, oneT_neAP arg16, he2, Try.f99]; rfl) (by rfl) (by simp [go_sem, X, hbx, hbx1, orT, oneT_sameP, oneT_neAP arg16, he2, Try.f99]) ?_)
    iterate 3 (refine dq rfl rfl rfl rfl (by simp [go_sem, X, hbx, hbx1, orT, oneT_sameP, oneT_neAP arg16, he2, Try.f99]; rfl) ?_)
    refine dl rfl rfl rfl rfl (by simp [go_sem, X, hbx, hbx1, orT, oneT_sameP, oneT_neAP arg16, he2, Try.f99]; rfl) (by rfl) (by simp [go_sem, X, hbx, hbx1, orT, oneT_sameP, oneT_neAP arg16, he2, Try.f99]) ?_
    iterate 3 (refine dq rfl rfl rfl rfl (by simp [go_sem, X, hbx, hbx1, orT, oneT_sameP, oneT_neAP arg16, he2, Try.f99]; rfl) ?_)
    refine dl rfl rfl rfl rfl (by simp [go_sem, X, hbx, hbx1, orT, oneT_sameP, oneT_neAP arg16, he2, Try.f99]; rfl) (by rfl) (by simp [go_sem, X, hbx, hbx1, orT, oneT_sameP, oneT_neAP arg16, he2, Try.f99]) ?_
    rfl
  refine ⟨.inl rfl, ⟨A2.t.set e (evB [k, s, b, lv, r1, r2, .int .i64 (hd0 bs % 16), .int .i64 (hd0 bs.tail % 48), wh]), A2.next⟩, [], [], rfl, by simp [Try.f99, resVals], ?_, fun κ1 z hz => VR_plain (κ := κ1) _ _ rfl hz⟩
  refine tidyRE h.lt hel hec (by rw [advV_low]; exact h.low) ?_ ?_ (T.get_set_same _ _ _) ?_
  · refine plains_low _ _ ?_
    simp only [V.plains, Bool.and_eq_true] at hp ⊢
    simp only [hp, V.plain, and_self]
  · show T.get (T.set _ _ _) _ = _
    rw [T.get_set_ne _ _ (fun h => hec h.symm)]; exact hR2.cell
  · intro n hn hc hne
    show T.get (T.set _ _ _) _ = _
    rw [T.get_set_ne _ _ hne]; exact hKall.2 n hn hc
theorem move_ok {L : Heap} {c e : Nat} {v : V} {bs : List Int} (h : Rd L c v bs) {k s b lv r1 r2 r3 r4 wh : V} (he : L.t.get e = some (evB [k, s, b, lv, r1, r2, r3, r4, wh])) (hel : e < L.next) (hce : c < e)
    (hp : V.plains [k, s, b, lv, r1, r2, r3, r4, wh] = true) :
    ACall Try.prog 98 [rdV c, .ptr e 0] L (.tuple []) (setRE L c (advV 4 v) e [k, s, b, lv, .int .i64 (hd0 bs % 16), .int .i64 (hd0 bs.tail % 48), .int .i64 (hd0 (bs.drop 2) % 16), .int .i64 (hd0 (bs.drop 3) % 48), wh]) := by
  have hec : e ≠ c := by omega
  have hk1 := KX.new c L (boxB c)
  have hr := h.new (boxB c)
  have hbx : (T.set L.t L.next (boxB c)).get L.next = some (boxB c) := T.get_set_same _ _ _
  refine ACall.of_body2 Try.func98 rfl ?_
  unfold rdV
  refine ACode.seq (ACode.regS noT_ok names_ok mix (t' := ?_) (L' := ?_) [0] (by rfl) ?_ ?_)
  rotate_left 2
  · refine sq rfl rfl rfl (by simp [go_sem, X, Try.f98]; rfl) ?_
    rfl
  change ACode _ _ _ _ _ ⟨L.t.set L.next (boxB c), L.next + 1⟩ _
  generalize hA : (⟨L.t.set L.next (boxB c), L.next + 1⟩ : Heap) = A at *
  have e1 : L.t.set L.next (boxB c) = A.t := by rw [← hA]
  have e2 : L.next + 1 = A.next := by rw [← hA]
  rw [e1] at hbx
  have c1 := below_ok hr 16 (by decide)
  have hR1 := hr.next
  have hk2 := KX.setRd c A (nextV v)
  have hbx1 : (setRd A c (nextV v)).t.get L.next = some (boxB c) := by rw [hk2.2 _ (by omega) (by have := h.lt; omega)]; exact hbx
  have c2 := below_ok hR1 48 (by decide)
  have hR2 := hR1.next
  have hKall : KX c L (setRd (setRd A c (nextV v)) c (nextV (nextV v))) := hk1.trans (hk2.trans (KX.setRd c _ _))
  have hbx2 : (setRd (setRd A c (nextV v)) c (nextV (nextV v))).t.get L.next = some (boxB c) := by rw [(KX.setRd c (setRd A c (nextV v)) (nextV (nextV v))).2 _ (by show L.next < A.next; omega) (by have := h.lt; omega)]; exact hbx1
  have hn2 : A.next ≤ (setRd (setRd A c (nextV v)) c (nextV (nextV v))).next := Nat.le_refl _
  generalize setRd (setRd A c (nextV v)) c (nextV (nextV v)) = A2 at *
  generalize setRd A c (nextV v) = A1 at *
  have he2 : A2.t.get e = some (evB [k, s, b, lv, r1, r2, r3, r4, wh]) := by rw [hKall.2 e hel hec]; exact he
  have hneA : A1 ≠ A ∨ True := .inr trivial
  have hlne : L.next ≠ e := by omega
  have hkA3 : KX e A2 ⟨A2.t.set e (evB [k, s, b, lv, .int .i64 (hd0 bs % 16), .int .i64 (hd0 bs.tail % 48), r3, r4, wh]), A2.next⟩ := KX.store
  have he3 : (T.set A2.t e (evB [k, s, b, lv, .int .i64 (hd0 bs % 16), .int .i64 (hd0 bs.tail % 48), r3, r4, wh])).get e = some (evB [k, s, b, lv, .int .i64 (hd0 bs % 16), .int .i64 (hd0 bs.tail % 48), r3, r4, wh]) := T.get_set_same _ _ _
  have hcell3 : (T.set A2.t e (evB [k, s, b, lv, .int .i64 (hd0 bs % 16), .int .i64 (hd0 bs.tail % 48), r3, r4, wh])).get c = some (rcell (nextV (nextV v))) := by rw [T.get_set_ne _ _ (fun h => hec h.symm)]; exact hR2.cell
  have hbx3 : (T.set A2.t e (evB [k, s, b, lv, .int .i64 (hd0 bs % 16), .int .i64 (hd0 bs.tail % 48), r3, r4, wh])).get L.next = some (boxB c) := by rw [T.get_set_ne _ _ hlne]; exact hbx2
  have he2' := he2
  unfold boxB at hbx hbx1 hbx3
  unfold evB at he2'
  unfold rdV at c1 c2
  refine ACode.seq (ACode.regD ((oneT_okP c1).or (oneT_okP c2)) names_ok mix (t' := ?_) (L' := ?_) [0,0,0,4,0,28,61,125,253,509,1023,2047,4095,8191] [0,1,2,4,3,5,6,7,8,9,10,11,12,13] (by decide +kernel) (by decide +kernel) (by decide +kernel) ?_ ?_)
  rotate_left 2
  · iterate 2 (refine dq rfl rfl rfl rfl (by simp [go_sem, X, hbx, hbx1, orT, oneT_sameP, oneT_neAP arg16, he2', Try.f98]; rfl) ?_)
    iterate 2 (refine dr rfl rfl rfl rfl (by simp [go_sem, X, hbx, hbx1, orT, oneT_sameP, oneT_neAP arg16, he2', Try.f98]; rfl) ?_)
    iterate 2 (refine dl rfl rfl rfl rfl (by simp [go_sem, X, hbx, hbx1, orT, oneT_sameP, oneT_neAP arg16, he2', Try.f98]; rfl) (by rfl) (by simp [go_sem, X, hbx, hbx1, orT, oneT_sameP, oneT_neAP arg16, he2', Try.f98]) ?_)
    iterate 3 (refine dq rfl rfl rfl rfl (by simp [go_sem, X, hbx, hbx1, orT, oneT_sameP, oneT_neAP arg16, he2', Try.f98]; rfl) ?_)
    refine dl rfl rfl rfl rfl (by simp [go_sem, X, hbx, hbx1, orT, oneT_sameP, oneT_neAP arg16, he2', Try.f98]; rfl) (by rfl) (by simp [go_sem, X, hbx, hbx1, orT, oneT_sameP, oneT_neAP arg16, he2', Try.f98]) ?_
    iterate 3 (refine dq rfl rfl rfl rfl (by simp [go_sem, X, hbx, hbx1, orT, oneT_sameP, oneT_neAP arg16, he2', Try.f98]; rfl) ?_)
    refine dl rfl rfl rfl rfl (by simp [go_sem, X, hbx, hbx1, orT, oneT_sameP, oneT_neAP arg16, he2', Try.f98]; rfl) (by rfl) (by simp [go_sem, X, hbx, hbx1, orT, oneT_sameP, oneT_neAP arg16, he2', Try.f98]) ?_
    rfl
  change ACode _ _ _ _ _ ⟨A2.t.set e (evB [k, s, b, lv, .int .i64 (hd0 bs % 16), .int .i64 (hd0 bs.tail % 48), r3, r4, wh]), A2.next⟩ _
  have hR3 : Rd ⟨A2.t.set e (evB [k, s, b, lv, .int .i64 (hd0 bs % 16), .int .i64 (hd0 bs.tail % 48), r3, r4, wh]), A2.next⟩ c (nextV (nextV v)) bs.tail.tail := by
    exact ⟨hcell3, hR2.lt, hR2.row.still (Nat.le_refl _) (fun n hn _ => T.get_set_ne _ _ (by omega)), hR2.range⟩
  have hn3 : A2.next ≤ (⟨A2.t.set e (evB [k, s, b, lv, .int .i64 (hd0 bs % 16), .int .i64 (hd0 bs.tail % 48), r3, r4, wh]), A2.next⟩ : Heap).next := Nat.le_refl _
  have c3 := size_ok hR3 he3 (by have := hKall.1; show e < A2.next; omega) hce (by simp only [V.plains, Bool.and_eq_true] at hp ⊢; simp only [hp, V.plain, and_self])
  have hk3 : ∀ n, n < L.next → n ≠ c → n ≠ e → (T.set A2.t e (evB [k, s, b, lv, .int .i64 (hd0 bs % 16), .int .i64 (hd0 bs.tail % 48), r3, r4, wh])).get n = L.t.get n := fun n hn hc hne => by rw [T.get_set_ne _ _ hne]; exact hKall.2 n hn hc
  have hbs2 : bs.tail.tail = bs.drop 2 := by match bs with | [] => rfl | [_] => rfl | _ :: _ :: _ => rfl
  have hbs3 : (bs.drop 2).tail = bs.drop 3 := by rw [List.tail_drop]
  rw [hbs2, hbs3] at c3
  have hadv : advV 2 (nextV (nextV v)) = advV 4 v := rfl
  rw [hadv] at c3
  generalize hA3 : (⟨A2.t.set e (evB [k, s, b, lv, .int .i64 (hd0 bs % 16), .int .i64 (hd0 bs.tail % 48), r3, r4, wh]), A2.next⟩ : Heap) = A3 at *
  have e3 : A2.t.set e (evB [k, s, b, lv, .int .i64 (hd0 bs % 16), .int .i64 (hd0 bs.tail % 48), r3, r4, wh]) = A3.t := by rw [← hA3]
  rw [e3] at hbx3 hk3
  unfold rdV at c3
  refine ACode.regS (oneT_okP c3) names_ok mix (t' := ?_) (L' := ?_) [0, 1, 2] (by rfl) ?_ ?_
  rotate_left 2
  · iterate 3 (refine sq rfl rfl rfl (by simp [go_sem, X, hbx3, oneT_sameP, Try.f98]; rfl) ?_)
    rfl
  have hat := setRE_at (L := A3) (v := advV 4 v) (cs := [k, s, b, lv, .int .i64 (hd0 bs % 16), .int .i64 (hd0 bs.tail % 48), .int .i64 (hd0 (bs.drop 2) % 16), .int .i64 (hd0 (bs.drop 3) % 48), wh]) hec
  refine ⟨.inl rfl, setRE A3 c (advV 4 v) e [k, s, b, lv, .int .i64 (hd0 bs % 16), .int .i64 (hd0 bs.tail % 48), .int .i64 (hd0 (bs.drop 2) % 16), .int .i64 (hd0 (bs.drop 3) % 48), wh], [], [], rfl, by simp [Try.f98, resVals], ?_, fun κ1 z hz => VR_plain (κ := κ1) _ _ rfl hz⟩
  refine tidyRE h.lt hel hec (by rw [advV_low]; exact h.low) ?_ hat.1 hat.2 ?_
  · refine plains_low _ _ ?_
    simp only [V.plains, Bool.and_eq_true] at hp ⊢
    simp only [hp, V.plain, and_self]
  · intro n hn hc hne
    show T.get (T.set (T.set _ _ _) _ _) _ = _
    rw [T.get_set_ne _ _ hne, T.get_set_ne _ _ hc]; exact hk3 n hn hc hne
theorem what_ok {L : Heap} {c e : Nat} {v : V} {bs : List Int} (h : Rd L c v bs) {k s b lv r1 r2 r3 r4 wh : V} (he : L.t.get e = some (evB [k, s, b, lv, r1, r2, r3, r4, wh])) (hel : e < L.next) (hce : c < e)
    (hp : V.plains [k, s, b, lv, r1, r2, r3, r4, wh] = true) :
    ACall Try.prog 100 [rdV c, .ptr e 0] L (.tuple []) (setRE L c (advV 1 v) e [k, s, b, lv, r1, r2, r3, r4, .int .i64 (hd0 bs % 8)]) := by
  have hec : e ≠ c := by omega
  have hk1 := KX.new c L (boxB c)
  have hr := h.new (boxB c)
  have hhd := h.head
  have hbx : (T.set L.t L.next (boxB c)).get L.next = some (boxB c) := T.get_set_same _ _ _
  refine ACall.of_body2 Try.func100 rfl ?_
  unfold rdV
  refine ACode.seq (ACode.regS noT_ok names_ok mix (t' := ?_) (L' := ?_) [0] (by rfl) ?_ ?_)
  rotate_left 2
  · refine sq rfl rfl rfl (by simp [go_sem, X, Try.f100]; rfl) ?_
    rfl
  change ACode _ _ _ _ _ ⟨L.t.set L.next (boxB c), L.next + 1⟩ _
  generalize hA : (⟨L.t.set L.next (boxB c), L.next + 1⟩ : Heap) = A at *
  have e1 : L.t.set L.next (boxB c) = A.t := by rw [← hA]
  have e2 : L.next + 1 = A.next := by rw [← hA]
  rw [e1] at hbx
  have c1 := below_ok hr 8 (by decide)
  have hR1 := hr.next
  have hk2 := KX.setRd c A (nextV v)
  have hbx1 : (setRd A c (nextV v)).t.get L.next = some (boxB c) := by rw [hk2.2 _ (by omega) (by have := h.lt; omega)]; exact hbx
  have hKall : KX c L (setRd A c (nextV v)) := hk1.trans hk2
  have hA1n : A.next ≤ (setRd A c (nextV v)).next := Nat.le_refl _
  generalize setRd A c (nextV v) = A2 at *
  have he2 : A2.t.get e = some (evB [k, s, b, lv, r1, r2, r3, r4, wh]) := by rw [hKall.2 e hel hec]; exact he
  unfold boxB at hbx hbx1
  unfold evB at he2
  unfold rdV at c1
  refine ACode.regS (oneT_okP c1) names_ok mix (t' := ?_) (L' := ?_) [0, 1, 2, 3, 4, 5] (by rfl) ?_ ?_
  rotate_left 2
  · iterate 6 (refine sq rfl rfl rfl (by simp [go_sem, X, hbx, oneT_sameP, he2, Try.f100]; rfl) ?_)
    rfl
  refine ⟨.inl rfl, ⟨A2.t.set e (evB [k, s, b, lv, r1, r2, r3, r4, .int .i64 (hd0 bs % 8)]), A2.next⟩, [], [], rfl, by simp [Try.f100, resVals], ?_, fun κ1 z hz => VR_plain (κ := κ1) _ _ rfl hz⟩
  refine tidyRE h.lt hel hec (by rw [advV_low]; exact h.low) ?_ ?_ (T.get_set_same _ _ _) ?_
  · refine plains_low _ _ ?_
    simp only [V.plains, Bool.and_eq_true] at hp ⊢
    simp only [hp, V.plain, and_self]
  · show T.get (T.set _ _ _) _ = _
    rw [T.get_set_ne _ _ (fun h => hec h.symm)]; exact hR1.cell
  · intro n hn hc hne
    show T.get (T.set _ _ _) _ = _
    rw [T.get_set_ne _ _ hne]; exact hKall.2 n hn hc
theorem paste_ok {L : Heap} {c e : Nat} {v : V} {bs : List Int} (h : Rd L c v bs) {k s b lv r1 r2 r3 r4 wh : V} (he : L.t.get e = some (evB [k, s, b, lv, r1, r2, r3, r4, wh])) (hel : e < L.next) (hce : c < e)
    (hp : V.plains [k, s, b, lv, r1, r2, r3, r4, wh] = true) :
    ACall Try.prog 97 [rdV c, .ptr e 0] L (.tuple []) (setRE L c (advV (2 + tlen bs.tail) v) e [k, s, .str (textP bs.tail), .int .u8 (hd0 bs % 3), r1, r2, r3, r4, wh]) := by
  have hec : e ≠ c := by omega
  have hk1 := KX.new c L (boxB c)
  have hr := h.new (boxB c)
  have hhd := h.head
  have hbx : (T.set L.t L.next (boxB c)).get L.next = some (boxB c) := T.get_set_same _ _ _
  refine ACall.of_body2 Try.func97 rfl ?_
  unfold rdV
  refine ACode.seq (ACode.regS noT_ok names_ok mix (t' := ?_) (L' := ?_) [0] (by rfl) ?_ ?_)
  rotate_left 2
  · refine sq rfl rfl rfl (by simp [go_sem, X, Try.f97]; rfl) ?_
    rfl
  change ACode _ _ _ _ _ ⟨L.t.set L.next (boxB c), L.next + 1⟩ _
  generalize hA : (⟨L.t.set L.next (boxB c), L.next + 1⟩ : Heap) = A at *
  have e1 : L.t.set L.next (boxB c) = A.t := by rw [← hA]
  have e2 : L.next + 1 = A.next := by rw [← hA]
  rw [e1] at hbx
  have c1 := below_ok hr 3 (by decide)
  have hR1 := hr.next
  have hk2 := KX.setRd c A (nextV v)
  have hbx1 : (setRd A c (nextV v)).t.get L.next = some (boxB c) := by rw [hk2.2 _ (by omega) (by have := h.lt; omega)]; exact hbx
  have hKall : KX c L (setRd A c (nextV v)) := hk1.trans hk2
  have hA1n : A.next ≤ (setRd A c (nextV v)).next := Nat.le_refl _
  generalize setRd A c (nextV v) = A2 at *
  have he2 : A2.t.get e = some (evB [k, s, b, lv, r1, r2, r3, r4, wh]) := by rw [hKall.2 e hel hec]; exact he
  have hw : IntKind.u8.wrap (hd0 bs % 3) = hd0 bs % 3 := Go.IntWalk.u8_in _ (by omega)
  have hlne : L.next ≠ e := by omega
  have he3 : (T.set A2.t e (evB [k, s, b, .int .u8 (hd0 bs % 3), r1, r2, r3, r4, wh])).get e = some (evB [k, s, b, .int .u8 (hd0 bs % 3), r1, r2, r3, r4, wh]) := T.get_set_same _ _ _
  have hcell3 : (T.set A2.t e (evB [k, s, b, .int .u8 (hd0 bs % 3), r1, r2, r3, r4, wh])).get c = some (rcell (nextV v)) := by rw [T.get_set_ne _ _ (fun h => hec h.symm)]; exact hR1.cell
  have hbx3 : (T.set A2.t e (evB [k, s, b, .int .u8 (hd0 bs % 3), r1, r2, r3, r4, wh])).get L.next = some (boxB c) := by rw [T.get_set_ne _ _ hlne]; exact hbx1
  have he2' := he2
  unfold boxB at hbx hbx1 hbx3
  unfold evB at he2'
  unfold rdV at c1
  refine ACode.seq (ACode.regS (oneT_okP c1) names_ok mix (t' := ?_) (L' := ?_) [0, 1, 2, 3, 4, 5, 6] (by rfl) ?_ ?_)
  rotate_left 2
  · iterate 7 (refine sq rfl rfl rfl (by simp [go_sem, X, hbx, oneT_sameP, hw, he2', pu3, Try.f97]; rfl) ?_)
    rfl
  change ACode _ _ _ _ _ ⟨A2.t.set e (evB [k, s, b, .int .u8 (hd0 bs % 3), r1, r2, r3, r4, wh]), A2.next⟩ _
  have hR3 : Rd ⟨A2.t.set e (evB [k, s, b, .int .u8 (hd0 bs % 3), r1, r2, r3, r4, wh]), A2.next⟩ c (nextV v) bs.tail := 
    ⟨hcell3, hR1.lt, hR1.row.still (Nat.le_refl _) (fun n hn _ => T.get_set_ne _ _ (by omega)), hR1.range⟩
  have c3 := text_ok hR3 he3 (by have := hKall.1; show e < A2.next; omega) hce (by simp only [V.plains, Bool.and_eq_true] at hp ⊢; simp only [hp, V.plain, and_self])
  have hk3 : ∀ n, n < L.next → n ≠ c → n ≠ e → (T.set A2.t e (evB [k, s, b, .int .u8 (hd0 bs % 3), r1, r2, r3, r4, wh])).get n = L.t.get n := fun n hn hc hne => by rw [T.get_set_ne _ _ hne]; exact hKall.2 n hn hc
  have hadv : advV (1 + tlen bs.tail) (nextV v) = advV (2 + tlen bs.tail) v := by
    have := advV_add 1 v (1 + tlen bs.tail)
    rw [show 2 + tlen bs.tail = 1 + (1 + tlen bs.tail) by omega, ← this]; rfl
  rw [hadv] at c3
  generalize hA3 : (⟨A2.t.set e (evB [k, s, b, .int .u8 (hd0 bs % 3), r1, r2, r3, r4, wh]), A2.next⟩ : Heap) = A3 at *
  have e3 : A2.t.set e (evB [k, s, b, .int .u8 (hd0 bs % 3), r1, r2, r3, r4, wh]) = A3.t := by rw [← hA3]
  rw [e3] at hbx3 hk3
  unfold rdV at c3
  refine ACode.regS (oneT_okP c3) names_ok mix (t' := ?_) (L' := ?_) [0, 1, 2] (by rfl) ?_ ?_
  rotate_left 2
  · iterate 3 (refine sq rfl rfl rfl (by simp [go_sem, X, hbx3, oneT_sameP, Try.f97]; rfl) ?_)
    rfl
  have hat := setRE_at (L := A3) (v := advV (2 + tlen bs.tail) v) (cs := [k, s, .str (textP bs.tail), .int .u8 (hd0 bs % 3), r1, r2, r3, r4, wh]) hec
  refine ⟨.inl rfl, setRE A3 c (advV (2 + tlen bs.tail) v) e [k, s, .str (textP bs.tail), .int .u8 (hd0 bs % 3), r1, r2, r3, r4, wh], [], [], rfl, by simp [Try.f97, resVals], ?_, fun κ1 z hz => VR_plain (κ := κ1) _ _ rfl hz⟩
  refine tidyRE h.lt hel hec (by rw [advV_low]; exact h.low) ?_ hat.1 hat.2 ?_
  · refine plains_low _ _ ?_
    simp only [V.plains, Bool.and_eq_true] at hp ⊢
    simp only [hp, V.plain, and_self]
  · intro n hn hc hne
    show T.get (T.set (T.set _ _ _) _ _) _ = _
    rw [T.get_set_ne _ _ hne, T.get_set_ne _ _ hc]; exact hk3 n hn hc hne
end Go.Proofs.Ytpfmoolpeecobaa
