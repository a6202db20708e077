/- Operations that change memory, run. -/
import Derived.Test.YtpfmoolpeecobaaX7
namespace Go.Proofs.Ytpfmoolpeecobaa.Ev
open Go.RowKit
set_option linter.unusedVariables false
set_option linter.unusedSimpArgs false
variable {P : Program} {w0 : World} {κ : KM} {L : Heap} {w : World} {t : T V} {a : Act}

/-- what a loud operation comes to -/
def LoudR (w0 : World) (κ : KM) (L : Heap) (v : V) (L' : Heap) (z : Value) (w' : World) : Prop :=
  ∃ κ', κ.le κ' ∧ HR w0 κ' L' w' ∧ VR κ' v z ∧ UN κ L κ' L'

theorem UN_at {n : Nat} {k : KB} {b : Blk} (hk : κ n = some k) : UN κ L κ ⟨L.t.set n b, L.next⟩ :=
  ⟨Nat.le_refl _, fun m _ hm => ⟨hm, T.get_set_ne _ _ (fun e => by subst e; rw [hk] at hm; cases hm)⟩⟩

theorem HR.del (H : HR w0 κ L w) (n : Nat) : HR w0 κ ⟨L.t.del n, L.next⟩ w := by
  have hg : ∀ m b, (L.t.del n).get m = some b → L.t.get m = some b := by
    intro m b hm
    rw [T.get_del] at hm
    split at hm
    · cases hm
    · exact hm
  refine ⟨H.below, H.dom, ?_, fun m k b hm hb hr => H.own m k b hm (hg _ _ hb) hr, fun m k b hm hb hr => H.rod m k b hm (hg _ _ hb) hr,
    fun m m' k k' b b' hm hm' hb hb' r r' e => H.inj m m' k k' b b' hm hm' (hg _ _ hb) (hg _ _ hb') r r' e, fun m k b hm hb => H.blk m k b hm (hg _ _ hb)⟩
  intro m hm
  show (L.t.del n).get m = none
  rw [T.get_del, H.lim m hm, ite_self]

/-! ### several cells -/
theorem storeCells_append (A : Addr) : ∀ (xs ys : List Value) (i : Nat), storeCells A (xs ++ ys) i = (do storeCells A xs i; storeCells A ys (i + xs.length))
  | [], ys, i => by simp [storeCells]
  | x :: xs, ys, i => by
    simp only [List.cons_append, storeCells, storeCells_append A xs ys (i + 1), List.length_cons, bind_assoc]
    congr 1
    funext _
    congr 1
    funext _
    congr 1
    omega
theorem storeCells_shift (r o : Nat) : ∀ (xs : List Value) (i j : Nat), storeCells ⟨r, o, none⟩ xs (i + j) = storeCells ⟨r, o + i, none⟩ xs j
  | [], i, j => rfl
  | x :: xs, i, j => by
    simp only [storeCells, Addr.add_lit, show i + j + 1 = i + (j + 1) by omega, storeCells_shift r o xs i (j + 1), Nat.add_assoc]

theorem storeElems_cells {n s : Nat} {k : KB} (hk : κ n = some k) : ∀ {els : List (List V)} {off : Nat} {L L' : Heap} {w : World}, L.storeElems n s off els = some L' → HR w0 κ L w →
    ∀ {xs : List Value}, VRs κ els.flatten xs → ∃ w', (storeCells ⟨k.r, k.boff + off, none⟩ xs).run P w = .ok () w' ∧ HR w0 κ L' w' ∧ L'.next = L.next ∧ ∀ m, m ≠ n → L'.t.get m = L.t.get m
  | [], off, L, L', w, h, H, xs, hx => by
    simp only [Heap.storeElems] at h; injection h with h; subst h
    rw [List.flatten_nil, VRs_nil] at hx; subst hx
    exact ⟨w, rfl, H, rfl, fun _ _ => rfl⟩
  | e :: els, off, L, L', w, h, H, xs, hx => by
    simp only [Heap.storeElems, guardO_some, Option.bind_eq_some_iff] at h
    obtain ⟨hl, L1, h1, h2⟩ := h
    simp only [beq_iff_eq] at hl
    rw [List.flatten_cons] at hx
    have hlen := VRs_length hx
    rw [List.length_append] at hlen
    have hx1 : VRs κ e (xs.take e.length) := by
      have h3 := VRs_takeN e.length hx (us := e) (by
        clear hlen hx h2 h1 hl
        induction e with
        | nil => rfl
        | cons y e ih => simp [takeN, ih])
      exact h3
    have hx2 : VRs κ els.flatten (xs.drop e.length) := by
      have := VRs_drop e.length hx
      rwa [List.drop_left] at this
    obtain ⟨hr1, H1, hn1, hg1⟩ := store_cells (P := P) h1 H hk hx1
    obtain ⟨w', hr2, H2, hn2, hg2⟩ := storeElems_cells hk h2 H1 hx2
    refine ⟨w', ?_, H2, hn2.trans hn1, fun m hm => (hg2 m hm).trans (hg1 m hm)⟩
    have e1 : xs = xs.take e.length ++ xs.drop e.length := (List.take_append_drop _ _).symm
    rw [e1, storeCells_append]
    simp only [Sem.run_bind, hr1, Result.andThen_ok]
    have hlt : (xs.take e.length).length = s := by rw [List.length_take]; omega
    rw [hlt, Nat.zero_add]
    have := storeCells_shift k.r (k.boff + off) (xs.drop e.length) s 0
    rw [Nat.add_zero] at this
    rw [this, Nat.add_assoc]
    exact hr2

/-! ### what is appended -/
theorem src_sound {s : Nat} {v : V} {new : List (List V)} (h : srcElems L s v = some new) {x : Value} (hx : VR κ v x) :
    (∀ w, (Builtin.lenOf x).run P w = .ok new.length w) ∧ (∀ y ∈ new, y.length = s) ∧ ∀ w, HR w0 κ L w → ∃ arr : Array Value, (Builtin.firstCells s new.length x).run P w = .ok arr w ∧ VRs κ new.flatten arr.toList := by
  unfold srcElems at h
  split at h
  · injection h with h; subst h
    simp only [VR] at hx; subst hx
    exact ⟨fun _ => rfl, by simp, fun w _ => ⟨#[], rfl, by simp [VRs_nil]⟩⟩
  · rename_i n o len cap q
    simp only [VR] at hx
    obtain ⟨k, a, c, hk, rfl, hlc, hac, _⟩ := hx
    have hlen : new.length = len ∧ ∀ y ∈ new, y.length = s := by
      clear hac hlc
      induction len generalizing o new with
      | zero => simp [Heap.elems] at h; subst h; simp
      | succ len ih =>
        simp only [Heap.elems, Option.bind_eq_some_iff, Option.map_eq_some_iff] at h
        obtain ⟨p, _, y, hy, ys, hys, rfl⟩ := h
        obtain ⟨h1, h2⟩ := ih _ hys
        obtain ⟨_, h3⟩ := takeN_some hy
        refine ⟨by simp [h1], fun z hz => ?_⟩
        rcases List.mem_cons.1 hz with rfl | hz
        · exact h3
        · exact h2 z hz
    obtain ⟨hl, hs⟩ := hlen
    refine ⟨fun w => by rw [hl]; rfl, hs, fun w H => ?_⟩
    rw [hl]
    rcases hac with rfl | hc0
    · obtain ⟨xs, h1, h2⟩ := elems_load (P := P) h H hk
      exact ⟨xs, by simpa [Builtin.firstCells] using h1, h2⟩
    · obtain rfl : len = 0 := by omega
      obtain rfl : new = [] := List.length_eq_zero_iff.1 hl
      exact ⟨#[], by simp [Builtin.firstCells, loadCells, loadCellsFrom], by simp [VRs_nil]⟩
  · rename_i l
    rw [guardO_some] at h
    obtain ⟨hs, h⟩ := h
    injection h with h; subst h
    simp only [beq_iff_eq] at hs; subst hs
    simp only [VR] at hx
    obtain ⟨bs, rfl, rfl⟩ := hx
    refine ⟨fun w => by simp [Builtin.lenOf, strOf_length], by intro y hy; simp only [List.mem_map] at hy; obtain ⟨_, _, rfl⟩ := hy; rfl, fun w _ => ?_⟩
    refine ⟨bs.data.map fun b => Value.int .u8 b.toNat, ?_, by rw [bytes_flatten, Array.toList_map]; exact bytes_VRs bs⟩
    simp only [Builtin.firstCells, List.length_map, strOf_length, Sem.run_pure]
    congr 2
    have : (bs.extract 0 bs.size) = bs := strOf_inj (by rw [strOf_extract]; simp [← strOf_length])
    rw [this]
  · cases h

theorem growBy_le (need B : Nat) (hB : 2 * need + 192 ≤ B) : ∀ (r c : Nat), c ≤ B → Builtin.growBy need r c ≤ B
  | 0, c, h => h
  | r + 1, c, h => by
    simp only [Builtin.growBy]
    split
    · exact h
    · exact growBy_le need B hB r _ (by omega)
theorem nextcap_le (need old : Nat) (h : old < need) : Builtin.nextslicecap need old ≤ 2 * need + 512 := by
  unfold Builtin.nextslicecap
  split
  · omega
  · split
    · omega
    · exact growBy_le need _ (by omega) 4 old (by omega)

theorem notInt {dx : TypeDesc} (hni : ∀ k, dx ≠ .int k) : (dx matches .int _) = false := by cases dx <;> first | rfl | exact absurd rfl (hni _)

theorem append_grow {tys : Array TypeId} {sT xT elem ty : TypeId} {dx : TypeDesc} {s : Nat} {inf : TypeInfo} {zr : Value} (h0 : tys[0]? = some sT) (h1 : tys[1]? = some xT)
    (hu : P.underlying sT = some (.slice elem)) (hux : P.underlying xT = some dx) (hni : ∀ k, dx ≠ .int k) (hs : sizeT P elem = some s) (hinf : P.info? elem = some inf)
    (hz : ∀ w, (zeroValue elem).run P w = .ok zr w) (hzs : zr.cells.size = s) {base : Option Addr} {sLen sCap : Nat} {x : Value} {n : Nat}
    (hlen : (Builtin.lenOf x).run P w = .ok n w) (hgt : ¬ sLen + n ≤ sCap) (hsm : small (sLen + n) inf.bytes = true) {old new : Array Value}
    (hold : (Builtin.firstCells s sLen (.slice base sLen sCap)).run P { w with drawn := w.drawn + 1 } = .ok old { w with drawn := w.drawn + 1 })
    (hnew : (Builtin.firstCells s n x).run P { w with drawn := w.drawn + 1 } = .ok new { w with drawn := w.drawn + 1 }) :
    ∃ newCap rest, sLen + n ≤ newCap ∧ rest.size = (newCap - (sLen + n)) * s ∧
      (Builtin.append_ tys ty #[.slice base sLen sCap, x]).run P w = .ok (.slice (some ⟨w.heap.size, 0, none⟩) (sLen + n) newCap) (({ w with drawn := w.drawn + 1 } : World).alloc (.cells (old ++ new ++ rest) elem)) := by
  unfold small at hsm
  rw [Bool.and_eq_true] at hsm
  have hs1 := Nat.le_of_ble_eq_true hsm.1
  have hs2 := Nat.le_of_ble_eq_true hsm.2
  have hcap := nextcap_le (sLen + n) sCap (by omega)
  have hbig : ¬ Builtin.nextslicecap (sLen + n) sCap * inf.bytes > 2 ^ 48 := by
    have : Builtin.nextslicecap (sLen + n) sCap * inf.bytes ≤ 33554944 * 65536 := Nat.mul_le_mul (by omega) hs2
    have e : (2 : Nat) ^ 48 = 281474976710656 := by decide
    rw [e]
    omega
  have hmax : ¬ (((sLen + n : Nat) : Int) > IntKind.i64.max ∧ (False ∨ inf.bytes = 0)) := by
    rintro ⟨h, _⟩
    have : IntKind.i64.max = 9223372036854775807 := rfl
    omega
  refine ⟨(Question.appendCap (sLen + n) sCap elem).cut (w.tape w.drawn (.appendCap (sLen + n) sCap elem)), Builtin.zeroCells zr.cells ((Question.appendCap (sLen + n) sCap elem).cut (w.tape w.drawn (.appendCap (sLen + n) sCap elem)) - (sLen + n)),
    by simp only [Question.cut]; omega, by simp [Builtin.zeroCells, hzs], ?_⟩
  have hz0 := notInt hni
  simp only [Builtin.append_, List.getElem?_toArray, List.getElem?_cons_zero, List.getElem?_cons_succ, h0, h1, Sem.run_bind, run_underlying hu, Result.andThen_ok, sizeT_some hs, run_underlying hux, Sem.run_pure, hz0, Bool.false_eq_true, if_false, hlen, if_neg hgt, run_info hinf, if_neg hbig, false_or, run_choose, Question.forced, run_askRoom]
  rw [if_neg (by intro hc; exact hmax ⟨hc.1, .inr hc.2⟩)]
  simp only [Sem.run_bind, run_info hinf, Result.andThen_ok, if_neg hbig, run_choose, Question.forced, Bool.false_eq_true, if_false, run_askRoom, Bool.not_false, if_true, hold, hnew, hz, newRow, run_newObj, Sem.run_pure]
  rfl

theorem append_room {tys : Array TypeId} {sT xT elem ty : TypeId} {dx : TypeDesc} {s : Nat} (h0 : tys[0]? = some sT) (h1 : tys[1]? = some xT)
    (hu : P.underlying sT = some (.slice elem)) (hux : P.underlying xT = some dx) (hni : ∀ k, dx ≠ .int k) (hs : sizeT P elem = some s)
    {A : Addr} {sLen sCap : Nat} {x : Value} {n : Nat} {w' : World}
    (hlen : (Builtin.lenOf x).run P w = .ok n w) (hle : sLen + n ≤ sCap) {new : Array Value}
    (hnew : (Builtin.firstCells s n x).run P w = .ok new w) (hst : (storeCells (A.add (sLen * s)) new.toList).run P w = .ok () w') :
    (Builtin.append_ tys ty #[.slice (some A) sLen sCap, x]).run P w = .ok (.slice (some A) (sLen + n) sCap) w' := by
  have hz0 := notInt hni
  simp only [Builtin.append_, List.getElem?_toArray, List.getElem?_cons_zero, List.getElem?_cons_succ, h0, h1, Sem.run_bind, run_underlying hu, Result.andThen_ok, sizeT_some hs, run_underlying hux, Sem.run_pure, hz0, Bool.false_eq_true, if_false, hlen, if_pos hle, Bool.not_false, if_true, hnew, hst]

theorem VRs_of_elems {κ : KM} {old new : List (List V)} {xs ys : List Value} (h : VRs κ old.flatten xs) (h' : VRs κ new.flatten ys) : VRs κ (old ++ new).flatten (xs ++ ys) := by
  rw [List.flatten_append]; exact VRs_append h h'

/-- a new open block of what was there and what is appended -/
theorem grow_put {H0 : Heap} {n0 : Nat} (H : HR w0 κ H0 w) {els : List (List V)} {s : Nat} (hs : ∀ x ∈ els, x.length = s) {arr rest : Array Value} (hv : VRs κ els.flatten arr.toList) {newCap : Nat}
    (hc : els.length ≤ newCap) (hr : rest.size = (newCap - els.length) * s) (elem : TypeId) (hn0 : n0 = H0.next) :
    HR w0 (κ.set n0 ⟨w.heap.size, 0, newCap⟩) ⟨H0.t.set n0 (.cells (rowFrom els 0) els.length s true false), n0 + 1⟩ (({ w with drawn := w.drawn + 1 } : World).alloc (.cells (arr ++ rest) elem)) := by
  subst hn0
  have hfree : κ H0.next = none := H.free (Nat.le_refl _)
  have h1 := (H.drew).name (.cells (rowFrom els 0) els.length s true false)
  have hle : κ.le (κ.set H0.next ⟨w.heap.size, 0, newCap⟩) := KM.le_set hfree
  have hal : arr.size = els.length * s := by
    have := VRs_length hv
    rw [Array.length_toList, flatten_length hs] at this
    exact this
  refine h1.put_alloc hfree (Nat.lt_succ_self _) (T.get_set_same _ _ _) rfl (BR_row (RowR_from hs (VRs_mono hle _ _ hv) (fun j hj => ?_)) (fun i _ => by simp) (fun _ => ⟨?_, hc⟩))
  · rw [Array.length_toList] at hj
    rw [Array.getElem?_append_left hj, Array.getElem?_toList]
  · rw [Array.size_append, hal, hr, ← Nat.add_mul]
    exact Nat.le_of_eq (by congr 1; omega)

theorem elems_len {n s : Nat} : ∀ {cnt off : Nat} {ls : List (List V)}, L.elems n off s cnt = some ls → ls.length = cnt ∧ ∀ x ∈ ls, x.length = s
  | 0, off, ls, h => by simp [Heap.elems] at h; subst h; simp
  | cnt + 1, off, ls, h => by
    simp only [Heap.elems, Option.bind_eq_some_iff, Option.map_eq_some_iff] at h
    obtain ⟨p, _, x, hx, xs, hxs, rfl⟩ := h
    obtain ⟨h1, h2⟩ := elems_len hxs
    obtain ⟨_, hl⟩ := takeN_some hx
    refine ⟨by simp [h1], fun y hy => ?_⟩
    rcases List.mem_cons.1 hy with rfl | hy
    · exact hl
    · exact h2 y hy

/-- an open block that had room: the same block of the machine's goes on under a new name -/
theorem graft_put {n : Nat} {k : KB} {c : T (List V)} {cnt s : Nat} (H : HR w0 κ L w) (hk : κ n = some k) (hb : L.t.get n = some (.cells c cnt s true false)) {o len kk C : Nat} (ho : o = kk * s) (hC : C + kk = k.cap)
    (hend : o + len * s = cnt * s) {old new : List (List V)} (hold : L.elems n o s len = some old) (hns : ∀ x ∈ new, x.length = s) (hroom : len + new.length ≤ C)
    {xs : List Value} (hxs : VRs κ new.flatten xs) (hsc : ∀ x ∈ xs, x.oneCell' = true) :
    ∃ w', (storeCells ⟨k.r, k.boff + o + len * s, none⟩ xs).run P w = .ok () w' ∧
      HR w0 (κ.set L.next ⟨k.r, k.boff + o, C⟩) ⟨(L.t.del n).set L.next (.cells (rowFrom (old ++ new) 0) (len + new.length) s true false), L.next + 1⟩ w' := by
  obtain ⟨ob, hob, ys, el, fr, rfl, hfr, hc, hq⟩ := H.blk n k _ hk hb
  obtain ⟨hsz, hcnt⟩ := hq rfl
  have hxl := VRs_length hxs
  rw [flatten_length hns] at hxl
  obtain ⟨hol, hos⟩ := elems_len hold
  have hfree : κ L.next = none := H.free (Nat.le_refl _)
  have hle : κ.le (κ.set L.next ⟨k.r, k.boff + o, C⟩) := KM.le_set hfree
  have hin : k.boff + o + len * s + xs.length ≤ ys.size := by
    have h1 : (kk + (len + new.length)) * s ≤ k.cap * s := Nat.mul_le_mul_right s (by omega)
    rw [Nat.add_mul, Nat.add_mul] at h1
    omega
  have hrun := run_storeCells_cells (P := P) k.r (k.boff + o + len * s) xs 0 w
    (fun j hj => by simp [World.cell?, hob]; omega)
    (fun j hj => not_frozen hob (hfr rfl _ (by omega))) hsc
  rw [Nat.add_zero] at hrun
  refine ⟨_, hrun, ?_⟩
  obtain ⟨e1, e2, e3, e4⟩ := setCells_same (b := k.r) xs (k.boff + o + len * s) w
  have hnew := setCells_block xs (k.boff + o + len * s) w hob
  have hoth : ∀ i, i ≠ k.r → (w.setCells k.r (k.boff + o + len * s) xs).heap[i]? = w.heap[i]? := fun i hi => setCells_other hi _ _ _
  have hr0 := H.own n k _ hk hb rfl
  have hnn : n ≠ L.next := fun e => by subst e; rw [hfree] at hk; cases hk
  have hcells := (elems_cells hold H hk).2.2
  have hget : ∀ m b, ((L.t.del n).set L.next (.cells (rowFrom (old ++ new) 0) (len + new.length) s true false)).get m = some b →
      (m = L.next ∧ b = .cells (rowFrom (old ++ new) 0) (len + new.length) s true false) ∨ (m ≠ L.next ∧ m ≠ n ∧ L.t.get m = some b) := by
    intro m b hm
    rw [T.get_set] at hm
    split at hm
    · injection hm with hm; exact .inl ⟨by assumption, hm.symm⟩
    · rw [T.get_del] at hm
      split at hm
      · cases hm
      · exact .inr ⟨by assumption, by assumption, hm⟩
  have hkm : ∀ m k', (κ.set L.next ⟨k.r, k.boff + o, C⟩) m = some k' → m ≠ L.next → κ m = some k' := fun m k' h hne => by rw [KM.set_ne hne] at h; exact h
  have hkn : ∀ k', (κ.set L.next ⟨k.r, k.boff + o, C⟩) L.next = some k' → k' = ⟨k.r, k.boff + o, C⟩ := fun k' h => by rw [KM.set_same] at h; injection h with h; exact h.symm
  have hdiff : ∀ m k' b, κ m = some k' → m ≠ n → L.t.get m = some b → k'.r ≠ k.r := by
    intro m k' b hm hne hbm er
    cases hcr : b.ro with
    | false => exact hne (H.inj m n k' k b _ hm hk hbm hb hcr rfl er)
    | true => have := H.rod m k' b hm hbm hcr; omega
  refine ⟨⟨e2.trans H.below.os, e3.trans H.below.tape, e4.trans H.below.output, by rw [e1]; exact H.below.size, fun i hi => by rw [hoth i (by omega)]; exact H.below.block i hi⟩, ?_, ?_, ?_, ?_, ?_, ?_⟩
  · intro m k' hm
    by_cases e : m = L.next
    · subst e; rw [hkn _ hm]; exact ⟨Nat.lt_succ_self _, by rw [e1]; exact (H.dom n k hk).2⟩
    · have h := H.dom m k' (hkm m k' hm e)
      exact ⟨Nat.lt_succ_of_lt h.1, by rw [e1]; exact h.2⟩
  · intro m hm
    show T.get _ m = none
    rw [T.get_set_ne _ _ (by simp only at hm; omega), T.get_del, H.lim m (by simp only at hm; omega), ite_self]
  · intro m k' b hm hbm hr
    rcases hget m b hbm with ⟨rfl, rfl⟩ | ⟨h1, h2, h3⟩
    · rw [hkn _ hm]; exact hr0
    · exact H.own m k' b (hkm m k' hm h1) h3 hr
  · intro m k' b hm hbm hr
    rcases hget m b hbm with ⟨rfl, rfl⟩ | ⟨h1, h2, h3⟩
    · cases hr
    · exact H.rod m k' b (hkm m k' hm h1) h3 hr
  · intro m m' k1 k2 b1 b2 hm hm' h1 h2 r1 r2 er
    rcases hget m b1 h1 with ⟨rfl, rfl⟩ | ⟨g1, g2, g3⟩
    · rcases hget m' b2 h2 with ⟨rfl, rfl⟩ | ⟨g1', g2', g3'⟩
      · rfl
      · rw [hkn _ hm] at er
        exact absurd er.symm (hdiff m' k2 b2 (hkm m' k2 hm' g1') g2' g3')
    · rcases hget m' b2 h2 with ⟨rfl, rfl⟩ | ⟨g1', g2', g3'⟩
      · rw [hkn _ hm'] at er
        exact absurd er (hdiff m k1 b1 (hkm m k1 hm g1) g2 g3)
      · exact H.inj m m' k1 k2 b1 b2 (hkm m k1 hm g1) (hkm m' k2 hm' g1') g3 g3' r1 r2 er
  · intro m k' b hm hbm
    rcases hget m b hbm with ⟨rfl, rfl⟩ | ⟨h1, h2, h3⟩
    · rw [hkn _ hm]
      refine ⟨_, hnew, _, _, _, rfl, fun _ i hi => hfr rfl i (by rw [putL_size] at hi; exact hi), ?_, fun _ => ⟨?_, hroom⟩⟩
      · intro e l he
        rw [rowFrom_get, if_pos (Nat.zero_le _), Nat.sub_zero] at he
        have hlt := (List.getElem?_eq_some_iff.1 he).1
        rw [List.length_append, hol] at hlt
        have hll : l.length = s := by
          rcases List.mem_append.1 (List.mem_of_getElem? he) with hm' | hm'
          · exact hos l hm'
          · exact hns l hm'
        refine ⟨hlt, hll, fun j v hj => ?_⟩
        have hjs : j < s := by rw [← hll]; exact (List.getElem?_eq_some_iff.1 hj).1
        show ∃ x, (putL ys (k.boff + o + len * s) xs)[k.boff + o + (e * s + j)]? = some x ∧ _
        rw [putL_get _ _ _ _ hin]
        by_cases hel : e < len
        · have h4 : (e + 1) * s ≤ len * s := Nat.mul_le_mul_right s hel
          rw [Nat.add_mul, Nat.one_mul] at h4
          rw [if_neg (by omega)]
          rw [List.getElem?_append_left (by omega)] at he
          have hfl := flatten_get hos he hjs
          rw [hj] at hfl
          obtain ⟨x, hx1, hx2⟩ := hcells (e * s + j) v hfl
          simp only [World.cell?, hob, Option.isSome_none, Bool.false_eq_true, if_false] at hx1
          exact ⟨x, hx1, VR_mono hle _ _ hx2⟩
        · have h4 : len * s ≤ e * s := Nat.mul_le_mul_right s (by omega)
          have h5 : (e + 1) * s ≤ (len + new.length) * s := Nat.mul_le_mul_right s hlt
          rw [Nat.add_mul, Nat.add_mul, Nat.one_mul] at h5
          rw [if_pos (by omega)]
          rw [List.getElem?_append_right (by omega), hol] at he
          have hfl := flatten_get hns he hjs
          rw [hj] at hfl
          obtain ⟨x, hx1, hx2⟩ := VRs_get hxs hfl
          refine ⟨x, ?_, VR_mono hle _ _ hx2⟩
          rw [← hx1]
          congr 1
          rw [Nat.sub_mul]
          omega
      · rw [putL_size]
        show k.boff + o + C * s ≤ ys.size
        have : (C + kk) * s = k.cap * s := by rw [hC]
        rw [Nat.add_mul] at this
        omega
    · obtain ⟨ob', g1, g2⟩ := H.blk m k' b (hkm m k' hm h1) h3
      exact ⟨ob', by rw [hoth _ (hdiff m k' b (hkm m k' hm h1) h2 h3)]; exact g1, BR_mono hle g2⟩
end Go.Proofs.Ytpfmoolpeecobaa.Ev
