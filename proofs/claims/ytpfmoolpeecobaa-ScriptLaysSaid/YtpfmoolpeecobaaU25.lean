/- - - -/
import Derived.Test.YtpfmoolpeecobaaU24
namespace Go.Proofs.Ytpfmoolpeecobaa
open Go Go.Proofs Go.Proofs.Ytpfmoolpeecobaa.Ev
set_option linter.unusedVariables false
set_option linter.unusedSimpArgs false
set_option maxRecDepth 100000
set_option maxHeartbeats 4000000

theorem RowS.conv' {L : Heap} {v : V} {l : List Int} {sl : Nat} (h : RowS L v l sl) (hr : ∀ b ∈ l, 0 ≤ b ∧ b ≤ 255) : Ev.convQ Try.prog 38 9 v L = some (.str (l.map Int.toNat)) := (show BaseU L v l ∨ True from .inr trivial).elim (fun h => h.conv hr) fun _ => by
  rcases h with ⟨rfl, rfl, _⟩ | ⟨m, c, rfl, h1, h2, h3, h4⟩
  · simp [Ev.convQ, pt38, pstr9, guardO, Try.underlying5]
  · have he := elems_S h2 h3 l.length 0 (by simp)
    rw [List.drop_zero] at he
    simp [Ev.convQ, pt38, pstr9, guardO, Try.underlying5, he, bytes_ofP l hr]
def Scr.gs (s : Scr) : List Int := [s.g0, s.g1, s.g2, s.g3, s.g4]
def Scr.bad (s : Scr) : Bool := pBad s.r s.c s.ring s.gs s.srcs s.evs
def Scr.by_ (s : Scr) : List Int := suB s.r s.c s.ring s.gs s.srcs ++ s.evs.flatMap wBytes
theorem srcK_range {x : SrcG} (h : 0 ≤ x.lv ∧ x.lv ≤ 255) : 0 ≤ srcK x ∧ srcK x ≤ 255 := by
  unfold srcK
  split
  · exact lowB_range _
  · exact h
theorem by_range {s : Scr} (hr : ScrR s) : ∀ b ∈ s.by_, 0 ≤ b ∧ b ≤ 255 := by
  intro b hb
  unfold Scr.by_ suB at hb
  simp only [List.mem_append, List.mem_cons, List.not_mem_nil, or_false, List.mem_map, List.mem_flatMap] at hb
  rcases hb with (hb | ⟨x, hx, rfl⟩) | ⟨e, he, hb⟩
  · rcases hb with rfl | rfl | rfl | rfl | rfl <;> exact lowB_range _
  · exact srcK_range (hr.lv x hx)
  · exact wBytes_range e (hr.tb e he) b hb
section
variable {L : Heap} {s : Scr} {sv ev : V}
/-- Put, of any script -/
theorem put_any (h : ScS L s sv ev) (hr : ScrR s) : ∃ L' pv sl, ACall Try.prog 33 [.agg (s.cs sv ev)] L (.tuple [pv, .int .i64 (if s.bad then 2 else 0)]) L' ∧ (if s.bad then pv = .nils else RowS L' pv s.by_ sl) ∧ L.next ≤ L'.next ∧ ∀ n, n < L.next → L'.t.get n = L.t.get n := by
  have hg := hr.g
  have hns := hr.ns
  have hst := stG_len s.r s.c s.srcs.length
  have hstr := fun B => stripesA_ok s.r s.c s.srcs.length (by have := hr.r; omega) (by have := hr.c; omega) hns B
  by_cases hb : s.bad = true
  · rw [hb]
    have hbad : ∃ j, (suBadG s.r s.c s.ring [s.g0, s.g1, s.g2, s.g3, s.g4] s.srcs (stG s.r s.c s.srcs.length) || decide (40 < s.evs.length)) = true ∨ j < s.evs.length ∧ (∀ (i : Nat) (e : Evt), i < j → s.evs[i]? = some e → wBad e = false) ∧ ∃ e, s.evs[j]? = some e ∧ wBad e = true := by
      unfold Scr.bad pBad Scr.gs at hb
      rw [Bool.or_eq_true] at hb
      rcases hb with hb | hb
      · exact ⟨0, .inl hb⟩
      · let pb : Nat → Bool := fun i => match s.evs[i]? with
          | some e => wBad e
          | none => false
        obtain ⟨j, hjn, hgj, hfin⟩ := first_bad pb s.evs.length
        refine ⟨j, .inr ?_⟩
        have hpe : ∀ (i : Nat) (e : Evt), s.evs[i]? = some e → pb i = wBad e := fun i e he => by simp only [pb, he]
        obtain ⟨e, he, hbe⟩ := List.any_eq_true.1 hb
        obtain ⟨i, hi, rfl⟩ := List.mem_iff_getElem.1 he
        have hii : pb i = true := by rw [hpe i s.evs[i] (by simp)]; exact hbe
        have hj : pb j = true := by
          rcases hfin with e | e
          · have := hgj i (by omega); rw [hii] at this; cases this
          · exact e
        have hjl : j < s.evs.length := by
          by_cases h : j < s.evs.length
          · exact h
          · have : s.evs[j]? = none := List.getElem?_eq_none (by omega)
            simp only [pb, this] at hj
            cases hj
        exact ⟨hjl, fun i' e' hi' he' => by rw [← hpe i' e' he']; exact hgj i' hi', s.evs[j], by simp, by rw [← hpe j s.evs[j] (by simp)]; exact hj⟩
    obtain ⟨j, hbad⟩ := hbad
    obtain ⟨L', hc, hn, hk⟩ := put_bad (j := j) h.hs h.he (by omega) (by omega) (by have := hr.r; omega) (by have := hr.c; omega) hg hstr hr.ev hbad
    exact ⟨L', .nils, 0, hc, rfl, hn, hk⟩
  · have hb' : s.bad = false := by simpa using hb
    rw [hb']
    have hb2 := hb'
    unfold Scr.bad pBad Scr.gs at hb2
    rw [Bool.or_eq_false_iff] at hb2
    obtain ⟨L', pv, sl, hc, hrow, hn, hk⟩ := put_ok h.hs h.he (by omega) (by omega) (by have := hr.r; omega) (by have := hr.c; omega) hg hstr hb2.1 hr.ev fun e he => by
      have := List.any_eq_false.1 hb2.2 e he
      simpa using this
    exact ⟨L', pv, sl, hc, hrow, hn, hk⟩
/-- the document's, of any script -/
theorem rput_any (h : ScS L s sv ev) (hr : ScrR s) : ∃ L' pv, ACall Try.prog 34 [.agg (s.cs sv ev)] L (.tuple [pv, .int .i64 (if s.bad then 2 else 0)]) L' ∧ (if s.bad then pv = .nils else BaseU L' pv s.by_) ∧ L.next ≤ L'.next ∧ ∀ n, n < L.next → L'.t.get n = L.t.get n :=
  rput_ok h.hs h.he (by have := hr.r; omega) (by have := hr.c; omega) hr.g hr.lv hr.ev
end
theorem slP_toG' {L : Heap} {v : V} {l : List (Int × Int × Int × Int × Int)} (h : SlP 6 83 srcF L v l) : SlP 6 83 srcG L v (l.map toG) := by
  rcases h with ⟨rfl, rfl⟩ | ⟨n, o, cap, q, rfl, h2, h3, h4⟩
  · exact .inl ⟨rfl, rfl⟩
  · refine .inr ⟨n, o, cap, q, by rw [List.length_map], h2, by rw [List.length_map]; exact h3, fun i x hi => ?_⟩
    rw [List.getElem?_map, Option.map_eq_some_iff] at hi
    obtain ⟨y, hy, rfl⟩ := hi
    exact h4 i y hy
theorem evE_text : ∀ (ys : List Int), (∀ x ∈ ys, 0 ≤ x ∧ x ≤ 255) → ∀ x ∈ (evE ys).t, x ≤ 255 := by
  intro ys hy
  have ht := text_range ys.tail fun x hx => hy x (List.mem_of_mem_tail hx)
  have ht2 := text_range ys.tail.tail fun x hx => hy x (List.mem_of_mem_tail (List.mem_of_mem_tail hx))
  unfold evE
  repeat' split
  all_goals first | exact ht | exact ht2 | (intro x hx; simp at hx)
theorem evs_text : ∀ (m : Nat) (ys : List Int), (∀ x ∈ ys, 0 ≤ x ∧ x ≤ 255) → ∀ e ∈ (evsP m ys).1, ∀ x ∈ e.t, x ≤ 255 := by
  intro m
  induction m with
  | zero => intro ys hy e hm; simp [evsP] at hm
  | succ m ih =>
    intro ys hy e hm
    cases ys with
    | nil => simp [evsP] at hm
    | cons b t =>
      rw [evs_cons] at hm
      rcases List.mem_cons.1 hm with rfl | hm
      · exact evE_text _ hy
      · exact ih _ (fun x hx => hy x (List.mem_of_mem_drop hx)) e hm
/-- the script of bytes -/
def scrOf (bs : List Int) : Scr := ⟨suRows bs, suCols bs, suBits bs % 2, suBits bs / 2 % 2, suBits bs / 4 % 2, suBits bs / 8 % 2, suBits bs / 16 % 2, suRing bs, srcsOf bs, scEvs bs⟩
theorem scrOf_ok {bs : List Int} (h : ∀ x ∈ bs, 0 ≤ x ∧ x ≤ 255) : ScrR (scrOf bs) := by
  have hn := suN_range (bs := bs)
  have hb := bits_range h
  have hring : 0 ≤ suRing bs ∧ suRing bs ≤ 255 := by
    have : suRing bs % 8 = suRing bs := by unfold suRing; omega
    omega
  refine ⟨?_, ?_, ?_, ?_, ?_, ?_, ?_, ?_, ?_⟩
  · show -100 ≤ suRows bs ∧ suRows bs ≤ 20; unfold suRows; omega
  · show -100 ≤ suCols bs ∧ suCols bs ≤ 50; unfold suCols; omega
  · show -1000 ≤ suRing bs ∧ suRing bs ≤ 1000; omega
  · intro g hg
    simp only [scrOf, List.mem_cons, List.not_mem_nil, or_false] at hg
    omega
  · intro x hx
    simp only [scrOf, srcsOf, List.mem_map] at hx
    obtain ⟨q, _, rfl⟩ := hx
    show 0 ≤ q.1 % 2 ∧ q.1 % 2 ≤ 255
    omega
  · exact fun e he => (back_evs h e he).2
  · show (srcsOf bs).length ≤ 4; rw [srcsOf_len]; omega
  · exact evs_le 40 _
  · exact evs_text 40 _ fun x hx => h x (List.mem_of_mem_drop hx)
/-- calls that answer what they are given, and change nothing -/
noncomputable def selfT (f0 : FuncId) (L : Heap) : Tab := by
  classical exact fun f args L0 => if f = f0 ∧ L0 = L ∧ ∃ cs, args = [.agg cs] ∧ ACall Try.prog f0 [.agg cs] L (.agg cs) L then some (args.headD .nilp, L) else none
theorem selfT_ok (f0 : FuncId) (L : Heap) : TabOk Try.prog (selfT f0 L) := by
  intro f args L0 v L1 e
  unfold selfT at e
  split at e
  · rename_i hc
    obtain ⟨rfl, rfl, cs, rfl, hc⟩ := hc
    simp only [List.headD_cons, Option.some.injEq, Prod.mk.injEq] at e
    obtain ⟨rfl, rfl⟩ := e
    exact hc
  · cases e
theorem selfT_at {f0 : FuncId} {L : Heap} {cs : List V} (h : ACall Try.prog f0 [.agg cs] L (.agg cs) L) : selfT f0 L f0 [.agg cs] L = some (.agg cs, L) := by
  unfold selfT
  rw [if_pos ⟨rfl, rfl, cs, rfl, h⟩]
  rfl
theorem selfT_ne {f f0 : FuncId} (h : f ≠ f0) (L L0 : Heap) (args : List V) : selfT f0 L f args L0 = none := by
  unfold selfT
  rw [if_neg fun hc => h hc.1]
end Go.Proofs.Ytpfmoolpeecobaa
namespace Go.Proofs.Ytpfmoolpeecobaa
open Go Go.Proofs Go.Proofs.Ytpfmoolpeecobaa.Ev
set_option linter.unusedVariables false
set_option linter.unusedSimpArgs false
set_option maxRecDepth 100000
set_option maxHeartbeats 4000000

theorem pt62 : tySlice Try.prog 62 = some 65 := by kernel_rfl
theorem pi62 : tyInt Try.prog 62 = none := by kernel_rfl
theorem over_all' : ∀ (xs ys : List V), xs.length = ys.length → Ev.over xs ys = some xs
  | [], [], h => rfl
  | x :: xs, [], h => by simp at h
  | [], y :: ys, h => by simp at h
  | x :: xs, y :: ys, h => by simp [Ev.over, over_all' xs ys (by simpa using h)]
theorem ev4t (b : Bool) : equalV Try.prog 4 false (.bool b) (.bool b) = some true := by cases b <;> kernel_rfl
theorem cs_all {L : Heap} {s : Scr} {sv ev : V} (h : ScS L s sv ev) : (s.cs sv ev).all V.scalar = true := by
  simp [Scr.cs, scL, h.hs.scal.1, h.he.scal.1, scal1]
theorem cs_low {L : Heap} {s : Scr} {sv ev : V} (h : ScS L s sv ev) : V.lows L.next (s.cs sv ev) = true := by
  simp [V.lows, V.low, Scr.cs, scL, h.hs.low, h.he.low]
theorem sc_load {A : Heap} {m : Nat} {s : Scr} {sv ev : V} (h : A.t.get m = some (scB (s.cs sv ev))) : Heap.load Try.prog A 57 m 0 = some (.agg (s.cs sv ev)) := by
  unfold scB at h
  have htk := takeN_all (s.cs sv ev)
  rw [show (s.cs sv ev).length = 10 from rfl] at htk
  simp [Heap.load, Heap.elem, h, T.get_set, Ev.part, pa57, ps57, htk]
theorem sc_store {A : Heap} {m : Nat} {c c' : List V} (h : A.t.get m = some (scB c)) (hl : c.length = 10) (hl' : c'.length = 10) (hs : c'.all V.scalar = true) : Heap.store A m 0 c' = some ⟨A.t.set m (scB c'), A.next⟩ := by
  unfold scB at h
  have hov := over_all' c' c (by rw [hl, hl'])
  simp [Heap.store, h, T.get_set, guardO, hs, splice, hov, T.set_set, scB]
/-- where the law's loop stands -/
structure LS (L A : Heap) (p0 p7 : Nat) (s0 s : Scr) (v0 e0 sv ev : V) : Prop where
  b0 : A.t.get p0 = some (scB (s0.cs v0 e0))
  b7 : A.t.get p7 = some (scB (s.cs sv ev))
  l0 : p0 < A.next
  l7 : p7 < A.next
  ne : p0 ≠ p7
  q0 : L.next ≤ p0 ∧ L.next ≤ p7
  m0 : (∀ m, nmP v0 = some m → m ≠ p7) ∧ (∀ m, nmP e0 = some m → m ≠ p7)
  s0 : ScS A s0 v0 e0
  s : ScS A s sv ev
  nx : L.next ≤ A.next
  old : ∀ n, n < L.next → A.t.get n = L.t.get n
theorem LS.keep {L A A' : Heap} {p0 p7 : Nat} {s0 s : Scr} {v0 e0 sv ev : V} (h : LS L A p0 p7 s0 s v0 e0 sv ev) (hn : A.next ≤ A'.next) (hk : ∀ n, n < A.next → A'.t.get n = A.t.get n) : LS L A' p0 p7 s0 s v0 e0 sv ev :=
  ⟨by rw [hk _ h.l0]; exact h.b0, by rw [hk _ h.l7]; exact h.b7, Nat.lt_of_lt_of_le h.l0 hn, Nat.lt_of_lt_of_le h.l7 hn, h.ne, h.q0, h.m0, h.s0.keep hn hk, h.s.keep hn hk, Nat.le_trans h.nx hn, fun n hlt => by rw [hk n (Nat.lt_of_lt_of_le hlt h.nx)]; exact h.old n hlt⟩
theorem LS.put {L A : Heap} {p0 p7 : Nat} {s0 s s' : Scr} {v0 e0 sv ev sv' ev' : V} (h : LS L A p0 p7 s0 s v0 e0 sv ev) (hs : ScS A s' sv' ev') (h1 : ∀ m, nmP sv' = some m → m ≠ p7) (h2 : ∀ m, nmP ev' = some m → m ≠ p7) : LS L ⟨A.t.set p7 (scB (s'.cs sv' ev')), A.next⟩ p0 p7 s0 s' v0 e0 sv' ev' := by
  have g : ∀ n, n ≠ p7 → (⟨A.t.set p7 (scB (s'.cs sv' ev')), A.next⟩ : Heap).t.get n = A.t.get n := fun n hn => T.get_set_ne _ _ hn
  exact ⟨by rw [g _ h.ne]; exact h.b0, T.get_set_same _ _ _, h.l0, h.l7, h.ne, h.q0, h.m0, ⟨h.s0.hs.still (Nat.le_refl _) fun m hm => g m (h.m0.1 m hm), h.s0.he.still (Nat.le_refl _) fun m hm => g m (h.m0.2 m hm), h.s0.ls, h.s0.le⟩, ⟨hs.hs.still (Nat.le_refl _) fun m hm => g m (h1 m hm), hs.he.still (Nat.le_refl _) fun m hm => g m (h2 m hm), hs.ls, hs.le⟩, h.nx, fun n hlt => by rw [g n (by have := h.q0.2; omega)]; exact h.old n hlt⟩
theorem lays_ok {L : Heap} {v0 v1 : V} {bs0 : List Int} {l : List Trn} (h0 : Bs L.next L v0 bs0) (hr0 : ∀ x ∈ bs0, 0 ≤ x ∧ x ≤ 255) (ht : SlP 4 65 trnF L v1 l) (htr : ∀ x ∈ l, TrnR x) : ACall Try.prog 11 [v0, v1] L (.bool true) L := by
  obtain ⟨w0, cf0, hb⟩ := fewS_ok h0 400
  have hrb : ∀ x ∈ bs0.take 400, 0 ≤ x ∧ x ≤ 255 := fun x hx => hr0 x (List.mem_of_mem_take hx)
  have hbl : (bs0.take 400).length ≤ 400 := by rw [List.length_take]; omega
  generalize bs0.take 400 = bs at *
  obtain ⟨A0, sv, ev, cp, hn0, hk0, hS0, hE0⟩ := parse_at hb hrb (by omega)
  generalize hnn : min (scN bs) bs.length = nn at *
  have hsc : ScS A0 (scrOf bs) sv ev := ⟨slP_toG' hS0, hE0, by show (srcsOf bs).length ≤ 1000; rw [srcsOf_len]; have := suN_range (bs := bs); omega, by have := evs_le 40 (bs.drop (5 + suN bs)); show (scEvs bs).length ≤ 1000; unfold scEvs; omega⟩
  have hscr := scrOf_ok hrb
  have hns : 1 ≤ (scrOf bs).srcs.length := by show 1 ≤ (srcsOf bs).length; rw [srcsOf_len]; exact (suN_range (bs := bs)).1
  have hcse : scL (suRows bs) (suCols bs) sv (suBits bs % 2) (suBits bs / 2 % 2) (suBits bs / 4 % 2) (suBits bs / 8 % 2) (suBits bs / 16 % 2) (suRing bs) ev = (scrOf bs).cs sv ev := rfl
  rw [hcse] at cp
  generalize scrOf bs = s0 at *
  have hall := cs_all hsc
  have hcl : (s0.cs sv ev).length = 10 := rfl
  have hlen1 := ht.len pt62
  -- the two blocks
  obtain ⟨A1, hA1⟩ : ∃ A : Heap, A = ⟨A0.t.set A0.next (scB (s0.cs sv ev)), A0.next + 1⟩ := ⟨_, rfl⟩
  have n1 : A1.next = A0.next + 1 := by rw [hA1]
  have k1 : ∀ n, n < A0.next → A1.t.get n = A0.t.get n := fun n hn => by rw [hA1]; exact T.get_set_ne _ _ (by omega)
  have g1 : A1.t.get A0.next = some (scB (s0.cs sv ev)) := by rw [hA1]; exact T.get_set_same _ _ _
  obtain ⟨A2, hA2⟩ : ∃ A : Heap, A = ⟨A1.t.set A1.next (scB (s0.cs sv ev)), A1.next + 1⟩ := ⟨_, rfl⟩
  have n2 : A2.next = A1.next + 1 := by rw [hA2]
  have k2 : ∀ n, n < A1.next → A2.t.get n = A1.t.get n := fun n hn => by rw [hA2]; exact T.get_set_ne _ _ (by omega)
  have g2 : A2.t.get A1.next = some (scB (s0.cs sv ev)) := by rw [hA2]; exact T.get_set_same _ _ _
  have hsc2 : ScS A2 s0 sv ev := (hsc.keep (by omega) k1).keep (by omega) k2
  have hLS : LS L A2 A0.next A1.next s0 s0 sv ev sv ev := ⟨by rw [k2 _ (by omega)]; exact g1, g2, by omega, by omega, by omega, by omega, ⟨fun m hm => by have := hsc.hs.nm_lt hm; omega, fun m hm => by have := hsc.he.nm_lt hm; omega⟩, hsc2, hsc2, by omega, fun n hn => by rw [k2 n (by omega), k1 n (by omega)]; exact hk0 n hn⟩
  have hl1 := sc_load g1
  have hl50 : Heap.load Try.prog A1 50 A0.next 2 = some sv := by
    have := g1
    unfold scB Scr.cs scL at this
    simp [Heap.load, Heap.elem, this, T.get_set, Ev.part, pa50]
  have hlenS := (hsc.keep (show A0.next ≤ A1.next by omega) k1).hs.len pt50
  have hsz : ¬ (s0.srcs.length : Int) = 0 := by omega
  generalize hln : (s0.srcs.length : Int) = ln at *
  have hov0 := over_all' (s0.cs sv ev) [.int .i64 0, .int .i64 0, .nils, .int .u8 0, .int .u8 0, .int .u8 0, .int .u8 0, .int .u8 0, .int .i64 0, .nils] hcl
  have hset1 : A0.t.set A0.next (scB (s0.cs sv ev)) = A1.t := by rw [hA1]
  have hset2 : A1.t.set A1.next (scB (s0.cs sv ev)) = A2.t := by rw [hA2]
  refine ACall.of_body Try.func11 rfl ?_
  refine ACode.seq (ACode.regS noT_ok names_ok mix (t' := ?_) (L' := ?_) [0] (by rfl) ?_ ?_)
  rotate_left 2
  · refine sq rfl rfl rfl (by simp [go_sem, X, Try.f11]; rfl) ?_
    rfl
  generalize hcs : s0.cs sv ev = cs at *
  refine ACode.seq (ACode.regS ((oneT_okP cf0).or (oneT_okP cp)) names_ok mix (t' := ?_) (L' := ?_) [0, 1, 2, 3, 4, 5, 6, 7, 8] (by rfl) ?_ ?_)
  rotate_left 2
  · iterate 9 (refine sq rfl rfl rfl (by simp [go_sem, xl, xs, xe, xa, xi, xo, xb, xq, xv, cellsAgg, cellsI, orT, oneT_sameP, oneT_neP, hall, hcl, hov0, Try.f11]; rfl) ?_)
    rfl
  change ACode _ _ _ _ _ ⟨A0.t.set A0.next (scB cs), A0.next + 1⟩ _
  rw [← hA1]
  refine ACode.seq ?_
  refine ACode.seq (ACode.regS noT_ok names_ok mix (t' := ?_) (L' := ?_) [0, 1, 2, 3, 4] (by rfl) ?_ ?_)
  rotate_left 2
  · iterate 5 (refine sq rfl rfl rfl (by simp [go_sem, xs, xe, xa, xi, xo, xb, xv, xc, xk, hl50, hlenS, hsz, Try.f11]; rfl) ?_)
    rfl
  refine ACode.condF (by simp [tget_set, opd]) (ACode.skip ?_)
  show ACode _ _ (Code.seq (Code.region _ _ _) _) _ _ _ _
  refine ACode.seq (ACode.regS noT_ok names_ok mix (t' := ?_) (L' := ?_) [0, 1, 2] (by rfl) ?_ ?_)
  rotate_left 2
  · iterate 3 (refine sq rfl rfl rfl (by simp [go_sem, xs, xe, xa, xi, xo, xb, xq, xv, cellsAgg, cellsI, hl1, hall, hcl, hov0, Try.f11]; rfl) ?_)
    rfl
  change ACode _ _ _ _ _ ⟨A1.t.set A1.next (scB cs), A1.next + 1⟩ _
  rw [← hA2]
  refine ACode.seq ?_
  refine ACode.seq (ACode.regS noT_ok names_ok mix (t' := ?_) (L' := ?_) [0] (by rfl) ?_ ?_)
  rotate_left 2
  · refine sq rfl rfl rfl (by simp [go_sem, X, Try.f11]; rfl) ?_
    rfl
  refine ACode.block (ACode.loop (fun t d B N => d = [] ∧ ∃ (i : Nat) (s : Scr) (sv' ev' : V), i ≤ 3 ∧ N = 3 - i ∧ LS L B A0.next A1.next s0 s sv ev sv' ev' ∧ ScrR s ∧ tget t 1 = v1 ∧ tget t 5 = .ptr A0.next 0 ∧ tget t 7 = .ptr A1.next 0 ∧ tget t 8 = .int .i64 (i : Int)) (N := 3)
    ⟨rfl, 0, s0, sv, ev, by omega, rfl, hLS, hscr, by simp [tget_set, argsT], by simp [tget_set], by simp [tget_set], by simp [tget_set]⟩ ?_)
  clear hov0 hset1 hset2 hl1 hl50 hlenS g1 g2 k1 k2 hall hcl
  rintro t d B N ⟨rfl, i, s, sv', ev', hi, rfl, hls, hsr, t1, t5, t7, t8⟩
  -- the question
  have hS7 := hls.b7
  have hl7 : Heap.load Try.prog B 50 A1.next 2 = some sv' := by
    unfold scB Scr.cs scL at hS7
    simp [Heap.load, Heap.elem, hS7, T.get_set, Ev.part, pa50]
  have hlen7 := hls.s.hs.len pt50
  by_cases hgo : (i : Int) < (l.length : Int) ∧ i < 3 ∧ 0 < s.srcs.length
  rotate_left 1
  ·
    show ACode _ _ (Code.seq (Code.seq (Code.region _ _ _) _) _) _ _ _ _
    refine ACode.seq ?_
    by_cases c1 : (i : Int) < (l.length : Int)
    ·
      by_cases c2 : i < 3
      ·
        have c2' : (i : Int) < 3 := by omega
        have c3 : ¬ (0 : Int) < (s.srcs.length : Int) := by omega
        generalize (s.srcs.length : Int) = ls at *
        refine ACode.seq (ACode.regS noT_ok names_ok mix (t' := ?_) (L' := ?_) [0, 1, 2, 3, 4, 5, 6, 7, 8, 9, 10, 11, 12, 13, 14] (by rfl) ?_ ?_)
        rotate_left 2
        · iterate 5 (refine sq rfl rfl rfl (by simp [go_sem, xs, xe, xa, xi, xo, xb, xv, xc, xk, t1, t7, t8, hlen1, hl7, hlen7, c1, c2', c3, Try.f11]; rfl) ?_)
          iterate 2 (refine sq rfl rfl (by simp [go_sem, xs, xe, xa, xi, xo, xb, xv, xc, xk, t1, t7, t8, hlen1, hl7, hlen7, c1, c2', c3, Try.f11]) (by simp [go_sem, xs, xe, xa, xi, xo, xb, xv, xc, xk, t1, t7, t8, hlen1, hl7, hlen7, c1, c2', c3, Try.f11]; rfl) ?_)
          iterate 2 (refine sq rfl rfl rfl (by simp [go_sem, xs, xe, xa, xi, xo, xb, xv, xc, xk, t1, t7, t8, hlen1, hl7, hlen7, c1, c2', c3, Try.f11]; rfl) ?_)
          iterate 5 (refine sq rfl rfl (by simp [go_sem, xs, xe, xa, xi, xo, xb, xv, xc, xk, t1, t7, t8, hlen1, hl7, hlen7, c1, c2', c3, Try.f11]) (by simp [go_sem, xs, xe, xa, xi, xo, xb, xv, xc, xk, t1, t7, t8, hlen1, hl7, hlen7, c1, c2', c3, Try.f11]; rfl) ?_)
          refine sq rfl rfl rfl (by simp [go_sem, xs, xe, xa, xi, xo, xb, xv, xc, xk, t1, t7, t8, hlen1, hl7, hlen7, c1, c2', c3, Try.f11]; rfl) ?_
          rfl
        refine ACode.condF (by simp [tget_set, opd]) (ACode.exit ?_)
        show ACode _ _ (Code.seq (Code.region _ _ _) Code.ret) _ _ _ _
        refine ACode.seq (ACode.regS (oneT_okP (works28_ok B)) names_ok mix (t' := ?_) (L' := ?_) [0, 1] (by rfl) ?_ ?_)
        rotate_left 2
        · iterate 2 (refine sq rfl rfl rfl (by simp [go_sem, X, oneT_sameP, Try.f11]; rfl) ?_)
          rfl
        exact ACode.ret ⟨.inr rfl, _, [.bool true], [], rfl, by simp [Try.f11, resVals, tget_set], Tidy.zero hls.old, fun κ1 z hz => VR_plain (κ := κ1) _ _ rfl hz⟩
      ·
        have c2' : ¬ (i : Int) < 3 := by omega
        refine ACode.seq (ACode.regS noT_ok names_ok mix (t' := ?_) (L' := ?_) [0, 1, 2, 3, 4, 5, 6, 7, 8, 9, 10, 11, 12, 13, 14] (by rfl) ?_ ?_)
        rotate_left 2
        · iterate 5 (refine sq rfl rfl rfl (by simp [go_sem, xs, xe, xa, xi, xo, xb, xv, xc, xk, t1, t7, t8, hlen1, c1, c2', Try.f11]; rfl) ?_)
          iterate 2 (refine sq rfl rfl (by simp [go_sem, xs, xe, xa, xi, xo, xb, xv, xc, xk, t1, t7, t8, hlen1, c1, c2', Try.f11]) (by simp [go_sem, xs, xe, xa, xi, xo, xb, xv, xc, xk, t1, t7, t8, hlen1, c1, c2', Try.f11]; rfl) ?_)
          iterate 2 (refine sq rfl rfl rfl (by simp [go_sem, xs, xe, xa, xi, xo, xb, xv, xc, xk, t1, t7, t8, hlen1, c1, c2', Try.f11]; rfl) ?_)
          iterate 5 (refine sk rfl rfl (by simp [go_sem, xs, xe, xa, xi, xo, xb, xv, xc, xk, t1, t7, t8, hlen1, c1, c2', Try.f11]) ?_)
          refine sq rfl rfl rfl (by simp [go_sem, xs, xe, xa, xi, xo, xb, xv, xc, xk, t1, t7, t8, hlen1, c1, c2', Try.f11]; rfl) ?_
          rfl
        refine ACode.condF (by simp [tget_set, opd]) (ACode.exit ?_)
        show ACode _ _ (Code.seq (Code.region _ _ _) Code.ret) _ _ _ _
        refine ACode.seq (ACode.regS (oneT_okP (works28_ok B)) names_ok mix (t' := ?_) (L' := ?_) [0, 1] (by rfl) ?_ ?_)
        rotate_left 2
        · iterate 2 (refine sq rfl rfl rfl (by simp [go_sem, X, oneT_sameP, Try.f11]; rfl) ?_)
          rfl
        exact ACode.ret ⟨.inr rfl, _, [.bool true], [], rfl, by simp [Try.f11, resVals, tget_set], Tidy.zero hls.old, fun κ1 z hz => VR_plain (κ := κ1) _ _ rfl hz⟩
    ·
      refine ACode.seq (ACode.regS noT_ok names_ok mix (t' := ?_) (L' := ?_) [0, 1, 2, 3, 4, 5, 6, 7, 8, 9, 10, 11, 12, 13, 14] (by rfl) ?_ ?_)
      rotate_left 2
      · iterate 5 (refine sq rfl rfl rfl (by simp [go_sem, xs, xe, xa, xi, xo, xb, xv, xc, xk, t1, t7, t8, hlen1, c1, Try.f11]; rfl) ?_)
        iterate 2 (refine sk rfl rfl (by simp [go_sem, xs, xe, xa, xi, xo, xb, xv, xc, xk, t1, t7, t8, hlen1, c1, Try.f11]) ?_)
        iterate 2 (refine sq rfl rfl rfl (by simp [go_sem, xs, xe, xa, xi, xo, xb, xv, xc, xk, t1, t7, t8, hlen1, c1, Try.f11]; rfl) ?_)
        iterate 5 (refine sk rfl rfl (by simp [go_sem, xs, xe, xa, xi, xo, xb, xv, xc, xk, t1, t7, t8, hlen1, c1, Try.f11]) ?_)
        refine sq rfl rfl rfl (by simp [go_sem, xs, xe, xa, xi, xo, xb, xv, xc, xk, t1, t7, t8, hlen1, c1, Try.f11]; rfl) ?_
        rfl
      refine ACode.condF (by simp [tget_set, opd]) (ACode.exit ?_)
      show ACode _ _ (Code.seq (Code.region _ _ _) Code.ret) _ _ _ _
      refine ACode.seq (ACode.regS (oneT_okP (works28_ok B)) names_ok mix (t' := ?_) (L' := ?_) [0, 1] (by rfl) ?_ ?_)
      rotate_left 2
      · iterate 2 (refine sq rfl rfl rfl (by simp [go_sem, X, oneT_sameP, Try.f11]; rfl) ?_)
        rfl
      exact ACode.ret ⟨.inr rfl, _, [.bool true], [], rfl, by simp [Try.f11, resVals, tget_set], Tidy.zero hls.old, fun κ1 z hz => VR_plain (κ := κ1) _ _ rfl hz⟩
  obtain ⟨c1, c2, c3⟩ := hgo
  have c2' : (i : Int) < 3 := by omega
  have c3' : (0 : Int) < (s.srcs.length : Int) := by omega
  -- turned
  have hil : i < l.length := by omega
  have hxi : l[i]? = some l[i] := by simp [hil]
  have htB : SlP 4 65 trnF B v1 l := ht.keep hls.nx hls.old
  obtain ⟨nt, ot, _, hix, hlt⟩ := htB.at' pt62 ps65 hxi
  obtain ⟨B1, s2, sv2, ev2, c32, hsc3, hsr2, hnm1, hnm2, hnB1, hkB1⟩ := turned_ok hls.s (htr _ (List.getElem_mem hil)) hsr (by omega)
  have hls1 := hls.keep hnB1 hkB1
  have hls2 := hls1.put hsc3 (fun m hm => by have := hnm1 m hm; have := hls.l7; omega) (fun m hm => by have := hnm2 m hm; have := hls.l7; omega)
  have hst2 := sc_store hls1.b7 rfl (show (s2.cs sv2 ev2).length = 10 from rfl) (cs_all hsc3)
  have hcl2 : (s2.cs sv2 ev2).length = 10 := rfl
  have hlc := sc_load hls.b7
  generalize hB2 : (⟨B1.t.set A1.next (scB (s2.cs sv2 ev2)), B1.next⟩ : Heap) = B2 at *
  -- Put, the document's Put
  obtain ⟨B3, pv, sl, c33, hpv, hnB3, hkB3⟩ := put_any hls2.s hsr2
  have hls3 := hls2.keep hnB3 hkB3
  have c35 := as_ok hls3.s
  obtain ⟨B4, rv, c34, hrv, hnB4, hkB4⟩ := rput_any hls3.s hsr2
  have hls4 := hls3.keep hnB4 hkB4
  have hlc2 := sc_load hls2.b7
  have hlc3 := sc_load hls3.b7
  have hlc4 := sc_load hls4.b7
  have hlz4 := sc_load hls4.b0
  have c31 := same_ok hls4.s hls4.s0
  have c36 := rsame_ok hls4.s hls4.s0
  have c35a := as_ok hls4.s
  have c35b := as_ok hls4.s0
  have hby := by_range hsr2
  obtain ⟨str, hcp, hcr⟩ : ∃ str, Ev.convQ Try.prog 38 9 pv B4 = some (.str str) ∧ Ev.convQ Try.prog 38 9 rv B4 = some (.str str) := by
    cases hbd : s2.bad with
    | true =>
      rw [hbd] at hpv hrv
      have e1 : pv = .nils := hpv
      have e2 : rv = .nils := hrv
      subst e1; subst e2
      exact ⟨[], by simp [Ev.convQ, pt38, pstr9, guardO, Try.underlying5], by simp [Ev.convQ, pt38, pstr9, guardO, Try.underlying5]⟩
    | false =>
      rw [hbd] at hpv hrv
      have e1 : RowS B3 pv s2.by_ sl := hpv
      have e2 : BaseU B4 rv s2.by_ := hrv
      exact ⟨_, (e1.still hnB4 fun m hm => hkB4 m (e1.nm_lt hm)).conv' hby, e2.conv hby⟩
  have hbs : Ev.binS .neq str str = some (.bool false) := by
    have : Ev.strEq str str = true := Ev.strEq_iff.2 rfl
    simp [Ev.binS, this]
  have hw1 : IntKind.i64.wrap ((i : Int) + 1) = ((i + 1 : Nat) : Int) := by rw [Go.IntWalk.i64_in _ (by omega)]; omega
  generalize (if s2.bad = true then (2 : Int) else 0) = er at *
  show ACode _ _ (Code.seq (Code.seq (Code.region _ _ _) _) (Code.seq (Code.block 1 _) _)) _ _ _ _
  refine ACode.seq ?_
  generalize hlsI : (s.srcs.length : Int) = ls at *
  refine ACode.seq (ACode.regS noT_ok names_ok mix (t' := ?_) (L' := ?_) [0, 1, 2, 3, 4, 5, 6, 7, 8, 9, 10, 11, 12, 13, 14] (by rfl) ?_ ?_)
  rotate_left 2
  · iterate 5 (refine sq rfl rfl rfl (by simp [go_sem, xs, xe, xa, xi, xo, xb, xv, xc, xk, t1, t7, t8, hlen1, hl7, hlen7, c1, c2', c3', Try.f11]; rfl) ?_)
    iterate 2 (refine sq rfl rfl (by simp [go_sem, xs, xe, xa, xi, xo, xb, xv, xc, xk, t1, t7, t8, hlen1, hl7, hlen7, c1, c2', c3', Try.f11]) (by simp [go_sem, xs, xe, xa, xi, xo, xb, xv, xc, xk, t1, t7, t8, hlen1, hl7, hlen7, c1, c2', c3', Try.f11]; rfl) ?_)
    iterate 2 (refine sq rfl rfl rfl (by simp [go_sem, xs, xe, xa, xi, xo, xb, xv, xc, xk, t1, t7, t8, hlen1, hl7, hlen7, c1, c2', c3', Try.f11]; rfl) ?_)
    iterate 5 (refine sq rfl rfl (by simp [go_sem, xs, xe, xa, xi, xo, xb, xv, xc, xk, t1, t7, t8, hlen1, hl7, hlen7, c1, c2', c3', Try.f11]) (by simp [go_sem, xs, xe, xa, xi, xo, xb, xv, xc, xk, t1, t7, t8, hlen1, hl7, hlen7, c1, c2', c3', Try.f11]; rfl) ?_)
    refine sq rfl rfl rfl (by simp [go_sem, xs, xe, xa, xi, xo, xb, xv, xc, xk, t1, t7, t8, hlen1, hl7, hlen7, c1, c2', c3', Try.f11]; rfl) ?_
    rfl
  refine ACode.condT (by simp [tget_set, opd]) (ACode.skip ?_)
  show ACode _ _ (Code.seq (Code.block 1 (Code.seq (Code.region _ _ _) (Code.seq (Code.region _ _ _) (Code.seq (Code.region _ _ _) (Code.seq (Code.region _ _ _) _))))) _) _ _ _ _
  refine ACode.seq (ACode.block ?_)
  generalize s.cs sv' ev' = cs1 at *
  generalize hcs2 : s2.cs sv2 ev2 = cs2 at *
  generalize trnF l[i] = tf at *
  refine ACode.seq (ACode.regD (oneT_okP c32) names_ok mix (t' := ?_) (L' := ?_) [0,0,3,7,0,31,63] [0,1,2,3,4,5,6] (by decide +kernel) (by decide +kernel) (by decide +kernel) ?_ ?_)
  rotate_left 2
  · iterate 3 (refine dq rfl rfl rfl rfl (by simp [go_sem, xe, xi, xo, xb, xq, xv, xc, xk, t1, t7, t8, hix, hlt, hlc, oneT_sameP, hst2, hcl2, hB2, Try.f11]; rfl) ?_)
    iterate 2 (refine dr rfl rfl rfl rfl (by simp [go_sem, xe, xi, xo, xb, xq, xv, xc, xk, t1, t7, t8, hix, hlt, hlc, oneT_sameP, hst2, hcl2, hB2, Try.f11]; rfl) ?_)
    refine dl rfl rfl (by simp [go_sem, xe, xi, xo, xb, xq, xv, xc, xk, t1, t7, t8, hix, hlt, hlc, oneT_sameP, hst2, hcl2, hB2, Try.f11]) rfl (by simp [go_sem, xe, xi, xo, xb, xq, xv, xc, xk, t1, t7, t8, hix, hlt, hlc, oneT_sameP, hst2, hcl2, hB2, Try.f11]; rfl) (by rfl) (by simp [go_sem, xe, xi, xo, xb, xq, xv, xc, xk, t1, t7, t8, hix, hlt, hlc, oneT_sameP, hst2, hcl2, hB2, Try.f11]) ?_
    refine dl rfl rfl rfl rfl (by simp [go_sem, xe, xi, xo, xb, xq, xv, xc, xk, t1, t7, t8, hix, hlt, hlc, oneT_sameP, hst2, hcl2, hB2, Try.f11]; rfl) (by rfl) (by simp [go_sem, xe, xi, xo, xb, xq, xv, xc, xk, t1, t7, t8, hix, hlt, hlc, oneT_sameP, hst2, hcl2, hB2, Try.f11]) ?_
    rfl
  refine ACode.seq (ACode.regS (oneT_okP c33) names_ok mix (t' := ?_) (L' := ?_) [0, 1, 2, 3, 4, 5, 6] (by rfl) ?_ ?_)
  rotate_left 2
  · iterate 7 (refine sq rfl rfl rfl (by simp [go_sem, xs, xe, xa, xi, xo, xb, xq, xv, xc, xk, t7, hlc2, oneT_sameP, Try.f11]; rfl) ?_)
    rfl
  refine ACode.seq (ACode.regS ((selfT_ok 35 B3).or (oneT_okP c34)) names_ok mix (t' := ?_) (L' := ?_) [0, 1, 2, 3, 4, 5, 6, 7] (by rfl) ?_ ?_)
  rotate_left 2
  · iterate 8 (refine sq rfl rfl rfl (by simp [go_sem, xs, xe, xa, xi, xo, xb, xq, xv, xc, xk, t7, hlc3, orT, selfT_at c35, selfT_ne, oneT_sameP, Try.f11]; rfl) ?_)
    rfl
  cases hq : decide (s2 = s0) with
  | false =>
    rw [hq] at c31 c36
    refine ACode.seq (ACode.regD ((selfT_ok 35 B4).or ((oneT_okP c31).or (oneT_okP c36))) names_ok mix (t' := ?_) (L' := ?_) [0,1,0,4,15,31,63,63,255,511,1023,2047,2047,8191,2047,32767,2047,131071,262143,524287,1048575] [0,1,2,3,4,5,6,7,8,9,10,11,12,14,16,13,15,17,18,19,20] (by decide +kernel) (by decide +kernel) (by decide +kernel) ?_ ?_)
    rotate_left 2
    · refine dq rfl rfl rfl rfl (by simp [go_sem, xs, xe, xa, xi, xo, xb, xq, xc, xk, t5, t7, hlc4, hlz4, hcp, hcr, hbs, ev4t, orT, selfT_at c35a, selfT_at c35b, selfT_ne, oneT_sameP, oneT_neP, Try.f11]; rfl) ?_
      refine dr rfl rfl rfl rfl (by simp [go_sem, xs, xe, xa, xi, xo, xb, xq, xc, xk, t5, t7, hlc4, hlz4, hcp, hcr, hbs, ev4t, orT, selfT_at c35a, selfT_at c35b, selfT_ne, oneT_sameP, oneT_neP, Try.f11]; rfl) ?_
      refine dq rfl rfl rfl rfl (by simp [go_sem, xs, xe, xa, xi, xo, xb, xq, xc, xk, t5, t7, hlc4, hlz4, hcp, hcr, hbs, ev4t, orT, selfT_at c35a, selfT_at c35b, selfT_ne, oneT_sameP, oneT_neP, Try.f11]; rfl) ?_
      refine dr rfl rfl rfl rfl (by simp [go_sem, xs, xe, xa, xi, xo, xb, xq, xc, xk, t5, t7, hlc4, hlz4, hcp, hcr, hbs, ev4t, orT, selfT_at c35a, selfT_at c35b, selfT_ne, oneT_sameP, oneT_neP, Try.f11]; rfl) ?_
      iterate 2 (refine dq rfl rfl rfl rfl (by simp [go_sem, xs, xe, xa, xi, xo, xb, xq, xc, xk, t5, t7, hlc4, hlz4, hcp, hcr, hbs, ev4t, orT, selfT_at c35a, selfT_at c35b, selfT_ne, oneT_sameP, oneT_neP, Try.f11]; rfl) ?_)
      iterate 3 (refine dq rfl rfl (by simp [go_sem, xs, xe, xa, xi, xo, xb, xq, xc, xk, t5, t7, hlc4, hlz4, hcp, hcr, hbs, ev4t, orT, selfT_at c35a, selfT_at c35b, selfT_ne, oneT_sameP, oneT_neP, Try.f11]) rfl (by simp [go_sem, xs, xe, xa, xi, xo, xb, xq, xc, xk, t5, t7, hlc4, hlz4, hcp, hcr, hbs, ev4t, orT, selfT_at c35a, selfT_at c35b, selfT_ne, oneT_sameP, oneT_neP, Try.f11]; rfl) ?_)
      iterate 2 (refine dq rfl rfl rfl rfl (by simp [go_sem, xs, xe, xa, xi, xo, xb, xq, xc, xk, t5, t7, hlc4, hlz4, hcp, hcr, hbs, ev4t, orT, selfT_at c35a, selfT_at c35b, selfT_ne, oneT_sameP, oneT_neP, Try.f11]; rfl) ?_)
      iterate 4 (refine dr rfl rfl (by simp [go_sem, xs, xe, xa, xi, xo, xb, xq, xc, xk, t5, t7, hlc4, hlz4, hcp, hcr, hbs, ev4t, orT, selfT_at c35a, selfT_at c35b, selfT_ne, oneT_sameP, oneT_neP, Try.f11]) rfl (by simp [go_sem, xs, xe, xa, xi, xo, xb, xq, xc, xk, t5, t7, hlc4, hlz4, hcp, hcr, hbs, ev4t, orT, selfT_at c35a, selfT_at c35b, selfT_ne, oneT_sameP, oneT_neP, Try.f11]; rfl) ?_)
      iterate 4 (refine dl rfl rfl (by simp [go_sem, xs, xe, xa, xi, xo, xb, xq, xc, xk, t5, t7, hlc4, hlz4, hcp, hcr, hbs, ev4t, orT, selfT_at c35a, selfT_at c35b, selfT_ne, oneT_sameP, oneT_neP, Try.f11]) rfl (by simp [go_sem, xs, xe, xa, xi, xo, xb, xq, xc, xk, t5, t7, hlc4, hlz4, hcp, hcr, hbs, ev4t, orT, selfT_at c35a, selfT_at c35b, selfT_ne, oneT_sameP, oneT_neP, Try.f11]; rfl) (by rfl) (by simp [go_sem, xs, xe, xa, xi, xo, xb, xq, xc, xk, t5, t7, hlc4, hlz4, hcp, hcr, hbs, ev4t, orT, selfT_at c35a, selfT_at c35b, selfT_ne, oneT_sameP, oneT_neP, Try.f11]) ?_)
      refine dq rfl rfl (by simp [go_sem, xs, xe, xa, xi, xo, xb, xq, xc, xk, t5, t7, hlc4, hlz4, hcp, hcr, hbs, ev4t, orT, selfT_at c35a, selfT_at c35b, selfT_ne, oneT_sameP, oneT_neP, Try.f11]) rfl (by simp [go_sem, xs, xe, xa, xi, xo, xb, xq, xc, xk, t5, t7, hlc4, hlz4, hcp, hcr, hbs, ev4t, orT, selfT_at c35a, selfT_at c35b, selfT_ne, oneT_sameP, oneT_neP, Try.f11]; rfl) ?_
      refine dq rfl rfl rfl rfl (by simp [go_sem, xs, xe, xa, xi, xo, xb, xq, xc, xk, t5, t7, hlc4, hlz4, hcp, hcr, hbs, ev4t, orT, selfT_at c35a, selfT_at c35b, selfT_ne, oneT_sameP, oneT_neP, Try.f11]; rfl) ?_
      rfl
    refine ACode.condF (by simp [tget_set, opd]) (ACode.skip ?_)
    show ACode _ _ (Code.region _ _ _) _ _ _ _
    refine ACode.regS noT_ok names_ok mix (t' := ?_) (L' := ?_) [0, 1, 2] (by rfl) ?_ ?_
    rotate_left 2
    · iterate 3 (refine sq rfl rfl rfl (by simp [go_sem, X, t8, hw1, Try.f11]; rfl) ?_)
      rfl
    exact ⟨3 - (i + 1), by omega, rfl, i + 1, s2, sv2, ev2, by omega, rfl, hls4, hsr2, by simp [tget_set, t1], by simp [tget_set, t5], by simp [tget_set, t7], by simp [tget_set]⟩
  | true =>
    rw [hq] at c31 c36
    refine ACode.seq (ACode.regD ((selfT_ok 35 B4).or ((oneT_okP c31).or (oneT_okP c36))) names_ok mix (t' := ?_) (L' := ?_) [0,1,0,4,15,31,63,63,255,511,1023,2047,2047,8191,2047,32767,2047,131071,262143,524287,1048575] [0,1,2,3,4,5,6,7,8,9,10,11,12,14,16,13,15,17,18,19,20] (by decide +kernel) (by decide +kernel) (by decide +kernel) ?_ ?_)
    rotate_left 2
    · refine dq rfl rfl rfl rfl (by simp [go_sem, xs, xe, xa, xi, xo, xb, xq, xc, xk, t5, t7, hlc4, hlz4, hcp, hcr, hbs, ev4t, orT, selfT_at c35a, selfT_at c35b, selfT_ne, oneT_sameP, oneT_neP, Try.f11]; rfl) ?_
      refine dr rfl rfl rfl rfl (by simp [go_sem, xs, xe, xa, xi, xo, xb, xq, xc, xk, t5, t7, hlc4, hlz4, hcp, hcr, hbs, ev4t, orT, selfT_at c35a, selfT_at c35b, selfT_ne, oneT_sameP, oneT_neP, Try.f11]; rfl) ?_
      refine dq rfl rfl rfl rfl (by simp [go_sem, xs, xe, xa, xi, xo, xb, xq, xc, xk, t5, t7, hlc4, hlz4, hcp, hcr, hbs, ev4t, orT, selfT_at c35a, selfT_at c35b, selfT_ne, oneT_sameP, oneT_neP, Try.f11]; rfl) ?_
      refine dr rfl rfl rfl rfl (by simp [go_sem, xs, xe, xa, xi, xo, xb, xq, xc, xk, t5, t7, hlc4, hlz4, hcp, hcr, hbs, ev4t, orT, selfT_at c35a, selfT_at c35b, selfT_ne, oneT_sameP, oneT_neP, Try.f11]; rfl) ?_
      iterate 2 (refine dq rfl rfl rfl rfl (by simp [go_sem, xs, xe, xa, xi, xo, xb, xq, xc, xk, t5, t7, hlc4, hlz4, hcp, hcr, hbs, ev4t, orT, selfT_at c35a, selfT_at c35b, selfT_ne, oneT_sameP, oneT_neP, Try.f11]; rfl) ?_)
      iterate 3 (refine dq rfl rfl (by simp [go_sem, xs, xe, xa, xi, xo, xb, xq, xc, xk, t5, t7, hlc4, hlz4, hcp, hcr, hbs, ev4t, orT, selfT_at c35a, selfT_at c35b, selfT_ne, oneT_sameP, oneT_neP, Try.f11]) rfl (by simp [go_sem, xs, xe, xa, xi, xo, xb, xq, xc, xk, t5, t7, hlc4, hlz4, hcp, hcr, hbs, ev4t, orT, selfT_at c35a, selfT_at c35b, selfT_ne, oneT_sameP, oneT_neP, Try.f11]; rfl) ?_)
      iterate 2 (refine dq rfl rfl rfl rfl (by simp [go_sem, xs, xe, xa, xi, xo, xb, xq, xc, xk, t5, t7, hlc4, hlz4, hcp, hcr, hbs, ev4t, orT, selfT_at c35a, selfT_at c35b, selfT_ne, oneT_sameP, oneT_neP, Try.f11]; rfl) ?_)
      iterate 4 (refine dr rfl rfl (by simp [go_sem, xs, xe, xa, xi, xo, xb, xq, xc, xk, t5, t7, hlc4, hlz4, hcp, hcr, hbs, ev4t, orT, selfT_at c35a, selfT_at c35b, selfT_ne, oneT_sameP, oneT_neP, Try.f11]) rfl (by simp [go_sem, xs, xe, xa, xi, xo, xb, xq, xc, xk, t5, t7, hlc4, hlz4, hcp, hcr, hbs, ev4t, orT, selfT_at c35a, selfT_at c35b, selfT_ne, oneT_sameP, oneT_neP, Try.f11]; rfl) ?_)
      iterate 4 (refine dl rfl rfl (by simp [go_sem, xs, xe, xa, xi, xo, xb, xq, xc, xk, t5, t7, hlc4, hlz4, hcp, hcr, hbs, ev4t, orT, selfT_at c35a, selfT_at c35b, selfT_ne, oneT_sameP, oneT_neP, Try.f11]) rfl (by simp [go_sem, xs, xe, xa, xi, xo, xb, xq, xc, xk, t5, t7, hlc4, hlz4, hcp, hcr, hbs, ev4t, orT, selfT_at c35a, selfT_at c35b, selfT_ne, oneT_sameP, oneT_neP, Try.f11]; rfl) (by rfl) (by simp [go_sem, xs, xe, xa, xi, xo, xb, xq, xc, xk, t5, t7, hlc4, hlz4, hcp, hcr, hbs, ev4t, orT, selfT_at c35a, selfT_at c35b, selfT_ne, oneT_sameP, oneT_neP, Try.f11]) ?_)
      refine dq rfl rfl (by simp [go_sem, xs, xe, xa, xi, xo, xb, xq, xc, xk, t5, t7, hlc4, hlz4, hcp, hcr, hbs, ev4t, orT, selfT_at c35a, selfT_at c35b, selfT_ne, oneT_sameP, oneT_neP, Try.f11]) rfl (by simp [go_sem, xs, xe, xa, xi, xo, xb, xq, xc, xk, t5, t7, hlc4, hlz4, hcp, hcr, hbs, ev4t, orT, selfT_at c35a, selfT_at c35b, selfT_ne, oneT_sameP, oneT_neP, Try.f11]; rfl) ?_
      refine dq rfl rfl rfl rfl (by simp [go_sem, xs, xe, xa, xi, xo, xb, xq, xc, xk, t5, t7, hlc4, hlz4, hcp, hcr, hbs, ev4t, orT, selfT_at c35a, selfT_at c35b, selfT_ne, oneT_sameP, oneT_neP, Try.f11]; rfl) ?_
      rfl
    refine ACode.condF (by simp [tget_set, opd]) (ACode.skip ?_)
    show ACode _ _ (Code.region _ _ _) _ _ _ _
    refine ACode.regS noT_ok names_ok mix (t' := ?_) (L' := ?_) [0, 1, 2] (by rfl) ?_ ?_
    rotate_left 2
    · iterate 3 (refine sq rfl rfl rfl (by simp [go_sem, X, t8, hw1, Try.f11]; rfl) ?_)
      rfl
    exact ⟨3 - (i + 1), by omega, rfl, i + 1, s2, sv2, ev2, by omega, rfl, hls4, hsr2, by simp [tget_set, t1], by simp [tget_set, t5], by simp [tget_set, t7], by simp [tget_set]⟩
end Go.Proofs.Ytpfmoolpeecobaa
