/- Plain laws: an event that was laid is read again. Plain laws: events that were read can be laid. Plain laws: a script that was read, laid, and read again. -/
import Derived.Test.YtpfmoolpeecobaaU13
namespace Go.Proofs.Ytpfmoolpeecobaa
open Go Go.Proofs Go.Proofs.Ytpfmoolpeecobaa.Ev
set_option linter.unusedVariables false
set_option linter.unusedSimpArgs false
set_option maxRecDepth 100000
set_option maxHeartbeats 4000000

theorem lowB_id {n : Int} (h : 0 ≤ n ∧ n ≤ 255) : lowB n = n := Go.IntWalk.u8_in _ h
theorem lowB_range (n : Int) : 0 ≤ lowB n ∧ lowB n ≤ 255 := by
  unfold lowB
  rw [IntKind.wrap_u8]
  omega
theorem out_false {m n : Int} (h : out m n = false) : 0 ≤ n ∧ n < m := by
  unfold out at h
  simp at h
  omega
theorem takeZ_self (l zs : List Int) : takeZ l.length (l ++ zs) = l := by
  rw [takeZ_app (Nat.le_refl _)]
  unfold takeZ
  refine List.ext_getElem (by simp) fun i h1 h2 => ?_
  simp at h1
  simp [List.getD, h1]
theorem natI_nat (t : List Nat) : (natI t).map Int.toNat = t := by
  unfold natI
  rw [List.map_map]
  conv => rhs; rw [← List.map_id t]
  refine List.map_congr_left fun x _ => ?_
  simp
theorem text_back (t : List Nat) (ht : t.length < 64) (zs : List Int) : tlen (lowB t.length :: (natI t ++ zs)) = t.length ∧ textP (lowB t.length :: (natI t ++ zs)) = t := by
  have h1 : lowB t.length = t.length := lowB_id (by omega)
  have e1 : tlen (lowB t.length :: (natI t ++ zs)) = t.length := by
    show ((lowB (t.length : Int)) % 64).toNat = _
    rw [h1]; omega
  refine ⟨e1, ?_⟩
  unfold textP
  rw [e1]
  show (takeZ t.length (natI t ++ zs)).map Int.toNat = t
  have : (natI t).length = t.length := by simp [natI]
  rw [← this, takeZ_self, natI_nat]
/-- what is laid is read again -/
theorem ev_back {e : Evt} (h : wBad e = false) (zs : List Int) : evE (wBytes e ++ zs) = e ∧ (evP (wBytes e ++ zs)).2 = (wBytes e).length := by
  unfold wBad at h
  simp only [Bool.or_eq_false_iff] at h
  obtain ⟨⟨⟨hk, hs⟩, hp⟩, ho⟩ := h
  have hk := out_false hk
  have hs := out_false hs
  have ho : wOwn e = e := by simpa using ho
  have hb : lowB (e.k + 9 * e.s) = e.k + 9 * e.s := lowB_id (by omega)
  have h9 : (e.k + 9 * e.s) % 9 = e.k := by omega
  have h5 : (e.k + 9 * e.s) / 9 % 5 = e.s := by omega
  have hd : hd0 (wBytes e ++ zs) = e.k + 9 * e.s := hb
  have ht : (wBytes e ++ zs).tail = wTail e ++ zs := rfl
  have hl : (wBytes e).length = 1 + (wTail e).length := by simp [wBytes]; omega
  rw [hl]
  unfold evE evP
  rw [hd, ht, h9, h5]
  unfold wTail
  have goal : ∀ x, wOwn e = x → x = e := fun x hx => hx.symm.trans ho
  have hnl : (natI e.t).length = e.t.length := by simp [natI]
  by_cases k3 : e.k = 3
  · have k0 : ¬ (e.k = 0 ∨ e.k = 4) := by omega
    simp only [if_pos k3, if_neg k0, Bool.or_eq_false_iff] at hp ⊢
    have hlv := out_false hp.1
    have htl := out_false hp.2
    obtain ⟨a1, a2⟩ := text_back e.t (by omega) zs
    have hlb : lowB e.lv = e.lv := lowB_id (by omega)
    have hm : e.lv % 3 = e.lv := by omega
    refine ⟨?_, ?_⟩
    · refine goal _ ?_
      show wOwn e = _
      unfold wOwn
      rw [if_pos k3]
      show _ = (⟨e.k, e.s, textP (lowB e.t.length :: (natI e.t ++ zs)), lowB e.lv % 3, 0, 0, 0, 0, 0⟩ : Evt)
      rw [a2, hlb, hm]
    · show 3 + tlen (lowB e.t.length :: (natI e.t ++ zs)) = 1 + (natI e.t).length.succ.succ
      rw [a1, hnl]; omega
  by_cases k0 : e.k = 0 ∨ e.k = 4
  · simp only [if_neg k3, if_pos k0] at hp ⊢
    have htl := out_false hp
    obtain ⟨a1, a2⟩ := text_back e.t (by omega) zs
    refine ⟨?_, ?_⟩
    · refine goal _ ?_
      unfold wOwn
      rw [if_neg k3, if_pos k0]
      show _ = (⟨e.k, e.s, textP (lowB e.t.length :: (natI e.t ++ zs)), 0, 0, 0, 0, 0, 0⟩ : Evt)
      rw [a2]
    · show 2 + tlen (lowB e.t.length :: (natI e.t ++ zs)) = 1 + (natI e.t).length.succ
      rw [a1, hnl]; omega
  by_cases k5 : e.k = 5
  · simp only [if_neg k3, if_neg k0, if_pos k5, Bool.or_eq_false_iff] at hp ⊢
    have q1 := out_false hp.1.1.1
    have q2 := out_false hp.1.1.2
    have q3 := out_false hp.1.2
    have q4 := out_false hp.2
    refine ⟨?_, rfl⟩
    refine goal _ ?_
    unfold wOwn
    rw [if_neg k3, if_neg k0, if_pos k5]
    show _ = (⟨e.k, e.s, [], 0, lowB e.r1 % 16, lowB e.r2 % 48, lowB e.r3 % 16, lowB e.r4 % 48, 0⟩ : Evt)
    rw [lowB_id (n := e.r1) (by omega), lowB_id (n := e.r2) (by omega), lowB_id (n := e.r3) (by omega), lowB_id (n := e.r4) (by omega), Int.emod_eq_of_lt q1.1 q1.2, Int.emod_eq_of_lt q2.1 q2.2, Int.emod_eq_of_lt q3.1 q3.2, Int.emod_eq_of_lt q4.1 q4.2]
  by_cases k6 : e.k = 6
  · simp only [if_neg k3, if_neg k0, if_neg k5, if_pos k6, Bool.or_eq_false_iff] at hp ⊢
    have q3 := out_false hp.1
    have q4 := out_false hp.2
    refine ⟨?_, rfl⟩
    refine goal _ ?_
    unfold wOwn
    rw [if_neg k3, if_neg k0, if_neg k5, if_pos k6]
    show _ = (⟨e.k, e.s, [], 0, 0, 0, lowB e.r3 % 16, lowB e.r4 % 48, 0⟩ : Evt)
    rw [lowB_id (n := e.r3) (by omega), lowB_id (n := e.r4) (by omega), Int.emod_eq_of_lt q3.1 q3.2, Int.emod_eq_of_lt q4.1 q4.2]
  by_cases k7 : e.k = 7
  · simp only [if_neg k3, if_neg k0, if_neg k5, if_neg k6, if_pos k7] at hp ⊢
    have q3 := out_false hp
    refine ⟨?_, rfl⟩
    refine goal _ ?_
    unfold wOwn
    rw [if_neg k3, if_neg k0, if_neg k5, if_neg k6, if_pos k7]
    show _ = (⟨e.k, e.s, [], 0, 0, 0, 0, 0, lowB e.w % 8⟩ : Evt)
    rw [lowB_id (n := e.w) (by omega), Int.emod_eq_of_lt q3.1 q3.2]
  simp only [if_neg k3, if_neg k0, if_neg k5, if_neg k6, if_neg k7]
  refine ⟨goal _ ?_, rfl⟩
  unfold wOwn
  rw [if_neg k3, if_neg k0, if_neg k5, if_neg k6, if_neg k7]
end Go.Proofs.Ytpfmoolpeecobaa
namespace Go.Proofs.Ytpfmoolpeecobaa
open Go Go.Proofs Go.Proofs.Ytpfmoolpeecobaa.Ev
set_option linter.unusedVariables false
set_option linter.unusedSimpArgs false
set_option maxRecDepth 100000
set_option maxHeartbeats 4000000

theorem out_in {m n : Int} (h : 0 ≤ n ∧ n < m) : out m n = false := by
  unfold out
  simp
  omega
theorem text_len (bs : List Int) : (textP bs).length = tlen bs := by simp [textP, takeZ_len]
theorem tlen_lt (bs : List Int) : tlen bs < 64 := by unfold tlen; omega
theorem natI_len (t : List Nat) : (natI t).length = t.length := by simp [natI]
/-- an event that was read: it can be laid, and takes as many bytes -/
theorem ev_good (ys : List Int) (h0 : 0 ≤ hd0 ys ∧ hd0 ys ≤ 255) : wBad (evE ys) = false ∧ EvR (evE ys) ∧ (wBytes (evE ys)).length = (evP ys).2 := by
  have o9 : out 9 (hd0 ys % 9) = false := out_in (by omega)
  have o5 : out 5 (hd0 ys / 9 % 5) = false := out_in (by omega)
  have hk : -1000 ≤ hd0 ys % 9 ∧ hd0 ys % 9 ≤ 1000 := by omega
  have hs : -1000 ≤ hd0 ys / 9 % 5 ∧ hd0 ys / 9 % 5 ≤ 1000 := by omega
  unfold evE evP
  by_cases k0 : hd0 ys % 9 = 0 ∨ hd0 ys % 9 = 4
  · have k3 : ¬ hd0 ys % 9 = 3 := by omega
    simp only [if_pos k0]
    have ht := text_len ys.tail
    have hl := tlen_lt ys.tail
    refine ⟨?_, ⟨hk, hs, by simp, by simp only; omega⟩, ?_⟩
    · simp only [wBad, wOwn, if_neg k3, if_pos k0, o9, o5, out_in (m := 64) (n := ((textP ys.tail).length : Int)) (by omega)]
      simp
    · simp only [wBytes, wTail, if_neg k3, if_pos k0, List.length_cons, natI_len, ht]; omega
  by_cases k3 : hd0 ys % 9 = 3
  · simp only [if_pos k3, if_neg k0]
    have ht := text_len ys.tail.tail
    have hl := tlen_lt ys.tail.tail
    refine ⟨?_, ⟨hk, hs, by simp only; omega, by simp only; omega⟩, ?_⟩
    · simp only [wBad, wOwn, if_pos k3, o9, o5, out_in (m := 64) (n := ((textP ys.tail.tail).length : Int)) (by omega), out_in (m := 3) (n := hd0 ys.tail % 3) (by omega)]
      simp
    · simp only [wBytes, wTail, if_pos k3, List.length_cons, natI_len, ht]; omega
  by_cases k5 : hd0 ys % 9 = 5
  · simp only [if_neg k0, if_neg k3, if_pos k5]
    refine ⟨?_, ⟨hk, hs, by simp, by simp⟩, ?_⟩
    · simp only [wBad, wOwn, if_neg k0, if_neg k3, if_pos k5, o9, o5, out_in (m := 16) (n := hd0 ys.tail % 16) (by omega), out_in (m := 48) (n := hd0 ys.tail.tail % 48) (by omega), out_in (m := 16) (n := hd0 (ys.tail.drop 2) % 16) (by omega), out_in (m := 48) (n := hd0 (ys.tail.drop 3) % 48) (by omega)]
      simp
    · simp only [wBytes, wTail, if_neg k0, if_neg k3, if_pos k5]; rfl
  by_cases k6 : hd0 ys % 9 = 6
  · simp only [if_neg k0, if_neg k3, if_neg k5, if_pos k6]
    refine ⟨?_, ⟨hk, hs, by simp, by simp⟩, ?_⟩
    · simp only [wBad, wOwn, if_neg k0, if_neg k3, if_neg k5, if_pos k6, o9, o5, out_in (m := 16) (n := hd0 ys.tail % 16) (by omega), out_in (m := 48) (n := hd0 ys.tail.tail % 48) (by omega)]
      simp
    · simp only [wBytes, wTail, if_neg k0, if_neg k3, if_neg k5, if_pos k6]; rfl
  by_cases k7 : hd0 ys % 9 = 7
  · simp only [if_neg k0, if_neg k3, if_neg k5, if_neg k6, if_pos k7]
    refine ⟨?_, ⟨hk, hs, by simp, by simp⟩, ?_⟩
    · simp only [wBad, wOwn, if_neg k0, if_neg k3, if_neg k5, if_neg k6, if_pos k7, o9, o5, out_in (m := 8) (n := hd0 ys.tail % 8) (by omega)]
      simp
    · simp only [wBytes, wTail, if_neg k0, if_neg k3, if_neg k5, if_neg k6, if_pos k7]; rfl
  simp only [if_neg k0, if_neg k3, if_neg k5, if_neg k6, if_neg k7]
  refine ⟨?_, ⟨hk, hs, by simp, by simp⟩, ?_⟩
  · simp only [wBad, wOwn, if_neg k0, if_neg k3, if_neg k5, if_neg k6, if_neg k7, o9, o5]
    simp
  · simp only [wBytes, wTail, if_neg k0, if_neg k3, if_neg k5, if_neg k6, if_neg k7]; rfl
theorem evs_cons (m : Nat) (b : Int) (t : List Int) : evsP (m + 1) (b :: t) = (evE (b :: t) :: (evsP m ((b :: t).drop (evP (b :: t)).2)).1, (evP (b :: t)).2 + (evsP m ((b :: t).drop (evP (b :: t)).2)).2) := rfl
theorem evs_nil (m : Nat) : evsP m ([] : List Int) = ([], 0) := by cases m <;> rfl
/-- events that were read -/
theorem evs_good : ∀ (m : Nat) (ys : List Int), (∀ x ∈ ys, 0 ≤ x ∧ x ≤ 255) → (∀ e ∈ (evsP m ys).1, wBad e = false ∧ EvR e) ∧ ((evsP m ys).1.flatMap wBytes).length = (evsP m ys).2
  | 0, ys, h => ⟨by simp [evsP], rfl⟩
  | m + 1, [], h => ⟨by simp [evsP], rfl⟩
  | m + 1, b :: t, h => by
    obtain ⟨h1, h2, h3⟩ := ev_good (b :: t) (h b (List.mem_cons_self ..))
    obtain ⟨g1, g2⟩ := evs_good m ((b :: t).drop (evP (b :: t)).2) fun x hx => h x (List.mem_of_mem_drop hx)
    rw [evs_cons]
    refine ⟨fun e he => ?_, ?_⟩
    · rcases List.mem_cons.1 he with rfl | he
      · exact ⟨h1, h2⟩
      · exact g1 e he
    · simp only [List.flatMap_cons, List.length_append, h3, g2]
theorem evs_back : ∀ (evs : List Evt) (m : Nat), evs.length ≤ m → (∀ e ∈ evs, wBad e = false) → evsP m (evs.flatMap wBytes) = (evs, (evs.flatMap wBytes).length)
  | [], m, hl, h => evs_nil m
  | e :: evs, 0, hl, h => by simp at hl
  | e :: evs, m + 1, hl, h => by
    obtain ⟨h1, h2⟩ := ev_back (h e (List.mem_cons_self ..)) (evs.flatMap wBytes)
    have ih := evs_back evs m (by simpa using hl) fun e he => h e (List.mem_cons_of_mem _ he)
    have hc : wBytes e ++ evs.flatMap wBytes = lowB (e.k + 9 * e.s) :: (wTail e ++ evs.flatMap wBytes) := rfl
    rw [List.flatMap_cons]
    rw [hc] at h1 h2 ⊢
    rw [evs_cons, h1, h2, ← hc, List.drop_left' rfl, ih]
    simp
theorem ev_most (ys : List Int) : (evP ys).2 ≤ 66 := by
  have h1 := tlen_lt ys.tail
  have h2 := tlen_lt ys.tail.tail
  unfold evP
  repeat (first | (simp only; omega) | split)
theorem evs_short : ∀ (m : Nat) (ys : List Int), (evsP m ys).2 ≤ ys.length + 65
  | 0, ys => by simp [evsP]
  | m + 1, [] => by simp [evsP]
  | m + 1, b :: t => by
    have h1 := ev_most (b :: t)
    rw [evs_cons]
    simp only
    by_cases hj : (evP (b :: t)).2 ≤ (b :: t).length
    · have ih := evs_short m ((b :: t).drop (evP (b :: t)).2)
      rw [List.length_drop] at ih
      omega
    · rw [List.drop_of_length_le (by omega), evs_nil]
      simp only [List.length_cons] at hj ⊢
      omega
theorem wBytes_range (e : Evt) (he : ∀ x ∈ e.t, x ≤ 255) : ∀ x ∈ wBytes e, 0 ≤ x ∧ x ≤ 255 := by
  have hn : ∀ x ∈ natI e.t, 0 ≤ x ∧ x ≤ 255 := by
    intro x hx
    unfold natI at hx
    rw [List.mem_map] at hx
    obtain ⟨y, hy, rfl⟩ := hx
    have := he y hy
    simp; omega
  intro x hx
  unfold wBytes at hx
  rcases List.mem_cons.1 hx with rfl | hx
  · exact lowB_range _
  unfold wTail at hx
  split at hx
  · rcases List.mem_cons.1 hx with rfl | hx
    · exact lowB_range _
    rcases List.mem_cons.1 hx with rfl | hx
    · exact lowB_range _
    exact hn x hx
  split at hx
  · rcases List.mem_cons.1 hx with rfl | hx
    · exact lowB_range _
    exact hn x hx
  repeat' split at hx
  all_goals simp at hx
  all_goals (rcases hx with rfl | rfl | rfl | rfl <;> exact lowB_range _)
end Go.Proofs.Ytpfmoolpeecobaa
namespace Go.Proofs.Ytpfmoolpeecobaa
open Go Go.Proofs Go.Proofs.Ytpfmoolpeecobaa.Ev
set_option linter.unusedVariables false
set_option linter.unusedSimpArgs false
set_option maxRecDepth 100000
set_option maxHeartbeats 4000000

def toG (q : Int × Int × Int × Int × Int) : SrcG := ⟨q.1 % 2, decide (q.1 / 2 % 2 = 1), q.2⟩
theorem srcF_G (q : Int × Int × Int × Int × Int) : srcF q = srcG (toG q) := rfl
def gsOf (b : Int) : List Int := [b % 2, b / 2 % 2, b / 4 % 2, b / 8 % 2, b / 16 % 2]
theorem gbits32 : ∀ n : Fin 256, lowB (gBits (gsOf (n.val : Int)) 5) = (n.val : Int) % 32 := by decide +kernel
theorem gbits (b : Int) (h : 0 ≤ b ∧ b ≤ 255) : lowB (gBits (gsOf b) 5) = b % 32 := by
  have := gbits32 ⟨b.toNat, by omega⟩
  simp only at this
  rwa [show ((b.toNat : Nat) : Int) = b by omega] at this
theorem srcK256 : ∀ n : Fin 256, srcK (toG ((n.val : Int), 0, 0, 0, 0)) = (n.val : Int) % 4 := by decide +kernel
theorem srcK_eq (k : Int) (q : Int × Int × Int × Int) (h : 0 ≤ k ∧ k ≤ 255) : srcK (toG (k, q)) = k % 4 := by
  have := srcK256 ⟨k.toNat, by omega⟩
  simp only at this
  rwa [show ((k.toNat : Nat) : Int) = k by omega] at this
theorem toG_mod (k : Int) (q : Int × Int × Int × Int) : toG (k % 4, q) = toG (k, q) := by
  unfold toG
  have h1 : k % 4 % 2 = k % 2 := by omega
  have h2 : k % 4 / 2 % 2 = k / 2 % 2 := by omega
  simp only [h1, h2]
theorem hd0_range {bs : List Int} (h : ∀ x ∈ bs, 0 ≤ x ∧ x ≤ 255) : 0 ≤ hd0 bs ∧ hd0 bs ≤ 255 := by
  cases bs with
  | nil => simp [hd0]
  | cons b t => exact h b (List.mem_cons_self ..)
theorem getD_range {bs : List Int} (h : ∀ x ∈ bs, 0 ≤ x ∧ x ≤ 255) (i : Nat) : 0 ≤ hd0 (bs.drop i) ∧ hd0 (bs.drop i) ≤ 255 := hd0_range fun x hx => h x (List.mem_of_mem_drop hx)
/-- what a script of bytes is laid as -/
def srcsOf (bs : List Int) : List SrcG := (suSrcs bs).map toG
def putB (bs : List Int) : List Int := suB (suRows bs) (suCols bs) (suRing bs) (gsOf (suBits bs)) (srcsOf bs) ++ (scEvs bs).flatMap wBytes
theorem srcsOf_len (bs : List Int) : (srcsOf bs).length = suN bs := by simp [srcsOf, suSrcs, srcsP_len]
theorem srcsOf_at (bs : List Int) {i : Nat} (hi : i < suN bs) : (srcsOf bs)[i]? = some (toG (hd0 (bs.tail.tail.tail.tail.tail.drop i), (stripesP (suN bs) 1 (suRows bs - 1) (suCols bs)).getD i (0, 0, 0, 0))) := by
  simp [srcsOf, suSrcs, srcsP, hi]
theorem text_range (ys : List Int) (hy : ∀ x ∈ ys, 0 ≤ x ∧ x ≤ 255) : ∀ x ∈ textP ys, x ≤ 255 := by
  intro x hx
  unfold textP at hx
  rw [List.mem_map] at hx
  obtain ⟨z, hz, rfl⟩ := hx
  have := takeZ_range (fun x hx => hy x (List.mem_of_mem_tail hx)) _ z hz
  omega
theorem back_short (bs : List Int) : scN bs ≤ max 9 (min (scN bs) bs.length) + 70 := by
  have hn := suN_range (bs := bs)
  have h1 := evs_short 40 (bs.drop (5 + suN bs))
  rw [List.length_drop] at h1
  by_cases hb : bs.length ≤ 5 + suN bs
  · have : bs.drop (5 + suN bs) = [] := List.drop_of_length_le hb
    have h2 : scN bs = 5 + suN bs := by unfold scN; rw [this, evs_nil]; simp
    omega
  · have : scN bs = 5 + suN bs + (evsP 40 (bs.drop (5 + suN bs))).2 := rfl
    omega
section
variable {bs : List Int} (h : ∀ x ∈ bs, 0 ≤ x ∧ x ≤ 255)
include h
theorem bits_range : 0 ≤ suBits bs ∧ suBits bs ≤ 255 := hd0_range fun x hx => h x (List.mem_of_mem_tail (List.mem_of_mem_tail (List.mem_of_mem_tail hx)))
theorem back_good : (suBadG (suRows bs) (suCols bs) (suRing bs) (gsOf (suBits bs)) (srcsOf bs) (stripesP (suN bs) 1 (suRows bs - 1) (suCols bs)) || decide (40 < (scEvs bs).length)) = false := by
  have hn := suN_range (bs := bs)
  have hb := bits_range h
  have h40 : (scEvs bs).length ≤ 40 := evs_le _ _
  have hsl := srcsOf_len bs
  have hpl := stripes_len (suN bs) 1 (suRows bs - 1) (suCols bs)
  have hs : ∀ i, i ≤ suN bs → sBads (stripesP (suN bs) 1 (suRows bs - 1) (suCols bs)) (srcsOf bs) i = false := by
    intro i
    induction i with
    | zero => intro _; rfl
    | succ i ih =>
      intro hi
      rw [sBads_succ (srcsOf_at bs (by omega)), ih (by omega)]
      have hp : (stripesP (suN bs) 1 (suRows bs - 1) (suCols bs))[i]? = some ((stripesP (suN bs) 1 (suRows bs - 1) (suCols bs)).getD i (0, 0, 0, 0)) := by
        rw [List.getD_eq_getElem?_getD, List.getElem?_eq_getElem (by omega)]; rfl
      unfold sBad toG
      rw [hp]
      simp
      omega
  unfold suBadG
  rw [hsl, hs _ (Nat.le_refl _)]
  have g1 : gBad (gsOf (suBits bs)) 5 = false := by
    unfold gBad gsOf
    simp
    omega
  have g2 : out 11 (suRows bs - 2) = false := out_in (by unfold suRows; omega)
  have g3 : out 40 (suCols bs - 1) = false := out_in (by unfold suCols; omega)
  have g4 : out 8 (suRing bs) = false := out_in (by unfold suRing; omega)
  have g5 : out (if (if 0 < suRows bs - 1 then suRows bs - 1 else 0) < 4 then (if 0 < suRows bs - 1 then suRows bs - 1 else 0) else 4) (((suN bs : Nat) : Int) - 1) = false := by
    refine out_in ⟨by omega, ?_⟩
    repeat' split
    all_goals omega
  rw [g1, g2, g3, g4, g5]
  simp
  omega
theorem back_evs : ∀ e ∈ scEvs bs, wBad e = false ∧ EvR e := (evs_good 40 _ fun x hx => h x (List.mem_of_mem_drop hx)).1
theorem back_len : (putB bs).length = scN bs := by
  have h2 : ((scEvs bs).flatMap wBytes).length = (evsP 40 (bs.drop (5 + suN bs))).2 := (evs_good 40 (bs.drop (5 + suN bs)) fun x hx => h x (List.mem_of_mem_drop hx)).2
  unfold putB suB
  rw [List.length_append, h2]
  simp [srcsOf_len, scN]
  omega
theorem back_su : suRows (putB bs) = suRows bs ∧ suCols (putB bs) = suCols bs ∧ suN (putB bs) = suN bs ∧ suBits (putB bs) = suBits bs % 32 ∧ suRing (putB bs) = suRing bs := by
  have hn := suN_range (bs := bs)
  have hb := bits_range h
  have e1 : suRows (putB bs) = suRows bs := by
    have : lowB (suRows bs - 2) = suRows bs - 2 := lowB_id (by unfold suRows; omega)
    show 2 + lowB (suRows bs - 2) % 11 = _
    rw [this]; unfold suRows; omega
  have e2 : suCols (putB bs) = suCols bs := by
    have : lowB (suCols bs - 1) = suCols bs - 1 := lowB_id (by unfold suCols; omega)
    show 1 + lowB (suCols bs - 1) % 40 = _
    rw [this]; unfold suCols; omega
  have e3 : suN (putB bs) = suN bs := by
    have : lowB (((srcsOf bs).length : Int) - 1) = ((suN bs : Nat) : Int) - 1 := by rw [srcsOf_len]; exact lowB_id (by omega)
    show (min (1 + lowB (((srcsOf bs).length : Int) - 1) % 4) (suRows (putB bs) - 1)).toNat = suN bs
    rw [this, e1]
    omega
  refine ⟨e1, e2, e3, ?_, ?_⟩
  · show lowB (gBits (gsOf (suBits bs)) 5) = _
    exact gbits _ hb
  · have : lowB (suRing bs) = suRing bs := lowB_id (by unfold suRing; omega)
    show lowB (suRing bs) % 8 = _
    rw [this]; unfold suRing; omega
theorem back_srcs : srcsOf (putB bs) = srcsOf bs := by
  obtain ⟨e1, e2, e3, e4, e5⟩ := back_su h
  refine List.ext_getElem? fun i => ?_
  by_cases hi : i < suN bs
  · rw [srcsOf_at bs hi, srcsOf_at (putB bs) (by rw [e3]; exact hi), e1, e2, e3]
    congr 1
    have ht : (putB bs).tail.tail.tail.tail.tail = (srcsOf bs).map srcK ++ (scEvs bs).flatMap wBytes := rfl
    rw [ht]
    have hx := srcsOf_at bs hi
    have hhd : hd0 (((srcsOf bs).map srcK ++ (scEvs bs).flatMap wBytes).drop i) = hd0 (bs.tail.tail.tail.tail.tail.drop i) % 4 := by
      have hlt : i < ((srcsOf bs).map srcK).length := by simp [srcsOf_len]; exact hi
      rw [List.drop_append_of_le_length (by omega), List.drop_eq_getElem_cons hlt]
      show ((srcsOf bs).map srcK)[i] = _
      have hy : ((srcsOf bs).map srcK)[i]? = some (srcK (toG (hd0 (bs.tail.tail.tail.tail.tail.drop i), (stripesP (suN bs) 1 (suRows bs - 1) (suCols bs)).getD i (0, 0, 0, 0)))) := by rw [List.getElem?_map, hx]; rfl
      rw [List.getElem?_eq_getElem hlt] at hy
      injection hy with hy
      rw [hy, srcK_eq _ _ (getD_range (fun x hx => h x (List.mem_of_mem_tail (List.mem_of_mem_tail (List.mem_of_mem_tail (List.mem_of_mem_tail (List.mem_of_mem_tail hx)))))) i)]
    rw [hhd, toG_mod]
  · rw [List.getElem?_eq_none (by rw [srcsOf_len, e3]; omega), List.getElem?_eq_none (by rw [srcsOf_len]; omega)]
theorem back_scEvs : scEvs (putB bs) = scEvs bs ∧ scN (putB bs) = (putB bs).length := by
  obtain ⟨e1, e2, e3, e4, e5⟩ := back_su h
  have hl : (suB (suRows bs) (suCols bs) (suRing bs) (gsOf (suBits bs)) (srcsOf bs)).length = 5 + suN bs := by simp [suB, srcsOf_len]; omega
  have hd : (putB bs).drop (5 + suN (putB bs)) = (scEvs bs).flatMap wBytes := by
    rw [e3]; unfold putB
    exact List.drop_left' hl
  have hb := evs_back (scEvs bs) 40 (evs_le _ _) fun e he => (back_evs h e he).1
  refine ⟨?_, ?_⟩
  · unfold scEvs at hb ⊢
    rw [hd]
    unfold scEvs
    rw [hb]
  · unfold scN
    rw [hd, hb, e3]
    simp only
    unfold putB
    rw [List.length_append, hl]
theorem back_range : ∀ x ∈ putB bs, 0 ≤ x ∧ x ≤ 255 := by
  have he : ∀ (ys : List Int), (∀ x ∈ ys, 0 ≤ x ∧ x ≤ 255) → ∀ x ∈ (evE ys).t, x ≤ 255 := by
    intro ys hy
    have ht := text_range ys.tail fun x hx => hy x (List.mem_of_mem_tail hx)
    have ht2 := text_range ys.tail.tail fun x hx => hy x (List.mem_of_mem_tail (List.mem_of_mem_tail hx))
    unfold evE
    repeat' split
    all_goals first | exact ht | exact ht2 | (intro x hx; simp at hx)
  have hes : ∀ (m : Nat) (ys : List Int), (∀ x ∈ ys, 0 ≤ x ∧ x ≤ 255) → ∀ e ∈ (evsP m ys).1, ∀ x ∈ e.t, x ≤ 255 := by
    intro m
    induction m with
    | zero => intro ys hy e hm; simp [evsP] at hm
    | succ m ih =>
      intro ys hy e hm
      cases ys with
      | nil => simp [evsP] at hm
      | cons b t =>
        rw [evs_cons] at hm
        rcases List.mem_cons.1 hm with rfl | hm
        · exact he _ hy
        · exact ih _ (fun x hx => hy x (List.mem_of_mem_drop hx)) e hm
  intro x hx
  unfold putB suB at hx
  simp only [List.mem_append, List.mem_cons, List.not_mem_nil, or_false, List.mem_map, List.mem_flatMap] at hx
  rcases hx with (hx | ⟨g, hg, rfl⟩) | ⟨e, hee, hx⟩
  · rcases hx with rfl | rfl | rfl | rfl | rfl <;> exact lowB_range _
  · unfold srcsOf at hg
    rw [List.mem_map] at hg
    obtain ⟨q, hq, rfl⟩ := hg
    unfold suSrcs srcsP at hq
    rw [List.mem_map] at hq
    obtain ⟨i, _, rfl⟩ := hq
    rw [srcK_eq _ _ (getD_range (fun x hx => h x (List.mem_of_mem_tail (List.mem_of_mem_tail (List.mem_of_mem_tail (List.mem_of_mem_tail (List.mem_of_mem_tail hx)))))) i)]
    omega
  · exact wBytes_range e (hes 40 _ (fun x hx => h x (List.mem_of_mem_drop hx)) e hee) x hx
end
end Go.Proofs.Ytpfmoolpeecobaa
