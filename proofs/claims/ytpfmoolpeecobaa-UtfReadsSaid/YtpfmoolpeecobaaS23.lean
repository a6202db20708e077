/- Plain laws of the document and of decoding. -/
import Derived.Test.YtpfmoolpeecobaaS22
namespace Go.Proofs.Ytpfmoolpeecobaa
open Go Go.Proofs Go.Proofs.Ytpfmoolpeecobaa.Ev
set_option linter.unusedVariables false
set_option linter.unusedSimpArgs false
set_option maxHeartbeats 4000000
set_option maxRecDepth 100000

/-- how many of the first bytes of a text fit ranges -/
def fitsN : List Nat → List (Nat × Nat) → Nat
  | b :: s, q :: r => if q.1 ≤ b ∧ b ≤ q.2 then fitsN s r + 1 else 0
  | _, _ => 0
theorem fitsN_le : ∀ (s : List Nat) (r : List (Nat × Nat)), fitsN s r ≤ s.length ∧ fitsN s r ≤ r.length
  | [], r => by simp [fitsN]
  | b :: s, [] => by simp [fitsN]
  | b :: s, q :: r => by
    have := fitsN_le s r
    simp only [fitsN, List.length_cons]
    split <;> omega
def rowsP : List (List (Nat × Nat)) :=
  [[(0, 127)], [(194, 223), (128, 191)], [(224, 224), (160, 191), (128, 191)], [(225, 236), (128, 191), (128, 191)], [(237, 237), (128, 159), (128, 191)], [(238, 239), (128, 191), (128, 191)],
   [(240, 240), (144, 191), (128, 191), (128, 191)], [(241, 243), (128, 191), (128, 191), (128, 191)], [(244, 244), (128, 143), (128, 191), (128, 191)]]
/-- the rune of a sequence -/
def valueP : List Nat → Int
  | [a] => (a : Int) % 128
  | [a, b] => (a : Int) % 32 * 64 + (b : Int) % 64
  | [a, b, c] => ((a : Int) % 16 * 64 + (b : Int) % 64) * 64 + (c : Int) % 64
  | [a, b, c, e] => (((a : Int) % 8 * 64 + (b : Int) % 64) * 64 + (c : Int) % 64) * 64 + (e : Int) % 64
  | _ => 0
def oneL (s : List Nat) : List (List (Nat × Nat)) → Nat → Bool → Int × Nat × Bool
  | [], longest, op => (65533, longest, op)
  | row :: l, longest, op => if fitsN s row = row.length then (valueP (s.take (fitsN s row)), fitsN s row, false)
    else if 0 < fitsN s row then oneL s l (max longest (fitsN s row)) (op || decide (fitsN s row = s.length)) else oneL s l longest op
/-- what stands at the beginning of a text -/
def oneP (s : List Nat) : Int × Nat × Bool := oneL s rowsP 1 false

def pairsOf (b : Nat) : Option (List (Nat × Nat)) :=
  if b < 128 then some [] else if b < 194 then none else if b < 224 then some [(128, 191)] else if b = 224 then some [(160, 191), (128, 191)] else if b = 237 then some [(128, 159), (128, 191)]
  else if b < 240 then some [(128, 191), (128, 191)] else if b = 240 then some [(144, 191), (128, 191), (128, 191)] else if b = 244 then some [(128, 143), (128, 191), (128, 191)]
  else if b < 244 then some [(128, 191), (128, 191), (128, 191)] else none
def onePairs (b : Nat) (t : List Nat) : Option (List (Nat × Nat)) → Int × Nat × Bool
  | none => (65533, 1, false)
  | some ps => if fitsN t ps = ps.length then (valueP ((b :: t).take (fitsN t ps + 1)), fitsN t ps + 1, false) else (65533, fitsN t ps + 1, decide (fitsN t ps = t.length))

theorem oneL_miss {s : List Nat} {row : List (Nat × Nat)} {l : List (List (Nat × Nat))} {n : Nat} {op : Bool} (h : fitsN s row = 0) (hr : row ≠ []) : oneL s (row :: l) n op = oneL s l n op := by
  have : row.length ≠ 0 := fun e => hr (List.length_eq_zero_iff.1 e)
  simp only [oneL, h]
  rw [if_neg (by omega), if_neg (by omega)]
theorem oneL_none {s : List Nat} : ∀ {l : List (List (Nat × Nat))} {n : Nat} {op : Bool}, (∀ row ∈ l, fitsN s row = 0 ∧ row ≠ []) → oneL s l n op = (65533, n, op)
  | [], n, op, h => rfl
  | row :: l, n, op, h => by
    rw [oneL_miss (h row (List.mem_cons_self ..)).1 (h row (List.mem_cons_self ..)).2]
    exact oneL_none fun r hr => h r (List.mem_cons_of_mem _ hr)
theorem oneL_hit {b : Nat} {t : List Nat} {q : Nat × Nat} {ps : List (Nat × Nat)} {l : List (List (Nat × Nat))} (hq : q.1 ≤ b ∧ b ≤ q.2) (hl : ∀ row ∈ l, fitsN (b :: t) row = 0 ∧ row ≠ []) :
    oneL (b :: t) ((q :: ps) :: l) 1 false = onePairs b t (some ps) := by
  have hf : fitsN (b :: t) (q :: ps) = fitsN t ps + 1 := by simp [fitsN, hq]
  simp only [oneL, hf, onePairs, List.length_cons]
  by_cases h : fitsN t ps = ps.length
  · rw [if_pos (by omega), if_pos h]
  · rw [if_neg (by omega), if_neg h, if_pos (by omega), oneL_none hl]
    have : max 1 (fitsN t ps + 1) = fitsN t ps + 1 := by omega
    simp [this]
theorem fits_miss {b : Nat} {t : List Nat} {q : Nat × Nat} {ps : List (Nat × Nat)} (hq : ¬ (q.1 ≤ b ∧ b ≤ q.2)) : fitsN (b :: t) (q :: ps) = 0 := by simp [fitsN, hq]

theorem one_eq (b : Nat) (t : List Nat) : oneP (b :: t) = onePairs b t (pairsOf b) := by
  unfold oneP rowsP
  have M : ∀ {q : Nat × Nat} {ps : List (Nat × Nat)}, ¬ (q.1 ≤ b ∧ b ≤ q.2) → fitsN (b :: t) (q :: ps) = 0 ∧ (q :: ps) ≠ [] := fun h => ⟨fits_miss h, by simp⟩
  by_cases c0 : b < 128
  · rw [oneL_hit (by simp only; omega) (by intro row hr; simp only [List.mem_cons, List.not_mem_nil, or_false] at hr; rcases hr with rfl | rfl | rfl | rfl | rfl | rfl | rfl | rfl <;> exact M (by simp only; omega))]
    simp [pairsOf, c0]
  rw [oneL_miss (M (by simp only; omega)).1 (by simp)]
  by_cases c1 : b < 194
  · rw [oneL_none (by intro row hr; simp only [List.mem_cons, List.not_mem_nil, or_false] at hr; rcases hr with rfl | rfl | rfl | rfl | rfl | rfl | rfl | rfl <;> exact M (by simp only; omega))]
    simp [pairsOf, c0, c1, onePairs]
  by_cases c2 : b < 224
  · rw [oneL_hit (by simp only; omega) (by intro row hr; simp only [List.mem_cons, List.not_mem_nil, or_false] at hr; rcases hr with rfl | rfl | rfl | rfl | rfl | rfl | rfl <;> exact M (by simp only; omega))]
    simp [pairsOf, c0, c1, c2]
  rw [oneL_miss (M (by simp only; omega)).1 (by simp)]
  by_cases c3 : b = 224
  · rw [oneL_hit (by simp only; omega) (by intro row hr; simp only [List.mem_cons, List.not_mem_nil, or_false] at hr; rcases hr with rfl | rfl | rfl | rfl | rfl | rfl <;> exact M (by simp only; omega))]
    simp [pairsOf, c0, c1, c2, c3]
  rw [oneL_miss (M (by simp only; omega)).1 (by simp)]
  by_cases c4 : b < 237
  · rw [oneL_hit (by simp only; omega) (by intro row hr; simp only [List.mem_cons, List.not_mem_nil, or_false] at hr; rcases hr with rfl | rfl | rfl | rfl | rfl <;> exact M (by simp only; omega))]
    have e1 : b ≠ 237 := by omega
    have e2 : b < 240 := by omega
    simp [pairsOf, c0, c1, c2, c3, e1, e2]
  rw [oneL_miss (M (by simp only; omega)).1 (by simp)]
  by_cases c5 : b = 237
  · rw [oneL_hit (by simp only; omega) (by intro row hr; simp only [List.mem_cons, List.not_mem_nil, or_false] at hr; rcases hr with rfl | rfl | rfl | rfl <;> exact M (by simp only; omega))]
    simp [pairsOf, c0, c1, c2, c3, c5]
  rw [oneL_miss (M (by simp only; omega)).1 (by simp)]
  by_cases c6 : b < 240
  · rw [oneL_hit (by simp only; omega) (by intro row hr; simp only [List.mem_cons, List.not_mem_nil, or_false] at hr; rcases hr with rfl | rfl | rfl <;> exact M (by simp only; omega))]
    simp [pairsOf, c0, c1, c2, c3, c5, c6]
  rw [oneL_miss (M (by simp only; omega)).1 (by simp)]
  by_cases c7 : b = 240
  · rw [oneL_hit (by simp only; omega) (by intro row hr; simp only [List.mem_cons, List.not_mem_nil, or_false] at hr; rcases hr with rfl | rfl <;> exact M (by simp only; omega))]
    simp [pairsOf, c0, c1, c2, c3, c5, c6, c7]
  rw [oneL_miss (M (by simp only; omega)).1 (by simp)]
  by_cases c8 : b < 244
  · rw [oneL_hit (by simp only; omega) (by intro row hr; simp only [List.mem_cons, List.not_mem_nil, or_false] at hr; rcases hr with rfl; exact M (by simp only; omega))]
    have e1 : b ≠ 244 := by omega
    simp [pairsOf, c0, c1, c2, c3, c5, c6, c7, c8, e1]
  rw [oneL_miss (M (by simp only; omega)).1 (by simp)]
  by_cases c9 : b = 244
  · rw [oneL_hit (by simp only; omega) (by simp)]
    simp [pairsOf, c0, c1, c2, c3, c5, c6, c7, c9]
  rw [oneL_miss (M (by simp only; omega)).1 (by simp)]
  simp [pairsOf, c0, c1, c2, c3, c5, c6, c7, c8, c9, oneL, onePairs]

theorem runD_cons (d : Dec) (o : List Int) (b : Nat) (s : List Nat) : runD (d, o) (b :: s) = runD ((pushD d b).1, o ++ (pushD d b).2) s := rfl
theorem push_in {d : Dec} {b : Int} (hz : d ≠ .zero) (h : d.lo ≤ b ∧ b ≤ d.hi) (hc : 0 ≤ d.c ∧ d.c < 32768) (hl : 1 ≤ d.left ∧ d.left ≤ 3) (hg : 0 ≤ d.got ∧ d.got ≤ 4) :
    pushD d b = if d.left = 1 then (.zero, [d.c * 64 + b % 64]) else (⟨d.c * 64 + b % 64, d.left - 1, d.got + 1, 128, 191⟩, []) := by
  unfold pushD
  rw [if_neg hz, if_neg (by omega), u8w (by omega), u8w (by omega), more_bits hc (by omega)]
  by_cases h1 : d.left = 1
  · rw [if_pos (by omega), if_pos h1]
  · rw [if_neg (by omega), if_neg h1]
theorem push_out {d : Dec} {b : Int} (hz : d ≠ .zero) (h : b < d.lo ∨ d.hi < b) : pushD d b = ((beginD b).1, 65533 :: (beginD b).2) := by
  unfold pushD
  rw [if_neg hz, if_pos h]
theorem push_zero (b : Int) : pushD .zero b = beginD b := by simp [pushD]
/-- begun anew, with a rune ahead -/
theorem run_anew (x : Int) (b : Nat) (s : List Nat) : runD ((beginD b).1, x :: (beginD b).2) s = runD (.zero, [x]) (b :: s) := by
  rw [runD_cons, push_zero]; rfl

/-- what a decoder does that has so many bytes to come -/
structure After (d : Dec) (t : List Nat) (ps : List (Nat × Nat)) (r : Int) : Prop where
  all : fitsN t ps = ps.length → runD (d, []) t = runD (.zero, [r]) (t.drop ps.length)
  some : fitsN t ps ≠ ps.length → fitsN t ps ≠ t.length → runD (d, []) t = runD (.zero, [65533]) (t.drop (fitsN t ps))
  held : fitsN t ps ≠ ps.length → fitsN t ps = t.length → ∃ d', runD (d, []) t = (d', []) ∧ d'.got = d.got + t.length

theorem after1 (d : Dec) (t : List Nat) (q : Nat × Nat) (h1 : (q.1 : Int) = d.lo) (h2 : (q.2 : Int) = d.hi) (hl : d.left = 1) (hg : 1 ≤ d.got ∧ d.got ≤ 3) (hc : 0 ≤ d.c ∧ d.c < 32768) :
    After d t [q] (d.c * 64 + (t.headD 0 : Int) % 64) := by
  have hz : d ≠ .zero := fun h => by rw [h] at hl; simp [Dec.zero] at hl
  cases t with
  | nil => exact ⟨by simp [fitsN], by simp [fitsN], fun _ _ => ⟨d, rfl, by simp⟩⟩
  | cons c u =>
    by_cases hf : q.1 ≤ c ∧ c ≤ q.2
    · have e : fitsN (c :: u) [q] = 1 := by
        simp [fitsN, hf]
      have hp := push_in (d := d) (b := c) hz (by omega) hc (by omega) (by omega)
      rw [if_pos hl] at hp
      refine ⟨fun _ => ?_, fun h => absurd e h, fun h => absurd e h⟩
      rw [runD_cons, hp]
      rfl
    · have e : fitsN (c :: u) [q] = 0 := by simp [fitsN, hf]
      have hp := push_out (d := d) (b := c) hz (by omega)
      refine ⟨fun h => (by rw [e] at h; cases h), fun _ _ => ?_, fun _ h => (by rw [e] at h; cases h)⟩
      rw [runD_cons, hp, e]
      exact run_anew _ _ _
theorem after2 (d : Dec) (t : List Nat) (q : Nat × Nat) (h1 : (q.1 : Int) = d.lo) (h2 : (q.2 : Int) = d.hi) (hl : d.left = 2) (hg : 1 ≤ d.got ∧ d.got ≤ 2) (hc : 0 ≤ d.c ∧ d.c < 512) :
    After d t [q, (128, 191)] ((d.c * 64 + (t.headD 0 : Int) % 64) * 64 + (t.tail.headD 0 : Int) % 64) := by
  have hz : d ≠ .zero := fun h => by rw [h] at hl; simp [Dec.zero] at hl
  cases t with
  | nil => exact ⟨by simp [fitsN], by simp [fitsN], fun _ _ => ⟨d, rfl, by simp⟩⟩
  | cons c u =>
    by_cases hf : q.1 ≤ c ∧ c ≤ q.2
    · have e : fitsN (c :: u) [q, (128, 191)] = fitsN u [(128, 191)] + 1 := by
        simp [fitsN, hf]
      have hp := push_in (d := d) (b := c) hz (by omega) (by omega) (by omega) (by omega)
      rw [if_neg (by omega)] at hp
      obtain ⟨g1, g2, g3⟩ := after1 ⟨d.c * 64 + (c : Int) % 64, d.left - 1, d.got + 1, 128, 191⟩ u (128, 191) rfl rfl (by simp only; omega) (by simp only; omega) (by simp only; omega)
      have hr : runD (d, []) (c :: u) = runD (⟨d.c * 64 + (c : Int) % 64, d.left - 1, d.got + 1, 128, 191⟩, []) u := by
        rw [runD_cons, hp]; rfl
      refine ⟨fun h => ?_, fun h h' => ?_, fun h h' => ?_⟩
      · rw [hr, g1 (by rw [e] at h; simpa using h)]
        simp
      · rw [hr, g2 (by rw [e] at h; simpa using h) (by rw [e] at h'; simpa using h'), e]
        simp
      · obtain ⟨d', k1, k2⟩ := g3 (by rw [e] at h; simpa using h) (by rw [e] at h'; simpa using h')
        refine ⟨d', by rw [hr, k1], ?_⟩
        rw [k2]; simp only [List.length_cons]; omega
    · have e : fitsN (c :: u) [q, (128, 191)] = 0 := by simp [fitsN, hf]
      have hp := push_out (d := d) (b := c) hz (by omega)
      refine ⟨fun h => (by rw [e] at h; cases h), fun _ _ => ?_, fun _ h => (by rw [e] at h; cases h)⟩
      rw [runD_cons, hp, e]
      exact run_anew _ _ _
theorem after3 (d : Dec) (t : List Nat) (q : Nat × Nat) (h1 : (q.1 : Int) = d.lo) (h2 : (q.2 : Int) = d.hi) (hl : d.left = 3) (hg : d.got = 1) (hc : 0 ≤ d.c ∧ d.c < 8) :
    After d t [q, (128, 191), (128, 191)] (((d.c * 64 + (t.headD 0 : Int) % 64) * 64 + (t.tail.headD 0 : Int) % 64) * 64 + (t.tail.tail.headD 0 : Int) % 64) := by
  have hz : d ≠ .zero := fun h => by rw [h] at hl; simp [Dec.zero] at hl
  cases t with
  | nil => exact ⟨by simp [fitsN], by simp [fitsN], fun _ _ => ⟨d, rfl, by simp⟩⟩
  | cons c u =>
    by_cases hf : q.1 ≤ c ∧ c ≤ q.2
    · have e : fitsN (c :: u) [q, (128, 191), (128, 191)] = fitsN u [(128, 191), (128, 191)] + 1 := by
        simp [fitsN, hf]
      have hp := push_in (d := d) (b := c) hz (by omega) (by omega) (by omega) (by omega)
      rw [if_neg (by omega)] at hp
      obtain ⟨g1, g2, g3⟩ := after2 ⟨d.c * 64 + (c : Int) % 64, d.left - 1, d.got + 1, 128, 191⟩ u (128, 191) rfl rfl (by simp only; omega) (by simp only; omega) (by simp only; omega)
      have hr : runD (d, []) (c :: u) = runD (⟨d.c * 64 + (c : Int) % 64, d.left - 1, d.got + 1, 128, 191⟩, []) u := by
        rw [runD_cons, hp]; rfl
      refine ⟨fun h => ?_, fun h h' => ?_, fun h h' => ?_⟩
      · rw [hr, g1 (by rw [e] at h; simpa using h)]
        simp
      · rw [hr, g2 (by rw [e] at h; simpa using h) (by rw [e] at h'; simpa using h'), e]
        simp
      · obtain ⟨d', k1, k2⟩ := g3 (by rw [e] at h; simpa using h) (by rw [e] at h'; simpa using h')
        refine ⟨d', by rw [hr, k1], ?_⟩
        rw [k2]; simp only [List.length_cons]; omega
    · have e : fitsN (c :: u) [q, (128, 191), (128, 191)] = 0 := by simp [fitsN, hf]
      have hp := push_out (d := d) (b := c) hz (by omega)
      refine ⟨fun h => (by rw [e] at h; cases h), fun _ _ => ?_, fun _ h => (by rw [e] at h; cases h)⟩
      rw [runD_cons, hp, e]
      exact run_anew _ _ _

/-- what One tells is what the decoder does -/
structure Tells (b : Nat) (t : List Nat) (q : Int × Nat × Bool) : Prop where
  most : 1 ≤ q.2.1 ∧ q.2.1 ≤ t.length + 1
  shut : q.2.2 = false → runD (.zero, []) (b :: t) = runD (.zero, [q.1]) ((b :: t).drop q.2.1)
  opn : q.2.2 = true → q.2.1 = t.length + 1 ∧ q.1 = 65533 ∧ ∃ d, runD (.zero, []) (b :: t) = (d, []) ∧ d.got = (t.length + 1 : Nat)
theorem tells_after {b : Nat} {t : List Nat} {d : Dec} {ps : List (Nat × Nat)} {r : Int} (hb : beginD b = (d, [])) (hd : d.got = 1) (h : After d t ps r) (hr : fitsN t ps = ps.length → valueP ((b :: t).take (ps.length + 1)) = r) : Tells b t (onePairs b t (some ps)) := by
  have hle := fitsN_le t ps
  have hrun : runD (.zero, []) (b :: t) = runD (d, []) t := by rw [runD_cons, push_zero, hb]; rfl
  unfold onePairs
  by_cases h1 : fitsN t ps = ps.length
  · simp only [h1, if_true]
    refine ⟨by simp only; omega, fun _ => ?_, fun h => by cases h⟩
    rw [hrun, h.all h1, hr h1]
    simp
  · simp only [h1, if_false]
    refine ⟨by simp only; omega, fun h2 => ?_, fun h2 => ?_⟩
    · rw [hrun, h.some h1 (by simpa using h2)]
      simp
    · have h3 : fitsN t ps = t.length := by simpa using h2
      obtain ⟨d', k1, k2⟩ := h.held h1 h3
      refine ⟨by simp only; omega, rfl, d', by rw [hrun, k1], ?_⟩
      rw [k2, hd]; omega
theorem one_tells (b : Nat) (t : List Nat) (hb : b < 256) : Tells b t (oneP (b :: t)) := by
  rw [one_eq]
  have hs := second_cases b
  unfold pairsOf
  by_cases c0 : b < 128
  · rw [if_pos c0]
    have e : (b : Int) < 128 := by omega
    have e2 : (b : Int) % 128 = b := by omega
    refine ⟨by simp [onePairs, fitsN], fun _ => ?_, fun h => by simp [onePairs, fitsN] at h⟩
    simp [onePairs, fitsN, runD_cons, push_zero, beginD, e, valueP, e2]
  rw [if_neg c0]
  by_cases c1 : b < 194
  · rw [if_pos c1]
    have e : ¬ (b : Int) < 128 := by omega
    have e1 : (b : Int) < 194 ∨ 244 < (b : Int) := by omega
    refine ⟨by simp [onePairs], fun _ => ?_, fun h => by simp [onePairs] at h⟩
    simp [onePairs, runD_cons, push_zero, beginD, e, e1]
  rw [if_neg c1]
  by_cases c2 : b < 224
  · rw [if_pos c2]
    have hbg : beginD b = (⟨(b : Int) % 32, 1, 1, 128, 191⟩, []) := by
      unfold beginD
      rw [if_neg (by omega), if_neg (by omega), if_pos (by omega)]
      congr 2 <;> omega
    refine tells_after hbg rfl (after1 _ t (128, 191) rfl rfl rfl (by simp) (by simp only; omega)) ?_
    intro hf
    cases t with
    | nil => simp [fitsN] at hf
    | cons c u => simp [valueP]
  rw [if_neg c2]
  have three : ∀ lo hi : Nat, b < 240 → secondL b = lo → secondH b = hi → Tells b t (onePairs b t (some [(lo, hi), (128, 191)])) := by
    intro lo hi hlt hlo hhi
    have hbg : beginD b = (⟨(b : Int) % 16, 2, 1, lo, hi⟩, []) := by
      unfold beginD
      rw [if_neg (by omega), if_neg (by omega), if_neg (by omega), if_pos (by omega), hlo, hhi]
    refine tells_after hbg rfl (after2 _ t (lo, hi) rfl rfl rfl (by simp) (by simp only; omega)) ?_
    intro hf
    match t, hf with
    | [], hf => simp [fitsN] at hf
    | [c], hf => have := (fitsN_le [c] [(lo, hi), (128, 191)]).1; rw [hf] at this; simp at this
    | c :: e :: u, hf => simp [valueP]
  have four : ∀ lo hi : Nat, 240 ≤ b → b ≤ 244 → secondL b = lo → secondH b = hi → Tells b t (onePairs b t (some [(lo, hi), (128, 191), (128, 191)])) := by
    intro lo hi hge hle hlo hhi
    have hbg : beginD b = (⟨(b : Int) % 8, 3, 1, lo, hi⟩, []) := by
      unfold beginD
      rw [if_neg (by omega), if_neg (by omega), if_neg (by omega), if_neg (by omega), hlo, hhi]
    refine tells_after hbg rfl (after3 _ t (lo, hi) rfl rfl rfl (by simp) (by simp only; omega)) ?_
    intro hf
    match t, hf with
    | [], hf => simp [fitsN] at hf
    | [c], hf => have := (fitsN_le [c] [(lo, hi), (128, 191), (128, 191)]).1; rw [hf] at this; simp at this
    | [c, e], hf => have := (fitsN_le [c, e] [(lo, hi), (128, 191), (128, 191)]).1; rw [hf] at this; simp at this
    | c :: e :: f :: u, hf => simp [valueP]
  by_cases c3 : b = 224
  · rw [if_pos c3]; exact three 160 191 (by omega) (by omega) (by omega)
  rw [if_neg c3]
  by_cases c4 : b = 237
  · rw [if_pos c4]; exact three 128 159 (by omega) (by omega) (by omega)
  rw [if_neg c4]
  by_cases c5 : b < 240
  · rw [if_pos c5]; exact three 128 191 (by omega) (by omega) (by omega)
  rw [if_neg c5]
  by_cases c6 : b = 240
  · rw [if_pos c6]; exact four 144 191 (by omega) (by omega) (by omega) (by omega)
  rw [if_neg c6]
  by_cases c7 : b = 244
  · rw [if_pos c7]; exact four 128 143 (by omega) (by omega) (by omega) (by omega)
  rw [if_neg c7]
  by_cases c8 : b < 244
  · rw [if_pos c8]; exact four 128 191 (by omega) (by omega) (by omega) (by omega)
  rw [if_neg c8]
  have e : ¬ (b : Int) < 128 := by omega
  have e1 : (b : Int) < 194 ∨ 244 < (b : Int) := by omega
  refine ⟨by simp [onePairs], fun _ => ?_, fun h => by simp [onePairs] at h⟩
  simp [onePairs, runD_cons, push_zero, beginD, e, e1]

theorem decodeP_nil : decodeP [] = [] := rfl
/-- a text's runes: the first one, and those of the rest -/
theorem decode_first (b : Nat) (t : List Nat) (hb : b < 256) : decodeP (b :: t) = (oneP (b :: t)).1 :: decodeP ((b :: t).drop (oneP (b :: t)).2.1) := by
  have h := one_tells b t hb
  cases ho : (oneP (b :: t)).2.2 with
  | false =>
    have := h.shut ho
    have h2 := runD_pre [(oneP (b :: t)).1] ((b :: t).drop (oneP (b :: t)).2.1) .zero []
    simp only [List.append_nil] at h2
    simp only [decodeP, this, h2]
    rfl
  | true =>
    obtain ⟨h1, h2, d, h3, h4⟩ := h.opn ho
    rw [h1, List.drop_of_length_le (by simp), decodeP_nil, h2]
    simp only [decodeP, h3, endD, h4]
    rw [if_neg (by omega)]
    rfl
/-- what is held of a text is what is held of the rest -/
theorem held_one (b : Nat) (t : List Nat) (hb : b < 256) (h : (oneP (b :: t)).2.2 = false) : (runD (.zero, []) (b :: t)).1 = (runD (.zero, []) ((b :: t).drop (oneP (b :: t)).2.1)).1 := by
  have := (one_tells b t hb).shut h
  have h2 := runD_pre [(oneP (b :: t)).1] ((b :: t).drop (oneP (b :: t)).2.1) .zero []
  simp only [List.append_nil] at h2
  rw [this, h2]

/-- a text is what means what was handed out, and what is held -/
theorem cut_step (s : List Nat) (b : Nat) (hb : b < 256) (ih : ∃ a p, s = a ++ p ∧ Hold (runD (.zero, []) s).1 p ∧ decodeP a = (runD (.zero, []) s).2) :
    ∃ a p, s ++ [b] = a ++ p ∧ Hold (runD (.zero, []) (s ++ [b])).1 p ∧ decodeP a = (runD (.zero, []) (s ++ [b])).2 := by
  obtain ⟨a, p, h1, h2, h3⟩ := ih
  have hrun : runD (.zero, []) (s ++ [b]) = ((pushD (runD (.zero, []) s).1 b).1, (runD (.zero, []) s).2 ++ (pushD (runD (.zero, []) s).1 b).2) := by
    rw [runD_append]; rfl
  have hzero : (runD (.zero, []) (s ++ [b])).1 = .zero → ∃ a p, s ++ [b] = a ++ p ∧ Hold (runD (.zero, []) (s ++ [b])).1 p ∧ decodeP a = (runD (.zero, []) (s ++ [b])).2 := by
    intro hz
    refine ⟨s ++ [b], [], by simp, by rw [hz]; exact .zero, ?_⟩
    simp only [decodeP, hz]
    simp [endD, Dec.zero]
  rcases push_hold h2 b hb with ⟨d', g1, g2⟩ | ⟨r, g1, _, _⟩ | ⟨_, g1⟩ | ⟨g0, g1⟩
  · refine ⟨a, p ++ [b], by rw [h1, List.append_assoc], ?_, ?_⟩
    · rw [hrun, g1]; exact g2
    · rw [hrun, g1, h3]; simp
  · exact hzero (by rw [hrun, g1])
  · exact hzero (by rw [hrun, g1])
  · rcases begin_hold b hb with ⟨d, k1, _, _, k2⟩ | ⟨_, k1⟩ | ⟨_, _, k1⟩
    · refine ⟨s, [b], rfl, by rw [hrun, g1, k1]; exact k2, ?_⟩
      rw [hrun, g1, k1]
      have hg := hold_got h2
      have : (runD (.zero, []) s).1.got ≠ 0 := by
        rw [hg]
        cases p with
        | nil => exact absurd rfl g0
        | cons x p => simp; omega
      simp only [decodeP, endD, this, if_false]
    · exact hzero (by rw [hrun, g1, k1])
    · exact hzero (by rw [hrun, g1, k1])
theorem cut_take (s : List Nat) (hs : ∀ b ∈ s, b < 256) : ∀ k, k ≤ s.length → ∃ a p, s.take k = a ++ p ∧ Hold (runD (.zero, []) (s.take k)).1 p ∧ decodeP a = (runD (.zero, []) (s.take k)).2
  | 0, h => ⟨[], [], rfl, .zero, rfl⟩
  | k + 1, h => by
    have hlt : k < s.length := h
    rw [List.take_succ_eq_append_getElem hlt]
    exact cut_step _ _ (hs _ (List.getElem_mem hlt)) (cut_take s hs k (by omega))
theorem decode_ahead (s : List Nat) (hs : ∀ b ∈ s, b < 256) : decodeP (s.take (s.length - (runD (.zero, []) s).1.got.toNat)) = (runD (.zero, []) s).2 ∧ 0 ≤ (runD (.zero, []) s).1.got ∧ (runD (.zero, []) s).1.got ≤ s.length := by
  have h := cut_take s hs s.length (Nat.le_refl _)
  rw [List.take_length] at h
  obtain ⟨a, p, h1, h2, h3⟩ := h
  have hg := hold_got h2
  have hl : s.length = a.length + p.length := by rw [h1]; simp
  have ht : s.length - (runD (.zero, []) s).1.got.toNat = a.length := by omega
  have hta : s.take a.length = a := by
    have := List.take_left' (l₁ := a) (l₂ := p) rfl
    rw [← h1] at this
    exact this
  rw [ht, hta, h3]
  exact ⟨rfl, by omega, by omega⟩
end Go.Proofs.Ytpfmoolpeecobaa
