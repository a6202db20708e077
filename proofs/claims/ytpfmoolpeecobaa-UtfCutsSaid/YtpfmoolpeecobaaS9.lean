/- Plain laws of decoding: counts, bytes below 128. -/
import Derived.Test.YtpfmoolpeecobaaS8
namespace Go.Proofs.Ytpfmoolpeecobaa
open Go Go.Proofs Go.Proofs.Ytpfmoolpeecobaa.Ev
set_option linter.unusedVariables false
set_option linter.unusedSimpArgs false
set_option maxHeartbeats 1000000
set_option maxRecDepth 100000

/-- a decoder as it can be -/
def Dec.Ok (d : Dec) : Prop := d = .zero ∨ (128 ≤ d.lo ∧ d.hi ≤ 191 ∧ 1 ≤ d.got ∧ 1 ≤ d.left ∧ d.got + d.left ≤ 4)

theorem secondL_ge (b : Int) : 128 ≤ secondL b := by unfold secondL; repeat (first | omega | split)
theorem secondH_le (b : Int) : secondH b ≤ 191 := by unfold secondH; repeat (first | omega | split)

theorem begin_ok' (b : Int) (hb : 0 ≤ b ∧ b ≤ 255) : (beginD b).1.Ok := by
  have h1 := secondL_ge b
  have h2 := secondH_le b
  unfold beginD
  split
  · exact .inl rfl
  · split
    · exact .inl rfl
    · split
      · exact .inr ⟨h1, h2, by simp, by simp, by simp⟩
      · split
        · exact .inr ⟨h1, h2, by simp, by simp, by simp⟩
        · exact .inr ⟨h1, h2, by simp, by simp, by simp⟩
theorem u8w {n : Int} (h : 0 ≤ n ∧ n ≤ 255) : IntKind.u8.wrap n = n := Go.IntWalk.u8_in n h
theorem push_ok' {d : Dec} (hd : d.Ok) (b : Int) (hb : 0 ≤ b ∧ b ≤ 255) : (pushD d b).1.Ok := by
  unfold pushD
  split
  · exact begin_ok' b hb
  · rename_i hz
    rcases hd with hd | ⟨h1, h2, h3, h4, h5⟩
    · exact absurd hd hz
    · split
      · exact begin_ok' b hb
      · split
        · exact .inl rfl
        · rename_i h6
          rw [u8w (by omega)] at h6
          refine .inr ⟨by simp, by simp, ?_, ?_, ?_⟩ <;> simp only <;> rw [u8w (by omega)] <;> (try rw [u8w (by omega)]) <;> omega
theorem run_ok' : ∀ (l : List Nat) (q : Dec × List Int), (∀ b ∈ l, b < 256) → q.1.Ok → (runD q l).1.Ok
  | [], q, hb, h => h
  | b :: l, q, hb, h => run_ok' l (stepD q b) (fun c hc => hb c (List.mem_cons_of_mem _ hc)) (push_ok' h b (by have := hb b (List.mem_cons_self ..); omega))

/-- a byte below 128 ends all that is held -/
theorem push_ascii {d : Dec} (hd : d.Ok) (b : Int) (hb : 0 ≤ b ∧ b < 128) : pushD d b = (.zero, (endD d).2 ++ [b]) := by
  have hbg : beginD b = (.zero, [b]) := by simp [beginD, hb.2]
  rcases hd with rfl | ⟨h1, h2, h3, h4, h5⟩
  · simp [pushD, hbg, endD, Dec.zero]
  · have hz : d ≠ .zero := fun h => by rw [h] at h3; simp [Dec.zero] at h3
    have hlo : b < d.lo := by omega
    have hg : d.got ≠ 0 := by omega
    simp [pushD, hz, hlo, hbg, endD, hg]
theorem decode_ascii {s : List Nat} (hs : ∀ b ∈ s, b < 256) {c : Nat} (hc : c < 128) : decodeP (s ++ [c]) = decodeP s ++ [(c : Int)] := by
  have hok := run_ok' s (.zero, []) hs (.inl rfl)
  have h := push_ascii hok (c : Int) (by omega)
  simp only [decodeP, runD_append]
  have h2 : runD (runD (.zero, []) s) [c] = stepD (runD (.zero, []) s) c := rfl
  rw [h2]
  simp only [stepD, h]
  simp [endD, Dec.zero]

/-- as many runes as bytes at most, a fourth at least -/
theorem run_count : ∀ (l : List Nat) (q : Dec × List Int) (n : Nat), (∀ b ∈ l, b < 256) → q.1.Ok →
    ((q.2.length : Int) + (if q.1.got = 0 then 0 else 1) ≤ n ∧ (n : Int) ≤ 4 * q.2.length + q.1.got) →
    (((runD q l).2.length : Int) + (if (runD q l).1.got = 0 then 0 else 1) ≤ n + l.length ∧ ((n + l.length : Nat) : Int) ≤ 4 * (runD q l).2.length + (runD q l).1.got)
  | [], q, n, hb, hok, h => by
    have h1 : (n : Int) + (([] : List Nat).length : Int) = n := by simp
    rw [h1]
    exact h
  | b :: l, q, n, hb, hok, h => by
    have hbb : 0 ≤ (b : Int) ∧ (b : Int) ≤ 255 := by have := hb b (List.mem_cons_self ..); omega
    have key := run_count l (stepD q b) (n + 1) (fun c hc => hb c (List.mem_cons_of_mem _ hc)) (push_ok' hok b hbb) (by
      have hbegin : (((beginD b).2.length : Int) + (if (beginD b).1.got = 0 then 0 else 1) = 1) ∧ (beginD b).1.got = (if (beginD b).1.got = 0 then 0 else 1) := by
        unfold beginD
        split
        · simp [Dec.zero]
        · split
          · simp [Dec.zero]
          · split
            · simp
            · split <;> simp
      simp only [stepD, List.length_append]
      unfold pushD
      split
      · rename_i hz
        rw [hz] at h
        simp only [Dec.zero, if_true] at h
        obtain ⟨h1, h2⟩ := hbegin
        constructor
        · push_cast; omega
        · push_cast
          split at h1 <;> split at h2 <;> omega
      · rename_i hz
        rcases hok with hok | ⟨g1, g2, g3, g4, g5⟩
        · exact absurd hok hz
        · have hg : q.1.got ≠ 0 := by omega
          rw [if_neg hg] at h
          obtain ⟨h1, h2⟩ := hbegin
          split
          · simp only [List.length_cons]
            constructor
            · push_cast; omega
            · push_cast
              split at h1 <;> split at h2 <;> omega
          · split
            · simp [Dec.zero]; omega
            · rename_i h6
              rw [u8w (by omega)] at h6
              simp only [List.length_nil]
              rw [u8w (by omega)]
              rw [if_neg (by omega)]
              push_cast; omega)
    simp only [runD, List.foldl_cons, List.length_cons] at key ⊢
    constructor
    · have := key.1; push_cast at this ⊢; omega
    · have := key.2; push_cast at this ⊢; omega
theorem decode_count {s : List Nat} (hs : ∀ b ∈ s, b < 256) : (decodeP s).length ≤ s.length ∧ s.length ≤ 4 * (decodeP s).length := by
  have h := run_count s (.zero, []) 0 hs (.inl rfl) (by simp [Dec.zero])
  have hok := run_ok' s (.zero, []) hs (.inl rfl)
  simp only [decodeP, List.length_append]
  unfold endD
  obtain ⟨h1, h2⟩ := h
  rcases hok with hok | ⟨g1, g2, g3, g4, g5⟩
  · rw [hok] at h1 h2 ⊢
    simp [Dec.zero] at h1 h2 ⊢
    omega
  · rw [if_neg (by omega)] at h1 ⊢
    simp
    omega
end Go.Proofs.Ytpfmoolpeecobaa
