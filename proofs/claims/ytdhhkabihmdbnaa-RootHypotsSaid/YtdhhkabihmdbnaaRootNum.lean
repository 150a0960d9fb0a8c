/- Square roots, bit by bit: the numbers of which a root is put together. Plain: for all numbers. -/
namespace Go.Proofs.Ytdhhkabihmdbnaa.Root
/-- 2 to the j. -/
def pw (j : Nat) : Int := (2 : Int) ^ j
theorem pw_succ (j : Nat) : pw (j + 1) = 2 * pw j := by unfold pw; rw [Int.pow_succ]; omega
theorem pw_pos (j : Nat) : 0 < pw j := by
  induction j with
  | zero => decide
  | succ j ih => rw [pw_succ]; omega
theorem pw_le {i j : Nat} (h : i ≤ j) : pw i ≤ pw j := by
  induction j with
  | zero => obtain rfl : i = 0 := by omega
            exact Int.le_refl _
  | succ j ih =>
    by_cases e : i = j + 1
    · subst e; exact Int.le_refl _
    · have := ih (by omega); have := pw_pos j; rw [pw_succ]; omega

/-- From r on, with j bits to go: what is told. -/
def stepsL (N r : Int) : Nat → List Int
  | 0 => []
  | j + 1 => if (r + pw j) * (r + pw j) ≤ N then (r + pw j) :: stepsL N (r + pw j) j else stepsL N r j
/-- .. and where it ends. -/
def rootL (N r : Int) : Nat → Int
  | 0 => r
  | j + 1 => if (r + pw j) * (r + pw j) ≤ N then rootL N (r + pw j) j else rootL N r j
def rootF (N : Int) : Int := rootL N 0 32
def steps (N : Int) : List Int := stepsL N 0 32

theorem sq_lt {a b : Int} (a0 : 0 ≤ a) (h : a < b) : a * a < b * b := by
  have h1 : a * a ≤ a * b := Int.mul_le_mul_of_nonneg_left (by omega) a0
  have h2 : a * b < b * b := Int.mul_lt_mul_of_pos_right h (by omega)
  omega
theorem sq_le {a b : Int} (a0 : 0 ≤ a) (h : a ≤ b) : a * a ≤ b * b := Int.mul_le_mul h h a0 (by omega)
theorem lt_of_sq {a b : Int} (b0 : 0 ≤ b) (h : a * a < b * b) : a < b := by
  rcases Int.lt_or_le a b with h1 | h1
  · exact h1
  · have := sq_le b0 h1; omega

/-- What holds with j bits to go. -/
structure At (N r : Int) (j : Nat) : Prop where
  r0 : 0 ≤ r
  le : r * r ≤ N
  lt : N < (r + pw j) * (r + pw j)
  fits : r + pw j ≤ 4294967296
theorem At.start {N : Int} (h0 : 0 ≤ N) (h1 : N < 18446744073709551616) : At N 0 32 := ⟨by decide, by omega, by simpa [pw] using h1, by decide⟩
theorem At.yes {N r : Int} {j : Nat} (h : At N r (j + 1)) (hy : (r + pw j) * (r + pw j) ≤ N) : At N (r + pw j) j := by
  have hp := pw_pos j
  have e := pw_succ j
  refine ⟨by have := h.r0; omega, hy, ?_, ?_⟩
  · have := h.lt; rw [e] at this; rwa [show r + pw j + pw j = r + 2 * pw j by omega]
  · have := h.fits; rw [e] at this; omega
theorem At.no {N r : Int} {j : Nat} (h : At N r (j + 1)) (hn : ¬ (r + pw j) * (r + pw j) ≤ N) : At N r j := by
  have hp := pw_pos j
  have e := pw_succ j
  exact ⟨h.r0, h.le, by omega, by have := h.fits; rw [e] at this; omega⟩
theorem At.root {N : Int} : ∀ {r : Int} {j : Nat}, At N r j → At N (rootL N r j) 0
  | _, 0, h => h
  | r, j + 1, h => by
    unfold rootL
    split
    · rename_i hy; exact At.root (h.yes hy)
    · rename_i hn; exact At.root (h.no hn)
theorem rootF_spec {N : Int} (h0 : 0 ≤ N) (h1 : N < 18446744073709551616) : 0 ≤ rootF N ∧ rootF N * rootF N ≤ N ∧ N < (rootF N + 1) * (rootF N + 1) ∧ rootF N ≤ 4294967295 := by
  have h := (At.start h0 h1).root
  have e : pw 0 = 1 := rfl
  have := h.lt
  have := h.fits
  rw [e] at *
  exact ⟨h.r0, h.le, by assumption, by unfold rootF; omega⟩
theorem root_unique {N a b : Int} (a0 : 0 ≤ a) (b0 : 0 ≤ b) (h1 : a * a ≤ N) (h2 : N < (a + 1) * (a + 1)) (h3 : b * b ≤ N) (h4 : N < (b + 1) * (b + 1)) : a = b := by
  have := lt_of_sq (a := a) (b := b + 1) (by omega) (by omega)
  have := lt_of_sq (a := b) (b := a + 1) (by omega) (by omega)
  omega
theorem stepsL_last {N : Int} : ∀ {r : Int} {j : Nat}, (stepsL N r j).getLastD r = rootL N r j
  | _, 0 => rfl
  | r, j + 1 => by
    unfold stepsL rootL
    split
    · rw [List.getLastD_cons]; exact stepsL_last
    · exact stepsL_last
theorem steps_last (N : Int) : (steps N).getLastD 0 = rootF N := stepsL_last
theorem stepsL_length {N : Int} : ∀ {r : Int} {j : Nat}, (stepsL N r j).length ≤ j
  | _, 0 => Nat.le_refl _
  | r, j + 1 => by
    unfold stepsL
    split
    · simpa using stepsL_length (r := r + pw j) (j := j)
    · exact Nat.le_trans stepsL_length (Nat.le_succ _)
/-- All that are told are roots of at most N, and numbers of 32 bits. -/
theorem stepsL_mem {N : Int} : ∀ {r : Int} {j : Nat}, At N r j → ∀ x ∈ stepsL N r j, 0 ≤ x ∧ x ≤ 4294967295
  | _, 0, _, x, hx => by cases hx
  | r, j + 1, h, x, hx => by
    unfold stepsL at hx
    split at hx
    · rename_i hy
      have hz := h.yes hy
      rcases List.mem_cons.1 hx with rfl | hx
      · have := hz.r0; have := hz.fits; have := pw_pos j; omega
      · exact stepsL_mem hz x hx
    · rename_i hn; exact stepsL_mem (h.no hn) x hx
/-- The last of the first k. -/
def lastOf (l : List Int) (k : Nat) : Int := (l.take k).getLastD 0
theorem lastOf_succ {l : List Int} {k : Nat} {x : Int} (h : l[k]? = some x) : lastOf l (k + 1) = x := by
  unfold lastOf
  obtain ⟨hk, rfl⟩ := List.getElem?_eq_some_iff.1 h
  rw [List.take_succ_eq_append_getElem hk, List.getLastD_concat]
theorem lastOf_all (l : List Int) : lastOf l l.length = l.getLastD 0 := by unfold lastOf; rw [List.take_length]
end Go.Proofs.Ytdhhkabihmdbnaa.Root
