/- Numbers as rows of digits, base 65536, the lowest one first: what a row says, and what a step of the schoolbook's ways does to it. Plain, no program in sight. -/
import Derived.Test.YtngnkgnobgfjeaaDoorNum
namespace Go.Proofs.YtngnkgnobgfjeaaDoor.Ref
open Go Go.RowKit

/-- What a row of digits says. -/
def val : List Int → Int
  | [] => 0
  | d :: ds => d + 65536 * val ds
/-- Digits. -/
def Dig (ds : List Int) : Prop := ∀ z ∈ ds, 0 ≤ z ∧ z ≤ 65535
/-- No nought ahead. -/
def Top (ds : List Int) : Prop := ∀ k, ds.length = k + 1 → ds.getD k 0 ≠ 0
/-- A power of the base. -/
def pw (k : Nat) : Int := 65536 ^ k

theorem pw_zero : pw 0 = 1 := rfl
theorem pw_succ (k : Nat) : pw (k + 1) = pw k * 65536 := by unfold pw; rw [Int.pow_succ]
theorem pw_pos (k : Nat) : 1 ≤ pw k := by
  induction k with
  | zero => decide
  | succ k ih => rw [pw_succ]; omega
theorem pw_mono {j k : Nat} (h : j ≤ k) : pw j ≤ pw k := by
  induction k with
  | zero => obtain rfl : j = 0 := by omega
            exact Int.le_refl _
  | succ k ih =>
    rcases Nat.lt_or_ge k j with h1 | h1
    · obtain rfl : j = k + 1 := by omega
      exact Int.le_refl _
    · have := ih h1
      have := pw_pos k
      rw [pw_succ]; omega
theorem lt_of_pw {j k : Nat} (h : pw j < pw k) : j < k := by
  rcases Nat.lt_or_ge j k with h1 | h1
  · exact h1
  · have := pw_mono h1; omega

theorem Dig.nil : Dig [] := fun z hz => by simp at hz
theorem Dig.snoc {ds : List Int} {x : Int} (h : Dig ds) (h0 : 0 ≤ x) (h1 : x ≤ 65535) : Dig (ds ++ [x]) := by
  intro z hz
  rcases List.mem_append.1 hz with hz | hz
  · exact h z hz
  · simp at hz; subst hz; exact ⟨h0, h1⟩
theorem Dig.take {ds : List Int} (h : Dig ds) (k : Nat) : Dig (ds.take k) := fun z hz => h z (List.mem_of_mem_take hz)
theorem Dig.drop {ds : List Int} (h : Dig ds) (k : Nat) : Dig (ds.drop k) := fun z hz => h z (List.mem_of_mem_drop hz)
theorem Dig.at {ds : List Int} (h : Dig ds) (k : Nat) : 0 ≤ ds.getD k 0 ∧ ds.getD k 0 ≤ 65535 := by
  rcases Nat.lt_or_ge k ds.length with hk | hk
  · have : ds.getD k 0 = ds[k] := by simp [hk]
    rw [this]; exact h _ (List.getElem_mem hk)
  · have : ds.getD k 0 = 0 := by simp [hk]
    rw [this]; omega
theorem Dig.at' {ds : List Int} (h : Dig ds) (k : Nat) : 0 ≤ ds[k]?.getD 0 ∧ ds[k]?.getD 0 ≤ 65535 := by
  rw [← List.getD_eq_getElem?_getD]; exact h.at k
theorem Dig.wf {ds : List Int} (h : Dig ds) : ∀ z ∈ ds, (Lit.int .i64 z).wf = true := by
  intro z hz
  have := h z hz
  simp [Lit.wf, IntKind.min, IntKind.max, IntKind.signed, IntKind.bits]; omega

theorem val_append (a b : List Int) : val (a ++ b) = val a + pw a.length * val b := by
  induction a with
  | nil => simp [val, pw_zero]
  | cons d ds ih =>
    simp only [List.cons_append, val, ih, List.length_cons, pw_succ]
    rw [Int.mul_add, ← Int.add_assoc, ← Int.mul_assoc, Int.mul_comm 65536 (pw _)]
theorem val_snoc (a : List Int) (x : Int) : val (a ++ [x]) = val a + pw a.length * x := by rw [val_append]; simp [val]
theorem val_nonneg {ds : List Int} (h : Dig ds) : 0 ≤ val ds := by
  induction ds with
  | nil => simp [val]
  | cons d ds ih =>
    have := h d (by simp)
    have := ih (fun z hz => h z (by simp [hz]))
    simp only [val]; omega
theorem val_lt {ds : List Int} (h : Dig ds) : val ds < pw ds.length := by
  induction ds with
  | nil => simp [val, pw_zero]
  | cons d ds ih =>
    have := h d (by simp)
    have := ih (fun z hz => h z (by simp [hz]))
    simp only [val, List.length_cons, pw_succ]; omega
theorem take_snoc (ds : List Int) {k : Nat} (hk : k < ds.length) : ds.take (k + 1) = ds.take k ++ [ds.getD k 0] := by
  rw [List.take_succ_eq_append_getElem hk]; simp [hk]
theorem val_take_succ (ds : List Int) (k : Nat) : val (ds.take (k + 1)) = val (ds.take k) + pw k * ds.getD k 0 := by
  rcases Nat.lt_or_ge k ds.length with hk | hk
  · rw [take_snoc ds hk, val_snoc]
    simp only [List.length_take]
    rw [Nat.min_eq_left (by omega)]
  · have h0 : ds.getD k 0 = 0 := by simp [hk]
    rw [h0, List.take_of_length_le (by omega), List.take_of_length_le (by omega)]; simp
theorem val_split (ds : List Int) {k : Nat} (hk : k ≤ ds.length) : val ds = val (ds.take k) + pw k * val (ds.drop k) := by
  have h := val_append (ds.take k) (ds.drop k)
  rw [List.take_append_drop] at h
  rw [h, List.length_take, Nat.min_eq_left hk]
theorem drop_cons (ds : List Int) {k : Nat} (hk : k < ds.length) : ds.drop k = ds.getD k 0 :: ds.drop (k + 1) := by
  rw [List.drop_eq_getElem_cons hk]; simp [hk]
theorem val_drop (ds : List Int) {k : Nat} (hk : k < ds.length) : val (ds.drop k) = ds.getD k 0 + 65536 * val (ds.drop (k + 1)) := by
  rw [drop_cons ds hk]; rfl
/-- A row with no nought ahead says at least the power below its length. -/
theorem val_ge {ds : List Int} (h : Dig ds) (ht : Top ds) {k : Nat} (hk : ds.length = k + 1) : pw k ≤ val ds := by
  have h0 := ht k hk
  have h1 := h.at k
  have e := val_split ds (k := k) (by omega)
  have e2 := val_drop ds (k := k) (by omega)
  have h2 : val (ds.drop (k + 1)) = 0 := by rw [List.drop_of_length_le (by omega)]; rfl
  have h3 := val_nonneg (h.take k)
  have hd : 1 ≤ val (ds.drop k) := by omega
  have h4 : pw k * 1 ≤ pw k * val (ds.drop k) := Int.mul_le_mul_of_nonneg_left hd (by have := pw_pos k; omega)
  omega
theorem len_le {ds : List Int} (h : Dig ds) (ht : Top ds) {m : Nat} (hv : val ds < pw m) : ds.length ≤ m := by
  rcases hl : ds.length with _ | k
  · omega
  · have := val_ge h ht hl
    have := lt_of_pw (Int.lt_of_le_of_lt this hv)
    omega
theorem nil_of_zero {ds : List Int} (h : Dig ds) (ht : Top ds) (hv : val ds = 0) : ds.length = 0 := by
  have := len_le h ht (m := 0) (by rw [hv]; decide)
  omega
theorem val_take_zeros (ds : List Int) {m : Nat} (hm : m ≤ ds.length) (h : ∀ j, m ≤ j → j < ds.length → ds.getD j 0 = 0) : val (ds.take m) = val ds := by
  have step : ∀ n, m + n ≤ ds.length → val (ds.take (m + n)) = val (ds.take m) := by
    intro n
    induction n with
    | zero => intro _; rfl
    | succ n ih =>
      intro hn
      rw [← Nat.add_assoc, val_take_succ, ih (by omega), h (m + n) (by omega) (by omega)]; simp
  have := step (ds.length - m) (by omega)
  rw [show m + (ds.length - m) = ds.length by omega, List.take_length] at this
  exact this.symm

/-- A row of digits with no nought ahead: the number that it says. -/
structure Says (ds : List Int) (n : Int) : Prop where
  dig : Dig ds
  top : Top ds
  val : val ds = n
theorem Says.nil : Says [] 0 := ⟨Dig.nil, fun k h => by simp at h, rfl⟩
theorem Says.nonneg {ds : List Int} {n : Int} (h : Says ds n) : 0 ≤ n := h.val ▸ val_nonneg h.dig
theorem Says.len {ds : List Int} {n : Int} (h : Says ds n) {m : Nat} (hv : n < pw m) : ds.length ≤ m := len_le h.dig h.top (by rw [h.val]; exact hv)
theorem Says.zero {ds : List Int} (h : Says ds 0) : ds.length = 0 := nil_of_zero h.dig h.top h.val
theorem Says.pos {ds : List Int} {n : Int} (h : Says ds n) (hn : 0 < n) : 0 < ds.length := by
  rcases hl : ds.length with _ | k
  · have := List.length_eq_zero_iff.1 hl
    have e := h.val
    rw [this] at e; simp only [Ref.val] at e; omega
  · omega
theorem Says.one : Says [1] 1 := ⟨fun z hz => by simp at hz; omega, fun k h => by simp at h; subst h; decide, rfl⟩

/-! a sum, digit by digit -/
structure Plus (az bs out : List Int) (k : Nat) (c : Int) : Prop where
  len : out.length = k
  dig : Dig out
  c0 : 0 ≤ c
  c1 : c ≤ 1
  eq : val out + pw k * c = val (az.take k) + val (bs.take k)
theorem Plus.start (az bs : List Int) : Plus az bs [] 0 0 := ⟨rfl, Dig.nil, by omega, by omega, by simp [val]⟩
theorem Plus.step {az bs out : List Int} {k : Nat} {c : Int} (h : Plus az bs out k c) (ha : Dig az) (hb : Dig bs) {x : Int} (hx : x = c + az.getD k 0 + bs.getD k 0) :
    Plus az bs (out ++ [x % 65536]) (k + 1) (x / 65536) ∧ 0 ≤ x ∧ x ≤ 131071 := by
  have h1 := ha.at k
  have h2 := hb.at k
  have h3 := h.c0
  have h4 := h.c1
  refine ⟨⟨by simp [h.len], h.dig.snoc (by omega) (by omega), by omega, by omega, ?_⟩, by omega, by omega⟩
  rw [val_snoc, h.len, val_take_succ, val_take_succ, pw_succ]
  have e := h.eq
  have e2 : pw k * (x % 65536) + pw k * 65536 * (x / 65536) = pw k * c + pw k * az.getD k 0 + pw k * bs.getD k 0 := by
    rw [Int.mul_assoc, ← Int.mul_add, ← Int.mul_add, ← Int.mul_add, ← hx]
    congr 1
    omega
  omega
theorem Plus.done {az bs out : List Int} {k : Nat} (h : Plus az bs out k 0) (ha : az.length ≤ k) (hb : bs.length ≤ k) : val out = val az + val bs := by
  have e := h.eq
  rw [List.take_of_length_le ha, List.take_of_length_le hb] at e
  omega

/-! a difference, digit by digit -/
structure Minus (az bs out : List Int) (k : Nat) (c : Int) : Prop where
  len : out.length = k
  dig : Dig out
  c0 : 0 ≤ c
  c1 : c ≤ 1
  eq : val out = val (az.take k) - val (bs.take k) + pw k * c
theorem Minus.start (az bs : List Int) : Minus az bs [] 0 0 := ⟨rfl, Dig.nil, by omega, by omega, by simp [val]⟩
theorem Minus.step {az bs out : List Int} {k : Nat} {c : Int} (h : Minus az bs out k c) (ha : Dig az) (hb : Dig bs) {x y b : Int} (hx : x = az.getD k 0 - c - bs.getD k 0) (hy : y = x + 65536 * b) (hb0 : b = if x < 0 then 1 else 0) :
    Minus az bs (out ++ [y]) (k + 1) b := by
  have h1 := ha.at k
  have h2 := hb.at k
  have h3 := h.c0
  have h4 := h.c1
  have hb1 : 0 ≤ b ∧ b ≤ 1 ∧ 0 ≤ y ∧ y ≤ 65535 := by
    subst hb0; subst hy
    split <;> omega
  refine ⟨by simp [h.len], h.dig.snoc hb1.2.2.1 hb1.2.2.2, hb1.1, hb1.2.1, ?_⟩
  rw [val_snoc, h.len, val_take_succ, val_take_succ, pw_succ]
  have e := h.eq
  have e2 : pw k * y = pw k * az.getD k 0 - pw k * c - pw k * bs.getD k 0 + pw k * 65536 * b := by
    rw [Int.mul_assoc, ← Int.mul_sub, ← Int.mul_sub, ← Int.mul_add, ← hx, ← hy]
  omega
theorem Minus.done {az bs out : List Int} {k : Nat} {c : Int} (h : Minus az bs out k c) (ha : az.length = k) (hb : bs.length ≤ k) (hle : val bs ≤ val az) : val out = val az - val bs := by
  have e := h.eq
  rw [List.take_of_length_le (by omega), List.take_of_length_le hb] at e
  have h1 := val_lt h.dig
  rw [h.len] at h1
  have h3 := h.c0
  have h4 := h.c1
  rcases (show c = 0 ∨ c = 1 by omega) with rfl | rfl <;> omega

/-! which one is less -/
theorem less_of_len {az bs : List Int} {a b : Int} (ha : Says az a) (hb : Says bs b) (h : az.length ≠ bs.length) : decide (a < b) = decide (az.length < bs.length) := by
  have key : ∀ {xs ys : List Int} {x y : Int}, Says xs x → Says ys y → xs.length < ys.length → x < y := by
    intro xs ys x y hx hy hl
    obtain ⟨k, hk⟩ : ∃ k, ys.length = k + 1 := ⟨ys.length - 1, by omega⟩
    have h1 := val_ge hy.dig hy.top hk
    have h2 := val_lt hx.dig
    have h3 := pw_mono (show xs.length ≤ k by omega)
    rw [hy.val] at h1
    rw [hx.val] at h2
    omega
  rcases Nat.lt_or_ge az.length bs.length with h1 | h1
  · simp [h1, key ha hb h1]
  · have := key hb ha (by omega)
    have h2 : ¬ az.length < bs.length := by omega
    have h3 : ¬ a < b := by omega
    simp [h2, h3]
theorem less_at {az bs : List Int} (ha : Dig az) (hb : Dig bs) {k : Nat} (hk : k < az.length) (hk2 : k < bs.length) (heq : val (az.drop (k + 1)) = val (bs.drop (k + 1))) (hne : az.getD k 0 ≠ bs.getD k 0) :
    decide (val az < val bs) = decide (az.getD k 0 < bs.getD k 0) := by
  have e1 := val_split az (k := k) (by omega)
  have e2 := val_split bs (k := k) (by omega)
  have f1 := val_drop az hk
  have f2 := val_drop bs hk2
  have l1 := val_lt (ha.take k)
  have l2 := val_lt (hb.take k)
  have n1 := val_nonneg (ha.take k)
  have n2 := val_nonneg (hb.take k)
  rw [List.length_take, Nat.min_eq_left (by omega)] at l1 l2
  generalize az.getD k 0 = x at *
  generalize bs.getD k 0 = y at *
  rcases Int.lt_or_gt_of_ne hne with h | h
  · have : pw k * (val (az.drop k) + 1) ≤ pw k * val (bs.drop k) := Int.mul_le_mul_of_nonneg_left (by omega) (by have := pw_pos k; omega)
    rw [Int.mul_add] at this
    have h5 : val az < val bs := by omega
    simp [h, h5]
  · have : pw k * (val (bs.drop k) + 1) ≤ pw k * val (az.drop k) := Int.mul_le_mul_of_nonneg_left (by omega) (by have := pw_pos k; omega)
    rw [Int.mul_add] at this
    have h5 : ¬ val az < val bs := by omega
    have h6 : ¬ x < y := by omega
    simp [h6, h5]

/-! a product: one row of it -/
structure Times (a : Int) (bs row : List Int) (i k : Nat) (c : Int) : Prop where
  len : row.length = i + k
  dig : Dig row
  c0 : 0 ≤ c
  c1 : c ≤ 65535
  eq : val row + pw (i + k) * c = pw i * (a * val (bs.take k))
theorem val_zeros (i : Nat) : val (List.replicate i (0 : Int)) = 0 := by
  induction i with
  | zero => rfl
  | succ i ih => simp [List.replicate_succ, val, ih]
theorem Times.start (a : Int) (bs : List Int) (i : Nat) : Times a bs (List.replicate i 0) i 0 0 := by
  refine ⟨by simp, fun z hz => by simp at hz; omega, by omega, by omega, ?_⟩
  simp [val, val_zeros]
theorem Times.step {a : Int} {bs row : List Int} {i k : Nat} {c : Int} (h : Times a bs row i k c) (hb : Dig bs) (a0 : 0 ≤ a) (a1 : a ≤ 65535) {x : Int} (hx : x = c + a * bs.getD k 0) :
    Times a bs (row ++ [x % 65536]) i (k + 1) (x / 65536) ∧ 0 ≤ x ∧ x ≤ 4294967295 := by
  have h2 := hb.at k
  have h3 := h.c0
  have h4 := h.c1
  have hm : 0 ≤ a * bs.getD k 0 := Int.mul_nonneg a0 h2.1
  have hM : a * bs.getD k 0 ≤ 65535 * 65535 := Int.mul_le_mul a1 h2.2 h2.1 (by omega)
  refine ⟨⟨by simp [h.len]; omega, h.dig.snoc (by omega) (by omega), by omega, by omega, ?_⟩, by omega, by omega⟩
  rw [val_snoc, h.len, val_take_succ, ← Nat.add_assoc, pw_succ]
  have e := h.eq
  have e2 : pw (i + k) * (x % 65536) + pw (i + k) * 65536 * (x / 65536) = pw (i + k) * c + pw (i + k) * (a * bs.getD k 0) := by
    rw [Int.mul_assoc, ← Int.mul_add, ← Int.mul_add, ← hx]
    congr 1
    omega
  have e3 : pw (i + k) = pw i * pw k := by unfold pw; rw [Int.pow_add]
  have e4 : pw i * (a * (val (bs.take k) + pw k * bs.getD k 0)) = pw i * (a * val (bs.take k)) + pw (i + k) * (a * bs.getD k 0) := by
    rw [e3, Int.mul_add, Int.mul_add, Int.mul_assoc (pw i), ← Int.mul_assoc a, Int.mul_comm a (pw k), Int.mul_assoc (pw k)]
  omega
theorem Times.done {a : Int} {bs row : List Int} {i k : Nat} (h : Times a bs row i k 0) (hk : bs.length ≤ k) : val row = pw i * (a * val bs) := by
  have e := h.eq
  rw [List.take_of_length_le hk] at e
  omega
/-- A product so far, and a row more. -/
theorem mul_step (az bs : List Int) (k : Nat) : val (az.take k) * val bs + pw k * (az.getD k 0 * val bs) = val (az.take (k + 1)) * val bs := by
  rw [val_take_succ, Int.add_mul, Int.mul_assoc]
theorem take_mul_lt {az bs : List Int} {m n : Nat} (ha : Dig az) (hb : Dig bs) (hm : val az < pw m) (hn : val bs < pw n) (k : Nat) : 0 ≤ val (az.take k) * val bs ∧ val (az.take k) * val bs < pw (m + n) := by
  have h1 := val_nonneg (ha.take k)
  have h2 := val_nonneg hb
  have h3 : val (az.take k) ≤ val az := by
    rcases Nat.le_total k az.length with h | h
    · have := val_split az h
      have := val_nonneg (ha.drop k)
      have : 0 ≤ pw k * val (az.drop k) := Int.mul_nonneg (by have := pw_pos k; omega) this
      omega
    · rw [List.take_of_length_le h]; exact Int.le_refl _
  refine ⟨Int.mul_nonneg h1 h2, ?_⟩
  have e3 : pw (m + n) = pw m * pw n := by unfold pw; rw [Int.pow_add]
  rw [e3]
  have := pw_pos m
  have := pw_pos n
  have h5 : val (az.take k) * val bs ≤ (pw m - 1) * (pw n - 1) := Int.mul_le_mul (by omega) (by omega) h2 (by omega)
  rw [Int.sub_mul, Int.mul_sub] at h5
  omega

/-! a half -/
structure Half (ds out : List Int) (j : Nat) (r : Int) : Prop where
  len : out.length = ds.length
  dig : Dig out
  r0 : 0 ≤ r
  r1 : r ≤ 1
  eq : val (ds.drop j) = 2 * val (out.drop j) + r
theorem Half.start (ds : List Int) : Half ds (List.replicate ds.length 0) ds.length 0 := by
  refine ⟨by simp, fun z hz => by simp at hz; omega, by omega, by omega, ?_⟩
  rw [List.drop_of_length_le (by omega), List.drop_of_length_le (by simp)]; simp [val]
theorem Dig.set {ds : List Int} (h : Dig ds) (k : Nat) {x : Int} (h0 : 0 ≤ x) (h1 : x ≤ 65535) : Dig (ds.set k x) := by
  intro z hz
  rcases List.mem_or_eq_of_mem_set hz with hz | rfl
  · exact h z hz
  · exact ⟨h0, h1⟩
theorem Half.step {ds out : List Int} {j : Nat} {r : Int} (h : Half ds out (j + 1) r) (hd : Dig ds) (hj : j < ds.length) {x : Int} (hx : x = r * 65536 + ds.getD j 0) :
    Half ds (out.set j (x / 2)) j (x % 2) ∧ 0 ≤ x ∧ x ≤ 131071 := by
  have h1 := hd.at j
  have h2 := h.r0
  have h3 := h.r1
  refine ⟨⟨by simp [h.len], h.dig.set j (by omega) (by omega), by omega, by omega, ?_⟩, by omega, by omega⟩
  have e := h.eq
  have hl := h.len
  rw [val_drop ds hj, val_drop (out.set j (x / 2)) (by simp; omega)]
  have g1 : (out.set j (x / 2)).getD j 0 = x / 2 := by simp [show j < out.length by omega]
  have g2 : (out.set j (x / 2)).drop (j + 1) = out.drop (j + 1) := by rw [List.drop_set_of_lt (by omega)]
  rw [g1, g2]
  omega
theorem Half.done {ds out : List Int} {r : Int} (h : Half ds out 0 r) : val out = val ds / 2 ∧ r = val ds % 2 := by
  have e := h.eq
  have h2 := h.r0
  have h3 := h.r1
  simp only [List.drop_zero] at e
  omega
end Go.Proofs.YtngnkgnobgfjeaaDoor.Ref
