/- Numbers as rows of digits, base 65536, the lowest one first: what a row says, and what a step of the schoolbook's ways does to it. Plain, no program in sight. -/
import Derived.Test.YtejcjonlnijbkaaWm1
import Derived.Test.YtejcjonlnijbkaaOpen
import Derived.LoopTactic
import Derived.Maps.AppendAt
import Derived.Test.YtejcjonlnijbkaaProg
import Derived.Below
import Derived.Deep.Draws
import Derived.OwnWalk
import Derived.Tactics
import Derived.WalkKit
import Derived.KernelRfl
import Derived.RowKit3
import Derived.Deep.QuietTactic
import Derived.BigQuiet
import Derived.WideLaws
import Derived.OpenShut
import Derived.Lib.Hide
import Derived.Laws.Externs
import Derived.Laws.Unary
import Derived.Deep.RegionHeld3
import Derived.Deep.RegionWith
namespace Go.Proofs.Ytejcjonlnijbkaa.Ref
open Go Go.RowKit

/-- What a row of digits says. -/
def val : List Int → Int
  | [] => 0
  | d :: ds => d + 65536 * val ds
/-- Digits. -/
def Dig (ds : List Int) : Prop := ∀ z ∈ ds, 0 ≤ z ∧ z ≤ 65535
/-- No nought ahead. -/
def Top (ds : List Int) : Prop := ∀ k, ds.length = k + 1 → ds.getD k 0 ≠ 0
/-- A power of the base. -/
def pw (k : Nat) : Int := 65536 ^ k

theorem pw_zero : pw 0 = 1 := rfl
theorem pw_succ (k : Nat) : pw (k + 1) = pw k * 65536 := by unfold pw; rw [Int.pow_succ]
theorem pw_pos (k : Nat) : 1 ≤ pw k := by
  induction k with
  | zero => decide
  | succ k ih => rw [pw_succ]; omega
theorem pw_mono {j k : Nat} (h : j ≤ k) : pw j ≤ pw k := by
  induction k with
  | zero => obtain rfl : j = 0 := by omega
            exact Int.le_refl _
  | succ k ih =>
    rcases Nat.lt_or_ge k j with h1 | h1
    · obtain rfl : j = k + 1 := by omega
      exact Int.le_refl _
    · have := ih h1
      have := pw_pos k
      rw [pw_succ]; omega
theorem lt_of_pw {j k : Nat} (h : pw j < pw k) : j < k := by
  rcases Nat.lt_or_ge j k with h1 | h1
  · exact h1
  · have := pw_mono h1; omega

theorem Dig.nil : Dig [] := fun z hz => by simp at hz
theorem Dig.snoc {ds : List Int} {x : Int} (h : Dig ds) (h0 : 0 ≤ x) (h1 : x ≤ 65535) : Dig (ds ++ [x]) := by
  intro z hz
  rcases List.mem_append.1 hz with hz | hz
  · exact h z hz
  · simp at hz; subst hz; exact ⟨h0, h1⟩
theorem Dig.take {ds : List Int} (h : Dig ds) (k : Nat) : Dig (ds.take k) := fun z hz => h z (List.mem_of_mem_take hz)
theorem Dig.drop {ds : List Int} (h : Dig ds) (k : Nat) : Dig (ds.drop k) := fun z hz => h z (List.mem_of_mem_drop hz)
theorem Dig.at {ds : List Int} (h : Dig ds) (k : Nat) : 0 ≤ ds.getD k 0 ∧ ds.getD k 0 ≤ 65535 := by
  rcases Nat.lt_or_ge k ds.length with hk | hk
  · have : ds.getD k 0 = ds[k] := by simp [hk]
    rw [this]; exact h _ (List.getElem_mem hk)
  · have : ds.getD k 0 = 0 := by simp [hk]
    rw [this]; omega
theorem Dig.at' {ds : List Int} (h : Dig ds) (k : Nat) : 0 ≤ ds[k]?.getD 0 ∧ ds[k]?.getD 0 ≤ 65535 := by
  rw [← List.getD_eq_getElem?_getD]; exact h.at k
theorem Dig.wf {ds : List Int} (h : Dig ds) : ∀ z ∈ ds, (Lit.int .i64 z).wf = true := by
  intro z hz
  have := h z hz
  simp [Lit.wf, IntKind.min, IntKind.max, IntKind.signed, IntKind.bits]; omega

theorem val_append (a b : List Int) : val (a ++ b) = val a + pw a.length * val b := by
  induction a with
  | nil => simp [val, pw_zero]
  | cons d ds ih =>
    simp only [List.cons_append, val, ih, List.length_cons, pw_succ]
    rw [Int.mul_add, ← Int.add_assoc, ← Int.mul_assoc, Int.mul_comm 65536 (pw _)]
theorem val_snoc (a : List Int) (x : Int) : val (a ++ [x]) = val a + pw a.length * x := by rw [val_append]; simp [val]
theorem val_nonneg {ds : List Int} (h : Dig ds) : 0 ≤ val ds := by
  induction ds with
  | nil => simp [val]
  | cons d ds ih =>
    have := h d (by simp)
    have := ih (fun z hz => h z (by simp [hz]))
    simp only [val]; omega
theorem val_lt {ds : List Int} (h : Dig ds) : val ds < pw ds.length := by
  induction ds with
  | nil => simp [val, pw_zero]
  | cons d ds ih =>
    have := h d (by simp)
    have := ih (fun z hz => h z (by simp [hz]))
    simp only [val, List.length_cons, pw_succ]; omega
theorem take_snoc (ds : List Int) {k : Nat} (hk : k < ds.length) : ds.take (k + 1) = ds.take k ++ [ds.getD k 0] := by
  rw [List.take_succ_eq_append_getElem hk]; simp [hk]
theorem val_take_succ (ds : List Int) (k : Nat) : val (ds.take (k + 1)) = val (ds.take k) + pw k * ds.getD k 0 := by
  rcases Nat.lt_or_ge k ds.length with hk | hk
  · rw [take_snoc ds hk, val_snoc]
    simp only [List.length_take]
    rw [Nat.min_eq_left (by omega)]
  · have h0 : ds.getD k 0 = 0 := by simp [hk]
    rw [h0, List.take_of_length_le (by omega), List.take_of_length_le (by omega)]; simp
theorem val_split (ds : List Int) {k : Nat} (hk : k ≤ ds.length) : val ds = val (ds.take k) + pw k * val (ds.drop k) := by
  have h := val_append (ds.take k) (ds.drop k)
  rw [List.take_append_drop] at h
  rw [h, List.length_take, Nat.min_eq_left hk]
theorem drop_cons (ds : List Int) {k : Nat} (hk : k < ds.length) : ds.drop k = ds.getD k 0 :: ds.drop (k + 1) := by
  rw [List.drop_eq_getElem_cons hk]; simp [hk]
theorem val_drop (ds : List Int) {k : Nat} (hk : k < ds.length) : val (ds.drop k) = ds.getD k 0 + 65536 * val (ds.drop (k + 1)) := by
  rw [drop_cons ds hk]; rfl
/-- A row with no nought ahead says at least the power below its length. -/
theorem val_ge {ds : List Int} (h : Dig ds) (ht : Top ds) {k : Nat} (hk : ds.length = k + 1) : pw k ≤ val ds := by
  have h0 := ht k hk
  have h1 := h.at k
  have e := val_split ds (k := k) (by omega)
  have e2 := val_drop ds (k := k) (by omega)
  have h2 : val (ds.drop (k + 1)) = 0 := by rw [List.drop_of_length_le (by omega)]; rfl
  have h3 := val_nonneg (h.take k)
  have hd : 1 ≤ val (ds.drop k) := by omega
  have h4 : pw k * 1 ≤ pw k * val (ds.drop k) := Int.mul_le_mul_of_nonneg_left hd (by have := pw_pos k; omega)
  omega
theorem len_le {ds : List Int} (h : Dig ds) (ht : Top ds) {m : Nat} (hv : val ds < pw m) : ds.length ≤ m := by
  rcases hl : ds.length with _ | k
  · omega
  · have := val_ge h ht hl
    have := lt_of_pw (Int.lt_of_le_of_lt this hv)
    omega
theorem nil_of_zero {ds : List Int} (h : Dig ds) (ht : Top ds) (hv : val ds = 0) : ds.length = 0 := by
  have := len_le h ht (m := 0) (by rw [hv]; decide)
  omega
theorem val_take_zeros (ds : List Int) {m : Nat} (hm : m ≤ ds.length) (h : ∀ j, m ≤ j → j < ds.length → ds.getD j 0 = 0) : val (ds.take m) = val ds := by
  have step : ∀ n, m + n ≤ ds.length → val (ds.take (m + n)) = val (ds.take m) := by
    intro n
    induction n with
    | zero => intro _; rfl
    | succ n ih =>
      intro hn
      rw [← Nat.add_assoc, val_take_succ, ih (by omega), h (m + n) (by omega) (by omega)]; simp
  have := step (ds.length - m) (by omega)
  rw [show m + (ds.length - m) = ds.length by omega, List.take_length] at this
  exact this.symm

/-- A row of digits with no nought ahead: the number that it says. -/
structure Says (ds : List Int) (n : Int) : Prop where
  dig : Dig ds
  top : Top ds
  val : val ds = n
theorem Says.nil : Says [] 0 := ⟨Dig.nil, fun k h => by simp at h, rfl⟩
theorem Says.nonneg {ds : List Int} {n : Int} (h : Says ds n) : 0 ≤ n := h.val ▸ val_nonneg h.dig
theorem Says.len {ds : List Int} {n : Int} (h : Says ds n) {m : Nat} (hv : n < pw m) : ds.length ≤ m := len_le h.dig h.top (by rw [h.val]; exact hv)
theorem Says.zero {ds : List Int} (h : Says ds 0) : ds.length = 0 := nil_of_zero h.dig h.top h.val
theorem Says.pos {ds : List Int} {n : Int} (h : Says ds n) (hn : 0 < n) : 0 < ds.length := by
  rcases hl : ds.length with _ | k
  · have := List.length_eq_zero_iff.1 hl
    have e := h.val
    rw [this] at e; simp only [Ref.val] at e; omega
  · omega
theorem Says.one : Says [1] 1 := ⟨fun z hz => by simp at hz; omega, fun k h => by simp at h; subst h; decide, rfl⟩

/-! a sum, digit by digit -/
structure Plus (az bs out : List Int) (k : Nat) (c : Int) : Prop where
  len : out.length = k
  dig : Dig out
  c0 : 0 ≤ c
  c1 : c ≤ 1
  eq : val out + pw k * c = val (az.take k) + val (bs.take k)
theorem Plus.start (az bs : List Int) : Plus az bs [] 0 0 := ⟨rfl, Dig.nil, by omega, by omega, by simp [val]⟩
theorem Plus.step {az bs out : List Int} {k : Nat} {c : Int} (h : Plus az bs out k c) (ha : Dig az) (hb : Dig bs) {x : Int} (hx : x = c + az.getD k 0 + bs.getD k 0) :
    Plus az bs (out ++ [x % 65536]) (k + 1) (x / 65536) ∧ 0 ≤ x ∧ x ≤ 131071 := by
  have h1 := ha.at k
  have h2 := hb.at k
  have h3 := h.c0
  have h4 := h.c1
  refine ⟨⟨by simp [h.len], h.dig.snoc (by omega) (by omega), by omega, by omega, ?_⟩, by omega, by omega⟩
  rw [val_snoc, h.len, val_take_succ, val_take_succ, pw_succ]
  have e := h.eq
  have e2 : pw k * (x % 65536) + pw k * 65536 * (x / 65536) = pw k * c + pw k * az.getD k 0 + pw k * bs.getD k 0 := by
    rw [Int.mul_assoc, ← Int.mul_add, ← Int.mul_add, ← Int.mul_add, ← hx]
    congr 1
    omega
  omega
theorem Plus.done {az bs out : List Int} {k : Nat} (h : Plus az bs out k 0) (ha : az.length ≤ k) (hb : bs.length ≤ k) : val out = val az + val bs := by
  have e := h.eq
  rw [List.take_of_length_le ha, List.take_of_length_le hb] at e
  omega

/-! a difference, digit by digit -/
structure Minus (az bs out : List Int) (k : Nat) (c : Int) : Prop where
  len : out.length = k
  dig : Dig out
  c0 : 0 ≤ c
  c1 : c ≤ 1
  eq : val out = val (az.take k) - val (bs.take k) + pw k * c
theorem Minus.start (az bs : List Int) : Minus az bs [] 0 0 := ⟨rfl, Dig.nil, by omega, by omega, by simp [val]⟩
theorem Minus.step {az bs out : List Int} {k : Nat} {c : Int} (h : Minus az bs out k c) (ha : Dig az) (hb : Dig bs) {x y b : Int} (hx : x = az.getD k 0 - c - bs.getD k 0) (hy : y = x + 65536 * b) (hb0 : b = if x < 0 then 1 else 0) :
    Minus az bs (out ++ [y]) (k + 1) b := by
  have h1 := ha.at k
  have h2 := hb.at k
  have h3 := h.c0
  have h4 := h.c1
  have hb1 : 0 ≤ b ∧ b ≤ 1 ∧ 0 ≤ y ∧ y ≤ 65535 := by
    subst hb0; subst hy
    split <;> omega
  refine ⟨by simp [h.len], h.dig.snoc hb1.2.2.1 hb1.2.2.2, hb1.1, hb1.2.1, ?_⟩
  rw [val_snoc, h.len, val_take_succ, val_take_succ, pw_succ]
  have e := h.eq
  have e2 : pw k * y = pw k * az.getD k 0 - pw k * c - pw k * bs.getD k 0 + pw k * 65536 * b := by
    rw [Int.mul_assoc, ← Int.mul_sub, ← Int.mul_sub, ← Int.mul_add, ← hx, ← hy]
  omega
theorem Minus.done {az bs out : List Int} {k : Nat} {c : Int} (h : Minus az bs out k c) (ha : az.length = k) (hb : bs.length ≤ k) (hle : val bs ≤ val az) : val out = val az - val bs := by
  have e := h.eq
  rw [List.take_of_length_le (by omega), List.take_of_length_le hb] at e
  have h1 := val_lt h.dig
  rw [h.len] at h1
  have h3 := h.c0
  have h4 := h.c1
  rcases (show c = 0 ∨ c = 1 by omega) with rfl | rfl <;> omega

/-! which one is less -/
theorem less_of_len {az bs : List Int} {a b : Int} (ha : Says az a) (hb : Says bs b) (h : az.length ≠ bs.length) : decide (a < b) = decide (az.length < bs.length) := by
  have key : ∀ {xs ys : List Int} {x y : Int}, Says xs x → Says ys y → xs.length < ys.length → x < y := by
    intro xs ys x y hx hy hl
    obtain ⟨k, hk⟩ : ∃ k, ys.length = k + 1 := ⟨ys.length - 1, by omega⟩
    have h1 := val_ge hy.dig hy.top hk
    have h2 := val_lt hx.dig
    have h3 := pw_mono (show xs.length ≤ k by omega)
    rw [hy.val] at h1
    rw [hx.val] at h2
    omega
  rcases Nat.lt_or_ge az.length bs.length with h1 | h1
  · simp [h1, key ha hb h1]
  · have := key hb ha (by omega)
    have h2 : ¬ az.length < bs.length := by omega
    have h3 : ¬ a < b := by omega
    simp [h2, h3]
theorem less_at {az bs : List Int} (ha : Dig az) (hb : Dig bs) {k : Nat} (hk : k < az.length) (hk2 : k < bs.length) (heq : val (az.drop (k + 1)) = val (bs.drop (k + 1))) (hne : az.getD k 0 ≠ bs.getD k 0) :
    decide (val az < val bs) = decide (az.getD k 0 < bs.getD k 0) := by
  have e1 := val_split az (k := k) (by omega)
  have e2 := val_split bs (k := k) (by omega)
  have f1 := val_drop az hk
  have f2 := val_drop bs hk2
  have l1 := val_lt (ha.take k)
  have l2 := val_lt (hb.take k)
  have n1 := val_nonneg (ha.take k)
  have n2 := val_nonneg (hb.take k)
  rw [List.length_take, Nat.min_eq_left (by omega)] at l1 l2
  generalize az.getD k 0 = x at *
  generalize bs.getD k 0 = y at *
  rcases Int.lt_or_gt_of_ne hne with h | h
  · have : pw k * (val (az.drop k) + 1) ≤ pw k * val (bs.drop k) := Int.mul_le_mul_of_nonneg_left (by omega) (by have := pw_pos k; omega)
    rw [Int.mul_add] at this
    have h5 : val az < val bs := by omega
    simp [h, h5]
  · have : pw k * (val (bs.drop k) + 1) ≤ pw k * val (az.drop k) := Int.mul_le_mul_of_nonneg_left (by omega) (by have := pw_pos k; omega)
    rw [Int.mul_add] at this
    have h5 : ¬ val az < val bs := by omega
    have h6 : ¬ x < y := by omega
    simp [h6, h5]

/-! a product: one row of it -/
structure Times (a : Int) (bs row : List Int) (i k : Nat) (c : Int) : Prop where
  len : row.length = i + k
  dig : Dig row
  c0 : 0 ≤ c
  c1 : c ≤ 65535
  eq : val row + pw (i + k) * c = pw i * (a * val (bs.take k))
theorem val_zeros (i : Nat) : val (List.replicate i (0 : Int)) = 0 := by
  induction i with
  | zero => rfl
  | succ i ih => simp [List.replicate_succ, val, ih]
theorem Times.start (a : Int) (bs : List Int) (i : Nat) : Times a bs (List.replicate i 0) i 0 0 := by
  refine ⟨by simp, fun z hz => by simp at hz; omega, by omega, by omega, ?_⟩
  simp [val, val_zeros]
theorem Times.step {a : Int} {bs row : List Int} {i k : Nat} {c : Int} (h : Times a bs row i k c) (hb : Dig bs) (a0 : 0 ≤ a) (a1 : a ≤ 65535) {x : Int} (hx : x = c + a * bs.getD k 0) :
    Times a bs (row ++ [x % 65536]) i (k + 1) (x / 65536) ∧ 0 ≤ x ∧ x ≤ 4294967295 := by
  have h2 := hb.at k
  have h3 := h.c0
  have h4 := h.c1
  have hm : 0 ≤ a * bs.getD k 0 := Int.mul_nonneg a0 h2.1
  have hM : a * bs.getD k 0 ≤ 65535 * 65535 := Int.mul_le_mul a1 h2.2 h2.1 (by omega)
  refine ⟨⟨by simp [h.len]; omega, h.dig.snoc (by omega) (by omega), by omega, by omega, ?_⟩, by omega, by omega⟩
  rw [val_snoc, h.len, val_take_succ, ← Nat.add_assoc, pw_succ]
  have e := h.eq
  have e2 : pw (i + k) * (x % 65536) + pw (i + k) * 65536 * (x / 65536) = pw (i + k) * c + pw (i + k) * (a * bs.getD k 0) := by
    rw [Int.mul_assoc, ← Int.mul_add, ← Int.mul_add, ← hx]
    congr 1
    omega
  have e3 : pw (i + k) = pw i * pw k := by unfold pw; rw [Int.pow_add]
  have e4 : pw i * (a * (val (bs.take k) + pw k * bs.getD k 0)) = pw i * (a * val (bs.take k)) + pw (i + k) * (a * bs.getD k 0) := by
    rw [e3, Int.mul_add, Int.mul_add, Int.mul_assoc (pw i), ← Int.mul_assoc a, Int.mul_comm a (pw k), Int.mul_assoc (pw k)]
  omega
theorem Times.done {a : Int} {bs row : List Int} {i k : Nat} (h : Times a bs row i k 0) (hk : bs.length ≤ k) : val row = pw i * (a * val bs) := by
  have e := h.eq
  rw [List.take_of_length_le hk] at e
  omega
/-- A product so far, and a row more. -/
theorem mul_step (az bs : List Int) (k : Nat) : val (az.take k) * val bs + pw k * (az.getD k 0 * val bs) = val (az.take (k + 1)) * val bs := by
  rw [val_take_succ, Int.add_mul, Int.mul_assoc]
theorem take_mul_lt {az bs : List Int} {m n : Nat} (ha : Dig az) (hb : Dig bs) (hm : val az < pw m) (hn : val bs < pw n) (k : Nat) : 0 ≤ val (az.take k) * val bs ∧ val (az.take k) * val bs < pw (m + n) := by
  have h1 := val_nonneg (ha.take k)
  have h2 := val_nonneg hb
  have h3 : val (az.take k) ≤ val az := by
    rcases Nat.le_total k az.length with h | h
    · have := val_split az h
      have := val_nonneg (ha.drop k)
      have : 0 ≤ pw k * val (az.drop k) := Int.mul_nonneg (by have := pw_pos k; omega) this
      omega
    · rw [List.take_of_length_le h]; exact Int.le_refl _
  refine ⟨Int.mul_nonneg h1 h2, ?_⟩
  have e3 : pw (m + n) = pw m * pw n := by unfold pw; rw [Int.pow_add]
  rw [e3]
  have := pw_pos m
  have := pw_pos n
  have h5 : val (az.take k) * val bs ≤ (pw m - 1) * (pw n - 1) := Int.mul_le_mul (by omega) (by omega) h2 (by omega)
  rw [Int.sub_mul, Int.mul_sub] at h5
  omega

/-! a half -/
structure Half (ds out : List Int) (j : Nat) (r : Int) : Prop where
  len : out.length = ds.length
  dig : Dig out
  r0 : 0 ≤ r
  r1 : r ≤ 1
  eq : val (ds.drop j) = 2 * val (out.drop j) + r
theorem Half.start (ds : List Int) : Half ds (List.replicate ds.length 0) ds.length 0 := by
  refine ⟨by simp, fun z hz => by simp at hz; omega, by omega, by omega, ?_⟩
  rw [List.drop_of_length_le (by omega), List.drop_of_length_le (by simp)]; simp [val]
theorem Dig.set {ds : List Int} (h : Dig ds) (k : Nat) {x : Int} (h0 : 0 ≤ x) (h1 : x ≤ 65535) : Dig (ds.set k x) := by
  intro z hz
  rcases List.mem_or_eq_of_mem_set hz with hz | rfl
  · exact h z hz
  · exact ⟨h0, h1⟩
theorem Half.step {ds out : List Int} {j : Nat} {r : Int} (h : Half ds out (j + 1) r) (hd : Dig ds) (hj : j < ds.length) {x : Int} (hx : x = r * 65536 + ds.getD j 0) :
    Half ds (out.set j (x / 2)) j (x % 2) ∧ 0 ≤ x ∧ x ≤ 131071 := by
  have h1 := hd.at j
  have h2 := h.r0
  have h3 := h.r1
  refine ⟨⟨by simp [h.len], h.dig.set j (by omega) (by omega), by omega, by omega, ?_⟩, by omega, by omega⟩
  have e := h.eq
  have hl := h.len
  rw [val_drop ds hj, val_drop (out.set j (x / 2)) (by simp; omega)]
  have g1 : (out.set j (x / 2)).getD j 0 = x / 2 := by simp [show j < out.length by omega]
  have g2 : (out.set j (x / 2)).drop (j + 1) = out.drop (j + 1) := by rw [List.drop_set_of_lt (by omega)]
  rw [g1, g2]
  omega
theorem Half.done {ds out : List Int} {r : Int} (h : Half ds out 0 r) : val out = val ds / 2 ∧ r = val ds % 2 := by
  have e := h.eq
  have h2 := h.r0
  have h3 := h.r1
  simp only [List.drop_zero] at e
  omega
end Go.Proofs.Ytejcjonlnijbkaa.Ref

/- Package ref01, walked: rows of digits that a call makes for itself; trim. For all rows. -/
namespace Go.Proofs.Ytejcjonlnijbkaa.Ref
open Go Go.RowKit Open
set_option maxRecDepth 100000
set_option linter.unusedVariables false
set_option linter.unusedSimpArgs false

theorem info_int : (Try.prog.info? 3).map (fun i => (i.zero, i.size, i.bytes)) = some (some (.int .i64 0), 1, 8) := by kernel_rfl

/-- A row of numbers that the call made itself, above the blocks that there were. -/
structure Own (w0 w : World) (v : Value) (ds : List Int) : Prop where
  row : w.ownsRow w0.heap.size 3 1 v ds.length (ds.map (.int .i64))
  bel : Below w0.heap.size w0 w
theorem Own.nil {w0 w : World} (h : Below w0.heap.size w0 w) : Own w0 w (.slice none 0 0) [] := ⟨World.ownsRow_nil _ _ _ _, h⟩
theorem Own.alloc {w0 w : World} {v : Value} {ds : List Int} (h : Own w0 w v ds) (o : Obj) : Own w0 (w.alloc o) v ds := ⟨h.row.alloc o, h.bel.alloc h.bel.size o⟩
theorem addr_add (b k : Nat) : (⟨b, 0, none⟩ : Addr).add k = ⟨b, k, none⟩ := by unfold Addr.add; split <;> simp_all
/-- What it is, to a reader. -/
theorem Own.read {w0 w : World} {v : Value} {ds : List Int} (h : Own w0 w v ds) (hd : Dig ds) :
    ∃ A cap, v = .slice A ds.length cap ∧ ds.length ≤ cap ∧ cap ≤ maxLen ∧ IntRow w .i64 A ds ∧ ∀ a, A = some a → w0.heap.size ≤ a.block := by
  have hc := fun {g} (hg : v.ownBlock = some g) => h.row.cells hg
  have hlt := h.row.lt
  rcases h.row.2 with ⟨rfl, h0⟩ | ⟨g, cap, cur, rfl, hb, hg, h1, h2, _, _⟩
  · exact ⟨none, 0, by rw [h0], by omega, by unfold maxLen; omega, ⟨fun i hi => by omega, hd.wf⟩, fun a ha => by cases ha⟩
  · refine ⟨_, _, rfl, h1, h2, ⟨fun i hi => ⟨g, 0, rfl, (hlt g rfl).2, ?_⟩, hd.wf⟩, fun a ha => by cases ha; exact hb⟩
    have := hc (g := g) rfl i (.int .i64 (ds[i]?.getD 0)) (by simp [hi])
    rw [addr_add] at this
    rw [Nat.zero_add]; exact this
/-- append, of one number. -/
theorem app1 {w0 w : World} {ops : Array Oper} {rest : List Oper} {o : Oper} {a : Act} {Q : Exit → Act → World → Prop} (hgd : o.guard = none) (s x : Operand)
    (ho : o.op = .call { callee := .builtin .append, args := #[s, x], argTypes := #[152, 152] })
    (v : Value) (ds : List Int) (hs : a.eval s = v) (hown : Own w0 w v ds) (b : Nat) (z : Int) (hx : a.eval x = .slice (some ⟨b, 0, none⟩) 1 1) (hb : w.cell? ⟨b, 0, none⟩ = some (.int .i64 z)) (hlen : ds.length ≤ 1000000)
    (h : ∀ v' w', Own w0 w' v' (ds ++ [z]) → w.grownBy w' v.ownBlock → wpList Try.prog ops Q rest (a.put o.dst v') w') : wpList Try.prog ops Q (o :: rest) a w := by
  obtain ⟨i0, hi, hz0, hz1, hz2⟩ := info_parts info_int
  refine wpList_append_own _ hgd s x 152 ho w0.heap.size 3 i0 (.int .i64 0) 1 8 Try.underlying152 hi hz0 hz1 hz2 rfl (by decide) v ds.length _ hs hown.row ⟨b, 0, none⟩ 1 1 [.int .i64 z] hx rfl
    ?_ (ints_oneCell .i64 [z]) (by unfold maxLen; omega) (by omega) hown.bel.size ?_
  · intro j u hj
    match j, hj with
    | 0, hj => simp at hj; subst hj; rw [addr_add]; exact hb
  · intro v' w' h1 h2 _
    exact h v' w' ⟨by simpa using h1, hown.bel.grown h2 hown.bel.size (fun k hk => (hown.row.lt k hk).1)⟩ h2
theorem cell_new (w : World) (x : Value) (t : TypeId) : (w.alloc (.cells #[x] t)).cell? ⟨w.heap.size, 0, none⟩ = some x := by
  have := cell_one_new w x t 0 x rfl
  rwa [addr_add] at this

/-- What a function hands back: a row that says a number. -/
structure Out (w w' : World) (C : Option Addr) (cs : List Int) (n : Int) : Prop where
  row : IntRow w' .i64 C cs
  says : Says cs n
  bel : Below w.heap.size w w'
  new : ∀ a, C = some a → w.heap.size ≤ a.block

theorem _root_.Go.Proofs.Ytejcjonlnijbkaa.Open.IntRow.take {w : World} {k : IntKind} {A : Option Addr} {ds : List Int} (h : IntRow w k A ds) (m : Nat) : IntRow w k A (ds.take m) :=
  ⟨fun i hi => by
    obtain ⟨b, off, e, hl, hc⟩ := h.cell i (by simp at hi; omega)
    refine ⟨b, off, e, hl, hc.trans ?_⟩
    have : i < m := by simp at hi; omega
    simp [this], fun z hz => h.wf z (List.mem_of_mem_take hz)⟩
theorem getD_q (ds : List Int) (k : Nat) : ds[k]?.getD 0 = ds.getD k 0 := by simp

set_option maxHeartbeats 2000000 in
/-- trim: without noughts ahead; nothing turns. -/
theorem trim_calls (A : Option Addr) (ds : List Int) (cap : Nat) (h1 : ds.length ≤ cap) (h2 : cap ≤ maxLen) (hd : Dig ds) (w : World) (hA : IntRow w .i64 A ds) :
    Calls Try.prog 94 #[.slice A ds.length cap] w fun e w' => ∃ m, e = .returned (.slice A m cap) ∧ m ≤ ds.length ∧ val (ds.take m) = val ds ∧ Top (ds.take m) ∧ w = w' := by
  unfold maxLen at h2
  go_enter Try.func94, Try.ntmps94
  go_wp2
  go_loop [0] (fun v => ∃ m, v = .slice A m cap ∧ m ≤ ds.length ∧ ∀ j, m ≤ j → j < ds.length → ds.getD j 0 = 0) (fun v => match v with | .slice _ m _ => m | _ => 0)
  case atStart => exact ⟨ds.length, rfl, Nat.le_refl _, fun j h1 h2 => by omega⟩
  case round =>
    obtain ⟨m, rfl, hm, hz⟩ := hrel
    have HZ := Lib.hid hz
    clear hz
    by_cases hp : 0 < m
    · obtain ⟨b, off, rfl, hb, hc⟩ := hA.cell (m - 1) (by omega)
      have hw := hd.at' (m - 1)
      have hG := Lib.hid (getD_q ds (m - 1))
      by_cases h0 : ds[m - 1]?.getD 0 = 0
      · have H0 := Lib.hid h0
        rw [h0] at hc
        clear h0 hw
        have e1 : off + (m - 1) = off + (m - 1) := rfl
        go_wp2
        go_round
        case rel => exact ⟨m - 1, by go_num, by omega, fun j h1 h2 => by
          rcases Nat.lt_or_ge j m with h3 | h3
          · obtain rfl : j = m - 1 := by omega
            rw [← hG.out, H0.out]
          · exact HZ.out j h3 h2⟩
        case measure => simp; omega
      · have H0 := Lib.hid h0
        generalize ds[m - 1]?.getD 0 = z at *
        go_wp2
        go_ret
        refine ⟨m, rfl, hm, val_take_zeros ds hm HZ.out, ?_, rfl⟩
        intro k hk
        rw [List.length_take, Nat.min_eq_left hm] at hk
        obtain rfl : k = m - 1 := by omega
        have : (ds.take m).getD (m - 1) 0 = ds.getD (m - 1) 0 := by simp [show m - 1 < m by omega]
        rw [this, ← hG.out]
        exact H0.out
    · obtain rfl : m = 0 := by omega
      go_wp2
      go_ret
      exact ⟨0, rfl, hm, val_take_zeros ds hm HZ.out, fun k hk => by simp at hk, rfl⟩
end Go.Proofs.Ytejcjonlnijbkaa.Ref

/- Package ref01, walked: plus and minus. For all rows of at most 64 digits. -/
namespace Go.Proofs.Ytejcjonlnijbkaa.Ref
open Go Go.RowKit Open
set_option maxRecDepth 100000
set_option linter.unusedVariables false
set_option linter.unusedSimpArgs false

/-- What a loop knows of the row that it builds: its value, and what the next number makes of it. -/
theorem quo_nonneg {x : Int} (h : 0 ≤ x) : x.tdiv 65536 = x / 65536 := Int.tdiv_eq_ediv_of_nonneg h
theorem rem_nonneg {x : Int} (h : 0 ≤ x) : x.tmod 65536 = x % 65536 := Int.tmod_eq_emod_of_nonneg h

theorem below_drewN {B : Nat} {a w : World} (h : Below B a w) (n : Nat) : Below B a (w.drewN n) := h.trans ⟨rfl, rfl, rfl, Nat.le_refl _, fun _ _ => rfl⟩

set_option maxHeartbeats 4000000 in
theorem plus_calls (A B : Option Addr) (ps qs : List Int) (ca cb : Nat) (a b : Int) (w : World) (hA : IntRow w .i64 A ps) (hB : IntRow w .i64 B qs) (ha : Says ps a) (hb : Says qs b) (la : ps.length ≤ 64) (lb : qs.length ≤ 64) :
    Calls Try.prog 93 #[.slice A ps.length ca, .slice B qs.length cb] w fun e w' => ∃ C cs cc, e = .returned (.slice C cs.length cc) ∧ Out w w' C cs (a + b) := by
  go_enter Try.func93, Try.ntmps93
  go_wp2
  go_loopw [5, 6, 7] (fun v c i wr => ∃ k out C, i = .int .i64 (k : Nat) ∧ c = .int .i64 C ∧ Plus ps qs out k C ∧ Own w wr v out ∧ k ≤ 65 ∧ (k = 65 → C = 0)) (fun _ _ i _ => 66 - (intOf i).toNat)
  case atStart => exact ⟨0, [], 0, rfl, rfl, Plus.start ps qs, Own.nil (Below.refl _ _), by omega, by omega⟩
  case round =>
    obtain ⟨k, out, C, rfl, rfl, hP, hown, hk, hk2⟩ := hrel
    have hc0 := hP.c0
    have hc1 := hP.c1
    have hl := hP.len
    have hSt := hP.step ha.dig hb.dig (x := C + ps.getD k 0 + qs.getD k 0) rfl
    have hDn : C = 0 → ps.length ≤ k → qs.length ≤ k → val out = a + b := fun h1 h2 h3 => by subst h1; rw [hP.done h2 h3, ha.val, hb.val]
    have cA := (hA.below hown.bel).cell k
    have cB := (hB.below hown.bel).cell k
    have dA := ha.dig.at k
    have dB := hb.dig.at k
    have zA : ps.length ≤ k → ps.getD k 0 = 0 := fun h => by simp [h]
    have zB : qs.length ≤ k → qs.getD k 0 = 0 := fun h => by simp [h]
    have hdig := hP.dig
    rw [getD_q] at cA cB
    generalize ps.getD k 0 = x at *
    generalize qs.getD k 0 = y at *
    by_cases hx : k < ps.length ∨ k < qs.length ∨ 0 < C
    · have hnext : k + 1 ≤ 65 ∧ (k + 1 = 65 → (C + x + y) / 65536 = 0) := by
        obtain ⟨_, h2, h3⟩ := hSt
        constructor
        · rcases Nat.lt_or_ge k 65 with h | h
          · omega
          · have := hk2 (by omega); omega
        · intro h
          have := zA (by omega)
          have := zB (by omega)
          omega
      by_cases q1 : k < ps.length <;> by_cases q2 : k < qs.length
      · skip
        try simp only [Int.add_zero] at hSt hnext
        obtain ⟨h1, h2, h3⟩ := hSt
        have e1 := quo_nonneg h2
        have e2 := rem_nonneg h2
        have HP := Lib.hid h1
        clear h1 hP hDn
        obtain ⟨b1, o1, rfl, hb1, hc1'⟩ := cA q1
        obtain ⟨b2, o2, rfl, hb2, hc2'⟩ := cB q2
        go_wp2_with (at_builtin; refine app1 rfl _ _ rfl _ _ rfl (hown.alloc _) _ _ rfl (cell_new _ _ _) (by omega) ?_; intro v' w2 hown' hgrow')
        go_roundw
        case rel => exact ⟨k + 1, out ++ [(C + x + y) % 65536], (C + x + y) / 65536, by go_num, by simp [e1], HP.out, by simpa [e2] using hown', hnext.1, hnext.2⟩
        case measure => simp [intOf]; omega
      · obtain rfl : y = 0 := zB (by omega)
        try simp only [Int.add_zero] at hSt hnext
        obtain ⟨h1, h2, h3⟩ := hSt
        have e1 := quo_nonneg h2
        have e2 := rem_nonneg h2
        have HP := Lib.hid h1
        clear h1 hP hDn
        obtain ⟨b1, o1, rfl, hb1, hc1'⟩ := cA q1
        go_wp2_with (at_builtin; refine app1 rfl _ _ rfl _ _ rfl (hown.alloc _) _ _ rfl (cell_new _ _ _) (by omega) ?_; intro v' w2 hown' hgrow')
        go_roundw
        case rel => exact ⟨k + 1, out ++ [(C + x) % 65536], (C + x) / 65536, by go_num, by simp [e1], HP.out, by simpa [e2] using hown', hnext.1, hnext.2⟩
        case measure => simp [intOf]; omega
      · obtain rfl : x = 0 := zA (by omega)
        try simp only [Int.add_zero] at hSt hnext
        obtain ⟨h1, h2, h3⟩ := hSt
        have e1 := quo_nonneg h2
        have e2 := rem_nonneg h2
        have HP := Lib.hid h1
        clear h1 hP hDn
        obtain ⟨b2, o2, rfl, hb2, hc2'⟩ := cB q2
        go_wp2_with (at_builtin; refine app1 rfl _ _ rfl _ _ rfl (hown.alloc _) _ _ rfl (cell_new _ _ _) (by omega) ?_; intro v' w2 hown' hgrow')
        go_roundw
        case rel => exact ⟨k + 1, out ++ [(C + y) % 65536], (C + y) / 65536, by go_num, by simp [e1], HP.out, by simpa [e2] using hown', hnext.1, hnext.2⟩
        case measure => simp [intOf]; omega
      · have q4 : ps.length ≤ k := Nat.le_of_not_lt q1
        have q5 : qs.length ≤ k := Nat.le_of_not_lt q2
        clear cA cB
        obtain rfl : x = 0 := zA q4
        obtain rfl : y = 0 := zB q5
        have q3 : 0 < C := by omega
        try simp only [Int.add_zero] at hSt hnext
        obtain ⟨h1, h2, h3⟩ := hSt
        have e1 := quo_nonneg h2
        have e2 := rem_nonneg h2
        have HP := Lib.hid h1
        clear h1 hP hDn
        go_wp2_with (at_builtin; refine app1 rfl _ _ rfl _ _ rfl (hown.alloc _) _ _ rfl (cell_new _ _ _) (by omega) ?_; intro v' w2 hown' hgrow')
        go_roundw
        case rel => exact ⟨k + 1, out ++ [(C) % 65536], (C) / 65536, by go_num, by simp [e1], HP.out, by simpa [e2] using hown', hnext.1, hnext.2⟩
        case measure => simp [intOf]; omega
    · have hv := hDn (by omega) (by omega) (by omega)
      obtain rfl : C = 0 := by omega
      clear hDn hP hSt hl cA cB zA zB
      have q1 : ¬ k < ps.length := by omega
      have q2 : ¬ k < qs.length := by omega
      clear hx
      obtain ⟨C1, cap1, rfl, l1, l2, hR, hnew⟩ := hown.read hdig
      have hbel := hown.bel
      go_wp2_with (go_at_call 94; ((with_reducible refine (trim_calls C1 out cap1 l1 l2 hdig _ hR).mono ?_); rintro e w1 ⟨m, rfl, hm, hval, htop, rfl⟩))
      go_ret
      refine ⟨C1, out.take m, cap1, by rw [List.length_take, Nat.min_eq_left hm]; rfl, ⟨hR.take m, ⟨hdig.take m, htop, by rw [hval, hv]⟩, hbel, hnew⟩⟩
set_option maxHeartbeats 4000000 in
theorem minus_calls (A B : Option Addr) (ps qs : List Int) (ca cb : Nat) (a b : Int) (w : World) (hA : IntRow w .i64 A ps) (hB : IntRow w .i64 B qs) (ha : Says ps a) (hb : Says qs b) (la : ps.length ≤ 66) (lb : qs.length ≤ ps.length) (hle : b ≤ a) :
    Calls Try.prog 105 #[.slice A ps.length ca, .slice B qs.length cb] w fun e w' => ∃ C cs cc, e = .returned (.slice C cs.length cc) ∧ Out w w' C cs (a - b) := by
  go_enter Try.func105, Try.ntmps105
  go_wp2
  go_loopw [5, 6, 7] (fun v c i wr => ∃ k out C, i = .int .i64 (k : Nat) ∧ c = .int .i64 C ∧ Minus ps qs out k C ∧ Own w wr v out ∧ k ≤ ps.length) (fun _ _ i _ => 66 - (intOf i).toNat)
  case atStart => exact ⟨0, [], 0, rfl, rfl, Minus.start ps qs, Own.nil (Below.refl _ _), by omega⟩
  case round =>
    obtain ⟨k, out, C, rfl, rfl, hP, hown, hk⟩ := hrel
    have hc0 := hP.c0
    have hc1 := hP.c1
    have hl := hP.len
    have hSt := fun y b => hP.step ha.dig hb.dig (x := ps.getD k 0 - C - qs.getD k 0) (y := y) (b := b) rfl
    have hDn : ps.length = k → val out = a - b := fun h1 => by rw [hP.done h1 (by omega) (by rw [ha.val, hb.val]; exact hle), ha.val, hb.val]
    have cA := (hA.below hown.bel).cell k
    have cB := (hB.below hown.bel).cell k
    have dA := ha.dig.at k
    have dB := hb.dig.at k
    have zB : qs.length ≤ k → qs.getD k 0 = 0 := fun h => by simp [h]
    have hdig := hP.dig
    rw [getD_q] at cA cB
    generalize ps.getD k 0 = x at *
    generalize qs.getD k 0 = y at *
    by_cases hx : k < ps.length
    · obtain ⟨b1, o1, rfl, hb1, hc1'⟩ := cA hx
      clear hDn hP
      by_cases q2 : k < qs.length
      · obtain ⟨b2, o2, rfl, hb2, hc2'⟩ := cB q2
        by_cases q3 : x - C - y < 0
        · have h1 := hSt (x - C - y + 65536) 1 rfl (by simp [q3])
          have HP := Lib.hid h1
          clear h1 hSt
          go_wp2_with (at_builtin; refine app1 rfl _ _ rfl _ _ rfl (hown.alloc _) _ _ rfl (cell_new _ _ _) (by omega) ?_; intro v' w2 hown' hgrow')
          go_roundw
          case rel => exact ⟨k + 1, out ++ [x - C - y + 65536], 1, by go_num, rfl, HP.out, by simpa using hown', by omega⟩
          case measure => simp [intOf]; omega
        · have h1 := hSt (x - C - y) 0 (by omega) (by simp [q3])
          have HP := Lib.hid h1
          clear h1 hSt
          go_wp2_with (at_builtin; refine app1 rfl _ _ rfl _ _ rfl (hown.alloc _) _ _ rfl (cell_new _ _ _) (by omega) ?_; intro v' w2 hown' hgrow')
          go_roundw
          case rel => exact ⟨k + 1, out ++ [x - C - y], 0, by go_num, rfl, HP.out, by simpa using hown', by omega⟩
          case measure => simp [intOf]; omega
      · have q4 : qs.length ≤ k := Nat.le_of_not_lt q2
        clear cA cB
        obtain rfl : y = 0 := zB q4
        by_cases q3 : x - C < 0
        · have h1 := hSt (x - C + 65536) 1 (by omega) (by simp [q3])
          have HP := Lib.hid h1
          clear h1 hSt
          go_wp2_with (at_builtin; refine app1 rfl _ _ rfl _ _ rfl (hown.alloc _) _ _ rfl (cell_new _ _ _) (by omega) ?_; intro v' w2 hown' hgrow')
          go_roundw
          case rel => exact ⟨k + 1, out ++ [x - C + 65536], 1, by go_num, rfl, HP.out, by simpa using hown', by omega⟩
          case measure => simp [intOf]; omega
        · have h1 := hSt (x - C) 0 (by omega) (by simp [q3])
          have HP := Lib.hid h1
          clear h1 hSt
          go_wp2_with (at_builtin; refine app1 rfl _ _ rfl _ _ rfl (hown.alloc _) _ _ rfl (cell_new _ _ _) (by omega) ?_; intro v' w2 hown' hgrow')
          go_roundw
          case rel => exact ⟨k + 1, out ++ [x - C], 0, by go_num, rfl, HP.out, by simpa using hown', by omega⟩
          case measure => simp [intOf]; omega
    · have hv := hDn (by omega)
      clear hDn hP hSt hl cA cB zB
      obtain ⟨C1, cap1, rfl, l1, l2, hR, hnew⟩ := hown.read hdig
      have hbel := hown.bel
      go_wp2_with (go_at_call 94; ((with_reducible refine (trim_calls C1 out cap1 l1 l2 hdig _ hR).mono ?_); rintro e w1 ⟨m, rfl, hm, hval, htop, rfl⟩))
      go_ret
      refine ⟨C1, out.take m, cap1, by rw [List.length_take, Nat.min_eq_left hm]; rfl, ⟨hR.take m, ⟨hdig.take m, htop, by rw [hval, hv]⟩, hbel, hnew⟩⟩

set_option maxHeartbeats 4000000 in
/-- less: which one is less; nothing turns. -/
theorem less_calls (A B : Option Addr) (ps qs : List Int) (ca cb : Nat) (a b : Int) (w : World) (hA : IntRow w .i64 A ps) (hB : IntRow w .i64 B qs) (ha : Says ps a) (hb : Says qs b) (la : ps.length ≤ 1000) (lb : qs.length ≤ 1000) :
    Calls Try.prog 104 #[.slice A ps.length ca, .slice B qs.length cb] w fun e w' => e = .returned (.bool (decide (a < b))) ∧ Below w.heap.size w w' := by
  by_cases hne : ps.length = qs.length
  · obtain ⟨r, hr⟩ : ∃ r, decide (a < b) = r := ⟨_, rfl⟩
    rw [hr]
    have hlast : ∀ h : val (ps.drop 0) = val (qs.drop 0), r = false := fun h => by
      rw [← hr]
      simp only [List.drop_zero, ha.val, hb.val] at h
      simp [h]
    have hat : ∀ k, k < ps.length → val (ps.drop (k + 1)) = val (qs.drop (k + 1)) → ps.getD k 0 ≠ qs.getD k 0 → r = decide (ps.getD k 0 < qs.getD k 0) := fun k h1 h2 h3 => by
      rw [← hr, ← less_at ha.dig hb.dig h1 (by omega) h2 h3, ha.val, hb.val]
    have hgo : ∀ k, k < ps.length → val (ps.drop (k + 1)) = val (qs.drop (k + 1)) → ps.getD k 0 = qs.getD k 0 → val (ps.drop k) = val (qs.drop k) := fun k h1 h2 h3 => by
      rw [val_drop ps h1, val_drop qs (by omega), h2, h3]
    have hst : val (ps.drop ps.length) = val (qs.drop ps.length) := by rw [List.drop_of_length_le (by omega), List.drop_of_length_le (by omega)]
    have LA := Lib.hid hlast
    have AT := Lib.hid hat
    have GO := Lib.hid hgo
    have ST := Lib.hid hst
    clear hlast hat hgo hst hr
    obtain ⟨n, hn⟩ : ∃ n, n = ps.length := ⟨_, rfl⟩
    have hn2 : qs.length = n := by omega
    clear hne
    go_enter Try.func104, Try.ntmps104
    rw [hn2, ← hn]
    go_wp2
    go_loopw [5] (fun i wr => ∃ k : Nat, k ≤ n ∧ i = .int .i64 ((k : Int) - 1) ∧ val (ps.drop k) = val (qs.drop k) ∧ Below w.heap.size w wr) (fun i _ => (intOf i + 1).toNat)
    case atStart => exact ⟨n, Nat.le_refl _, by rw [hn], by rw [hn]; exact ST.out, Below.refl _ _⟩
    case round =>
      obtain ⟨k, hk, rfl, hv, hbel⟩ := hrel
      have HV := Lib.hid hv
      clear hv
      by_cases hp : 0 < k
      · obtain ⟨j, rfl⟩ : ∃ j, k = j + 1 := ⟨k - 1, by omega⟩
        obtain ⟨b1, o1, rfl, hb1, hc1⟩ := (hA.below hbel).cell j (by omega)
        obtain ⟨b2, o2, rfl, hb2, hc2⟩ := (hB.below hbel).cell j (by omega)
        have e0 : ((j + 1 : Nat) : Int) - 1 = (j : Nat) := by omega
        rw [e0]
        have dA := ha.dig.at j
        have dB := hb.dig.at j
        rw [getD_q] at hc1 hc2
        have G := Lib.hid (GO.out j (by omega) HV.out)
        have T := Lib.hid (AT.out j (by omega) HV.out)
        generalize ps.getD j 0 = x at *
        generalize qs.getD j 0 = y at *
        by_cases hxy : x = y
        · subst hxy
          have G2 := Lib.hid (G.out rfl)
          clear G T AT
          go_wp2
          go_quiet (fail)
          go_wp2
          go_roundw
          case rel => exact ⟨j, by omega, by go_num, G2.out, below_drewN hbel _⟩
          case measure => simp [intOf]
        · obtain rfl := T.out hxy
          clear T G AT LA
          go_wp2
          go_quiet (fail)
          go_wp2
          go_quiet (fail)
          go_wp2
          go_ret
          exact ⟨rfl, by first | exact below_drewN (below_drewN hbel _) _ | exact below_drewN hbel _⟩
      · obtain rfl : k = 0 := by omega
        obtain rfl := LA.out HV.out
        go_wp2
        go_ret
        exact ⟨rfl, hbel⟩
  · rw [less_of_len ha hb hne]
    go_enter Try.func104, Try.ntmps104
    go_wp2
    go_ret
    exact ⟨rfl, Below.refl _ _⟩
end Go.Proofs.Ytejcjonlnijbkaa.Ref

/- Package ref01, walked: what a call's answer is to the caller. -/
namespace Go.Proofs.Ytejcjonlnijbkaa.Ref
open Go Go.RowKit Open
set_option maxRecDepth 100000
set_option linter.unusedVariables false
set_option linter.unusedSimpArgs false
theorem below_a1 (w : World) (o : Obj) : Below w.heap.size w (w.alloc o) := (Below.refl _ _).alloc (Nat.le_refl _) _
theorem below_more {w w1 w2 : World} (a : Below w.heap.size w w1) (b : Below w1.heap.size w1 w2) : Below w.heap.size w w2 := a.trans (b.mono a.size)
theorem bcell {W w1 : World} (hb : Below W.heap.size W w1) : (∀ b o, b < W.heap.size → w1.cell? ⟨b, o, none⟩ = W.cell? ⟨b, o, none⟩) ∧ (∀ b o, b < W.heap.size → w1.frozen? ⟨b, o, none⟩ = W.frozen? ⟨b, o, none⟩) :=
  ⟨fun b o h => hb.cell (p := ⟨b, o, none⟩) h, fun b o h => hb.frozen (p := ⟨b, o, none⟩) h⟩
theorem _root_.Go.Proofs.Ytejcjonlnijbkaa.Open.IntRow.drew {w : World} {k : IntKind} {A : Option Addr} {zs : List Int} (h : IntRow w k A zs) : IntRow w.drew k A zs := ⟨h.cell, h.wf⟩
theorem _root_.Go.Proofs.Ytejcjonlnijbkaa.Open.IntRow.set {w : World} {k : IntKind} {A : Option Addr} {zs : List Int} (h : IntRow w k A zs) {g o : Nat} {v : Value} (hne : ∀ a, A = some a → a.block ≠ g) : IntRow (w.setCell ⟨g, o, none⟩ v) k A zs :=
  ⟨fun i hi => by
    obtain ⟨b, off, e, hl, hc⟩ := h.cell i hi
    have := hne _ e
    refine ⟨b, off, e, by simpa using hl, ?_⟩
    rw [World.cell?_setCell_other _ _ _ _ (by simp only [ne_eq, Addr.mk.injEq, not_and]; intro h; exact absurd h.symm this)]
    exact hc, h.wf⟩
/-- What a callee has handed back, and a box of the caller's is filled behind it. -/
theorem Out.store {w X w1 : World} {C : Option Addr} {cs : List Int} {n : Int} (ho : Out X w1 C cs n) (hX : Below w.heap.size w X) {g : Nat} (h1 : w.heap.size ≤ g) (h2 : g < X.heap.size) (v0 v1 : Value) :
    Out w ((w1.setCell ⟨g, 0, none⟩ v0).setCell ⟨g, 1, none⟩ v1) C cs n := by
  have hne : ∀ a, C = some a → a.block ≠ g := fun a ha => by have := ho.new a ha; omega
  refine ⟨(ho.row.set hne).set hne, ho.says, ?_, fun a ha => Nat.le_trans hX.size (ho.new a ha)⟩
  exact ((hX.trans (ho.bel.mono hX.size)).setCell h1 _).setCell h1 _
/-- A number with its sign. -/
def sg (s : Bool) (n : Int) : Int := if s then -n else n
theorem sg_true (n : Int) : sg true n = -n := rfl
theorem sg_false (n : Int) : sg false n = n := rfl
theorem says_len_mono {ps qs : List Int} {a b : Int} (ha : Says ps a) (hb : Says qs b) (h : b ≤ a) : qs.length ≤ ps.length := by
  rcases Nat.lt_or_ge ps.length qs.length with h1 | h1
  · have := less_of_len ha hb (by omega)
    simp [h1] at this
    omega
  · exact h1
end Go.Proofs.Ytejcjonlnijbkaa.Ref

/- Package ref01, walked: a sum of numbers with signs. Printed by gen_ref.py. -/
namespace Go.Proofs.Ytejcjonlnijbkaa.Ref
open Go Go.RowKit Open
set_option maxRecDepth 100000
set_option linter.unusedVariables false
set_option linter.unusedSimpArgs false

theorem three_keep {w wc w1 : World} {x0 x1 y0 y1 z0 z1 : Value} {A B : Option Addr} {ps qs : List Int}
    (h : wc.cell? ⟨w.heap.size, 0, none⟩ = some x0 ∧ wc.cell? ⟨w.heap.size, 1, none⟩ = some x1 ∧ wc.cell? ⟨(w.heap.size + 1), 0, none⟩ = some y0 ∧ wc.cell? ⟨(w.heap.size + 1), 1, none⟩ = some y1 ∧ wc.cell? ⟨(w.heap.size + 1 + 1), 0, none⟩ = some z0 ∧ wc.cell? ⟨(w.heap.size + 1 + 1), 1, none⟩ = some z1 ∧ wc.frozen? ⟨w.heap.size, 0, none⟩ = false ∧ wc.frozen? ⟨w.heap.size, 1, none⟩ = false ∧ wc.frozen? ⟨(w.heap.size + 1), 0, none⟩ = false ∧ wc.frozen? ⟨(w.heap.size + 1), 1, none⟩ = false ∧ wc.frozen? ⟨(w.heap.size + 1 + 1), 0, none⟩ = false ∧ wc.frozen? ⟨(w.heap.size + 1 + 1), 1, none⟩ = false ∧ IntRow wc .i64 A ps ∧ IntRow wc .i64 B qs ∧ w.heap.size + 1 + 1 < wc.heap.size ∧ Below w.heap.size w wc) (hb : Below wc.heap.size wc w1) :
    w1.cell? ⟨w.heap.size, 0, none⟩ = some x0 ∧ w1.cell? ⟨w.heap.size, 1, none⟩ = some x1 ∧ w1.cell? ⟨(w.heap.size + 1), 0, none⟩ = some y0 ∧ w1.cell? ⟨(w.heap.size + 1), 1, none⟩ = some y1 ∧ w1.cell? ⟨(w.heap.size + 1 + 1), 0, none⟩ = some z0 ∧ w1.cell? ⟨(w.heap.size + 1 + 1), 1, none⟩ = some z1 ∧ w1.frozen? ⟨w.heap.size, 0, none⟩ = false ∧ w1.frozen? ⟨w.heap.size, 1, none⟩ = false ∧ w1.frozen? ⟨(w.heap.size + 1), 0, none⟩ = false ∧ w1.frozen? ⟨(w.heap.size + 1), 1, none⟩ = false ∧ w1.frozen? ⟨(w.heap.size + 1 + 1), 0, none⟩ = false ∧ w1.frozen? ⟨(w.heap.size + 1 + 1), 1, none⟩ = false ∧ IntRow w1 .i64 A ps ∧ IntRow w1 .i64 B qs ∧ w.heap.size + 1 + 1 < w1.heap.size ∧ Below w.heap.size w w1 := by
  obtain ⟨h1, h2, h3, h4, h5, h6, f1, f2, f3, f4, f5, f6, r1, r2, hs, hB⟩ := h
  obtain ⟨hc, hf⟩ := bcell hb
  have hz := hb.size
  exact ⟨(hc _ _ (by omega)).trans h1, (hc _ _ (by omega)).trans h2, (hc _ _ (by omega)).trans h3, (hc _ _ (by omega)).trans h4, (hc _ _ (by omega)).trans h5, (hc _ _ (by omega)).trans h6, (hf _ _ (by omega)).trans f1, (hf _ _ (by omega)).trans f2, (hf _ _ (by omega)).trans f3, (hf _ _ (by omega)).trans f4, (hf _ _ (by omega)).trans f5, (hf _ _ (by omega)).trans f6, r1.below hb, r2.below hb, by omega, hB.trans (hb.mono hB.size)⟩
theorem three_begin0 {w : World} (x0 x1 y0 y1 z0 z1 : Value) (t : TypeId) {A B : Option Addr} {ps qs : List Int} (hA : IntRow w .i64 A ps) (hB : IntRow w .i64 B qs) :
    (((w.alloc (.cells #[x0, x1] t)).alloc (.cells #[y0, y1] t)).alloc (.cells #[z0, z1] t)).cell? ⟨w.heap.size, 0, none⟩ = some x0 ∧ (((w.alloc (.cells #[x0, x1] t)).alloc (.cells #[y0, y1] t)).alloc (.cells #[z0, z1] t)).cell? ⟨w.heap.size, 1, none⟩ = some x1 ∧ (((w.alloc (.cells #[x0, x1] t)).alloc (.cells #[y0, y1] t)).alloc (.cells #[z0, z1] t)).cell? ⟨(w.heap.size + 1), 0, none⟩ = some y0 ∧ (((w.alloc (.cells #[x0, x1] t)).alloc (.cells #[y0, y1] t)).alloc (.cells #[z0, z1] t)).cell? ⟨(w.heap.size + 1), 1, none⟩ = some y1 ∧ (((w.alloc (.cells #[x0, x1] t)).alloc (.cells #[y0, y1] t)).alloc (.cells #[z0, z1] t)).cell? ⟨(w.heap.size + 1 + 1), 0, none⟩ = some z0 ∧ (((w.alloc (.cells #[x0, x1] t)).alloc (.cells #[y0, y1] t)).alloc (.cells #[z0, z1] t)).cell? ⟨(w.heap.size + 1 + 1), 1, none⟩ = some z1 ∧ (((w.alloc (.cells #[x0, x1] t)).alloc (.cells #[y0, y1] t)).alloc (.cells #[z0, z1] t)).frozen? ⟨w.heap.size, 0, none⟩ = false ∧ (((w.alloc (.cells #[x0, x1] t)).alloc (.cells #[y0, y1] t)).alloc (.cells #[z0, z1] t)).frozen? ⟨w.heap.size, 1, none⟩ = false ∧ (((w.alloc (.cells #[x0, x1] t)).alloc (.cells #[y0, y1] t)).alloc (.cells #[z0, z1] t)).frozen? ⟨(w.heap.size + 1), 0, none⟩ = false ∧ (((w.alloc (.cells #[x0, x1] t)).alloc (.cells #[y0, y1] t)).alloc (.cells #[z0, z1] t)).frozen? ⟨(w.heap.size + 1), 1, none⟩ = false ∧ (((w.alloc (.cells #[x0, x1] t)).alloc (.cells #[y0, y1] t)).alloc (.cells #[z0, z1] t)).frozen? ⟨(w.heap.size + 1 + 1), 0, none⟩ = false ∧ (((w.alloc (.cells #[x0, x1] t)).alloc (.cells #[y0, y1] t)).alloc (.cells #[z0, z1] t)).frozen? ⟨(w.heap.size + 1 + 1), 1, none⟩ = false ∧ IntRow (((w.alloc (.cells #[x0, x1] t)).alloc (.cells #[y0, y1] t)).alloc (.cells #[z0, z1] t)) .i64 A ps ∧ IntRow (((w.alloc (.cells #[x0, x1] t)).alloc (.cells #[y0, y1] t)).alloc (.cells #[z0, z1] t)) .i64 B qs ∧ w.heap.size + 1 + 1 < (((w.alloc (.cells #[x0, x1] t)).alloc (.cells #[y0, y1] t)).alloc (.cells #[z0, z1] t)).heap.size ∧ Below w.heap.size w (((w.alloc (.cells #[x0, x1] t)).alloc (.cells #[y0, y1] t)).alloc (.cells #[z0, z1] t)) := by
  have hb : Below w.heap.size w (((w.alloc (.cells #[x0, x1] t)).alloc (.cells #[y0, y1] t)).alloc (.cells #[z0, z1] t)) := (((Below.refl _ _).alloc (Nat.le_refl _) _).alloc (by simp) _).alloc (by simp; omega) _
  refine ⟨?_, ?_, ?_, ?_, ?_, ?_, ?_, ?_, ?_, ?_, ?_, ?_, hA.below hb, hB.below hb, by simp, hb⟩ <;> simp [go_sem]

set_option maxHeartbeats 8000000 in
theorem add_calls (s t : Bool) (A B : Option Addr) (ps qs : List Int) (ca cb : Nat) (a b : Int) (w : World) (hA : IntRow w .i64 A ps) (hB : IntRow w .i64 B qs) (ha : Says ps a) (hb : Says qs b) (la : ps.length ≤ 64) (lb : qs.length ≤ 64) :
    Calls Try.prog 92 #[.agg #[.bool s, .slice A ps.length ca], .agg #[.bool t, .slice B qs.length cb]] w fun e w' => ∃ r C cs cc n, e = .returned (.agg #[.bool r, .slice C cs.length cc]) ∧ Out w w' C cs n ∧ sg r n = sg s a + sg t b := by
  by_cases hst : s = t
  · subst hst
    go_enter Try.func92, Try.ntmps92
    go_wp2_with fail
    have rA : ∀ (o1 o2 o3 : Obj), IntRow (((w.alloc o1).alloc o2).alloc o3) .i64 A ps := fun o1 o2 o3 => ((hA.below (below_a1 _ _)).below (below_a1 _ _)).below (below_a1 _ _)
    have rB : ∀ (o1 o2 o3 : Obj), IntRow (((w.alloc o1).alloc o2).alloc o3) .i64 B qs := fun o1 o2 o3 => ((hB.below (below_a1 _ _)).below (below_a1 _ _)).below (below_a1 _ _)
    go_region_with (first | (go_at_call 93; (go_loud (with_reducible refine (plus_calls A B ps qs ca cb a b _ (by first | exact rA _ _ _ | exact (rA _ _ _).drew) (by first | exact rB _ _ _ | exact (rB _ _ _).drew) ha hb la lb).mono ?_); rintro e w1 ⟨C, cs, cc, rfl, ho⟩; have hb1 := ho.bel; obtain ⟨hc, hf⟩ := bcell hb1; have k0 := (hc (w.heap.size + 1 + 1) 0 (by simp)).trans (show _ = some (Value.bool false) by simp [go_sem]); have k1 := (hc (w.heap.size + 1 + 1) 1 (by simp)).trans (show _ = some (Value.slice none 0 0) by simp [go_sem]); have k2 := hf (w.heap.size + 1 + 1) 0 (by simp); have k3 := hf (w.heap.size + 1 + 1) 1 (by simp); simp only [World.frozen?_drew, World.frozen?_alloc_at] at k2 k3)))
    all_goals
      go_wp2
      refine bodyPost_ret (v := .agg #[.bool s, .slice C cs.length cc]) (by simp [results, Try.results92, go_sem, k0, k1]) rfl ⟨s, C, cs, cc, a + b, rfl, ho.store (by (repeat' (first | (with_reducible exact Below.refl _ _) | (with_reducible refine Below.drew ?_) | (with_reducible refine below_drewN ?_ _) | ((with_reducible refine Below.setCell ?_ ?side_ _); case side_ => (first | (with_reducible exact Nat.le_refl _) | (with_reducible assumption) | omega | (simp; done) | (simp; omega))) | ((with_reducible refine Below.alloc ?_ ?side_ _); case side_ => (first | (with_reducible exact Nat.le_refl _) | (with_reducible assumption) | omega | (simp; done) | (simp; omega)))))) (by omega) (by simp) _ _, by cases s <;> simp [sg] <;> omega⟩
  · have rA : ∀ (o1 o2 o3 : Obj), IntRow (((w.alloc o1).alloc o2).alloc o3) .i64 A ps := fun o1 o2 o3 => ((hA.below (below_a1 _ _)).below (below_a1 _ _)).below (below_a1 _ _)
    have rB : ∀ (o1 o2 o3 : Obj), IntRow (((w.alloc o1).alloc o2).alloc o3) .i64 B qs := fun o1 o2 o3 => ((hB.below (below_a1 _ _)).below (below_a1 _ _)).below (below_a1 _ _)
    have q0 : (s == t) = false := by simp [hst]
    go_enter Try.func92, Try.ntmps92
    by_cases hlt : a < b
    · skip
      go_wp2_with (go_at_call 104; ((with_reducible refine (less_calls A B ps qs ca cb a b _ (rA _ _ _) (rB _ _ _) ha hb (by omega) (by omega)).mono ?_); rintro e w0 ⟨rfl, hb0⟩; obtain ⟨h1, h2, h3, h4, h5, h6, f1, f2, f3, f4, f5, f6, r1, r2, hs, hB0⟩ := three_keep (three_begin0 (.bool s) (.slice A ps.length ca) (.bool t) (.slice B qs.length cb) (.bool false) (.slice none 0 0) 154 hA hB) hb0; have hs1 : w.heap.size < w0.heap.size := (by omega); have hs2 : w.heap.size + 1 < w0.heap.size := (by omega)))
      go_region_with (first | (go_at_call 105; ((with_reducible refine (minus_calls B A qs ps cb ca b a _ (by first | exact r2 | exact r2.drew) (by first | exact r1 | exact r1.drew) hb ha (by omega) (says_len_mono hb ha (by omega)) (by omega)).mono ?_); rintro e w1 ⟨C, cs, cc, rfl, ho⟩; have hb1 := ho.bel; obtain ⟨hc, hf⟩ := bcell hb1; have k0 := (hc (w.heap.size + 1 + 1) 0 hs).trans h5; have k1 := (hc (w.heap.size + 1 + 1) 1 hs).trans h6; have k2 := (hf (w.heap.size + 1 + 1) 0 hs).trans f5; have k3 := (hf (w.heap.size + 1 + 1) 1 hs).trans f6; have k4 := (hc w.heap.size 0 hs1).trans h1; have k5 := (hc (w.heap.size + 1) 0 hs2).trans h3)))
      all_goals
        go_wp2
        refine bodyPost_ret (v := .agg #[.bool t, .slice C cs.length cc]) (by simp [results, Try.results92, go_sem, k0, k1]) rfl ⟨t, C, cs, cc, b - a, rfl, ho.store (by first | exact hB0 | exact hB0.drew) (by omega) (by first | exact hs | (simp; omega)) _ _, ?_⟩
        cases s <;> cases t <;> simp [sg] at hst ⊢ <;> omega
    · skip
      go_wp2_with (go_at_call 104; ((with_reducible refine (less_calls A B ps qs ca cb a b _ (rA _ _ _) (rB _ _ _) ha hb (by omega) (by omega)).mono ?_); rintro e w0 ⟨rfl, hb0⟩; obtain ⟨h1, h2, h3, h4, h5, h6, f1, f2, f3, f4, f5, f6, r1, r2, hs, hB0⟩ := three_keep (three_begin0 (.bool s) (.slice A ps.length ca) (.bool t) (.slice B qs.length cb) (.bool false) (.slice none 0 0) 154 hA hB) hb0; have hs1 : w.heap.size < w0.heap.size := (by omega); have hs2 : w.heap.size + 1 < w0.heap.size := (by omega)))
      go_region_with (first | (go_at_call 105; ((with_reducible refine (minus_calls A B ps qs ca cb a b _ (by first | exact r1 | exact r1.drew) (by first | exact r2 | exact r2.drew) ha hb (by omega) (says_len_mono ha hb (by omega)) (by omega)).mono ?_); rintro e w1 ⟨C, cs, cc, rfl, ho⟩; have hb1 := ho.bel; obtain ⟨hc, hf⟩ := bcell hb1; have k0 := (hc (w.heap.size + 1 + 1) 0 hs).trans h5; have k1 := (hc (w.heap.size + 1 + 1) 1 hs).trans h6; have k2 := (hf (w.heap.size + 1 + 1) 0 hs).trans f5; have k3 := (hf (w.heap.size + 1 + 1) 1 hs).trans f6; have k4 := (hc w.heap.size 0 hs1).trans h1; have k5 := (hc (w.heap.size + 1) 0 hs2).trans h3)))
      all_goals
        go_wp2
        refine bodyPost_ret (v := .agg #[.bool s, .slice C cs.length cc]) (by simp [results, Try.results92, go_sem, k0, k1]) rfl ⟨s, C, cs, cc, a - b, rfl, ho.store (by first | exact hB0 | exact hB0.drew) (by omega) (by first | exact hs | (simp; omega)) _ _, ?_⟩
        cases s <;> cases t <;> simp [sg] at hst ⊢ <;> omega
end Go.Proofs.Ytejcjonlnijbkaa.Ref

/- Package ref01, walked: half, Of, Plain. For all arguments. -/
namespace Go.Proofs.Ytejcjonlnijbkaa.Ref
open Go Go.RowKit Open
set_option maxRecDepth 100000
set_option linter.unusedVariables false
set_option linter.unusedSimpArgs false

theorem Own.store {w0 w : World} {g n cap : Nat} {ds : List Int} (h : Own w0 w (.slice (some ⟨g, 0, none⟩) n cap) ds) (j : Nat) (z : Int) : Own w0 (w.setCell ⟨g, j, none⟩ (.int .i64 z)) (.slice (some ⟨g, 0, none⟩) n cap) (ds.set j z) := by
  have hn : n = ds.length := by
    rcases h.row.2 with ⟨h', _⟩ | ⟨g', cap', cur, h', _⟩
    · simp at h'
    · simp at h'; exact h'.2.1
  subst hn
  have hs := h.row.stored j (.int .i64 z)
  refine ⟨by have := hs.1; simpa [List.map_set] using this, h.bel.grown hs.2 h.bel.size (fun k hk => by cases hk; exact (h.row.lt g rfl).1)⟩
theorem Own.at {w0 w : World} {g n cap : Nat} {ds : List Int} (h : Own w0 w (.slice (some ⟨g, 0, none⟩) n cap) ds) {j : Nat} (hj : j < ds.length) : w.cell? ⟨g, j, none⟩ = some (.int .i64 (ds[j]?.getD 0)) ∧ w.frozen? ⟨g, j, none⟩ = false ∧ n = ds.length := by
  have hn : n = ds.length := by
    rcases h.row.2 with ⟨h', _⟩ | ⟨g', cap', cur, h', _⟩
    · simp at h'
    · simp at h'; exact h'.2.1
  subst hn
  have hc := h.row.cells (g := g) rfl j (.int .i64 (ds[j]?.getD 0)) (by simp [hj])
  rw [addr_add] at hc
  exact ⟨hc, h.row.frozenAt j, rfl⟩
/-- make, full of noughts. -/
theorem make0 {w0 w : World} {ops : Array Oper} {rest : List Oper} {o : Oper} {a : Act} {Q : Exit → Act → World → Prop} (hgd : o.guard = none) (l c : Operand) (ho : o.op = Op.makeSlice 152 l c)
    (n : Nat) (hl : a.eval l = .int .i64 (n : Int)) (hc : a.eval c = .int .i64 (n : Int)) (hn : n ≤ 1000000) (hbel : Below w0.heap.size w0 w)
    (h : ∀ w', Own w0 w' (.slice (some ⟨w.heap.size, 0, none⟩) n n) (List.replicate n 0) → w.grownBy w' none → wpList Try.prog ops Q rest (a.put o.dst (.slice (some ⟨w.heap.size, 0, none⟩) n n)) w') : wpList Try.prog ops Q (o :: rest) a w := by
  obtain ⟨i0, hi, hz0, hz1, hz2⟩ := info_parts info_int
  refine wpList_make_full _ hgd l c 152 ho w0.heap.size 3 i0 (.int .i64 0) 1 Try.underlying152 hi hz0 hz1 .i64 .i64 _ _ n hl hc rfl rfl (by rw [hz2]; omega) (by unfold maxLen; omega) hbel.size ?_
  intro w' h1 h2
  refine h w' ⟨?_, hbel.grown h2 hbel.size (fun k hk => by cases hk)⟩ h2
  have e : (madeCells (Value.int .i64 0).cells (n * 1)).toList = (List.replicate n (0 : Int)).map (.int .i64) := by
    rw [Nat.mul_one]
    show (madeCells #[Value.int .i64 0] n).toList = _
    rw [toList_madeCells_one]; simp
  rw [e] at h1
  simpa using h1

theorem half_arith {r z : Int} (r0 : 0 ≤ r) (r1 : r ≤ 1) (z0 : 0 ≤ z) (z1 : z ≤ 65535) : (r * 65536 + z).tdiv 2 = (r * 65536 + z) / 2 ∧ (r * 65536 + z).tmod 2 = (r * 65536 + z) % 2 :=
  ⟨Int.tdiv_eq_ediv_of_nonneg (by omega), Int.tmod_eq_emod_of_nonneg (by omega)⟩

set_option maxHeartbeats 4000000 in
theorem half_calls (A : Option Addr) (ps : List Int) (ca : Nat) (a : Int) (w : World) (hA : IntRow w .i64 A ps) (ha : Says ps a) (la : ps.length ≤ 1000) :
    Calls Try.prog 103 #[.slice A ps.length ca] w fun e w' => ∃ C cs cc, e = .returned (.tuple #[.slice C cs.length cc, .int .i64 (a % 2)]) ∧ Out w w' C cs (a / 2) := by
  obtain ⟨L, hL⟩ : ∃ L, ps.length = L := ⟨_, rfl⟩
  have hst := Half.start ps
  rw [hL] at hst ⊢
  go_enter Try.func103, Try.ntmps103
  go_wp2_with (at_make; refine make0 (w0 := w) rfl _ _ rfl L rfl rfl (by omega) (Below.refl _ _) ?_; intro w1 hown hgrow)
  go_loopw [5, 6, 7] (fun r i x wr => ∃ j out R, i = .int .i64 ((j : Nat) - 1 : Int) ∧ r = .int .i64 R ∧ Half ps out j R ∧ Own w wr (.slice (some ⟨w.heap.size, 0, none⟩) L L) out ∧ j ≤ L) (fun _ i _ _ => (intOf i + 1).toNat)
  case atStart => exact ⟨L, _, 0, rfl, rfl, hst, hown, Nat.le_refl _⟩
  case round =>
    obtain ⟨j, out, R, rfl, rfl, hH, hO, hj⟩ := hrel
    have hr0 := hH.r0
    have hr1 := hH.r1
    have hlen := hH.len
    by_cases hp : 0 < j
    · obtain ⟨k, rfl⟩ : ∃ k, j = k + 1 := ⟨j - 1, by omega⟩
      have e0 : ((k + 1 : Nat) : Int) - 1 = (k : Nat) := by omega
      rw [e0]
      obtain ⟨b1, o1, rfl, hb1, hc1⟩ := (hA.below hO.bel).cell k (by omega)
      obtain ⟨s1, s2, s3⟩ := hO.at (j := k) (by omega)
      have hs := hH.step ha.dig (by omega) (x := R * 65536 + ps.getD k 0) rfl
      have dA := ha.dig.at k
      rw [getD_q] at hc1
      generalize ps.getD k 0 = z at *
      obtain ⟨t1, t2, t3⟩ := hs
      obtain ⟨q1, q2⟩ := half_arith hr0 hr1 dA.1 dA.2
      have HT := Lib.hid t1
      have HO := Lib.hid (hO.store k ((R * 65536 + z) / 2))
      clear t1 hH hlen hst hown hgrow hO
      generalize out[k]?.getD 0 = y at *
      go_wp2
      go_roundw
      case rel => exact ⟨k, out.set k ((R * 65536 + z) / 2), (R * 65536 + z) % 2, by go_num, by simp [q2], HT.out, by simpa [q1] using HO.out, by omega⟩
      case measure => simp [intOf]
    · obtain rfl : j = 0 := by omega
      obtain ⟨v1, v2⟩ := hH.done
      obtain ⟨C1, cap1, hv, l1, l2, hR, hnew⟩ := hO.read hH.dig
      simp only [Value.slice.injEq] at hv
      obtain ⟨rfl, hl, rfl⟩ := hv
      have hdig := hH.dig
      have T := trim_calls _ out L l1 l2 hdig _ hR
      rw [← hl] at T
      have HT := Lib.hid T
      have HL := Lib.hid hl
      clear T
      have hbel := hO.bel
      rw [ha.val] at v1 v2
      subst v2
      clear hH hst hown hgrow hO hl hlen
      go_wp2_with (go_at_call 94; ((with_reducible refine HT.out.mono ?_); rintro e w2 ⟨m, rfl, hm, hval, htop, rfl⟩))
      go_ret2
      refine ⟨_, out.take m, L, by rw [List.length_take, ← HL.out, Nat.min_eq_left hm]; rfl, ⟨hR.take m, ⟨hdig.take m, htop, by rw [hval, v1]⟩, hbel, hnew⟩⟩

/-! a plain number's digits -/
structure OfInv (neg : Bool) (n Z : Int) (out : List Int) (k : Nat) (M : Int) : Prop where
  len : out.length = k
  dig : Dig out
  m0 : 0 ≤ M
  z : Z = sg neg M
  eq : val out + pw k * M = n
theorem OfInv.step {neg : Bool} {n Z : Int} {out : List Int} {k : Nat} {M : Int} (h : OfInv neg n Z out k M) : OfInv neg n (sg neg (M / 65536)) (out ++ [M % 65536]) (k + 1) (M / 65536) := by
  have h0 := h.m0
  refine ⟨by simp [h.len], h.dig.snoc (by omega) (by omega), by omega, rfl, ?_⟩
  rw [val_snoc, h.len, pw_succ]
  have e := h.eq
  have e2 : pw k * (M % 65536) + pw k * 65536 * (M / 65536) = pw k * M := by
    rw [Int.mul_assoc, ← Int.mul_add]
    congr 1
    omega
  omega
theorem OfInv.done {neg : Bool} {n Z : Int} {out : List Int} {M : Int} (h : OfInv neg n Z out 4 M) (hn : n ≤ 9223372036854775808) : val out = n := by
  have e := h.eq
  have h1 := val_nonneg h.dig
  have h0 := h.m0
  have e4 : pw 4 = 18446744073709551616 := by decide
  rw [e4] at e
  omega
theorem sg_tmod (neg : Bool) {M : Int} (h : 0 ≤ M) : (sg neg M).tmod 65536 = sg neg (M % 65536) ∧ (sg neg M).tdiv 65536 = sg neg (M / 65536) := by
  cases neg
  · exact ⟨Int.tmod_eq_emod_of_nonneg h, Int.tdiv_eq_ediv_of_nonneg h⟩
  · simp only [sg_true, Int.neg_tmod, Int.neg_tdiv, Int.tmod_eq_emod_of_nonneg h, Int.tdiv_eq_ediv_of_nonneg h, and_self]

/-- A number's size. -/
def siz (a : Int) : Int := if a < 0 then -a else a
theorem sg_siz (a : Int) : sg (decide (a < 0)) (siz a) = a := by
  unfold siz sg
  by_cases h : a < 0 <;> simp [h]

set_option maxHeartbeats 4000000 in
theorem of_calls (a : Int) (a0 : -9223372036854775808 ≤ a) (a1 : a ≤ 9223372036854775807) (w : World) :
    Calls Try.prog 84 #[.int .i64 a] w fun e w' => ∃ C cs cc, e = .returned (.agg #[.bool (decide (a < 0)), .slice C cs.length cc]) ∧ Out w w' C cs (siz a) := by
  have hn : siz a ≤ 9223372036854775808 := by unfold siz; split <;> omega
  have hn0 : 0 ≤ siz a := by unfold siz; split <;> omega
  have hst : OfInv (decide (a < 0)) (siz a) a [] 0 (siz a) := ⟨rfl, Dig.nil, hn0, (sg_siz a).symm, by simp [val, pw_zero]⟩
  generalize hng : decide (a < 0) = neg at *
  generalize siz a = n at *
  go_enter Try.func84, Try.ntmps84
  go_wp2
  go_loopw [0, 4, 5] (fun z v i wr => ∃ k out M Z, i = .int .i64 (k : Nat) ∧ z = .int .i64 Z ∧ OfInv neg n Z out k M ∧ k ≤ 4 ∧ (-9223372036854775808 ≤ Z ∧ Z ≤ 9223372036854775807) ∧ Own (w.alloc (.cells #[.bool false, .slice none 0 0] 154)) wr v out) (fun _ _ i _ => 4 - (intOf i).toNat)
  case atStart => exact ⟨0, [], n, a, rfl, rfl, hst, by omega, ⟨a0, a1⟩, Own.nil (Below.refl _ _)⟩
  case round =>
    obtain ⟨k, out, M, Z, rfl, rfl, hI, hk, hZ, hO⟩ := hrel
    have hlen := hI.len
    have m0 := hI.m0
    have hz := hI.z
    obtain ⟨e1, e2⟩ := sg_tmod neg m0
    rw [← hz] at e1 e2
    by_cases hp : k < 4
    · have HS := Lib.hid hI.step
      have hx : 0 ≤ M % 65536 ∧ M % 65536 ≤ 65535 := by omega
      have hy : 0 ≤ M / 65536 ∧ -9223372036854775808 ≤ sg neg (M / 65536) ∧ sg neg (M / 65536) ≤ 9223372036854775807 := by
        cases neg <;> simp only [sg_true, sg_false] at hz ⊢ <;> omega
      clear hI hst hz
      generalize M % 65536 = x at *
      generalize M / 65536 = y at *
      cases neg
      · simp only [sg_false] at *
        go_wp2_with (at_builtin; refine app1 rfl _ _ rfl _ _ rfl (hO.alloc _) _ _ rfl (cell_new _ _ _) (by omega) ?_; intro v' w2 hown' hgrow')
        go_roundw
        case rel => exact ⟨k + 1, out ++ [x], y, y, by go_num, by simp [e2], by simpa using HS.out, by omega, by omega, by simpa [e1] using hown'⟩
        case measure => simp [intOf]; omega
      · simp only [sg_true] at *
        by_cases hx0 : 0 < x
        · have hneg : (-x : Int) < 0 := by omega
          go_wp2_with (at_builtin; refine app1 rfl _ _ rfl _ _ rfl (hO.alloc _) _ _ rfl (cell_new _ _ _) (by omega) ?_; intro v' w2 hown' hgrow')
          go_roundw
          case rel => exact ⟨k + 1, out ++ [x], y, -y, by go_num, by simp [e2], by simpa using HS.out, by omega, by omega, by simpa [e1] using hown'⟩
          case measure => simp [intOf]; omega
        · obtain rfl : x = 0 := by omega
          simp only [Int.neg_zero] at e1
          go_wp2_with (at_builtin; refine app1 rfl _ _ rfl _ _ rfl (hO.alloc _) _ _ rfl (cell_new _ _ _) (by omega) ?_; intro v' w2 hown' hgrow')
          go_roundw
          case rel => exact ⟨k + 1, out ++ [0], y, -y, by go_num, by simp [e2], by simpa using HS.out, by omega, by omega, by simpa [e1] using hown'⟩
          case measure => simp [intOf]; omega
    · obtain rfl : k = 4 := by omega
      have hv := hI.done hn
      have hdig := hI.dig
      obtain ⟨C1, cap1, rfl, l1, l2, hR, hnew⟩ := hO.read hdig
      have hbel := hO.bel
      obtain ⟨hc, hf⟩ := bcell hbel
      have k0 := (hc w.heap.size 0 (by simp)).trans (show _ = some (Value.bool false) by simp [go_sem])
      have k1 := (hc w.heap.size 1 (by simp)).trans (show _ = some (Value.slice none 0 0) by simp [go_sem])
      have k2 := (hf w.heap.size 0 (by simp)).trans (show _ = false by simp [go_sem])
      have k3 := (hf w.heap.size 1 (by simp)).trans (show _ = false by simp [go_sem])
      clear hI hst hlen hc hf
      go_wp2_with (go_at_call 94; ((with_reducible refine (trim_calls C1 out cap1 l1 l2 hdig _ hR).mono ?_); rintro e w1 ⟨m, rfl, hm, hval, htop, rfl⟩))
      refine bodyPost_ret (v := .agg #[.bool neg, .slice C1 m cap1]) (by simp [results, Try.results84, go_sem, k0, k1]) rfl ⟨C1, out.take m, cap1, by rw [List.length_take, Nat.min_eq_left hm], ?_⟩
      exact Out.store (X := (w.alloc (.cells #[.bool false, .slice none 0 0] 154))) ⟨hR.take m, ⟨hdig.take m, htop, by rw [hval, hv]⟩, hbel, hnew⟩ (below_a1 _ _) (Nat.le_refl _) (by simp) _ _
end Go.Proofs.Ytejcjonlnijbkaa.Ref

/- Package ref01, walked: Plain. For all numbers. -/
namespace Go.Proofs.Ytejcjonlnijbkaa.Ref
open Go Go.RowKit Open
set_option maxRecDepth 100000
set_option linter.unusedVariables false
set_option linter.unusedSimpArgs false

def fitV (V : Int) : Int := if -9223372036854775808 ≤ V ∧ V ≤ 9223372036854775807 then V else 0
def fitB (V : Int) : Bool := decide (-9223372036854775808 ≤ V ∧ V ≤ 9223372036854775807)
theorem fit_yes {V : Int} (h : -9223372036854775808 ≤ V ∧ V ≤ 9223372036854775807) : fitV V = V ∧ fitB V = true := ⟨if_pos h, decide_eq_true h⟩
theorem fit_no {V : Int} (h : ¬ (-9223372036854775808 ≤ V ∧ V ≤ 9223372036854775807)) : fitV V = 0 ∧ fitB V = false := ⟨if_neg h, decide_eq_false h⟩
theorem fit_big {s : Bool} {n : Int} (h : 9223372036854775808 < n) : fitV (sg s n) = 0 ∧ fitB (sg s n) = false := fit_no (by cases s <;> simp [sg] <;> omega)
/-- The upper digits say no more than the whole. -/
theorem drop_le {ds : List Int} (h : Dig ds) {k : Nat} (hk : k ≤ ds.length) : val (ds.drop k) ≤ val ds := by
  have e := val_split ds hk
  have h1 := val_nonneg (h.take k)
  have h2 := val_nonneg (h.drop k)
  have h3 : 1 * val (ds.drop k) ≤ pw k * val (ds.drop k) := Int.mul_le_mul_of_nonneg_right (pw_pos k) h2
  omega

set_option maxHeartbeats 4000000 in
theorem plain_calls (s : Bool) (A : Option Addr) (ps : List Int) (ca : Nat) (n : Int) (w : World) (hA : IntRow w .i64 A ps) (ha : Says ps n) (la : ps.length ≤ 1000) :
    Calls Try.prog 81 #[.agg #[.bool s, .slice A ps.length ca]] w fun e w' => e = .returned (.tuple #[.int .i64 (fitV (sg s n)), .bool (fitB (sg s n))]) ∧ Below w.heap.size w w' := by
  have hb := below_a1 w (.cells #[.bool s, .slice A ps.length ca] 154)
  have hA1 := hA.below hb
  by_cases hl : 4 < ps.length
  · have hbig : 9223372036854775808 < n := by
      have h1 := val_ge ha.dig ha.top (k := ps.length - 1) (by omega)
      have h2 := pw_mono (show 4 ≤ ps.length - 1 by omega)
      have e4 : pw 4 = 18446744073709551616 := by decide
      rw [ha.val] at h1
      omega
    obtain ⟨e1, e2⟩ := fit_big (s := s) hbig
    rw [e1, e2]
    go_enter Try.func81, Try.ntmps81
    go_wp2
    go_ret2
    exact ⟨rfl, hb⟩
  · have hv : ∀ k, k < ps.length → val (ps.drop k) = ps.getD k 0 + 65536 * val (ps.drop (k + 1)) := fun k hk => val_drop ps hk
    have hle : ∀ k, k ≤ ps.length → val (ps.drop k) ≤ n := fun k hk => by rw [← ha.val]; exact drop_le ha.dig hk
    have h0 : val (ps.drop 0) = n := by simpa using ha.val
    have hend : val (ps.drop ps.length) = 0 := by rw [List.drop_of_length_le (Nat.le_refl _)]; rfl
    have hnn : ∀ k, 0 ≤ val (ps.drop k) := fun k => val_nonneg (ha.dig.drop k)
    have HV := Lib.hid hv
    have HLE := Lib.hid hle
    have H0 := Lib.hid h0
    have HE := Lib.hid hend
    have HN := Lib.hid hnn
    clear hv hle h0 hend hnn
    obtain ⟨fv, hfv⟩ : ∃ fv, fitV (sg s n) = fv := ⟨_, rfl⟩
    obtain ⟨fb, hfb⟩ : ∃ fb, fitB (sg s n) = fb := ⟨_, rfl⟩
    rw [hfv, hfb]
    have FV := Lib.hid hfv
    have FB := Lib.hid hfb
    clear hfv hfb
    go_enter Try.func81, Try.ntmps81
    go_wp2
    go_loop [4, 5] (fun v i => ∃ k : Nat, k ≤ ps.length ∧ i = .int .i64 ((k : Int) - 1) ∧ v = .int .i64 (-(val (ps.drop k))) ∧ val (ps.drop k) ≤ 9223372036854775808) (fun _ i => (intOf i + 1).toNat)
    case atStart => exact ⟨ps.length, Nat.le_refl _, rfl, by rw [HE.out]; rfl, by rw [HE.out]; omega⟩
    case round =>
      obtain ⟨k, hk, rfl, rfl, hm⟩ := hrel
      by_cases hp : 0 < k
      · obtain ⟨j, rfl⟩ : ∃ j, k = j + 1 := ⟨k - 1, by omega⟩
        have e0 : ((j + 1 : Nat) : Int) - 1 = (j : Nat) := by omega
        rw [e0]
        obtain ⟨b1, o1, rfl, hb1, hc1⟩ := hA1.cell j (by omega)
        have dA := ha.dig.at j
        have hvj := HV.out j (by omega)
        have hlj := HLE.out j (by omega)
        have hnj := HN.out (j + 1)
        rw [getD_q] at hc1
        generalize ps.getD j 0 = d at *
        generalize hV : val (ps.drop (j + 1)) = V at *
        generalize hU : val (ps.drop j) = U at *
        have HU := Lib.hid hU
        clear hU hV
        by_cases q1 : V ≤ 140737488355328
        · by_cases q2 : U ≤ 9223372036854775808
          · go_wp2
            go_round
            case rel => exact ⟨j, by omega, rfl, by rw [HU.out]; congr 1; omega, by rw [HU.out]; omega⟩
            case measure => simp [intOf]
          · obtain ⟨f1, f2⟩ := fit_big (s := s) (n := n) (by omega)
            rw [FV.out] at f1
            rw [FB.out] at f2
            subst f1 f2
            go_wp2
            go_ret2
            exact ⟨rfl, hb⟩
        · obtain ⟨f1, f2⟩ := fit_big (s := s) (n := n) (by omega)
          rw [FV.out] at f1
          rw [FB.out] at f2
          subst f1 f2
          go_wp2
          go_ret2
          exact ⟨rfl, hb⟩
      · obtain rfl : k = 0 := by omega
        rw [H0.out] at hm ⊢
        have hn0 := HN.out 0
        rw [H0.out] at hn0
        cases s
        · by_cases q : n = 9223372036854775808
          · obtain ⟨f1, f2⟩ := fit_no (V := sg false n) (by simp only [sg_false]; omega)
            rw [FV.out] at f1
            rw [FB.out] at f2
            subst f1 f2 q
            go_wp2
            go_ret2
            exact ⟨rfl, hb⟩
          · obtain ⟨f1, f2⟩ := fit_yes (V := sg false n) (by simp only [sg_false]; omega)
            rw [FV.out] at f1
            rw [FB.out] at f2
            simp only [sg_false] at f1
            subst f1 f2
            go_wp2
            go_ret2
            exact ⟨by simp, hb⟩
        · obtain ⟨f1, f2⟩ := fit_yes (V := sg true n) (by simp only [sg_true]; omega)
          rw [FV.out] at f1
          rw [FB.out] at f2
          simp only [sg_true] at f1
          subst f1 f2
          go_wp2
          go_ret2
          exact ⟨rfl, hb⟩
end Go.Proofs.Ytejcjonlnijbkaa.Ref

/- Package ref01, walked: Mul. For all numbers of few digits. -/
namespace Go.Proofs.Ytejcjonlnijbkaa.Ref
open Go Go.RowKit Open
set_option maxRecDepth 100000
set_option linter.unusedVariables false
set_option linter.unusedSimpArgs false

theorem Own.drewN {w0 w : World} {v : Value} {ds : List Int} (h : Own w0 w v ds) (n : Nat) : Own w0 (w.drewN n) v ds := ⟨h.row, below_drewN h.bel n⟩
theorem Out.from {W w w' : World} {C : Option Addr} {cs : List Int} {n : Int} (h : Out w w' C cs n) (hb : Below W.heap.size W w) : Out W w' C cs n :=
  ⟨h.row, h.says, hb.trans (h.bel.mono hb.size), fun a ha => Nat.le_trans hb.size (h.new a ha)⟩
theorem Out.none (w : World) : Out w w none [] 0 := ⟨⟨fun i hi => by simp at hi, fun z hz => by simp at hz⟩, Says.nil, Below.refl _ _, fun a ha => by cases ha⟩
theorem quo16 {x : Int} (h : 0 ≤ x) : x.tdiv 65536 = x / 65536 ∧ x.tmod 65536 = x % 65536 := ⟨Int.tdiv_eq_ediv_of_nonneg h, Int.tmod_eq_emod_of_nonneg h⟩

set_option maxHeartbeats 8000000 in
theorem mul_calls (s t : Bool) (A B : Option Addr) (ps qs : List Int) (ca cb : Nat) (a b : Int) (w : World) (hA : IntRow w .i64 A ps) (hB : IntRow w .i64 B qs) (ha : Says ps a) (hb : Says qs b) (la : ps.length ≤ 20) (lb : qs.length ≤ 20) :
    Calls Try.prog 83 #[.agg #[.bool s, .slice A ps.length ca], .agg #[.bool t, .slice B qs.length cb]] w fun e w' => ∃ C cs cc, e = .returned (.agg #[.bool (s != t), .slice C cs.length cc]) ∧ Out w w' C cs (a * b) := by
  have F := fun (W : World) (hW : Below (((w.alloc (.cells #[.bool s, .slice A ps.length ca] 154)).alloc (.cells #[.bool t, .slice B qs.length cb] 154)).alloc (.cells #[.bool false, .slice none 0 0] 154)).heap.size (((w.alloc (.cells #[.bool s, .slice A ps.length ca] 154)).alloc (.cells #[.bool t, .slice B qs.length cb] 154)).alloc (.cells #[.bool false, .slice none 0 0] 154)) W) =>
    three_keep (three_begin0 (.bool s) (.slice A ps.length ca) (.bool t) (.slice B qs.length cb) (.bool false) (.slice none 0 0) 154 hA hB) hW
  have FF := Lib.hid F
  clear F
  generalize hW3 : (((w.alloc (.cells #[.bool s, .slice A ps.length ca] 154)).alloc (.cells #[.bool t, .slice B qs.length cb] 154)).alloc (.cells #[.bool false, .slice none 0 0] 154)) = W3 at FF
  go_enter Try.func83, Try.ntmps83
  go_wp2
  go_loopw [5, 6] (fun o i wr => ∃ k A2 cs cc, i = .int .i64 (k : Nat) ∧ o = .slice A2 cs.length cc ∧ Out W3 wr A2 cs (val (ps.take k) * b) ∧ k ≤ ps.length) (fun _ i _ => 1000 - (intOf i).toNat)
  case atStart => exact ⟨0, none, [], 0, rfl, rfl, by simpa [val] using Out.none W3, Nat.zero_le _⟩
  case round =>
    obtain ⟨k, A2, cs, cc, rfl, rfl, hO, hk⟩ := hrel
    have hcl : cs.length ≤ 64 := by
      have h1 := val_lt ha.dig
      have h2 := val_lt hb.dig
      have h3 := pw_mono la
      have h4 := pw_mono lb
      have h5 := (take_mul_lt (m := 20) (n := 20) ha.dig hb.dig (by omega) (by omega) k).2
      rw [hb.val] at h5
      have := hO.says.len h5
      omega
    obtain ⟨h1, h2, h3, h4, h5, h6, f1, f2, f3, f4, f5, f6, r1, r2, hs, hB0⟩ := FF.out wr hO.bel
    by_cases hp : k < ps.length
    · clear f1 f2 f3 f4 f5 f6 h5 h6
      go_wp2_with (at_make; refine make0 (w0 := wr) rfl _ _ rfl k rfl rfl (by omega) (Below.refl _ _) ?_; intro w1 hown hgrow)
      have hst := Times.start (ps.getD k 0) qs k
      go_loopw [7, 8, 9] (fun v c i wi => ∃ j row C, i = .int .i64 (j : Nat) ∧ c = .int .i64 C ∧ Times (ps.getD k 0) qs row k j C ∧ Own wr wi v row ∧ j ≤ qs.length + 1 ∧ (j = qs.length + 1 → C = 0)) (fun _ _ i _ => 1000 - (intOf i).toNat)
      case atStart => exact ⟨0, _, 0, rfl, rfl, hst, hown, by omega, by omega⟩
      case round =>
        obtain ⟨j, row, C, rfl, rfl, hT, hown2, hj, hj2⟩ := hrel
        obtain ⟨h1, h2, h3, h4, h5, h6, f1, f2, f3, f4, f5, f6, r1, r2, hs2, hB2⟩ := FF.out _ (hO.bel.trans (hown2.bel.mono hO.bel.size))
        have dA := ha.dig.at k
        have hSt := hT.step hb.dig dA.1 dA.2 (x := C + ps.getD k 0 * qs.getD j 0) rfl
        have hc0 := hT.c0
        have hc1 := hT.c1
        have hlen := hT.len
        have hdig := hT.dig
        have hDn : C = 0 → qs.length ≤ j → val row = pw k * (ps.getD k 0 * b) := fun h1 h2 => by subst h1; rw [hT.done h2, hb.val]
        have cA := r1.cell k hp
        have cB := r2.cell j
        have dB := hb.dig.at j
        have zB : qs.length ≤ j → qs.getD j 0 = 0 := fun h => by simp [h]
        have hms := mul_step ps qs k
        rw [hb.val] at hms
        rw [getD_q] at cA cB
        clear h5 h6 f1 f2 f3 f4 f5 f6 hst hown hgrow hT
        generalize ps.getD k 0 = x at *
        generalize qs.getD j 0 = y at *
        have hxy : 0 ≤ x * y ∧ x * y ≤ 4294836225 := ⟨Int.mul_nonneg dA.1 dB.1, Int.mul_le_mul dA.2 dB.2 dB.1 (by omega)⟩
        by_cases hx : j < qs.length ∨ 0 < C
        · clear hDn hms
          have hnext : j + 1 ≤ qs.length + 1 ∧ (j + 1 = qs.length + 1 → (C + x * y) / 65536 = 0) := by
            constructor
            · rcases Nat.lt_or_ge j (qs.length + 1) with h | h
              · omega
              · have := hj2 (by omega); omega
            · intro h
              rw [zB (by omega), Int.mul_zero]
              omega
          by_cases q1 : j < qs.length
          · obtain ⟨s1, s2, s3⟩ := hSt
            obtain ⟨e1, e2⟩ := quo16 s2
            have HP := Lib.hid s1
            clear s1
            obtain ⟨b1, o1, rfl, hb1, hc1'⟩ := cA
            obtain ⟨b2, o2, rfl, hb2, hc2'⟩ := cB q1
            go_wp2
            go_quiet (fail)
            have hown2 := hown2.drewN nq
            go_wp2_with (at_builtin; refine app1 rfl _ _ rfl _ _ rfl (hown2.alloc _) _ _ rfl (cell_new _ _ _) (by omega) ?_; intro v' w4 hown' hgrow')
            go_roundw
            case rel => exact ⟨j + 1, row ++ [(C + x * y) % 65536], (C + x * y) / 65536, by go_num, by simp [e1], HP.out, by simpa [e2] using hown', hnext.1, hnext.2⟩
            case measure => simp [intOf]; omega
          · obtain rfl : y = 0 := zB (by omega)
            simp only [Int.mul_zero, Int.add_zero] at hSt hnext
            obtain ⟨s1, s2, s3⟩ := hSt
            obtain ⟨e1, e2⟩ := quo16 s2
            have HP := Lib.hid s1
            have q3 : 0 < C := by omega
            clear s1 cA cB
            go_wp2_with (at_builtin; refine app1 rfl _ _ rfl _ _ rfl (hown2.alloc _) _ _ rfl (cell_new _ _ _) (by omega) ?_; intro v' w4 hown' hgrow')
            go_roundw
            case rel => exact ⟨j + 1, row ++ [C % 65536], C / 65536, by go_num, by simp [e1], HP.out, by simpa [e2] using hown', hnext.1, hnext.2⟩
            case measure => simp [intOf]; omega
        · have hv := hDn (by omega) (by omega)
          obtain rfl : C = 0 := by omega
          obtain ⟨C1, cap1, rfl, l1, l2, hR, hnew⟩ := hown2.read hdig
          have hbel := hown2.bel
          have q1 : ¬ j < qs.length := by omega
          have hL := hlen
          have HM := Lib.hid hms
          have hOr := hO.row.below hbel
          clear hDn hSt cA cB zB hlen hms
          have hrl : row.length ≤ 42 := by omega
          clear hL
          go_wp2_with (first
            | (go_at_call 94; ((with_reducible refine (trim_calls C1 row cap1 l1 l2 hdig _ hR).mono ?_); rintro e w5 ⟨m, rfl, hm, hval, htop, rfl⟩; have hml : m = (row.take m).length := (by rw [List.length_take, Nat.min_eq_left hm]); have hR5 := hR.take m; have hS5 : Says (row.take m) _ := ⟨hdig.take m, htop, hval.trans hv⟩; have hm42 := Nat.le_trans hm hrl; clear hval htop hm hv hR hdig l1 hrl hown2; generalize row.take m = rt at *; subst hml))
            | (go_at_call 93; ((with_reducible refine (plus_calls A2 C1 cs rt cc cap1 _ _ _ hOr hR5 hO.says hS5 hcl (by omega)).mono ?_); rintro e w6 ⟨A3, cs3, cc3, rfl, hO6⟩)))
          go_roundw
          case rel => exact ⟨k + 1, A3, cs3, cc3, by go_num, rfl, by rw [← HM.out]; exact hO6.from (hO.bel.trans (hbel.mono hO.bel.size)), by omega⟩
          case measure => simp [intOf]; omega
    · obtain rfl : k = ps.length := by omega
      have hv : val (ps.take ps.length) * b = a * b := by rw [List.take_length, ha.val]
      rw [hv] at hO
      have hx : (!(s == t)) = (s != t) := rfl
      go_wp2
      refine bodyPost_ret (v := .agg #[.bool (s != t), .slice A2 cs.length cc]) (by simp [results, Try.results83, go_sem, h5, h6]) rfl ⟨A2, cs, cc, rfl, ?_⟩
      subst hW3
      exact hO.store (by (repeat' (first | (with_reducible exact Below.refl _ _) | (with_reducible refine Below.drew ?_) | (with_reducible refine below_drewN ?_ _) | ((with_reducible refine Below.setCell ?_ ?side_ _); case side_ => (first | (with_reducible exact Nat.le_refl _) | (with_reducible assumption) | omega | (simp; done) | (simp; omega))) | ((with_reducible refine Below.alloc ?_ ?side_ _); case side_ => (first | (with_reducible exact Nat.le_refl _) | (with_reducible assumption) | omega | (simp; done) | (simp; omega)))))) (by omega) (by simp) _ _
end Go.Proofs.Ytejcjonlnijbkaa.Ref

/- Package ref01, walked: Floor, bit by bit. For all numbers of few digits, the divisor above 0. -/
namespace Go.Proofs.Ytejcjonlnijbkaa.Ref
open Go Go.RowKit Open
set_option maxRecDepth 100000
set_option linter.unusedVariables false
set_option linter.unusedSimpArgs false

/-- The bits of a number, the lowest one first. -/
structure Bits (a : Int) (bits : List Int) (d : Int) : Prop where
  at_ : ∀ k, k < bits.length → bits.getD k 0 = a / 2 ^ k % 2
  rest : d = a / 2 ^ bits.length
theorem Bits.start (a : Int) : Bits a [] a := ⟨fun k hk => by simp at hk, by simp⟩
theorem div_pow_succ (a : Int) (k : Nat) : a / 2 ^ (k + 1) = a / 2 ^ k / 2 := by
  rw [Int.pow_succ, Int.ediv_ediv_of_nonneg (Int.pow_nonneg (by omega))]
theorem Bits.step {a : Int} {bits : List Int} {d : Int} (h : Bits a bits d) : Bits a (bits ++ [d % 2]) (d / 2) := by
  refine ⟨fun k hk => ?_, ?_⟩
  · rcases Nat.lt_or_ge k bits.length with h1 | h1
    · have : (bits ++ [d % 2]).getD k 0 = bits.getD k 0 := by simp [List.getElem?_append_left h1]
      rw [this]; exact h.at_ k h1
    · obtain rfl : k = bits.length := by simp at hk; omega
      simp [← h.rest]
  · simp only [List.length_append, List.length_singleton]
    rw [div_pow_succ, ← h.rest]
theorem two_pow_pos (t : Nat) : (1 : Int) ≤ 2 ^ t := by
  induction t with
  | zero => decide
  | succ t ih => rw [Int.pow_succ]; omega
theorem Bits.small {a : Int} {bits : List Int} {d : Int} (h : Bits a bits d) {m : Nat} (h0 : 0 ≤ a) (hd : 0 < d) (ha : a < 2 ^ m) : bits.length < m := by
  rcases Nat.lt_or_ge bits.length m with h1 | h1
  · exact h1
  · exfalso
    have hp : (2 : Int) ^ m ≤ 2 ^ bits.length := by
      obtain ⟨t, ht⟩ := Nat.le.dest h1
      rw [← ht, Int.pow_add]
      have := two_pow_pos t
      have h3 : (0 : Int) ≤ 2 ^ m := Int.pow_nonneg (by omega)
      have := Int.mul_le_mul_of_nonneg_left this h3
      omega
    rw [h.rest] at hd
    rw [Int.ediv_eq_zero_of_lt h0 (by omega)] at hd; omega

/-- Long division, a bit more. -/
theorem div_step {h c q r bit : Int} (hc : 0 < c) (hq : q = h / c) (hr : r = h % c) (hb0 : 0 ≤ bit) (hb1 : bit ≤ 1) :
    (2 * r + bit < c → (2 * h + bit) / c = 2 * q ∧ (2 * h + bit) % c = 2 * r + bit) ∧ (c ≤ 2 * r + bit → (2 * h + bit) / c = 2 * q + 1 ∧ (2 * h + bit) % c = 2 * r + bit - c) := by
  have e := Int.mul_ediv_add_emod h c
  have m0 := Int.emod_nonneg h (show c ≠ 0 by omega)
  have m1 := Int.emod_lt_of_pos h hc
  rw [← hq, ← hr] at e
  rw [← hr] at m0 m1
  have key : ∀ Q R : Int, c * Q + R = 2 * h + bit → 0 ≤ R → R < c → (2 * h + bit) / c = Q ∧ (2 * h + bit) % c = R := by
    intro Q R h1 h2 h3
    have h4 : (2 * h + bit) / c = Q := by
      rw [← h1, Int.add_comm, Int.add_mul_ediv_left _ _ (by omega), Int.ediv_eq_zero_of_lt h2 h3]; omega
    have h5 : (2 * h + bit) % c = R := by
      rw [← h1, Int.add_comm, Int.add_mul_emod_self_left, Int.emod_eq_of_lt h2 h3]
    exact ⟨h4, h5⟩
  constructor
  · intro h1
    refine key _ _ ?_ (by omega) h1
    have : c * (2 * q) = 2 * (c * q) := by rw [Int.mul_left_comm]
    omega
  · intro h1
    refine key _ _ ?_ (by omega) (by omega)
    have : c * (2 * q + 1) = 2 * (c * q) + c := by rw [Int.mul_add, Int.mul_left_comm]; omega
    omega
/-- The bits above the k-th, and the k-th. -/
theorem high_bits (a : Int) (k : Nat) : a / 2 ^ k = 2 * (a / 2 ^ (k + 1)) + a / 2 ^ k % 2 := by
  rw [div_pow_succ]
  generalize a / 2 ^ k = x
  omega

theorem _root_.Go.Proofs.Ytejcjonlnijbkaa.Open.IntRow.grown {w w' : World} {k : IntKind} {A : Option Addr} {zs : List Int} {row : Option Nat} (h : IntRow w k A zs) (hg : w.grownBy w' row) (hne : ∀ a, A = some a → some a.block ≠ row) : IntRow w' k A zs :=
  ⟨fun i hi => by
    obtain ⟨b, off, e, hl, hc⟩ := h.cell i hi
    have hn : some b ≠ row := hne _ e
    exact ⟨b, off, e, Nat.lt_of_lt_of_le hl hg.size, World.grownBy.cell hg (a := ⟨b, off + i, none⟩) hc hn⟩, h.wf⟩
theorem one_row (w : World) (x : Int) (hx : (Lit.int .i64 x).wf = true) : IntRow (w.alloc (.cells #[.int .i64 x] 3)) .i64 (some ⟨w.heap.size, 0, none⟩) [x] :=
  ⟨fun i hi => by
    obtain rfl : i = 0 := by simp at hi; omega
    exact ⟨_, _, rfl, by simp, by simp⟩, fun z hz => by simp at hz; subst hz; exact hx⟩
/-- The length of a slice, for a measure. -/
def lenOf : Value → Nat
  | .slice _ n _ => n
  | _ => 0

theorem two_keep {w wc w1 : World} {x0 x1 z0 z1 : Value} {A B : Option Addr} {ps qs : List Int}
    (h : wc.cell? ⟨w.heap.size, 0, none⟩ = some x0 ∧ wc.cell? ⟨w.heap.size, 1, none⟩ = some x1 ∧ wc.cell? ⟨w.heap.size + 1, 0, none⟩ = some z0 ∧ wc.cell? ⟨w.heap.size + 1, 1, none⟩ = some z1 ∧ wc.frozen? ⟨w.heap.size + 1, 0, none⟩ = false ∧ wc.frozen? ⟨w.heap.size + 1, 1, none⟩ = false ∧ IntRow wc .i64 A ps ∧ IntRow wc .i64 B qs ∧ w.heap.size + 1 < wc.heap.size)
    (hb : Below wc.heap.size wc w1) :
    w1.cell? ⟨w.heap.size, 0, none⟩ = some x0 ∧ w1.cell? ⟨w.heap.size, 1, none⟩ = some x1 ∧ w1.cell? ⟨w.heap.size + 1, 0, none⟩ = some z0 ∧ w1.cell? ⟨w.heap.size + 1, 1, none⟩ = some z1 ∧ w1.frozen? ⟨w.heap.size + 1, 0, none⟩ = false ∧ w1.frozen? ⟨w.heap.size + 1, 1, none⟩ = false ∧ IntRow w1 .i64 A ps ∧ IntRow w1 .i64 B qs ∧ w.heap.size + 1 < w1.heap.size := by
  obtain ⟨h1, h2, h3, h4, f1, f2, r1, r2, hs⟩ := h
  obtain ⟨hc, hf⟩ := bcell hb
  have hz := hb.size
  exact ⟨(hc _ _ (by omega)).trans h1, (hc _ _ (by omega)).trans h2, (hc _ _ (by omega)).trans h3, (hc _ _ (by omega)).trans h4, (hf _ _ (by omega)).trans f1, (hf _ _ (by omega)).trans f2, r1.below hb, r2.below hb, by omega⟩
theorem two_begin {w : World} (x0 x1 z0 z1 : Value) (t : TypeId) {A B : Option Addr} {ps qs : List Int} (hA : IntRow w .i64 A ps) (hB : IntRow w .i64 B qs) {W : World} (hW : W = (w.alloc (.cells #[x0, x1] t)).alloc (.cells #[z0, z1] t)) :
    W.cell? ⟨w.heap.size, 0, none⟩ = some x0 ∧ W.cell? ⟨w.heap.size, 1, none⟩ = some x1 ∧ W.cell? ⟨w.heap.size + 1, 0, none⟩ = some z0 ∧ W.cell? ⟨w.heap.size + 1, 1, none⟩ = some z1 ∧ W.frozen? ⟨w.heap.size + 1, 0, none⟩ = false ∧ W.frozen? ⟨w.heap.size + 1, 1, none⟩ = false ∧ IntRow W .i64 A ps ∧ IntRow W .i64 B qs ∧ w.heap.size + 1 < W.heap.size := by
  subst hW
  refine ⟨?_, ?_, ?_, ?_, ?_, ?_, (hA.below (below_a1 _ _)).below (below_a1 _ _), (hB.below (below_a1 _ _)).below (below_a1 _ _), ?_⟩ <;> simp [go_sem]
end Go.Proofs.Ytejcjonlnijbkaa.Ref

/- Package ref01, walked: Floor, bit by bit. For all numbers of few digits, the divisor above 0. Printed by gen_floor.py. -/
namespace Go.Proofs.Ytejcjonlnijbkaa.Ref
open Go Go.RowKit Open
set_option maxRecDepth 100000
set_option linter.unusedVariables false
set_option linter.unusedSimpArgs false

/-- What hands back a number: with a sign, and digits of its own. -/
def Num0 (w : World) (z : Int) (e : Ending) (w' : World) : Prop :=
  ∃ r C cs cc n, e = .returned (.agg #[.bool r, .slice C cs.length cc]) ∧ Out w w' C cs n ∧ sg r n = z
theorem says_lt {ds : List Int} {n : Int} (h : Says ds n) {m : Nat} (hl : ds.length ≤ m) : n < pw m := by
  have h1 := val_lt h.dig
  have h2 := pw_mono hl
  rw [h.val] at h1; omega
theorem pw20 : pw 20 * 65536 = pw 21 := (pw_succ 20).symm
theorem pw_two : pw 20 = 2 ^ 320 := by unfold pw; rw [show (65536 : Int) = 2 ^ 16 by decide, ← Int.pow_mul]
/-- What Floor answers: the sign's part. -/
theorem floor_neg {a c : Int} (hc : 0 < c) : (a % c = 0 → -(a / c) = (-a) / c) ∧ (0 < a % c → -(a / c + 1) = (-a) / c) := by
  have e := Int.mul_ediv_add_emod a c
  have m1 := Int.emod_lt_of_pos a hc
  generalize a % c = m at *
  generalize a / c = q at *
  subst e
  constructor
  · rintro rfl
    rw [Int.add_zero, ← Int.mul_neg, Int.mul_ediv_cancel_left _ (by omega)]
  · intro h
    have : -(c * q + m) = (c - m) + c * (-(q + 1)) := by rw [Int.mul_neg, Int.mul_add]; omega
    rw [this, Int.add_mul_ediv_left _ _ (by omega), Int.ediv_eq_zero_of_lt (by omega) (by omega)]; omega
theorem div_le' {a c : Int} (ha : 0 ≤ a) (hc : 0 < c) (j : Nat) : 0 ≤ a / 2 ^ j / c ∧ a / 2 ^ j / c ≤ a ∧ 0 ≤ a / 2 ^ j := by
  have h0 := two_pow_pos j
  have h1 : 0 ≤ a / 2 ^ j := Int.ediv_nonneg ha (by omega)
  have h2 : a / 2 ^ j ≤ a := Int.ediv_le_self _ ha
  have h3 : a / 2 ^ j / c ≤ a / 2 ^ j := Int.ediv_le_self _ h1
  exact ⟨Int.ediv_nonneg h1 (by omega), by omega, h1⟩

theorem plus1_calls (A : Option Addr) (ps : List Int) (ca : Nat) (a : Int) (g : Nat) (w : World) (hA : IntRow w .i64 A ps) (h1 : IntRow w .i64 (some ⟨g, 0, none⟩) [1]) (ha : Says ps a) (la : ps.length ≤ 64) :
    Calls Try.prog 93 #[.slice A ps.length ca, .slice (some ⟨g, 0, none⟩) 1 1] w fun e w' => ∃ C cs cc, e = .returned (.slice C cs.length cc) ∧ Out w w' C cs (a + 1) :=
  plus_calls A (some ⟨g, 0, none⟩) ps [1] ca 1 a 1 w hA h1 ha Says.one la (by decide)

set_option maxHeartbeats 16000000 in
theorem floor_calls (s : Bool) (A B : Option Addr) (ps qs : List Int) (ca cb : Nat) (a c : Int) (w : World) (hA : IntRow w .i64 A ps) (hB : IntRow w .i64 B qs) (ha : Says ps a) (hb : Says qs c) (la : ps.length ≤ 20) (lb : qs.length ≤ 20) (hc : 0 < c) :
    Calls Try.prog 91 #[.agg #[.bool s, .slice A ps.length ca], .slice B qs.length cb] w (Num0 w (sg s a / c)) := by
  obtain ⟨W2, hW2⟩ : ∃ W2, ((w.alloc (.cells #[.bool s, .slice A ps.length ca] 154)).alloc (.cells #[.bool false, .slice none 0 0] 154)) = W2 := ⟨_, rfl⟩
  have hsz2 : w.heap.size + 1 < W2.heap.size := by subst hW2; simp
  have hbw : Below w.heap.size w W2 := by subst hW2; (repeat' (first | (with_reducible exact Below.refl _ _) | (with_reducible refine Below.drew ?_) | (with_reducible refine below_drewN ?_ _) | ((with_reducible refine Below.setCell ?_ ?side_ _); case side_ => (first | (with_reducible exact Nat.le_refl _) | (with_reducible assumption) | omega | (simp; done) | (simp; omega))) | ((with_reducible refine Below.alloc ?_ ?side_ _); case side_ => (first | (with_reducible exact Nat.le_refl _) | (with_reducible assumption) | omega | (simp; done) | (simp; omega)))))
  have F := fun (W : World) (hW : Below W2.heap.size W2 W) => two_keep (two_begin (.bool s) (.slice A ps.length ca) (.bool false) (.slice none 0 0) 154 hA hB hW2.symm) hW
  have FF := Lib.hid F
  clear F
  have F0 := two_begin (.bool s) (.slice A ps.length ca) (.bool false) (.slice none 0 0) 154 hA hB hW2.symm
  have hlt := says_lt ha la
  have hltc := says_lt hb lb
  have ha0 := ha.nonneg
  go_enter Try.func91, Try.ntmps91
  go_wp2
  go_loopw [5, 6] (fun v d wr => ∃ bs D ds dc dv, d = .slice D ds.length dc ∧ Own W2 wr v bs ∧ Bits a bs dv ∧ IntRow wr .i64 D ds ∧ Says ds dv ∧ (∀ z ∈ bs, 0 ≤ z ∧ z ≤ 65535) ∧ ds.length ≤ 20 ∧ bs.length ≤ 320) (fun v _ _ => 600 - lenOf v)
  case atStart => exact ⟨[], A, ps, ca, a, rfl, Own.nil (Below.refl _ _), Bits.start a, F0.2.2.2.2.2.2.1, ha, fun z hz => by simp at hz, la, by decide⟩
  case round =>
    obtain ⟨bs, D, ds, dc, dv, rfl, hO, hBi, hD, hS, hdg, hdl, hblen⟩ := hrel
    obtain ⟨C0, cap0, rfl, l1, l2, hR, hnew⟩ := hO.read hdg
    by_cases hp : 0 < ds.length
    · have hdv : 0 < dv := by
        rcases Int.lt_or_eq_of_le hS.nonneg with h | h
        · exact h
        · exfalso
          rw [← h] at hS
          have := hS.zero
          omega
      have hbl := hBi.small (m := 320) ha0 hdv (by rw [← pw_two]; exact hlt)
      have hBs := hBi.step
      have hx : 0 ≤ dv % 2 ∧ dv % 2 ≤ 1 := by omega
      have hS2len : ∀ es, Says es (dv / 2) → es.length ≤ 20 := fun es he => he.len (by have := says_lt hS hdl; have := hS.nonneg; omega)
      have HB := Lib.hid hBs
      have HL := Lib.hid hS2len
      have hOl := hO.row.lt
      have HOL := Lib.hid hOl
      have hob := hO.bel
      clear hBi hBs hlt hS2len hOl
      go_wp2_with (first
        | (go_at_call 103; ((with_reducible refine (half_calls D ds dc dv _ hD hS (by omega)).mono ?_); rintro e w1 ⟨D1, ds1, dc1, rfl, h1⟩; have hO1 : Own W2 w1 (.slice C0 bs.length cap0) bs := ⟨hO.row.kept (w' := w1) (row := none) ⟨h1.bel.os, h1.bel.tape, h1.bel.output, h1.bel.size, fun k hk _ => h1.bel.block k hk⟩ (by cases C0 with | none => exact Or.inl rfl | some x => exact Or.inr (by simp [Value.ownBlock])), hob.trans (h1.bel.mono hob.size)⟩))
        | (at_builtin; refine app1 rfl _ _ rfl _ _ rfl (hO1.alloc _) _ _ rfl (cell_new _ _ _) (by omega) ?_; intro v' w2 hown' hgrow'))
      go_roundw
      case rel =>
        refine ⟨bs ++ [dv % 2], D1, ds1, dc1, dv / 2, rfl, hown', HB.out, (h1.row.below (below_a1 _ _)).grown hgrow' (fun a' ha' h' => ?_), h1.says, ?_, HL.out _ h1.says, by simp; omega⟩
        · have e1 := h1.new a' ha'
          have e2 := (HOL.out _ h'.symm).2
          omega
        · intro z hz
          rcases List.mem_append.1 hz with hz | hz
          · exact hdg z hz
          · simp at hz; subst hz; omega
      case measure =>
        obtain ⟨_, _, hv', _⟩ := hown'.read (fun z hz => by
          rcases List.mem_append.1 hz with hz | hz
          · exact hdg z hz
          · simp at hz; subst hz; omega)
        simp [lenOf, hv']; omega
    · obtain ⟨wb, hwb⟩ : ∃ wb, wb = wr := ⟨_, rfl⟩
      subst hwb
      have hdv : dv = 0 := by
        rcases Int.lt_or_eq_of_le hS.nonneg with h | h
        · have := hS.pos h; omega
        · exact h.symm
      have hend := hBi.rest
      rw [hdv] at hend
      have hat := hBi.at_
      have hob := hO.bel
      clear hO hBi hD hS hnew
      have hq0 : Out wb wb none [] (a / 2 ^ bs.length / c) ∧ Out wb wb none [] (a / 2 ^ bs.length % c) := by
        rw [← hend]; simpa using Out.none wb
      have HQ := Lib.hid hq0
      have HAT := Lib.hid hat
      clear hat hq0 hend
      go_wp2
      go_loopw [9, 10, 11] (fun q r i wr => ∃ j Q qd cq R rd cr, i = .int .i64 ((j : Nat) - 1 : Int) ∧ q = .slice Q qd.length cq ∧ r = .slice R rd.length cr ∧ Out wb wr Q qd (a / 2 ^ j / c) ∧ Out wb wr R rd (a / 2 ^ j % c) ∧ j ≤ bs.length) (fun _ _ i _ => (intOf i + 1).toNat)
      case atStart => exact ⟨bs.length, none, [], 0, none, [], 0, rfl, rfl, rfl, HQ.out.1, HQ.out.2, Nat.le_refl _⟩
      case round =>
        obtain ⟨j, Q, qd, cq, R, rd, cr, rfl, rfl, rfl, hQ, hR2, hj⟩ := hrel
        obtain ⟨b1, b2, b3, b4, g1, g2, r1, r2, hs2⟩ := FF.out wr (hob.trans (hQ.bel.mono hob.size))
        obtain ⟨d1, d2, d3⟩ := div_le' ha0 hc j
        have m0 := Int.emod_nonneg (a / 2 ^ j) (show c ≠ 0 by omega)
        have m1 := Int.emod_lt_of_pos (a / 2 ^ j) hc
        have hql := hQ.says.len (m := 20) (by omega)
        have hrl := hR2.says.len (m := 20) (by omega)
        by_cases hp : 0 < j
        · obtain ⟨k, rfl⟩ : ∃ k, j = k + 1 := ⟨j - 1, by omega⟩
          have e0 : ((k + 1 : Nat) : Int) - 1 = (k : Nat) := by omega
          rw [e0]
          have hbits := hR.below hQ.bel
          obtain ⟨bb, bo, rfl, hbb, hbc⟩ := hbits.cell k (by omega)
          rw [getD_q, HAT.out k (by omega)] at hbc
          have hhb := high_bits a k
          have hds := div_step (h := a / 2 ^ (k + 1)) (q := a / 2 ^ (k + 1) / c) (r := a / 2 ^ (k + 1) % c) (bit := a / 2 ^ k % 2) hc rfl rfl (by omega) (by omega)
          rw [← hhb] at hds
          clear b1 b2 b3 b4 g1 g2 r1 hbits HQ HAT
          have hbit : a / 2 ^ k % 2 = 0 ∨ a / 2 ^ k % 2 = 1 := by omega
          generalize a / 2 ^ (k + 1) / c = q0 at *
          generalize a / 2 ^ (k + 1) % c = r0 at *
          generalize a / 2 ^ k % 2 = bit at *
          obtain ⟨hds1, hds2⟩ := hds
          have hpw := pw20
          have hlq : ∀ es, Says es (q0 + q0) → es.length ≤ 21 := fun es he => he.len (by omega)
          have hlr : ∀ es, Says es (r0 + r0) → es.length ≤ 21 := fun es he => he.len (by omega)
          have hlr1 : ∀ es, Says es (r0 + r0 + 1) → es.length ≤ 21 := fun es he => he.len (by omega)
          have HLQ := Lib.hid hlq
          have HLR := Lib.hid hlr
          have HLR1 := Lib.hid hlr1
          clear hlq hlr hlr1 hhb

          rcases hbit with rfl | rfl
          · by_cases hl : r0 + r0 < c
            · skip
              go_wp2_with (first
                | (go_at_call 93; ((with_reducible refine (plus_calls Q Q qd qd cq cq _ _ _ hQ.row hQ.row hQ.says hQ.says (by omega) (by omega)).mono ?_); rintro e w1 ⟨Q1, qd1, cq1, rfl, o1⟩; have l1 := HLQ.out _ o1.says; have x1 := hR2.row.below o1.bel))
                | (go_at_call 93; ((with_reducible refine (plus_calls R R rd rd cr cr _ _ _ x1 x1 hR2.says hR2.says (by omega) (by omega)).mono ?_); rintro e w2 ⟨R1, rd1, cr1, rfl, o2⟩; have l2 := HLR.out _ o2.says; have B12 := below_more o1.bel o2.bel; have hbc2 := (B12.cell (p := ⟨bb, bo + k, none⟩) hbb).trans hbc; have q2 := o1.row.below o2.bel; have c2 := r2.below B12))
                | (go_at_call 104; ((with_reducible refine (less_calls R1 B rd1 qs cr1 cb (r0 + r0) c _ o2.row c2 o2.says hb (by omega) (by omega)).mono ?_); rintro e w4 ⟨e4, B4⟩; rw [decide_eq_true hl] at e4; subst e4; have q4 := q2.below B4; have c4 := c2.below B4; have x4 := o2.row.below B4)))
              go_roundw
              case rel =>
                obtain ⟨v1, v2⟩ := hds1 (by omega)
                have BB : Below wb.heap.size wb w4 := hQ.bel.trans ((below_more B12 B4).mono hQ.bel.size)
                exact ⟨k, Q1, qd1, cq1, R1, rd1, cr1, rfl, rfl, rfl, ⟨q4, by rw [v1, show 2 * q0 = q0 + q0 by omega]; exact o1.says, BB, fun a' ha' => Nat.le_trans hQ.bel.size (o1.new a' ha')⟩, ⟨x4, by rw [v2, show 2 * r0 + 0 = r0 + r0 by omega]; exact o2.says, BB, fun a' ha' => by have t1 := o2.new a' ha'; have t2 := hQ.bel.size; have t3 := o1.bel.size; omega⟩, by omega⟩
              case measure => simp [intOf]
            · skip
              go_wp2_with (first
                | (go_at_call 93; ((with_reducible refine (plus_calls Q Q qd qd cq cq _ _ _ hQ.row hQ.row hQ.says hQ.says (by omega) (by omega)).mono ?_); rintro e w1 ⟨Q1, qd1, cq1, rfl, o1⟩; have l1 := HLQ.out _ o1.says; have x1 := hR2.row.below o1.bel))
                | (go_at_call 93; ((with_reducible refine (plus_calls R R rd rd cr cr _ _ _ x1 x1 hR2.says hR2.says (by omega) (by omega)).mono ?_); rintro e w2 ⟨R1, rd1, cr1, rfl, o2⟩; have l2 := HLR.out _ o2.says; have B12 := below_more o1.bel o2.bel; have hbc2 := (B12.cell (p := ⟨bb, bo + k, none⟩) hbb).trans hbc; have q2 := o1.row.below o2.bel; have c2 := r2.below B12))
                | (go_at_call 104; ((with_reducible refine (less_calls R1 B rd1 qs cr1 cb (r0 + r0) c _ o2.row c2 o2.says hb (by omega) (by omega)).mono ?_); rintro e w4 ⟨e4, B4⟩; rw [decide_eq_false (p := r0 + r0 < c) (by omega)] at e4; subst e4; have q4 := q2.below B4; have c4 := c2.below B4; have x4 := o2.row.below B4))
                | (go_at_call 105; ((with_reducible refine (minus_calls R1 B rd1 qs cr1 cb (r0 + r0) c _ x4 c4 o2.says hb (by omega) (says_len_mono o2.says hb (by omega)) (by omega)).mono ?_); rintro e w5 ⟨R3, rd3, cr3, rfl, o5⟩; have q5 := q4.below o5.bel))
                | (go_at_call 93; ((with_reducible refine (plus1_calls Q1 qd1 cq1 _ _ _ (q5.below (below_a1 _ _)) (one_row _ 1 (by decide)) o1.says (by omega)).mono ?_); rintro e w6 ⟨Q2, qd2, cq2, rfl, o6⟩; have B6 := below_more (below_a1 w5 _) o6.bel)))
              go_roundw
              case rel =>
                obtain ⟨v1, v2⟩ := hds2 (by omega)
                have B46 := below_more B4 (below_more o5.bel B6)
                have BB : Below wb.heap.size wb w6 := hQ.bel.trans ((below_more B12 B46).mono hQ.bel.size)
                have z1 := hQ.bel.size
                have z2 := B12.size
                have z3 := B4.size
                have z4 := o5.bel.size
                exact ⟨k, Q2, qd2, cq2, R3, rd3, cr3, rfl, rfl, rfl, ⟨o6.row, by rw [v1, show 2 * q0 + 1 = q0 + q0 + 1 by omega]; exact o6.says, BB, fun a' ha' => by have t1 := o6.new a' ha'; simp at t1; omega⟩, ⟨o5.row.below B6, by rw [v2, show 2 * r0 + 0 - c = r0 + r0 - c by omega]; exact o5.says, BB, fun a' ha' => by have t1 := o5.new a' ha'; omega⟩, by omega⟩
              case measure => simp [intOf]
          · by_cases hl : r0 + r0 + 1 < c
            · skip
              go_wp2_with (first
                | (go_at_call 93; ((with_reducible refine (plus_calls Q Q qd qd cq cq _ _ _ hQ.row hQ.row hQ.says hQ.says (by omega) (by omega)).mono ?_); rintro e w1 ⟨Q1, qd1, cq1, rfl, o1⟩; have l1 := HLQ.out _ o1.says; have x1 := hR2.row.below o1.bel))
                | (go_at_call 93; ((with_reducible refine (plus_calls R R rd rd cr cr _ _ _ x1 x1 hR2.says hR2.says (by omega) (by omega)).mono ?_); rintro e w2 ⟨R1, rd1, cr1, rfl, o2⟩; have l2 := HLR.out _ o2.says; have B12 := below_more o1.bel o2.bel; have hbc2 := (B12.cell (p := ⟨bb, bo + k, none⟩) hbb).trans hbc; have q2 := o1.row.below o2.bel; have c2 := r2.below B12))
                | (go_at_call 93; ((with_reducible refine (plus1_calls R1 rd1 cr1 _ _ _ (o2.row.below (below_a1 _ _)) (one_row _ 1 (by decide)) o2.says (by omega)).mono ?_); rintro e w3 ⟨R2, rd2, cr2, rfl, o3⟩; have l3 := HLR1.out _ o3.says; have B3 := below_more (below_a1 w2 _) o3.bel; have q3 := q2.below B3; have c3 := c2.below B3))
                | (go_at_call 104; ((with_reducible refine (less_calls R2 B rd2 qs cr2 cb (r0 + r0 + 1) c _ o3.row c3 o3.says hb (by omega) (by omega)).mono ?_); rintro e w4 ⟨e4, B4⟩; rw [decide_eq_true hl] at e4; subst e4; have q4 := q3.below B4; have c4 := c3.below B4; have x4 := o3.row.below B4)))
              go_roundw
              case rel =>
                obtain ⟨v1, v2⟩ := hds1 (by omega)
                have BB : Below wb.heap.size wb w4 := hQ.bel.trans ((below_more (below_more B12 B3) B4).mono hQ.bel.size)
                exact ⟨k, Q1, qd1, cq1, R2, rd2, cr2, rfl, rfl, rfl, ⟨q4, by rw [v1, show 2 * q0 = q0 + q0 by omega]; exact o1.says, BB, fun a' ha' => Nat.le_trans hQ.bel.size (o1.new a' ha')⟩, ⟨x4, by rw [v2, show 2 * r0 + 1 = r0 + r0 + 1 by omega]; exact o3.says, BB, fun a' ha' => by have t1 := o3.new a' ha'; have t2 := hQ.bel.size; have t3 := o1.bel.size; have t4 := o2.bel.size; simp at t1; omega⟩, by omega⟩
              case measure => simp [intOf]
            · skip
              go_wp2_with (first
                | (go_at_call 93; ((with_reducible refine (plus_calls Q Q qd qd cq cq _ _ _ hQ.row hQ.row hQ.says hQ.says (by omega) (by omega)).mono ?_); rintro e w1 ⟨Q1, qd1, cq1, rfl, o1⟩; have l1 := HLQ.out _ o1.says; have x1 := hR2.row.below o1.bel))
                | (go_at_call 93; ((with_reducible refine (plus_calls R R rd rd cr cr _ _ _ x1 x1 hR2.says hR2.says (by omega) (by omega)).mono ?_); rintro e w2 ⟨R1, rd1, cr1, rfl, o2⟩; have l2 := HLR.out _ o2.says; have B12 := below_more o1.bel o2.bel; have hbc2 := (B12.cell (p := ⟨bb, bo + k, none⟩) hbb).trans hbc; have q2 := o1.row.below o2.bel; have c2 := r2.below B12))
                | (go_at_call 93; ((with_reducible refine (plus1_calls R1 rd1 cr1 _ _ _ (o2.row.below (below_a1 _ _)) (one_row _ 1 (by decide)) o2.says (by omega)).mono ?_); rintro e w3 ⟨R2, rd2, cr2, rfl, o3⟩; have l3 := HLR1.out _ o3.says; have B3 := below_more (below_a1 w2 _) o3.bel; have q3 := q2.below B3; have c3 := c2.below B3))
                | (go_at_call 104; ((with_reducible refine (less_calls R2 B rd2 qs cr2 cb (r0 + r0 + 1) c _ o3.row c3 o3.says hb (by omega) (by omega)).mono ?_); rintro e w4 ⟨e4, B4⟩; rw [decide_eq_false (p := r0 + r0 + 1 < c) (by omega)] at e4; subst e4; have q4 := q3.below B4; have c4 := c3.below B4; have x4 := o3.row.below B4))
                | (go_at_call 105; ((with_reducible refine (minus_calls R2 B rd2 qs cr2 cb (r0 + r0 + 1) c _ x4 c4 o3.says hb (by omega) (says_len_mono o3.says hb (by omega)) (by omega)).mono ?_); rintro e w5 ⟨R3, rd3, cr3, rfl, o5⟩; have q5 := q4.below o5.bel))
                | (go_at_call 93; ((with_reducible refine (plus1_calls Q1 qd1 cq1 _ _ _ (q5.below (below_a1 _ _)) (one_row _ 1 (by decide)) o1.says (by omega)).mono ?_); rintro e w6 ⟨Q2, qd2, cq2, rfl, o6⟩; have B6 := below_more (below_a1 w5 _) o6.bel)))
              go_roundw
              case rel =>
                obtain ⟨v1, v2⟩ := hds2 (by omega)
                have B46 := below_more B4 (below_more o5.bel B6)
                have BB : Below wb.heap.size wb w6 := hQ.bel.trans ((below_more (below_more B12 B3) B46).mono hQ.bel.size)
                have z1 := hQ.bel.size
                have z2 := (below_more B12 B3).size
                have z3 := B4.size
                have z4 := o5.bel.size
                exact ⟨k, Q2, qd2, cq2, R3, rd3, cr3, rfl, rfl, rfl, ⟨o6.row, by rw [v1, show 2 * q0 + 1 = q0 + q0 + 1 by omega]; exact o6.says, BB, fun a' ha' => by have t1 := o6.new a' ha'; simp at t1; omega⟩, ⟨o5.row.below B6, by rw [v2, show 2 * r0 + 1 - c = r0 + r0 + 1 - c by omega]; exact o5.says, BB, fun a' ha' => by have t1 := o5.new a' ha'; omega⟩, by omega⟩
              case measure => simp [intOf]
        · obtain rfl : j = 0 := by omega
          simp only [Int.pow_zero, Int.ediv_one] at hQ hR2 d1 d2 m0 m1
          obtain ⟨fn1, fn2⟩ := floor_neg (a := a) hc
          have hQ2 := hQ.from hob
          have hpw := pw20
          generalize hqg : a / c = q0 at *
          generalize hrg : a % c = r0 at *
          clear r1 r2 HQ HAT hlt hltc
          cases s
          · go_wp2
            refine bodyPost_ret (v := .agg #[.bool false, .slice Q qd.length cq]) (by simp [results, Try.results91, go_sem, b3, b4]) rfl ⟨false, Q, qd, cq, q0, rfl, hQ2.store hbw (by omega) hsz2 _ _, ?_⟩
            simp only [sg_false]; exact hqg.symm
          · have hFN := Lib.hid (And.intro fn1 fn2)
            clear fn1 fn2
            by_cases hr : 0 < r0
            · have hrp := hR2.says.pos hr
              have hnz : ∀ es, Says es (q0 + 1) → 0 < es.length := fun es he => he.pos (by omega)
              have HNZ := Lib.hid hnz
              clear hnz
              have F2 := FF
              go_wp2_with (go_at_call 93; ((with_reducible refine (plus1_calls Q qd cq _ _ _ (hQ.row.below (below_a1 _ _)) (one_row _ 1 (by decide)) hQ.says (by omega)).mono ?_); rintro e w1 ⟨Q1, qd1, cq1, rfl, o1⟩; have l1 := HNZ.out _ o1.says; have BB : Below W2.heap.size W2 w1 := hQ2.bel.trans ((below_more (below_a1 _ _) o1.bel).mono hQ2.bel.size); obtain ⟨t1, t2, t3, t4, t5, t6, t7, t8, t9⟩ := F2.out _ BB; clear t7 t8))
              refine bodyPost_ret (v := .agg #[.bool true, .slice Q1 qd1.length cq1]) (by simp [results, Try.results91, go_sem, t3, t4]) rfl ⟨true, Q1, qd1, cq1, q0 + 1, rfl, Out.store (X := W2) ⟨o1.row, o1.says, BB, fun a' ha' => by have z1 := o1.new a' ha'; simp at z1; have z2 := hQ2.bel.size; omega⟩ hbw (by omega) hsz2 _ _, ?_⟩
              simp only [sg_true]; exact hFN.out.2 hr
            · obtain rfl : r0 = 0 := by omega
              have hrz := hR2.says.zero
              have HV0 := Lib.hid (hFN.out.1 rfl)
              by_cases hql0 : 0 < qd.length
              · go_wp2
                refine bodyPost_ret (v := .agg #[.bool true, .slice Q qd.length cq]) (by simp [results, Try.results91, go_sem, b3, b4]) rfl ⟨true, Q, qd, cq, q0, rfl, hQ2.store hbw (by omega) hsz2 _ _, ?_⟩
                simp only [sg_true]; exact HV0.out
              · have hz : q0 = 0 := by
                  rcases Int.lt_or_eq_of_le hQ.says.nonneg with h | h
                  · have := hQ.says.pos h; omega
                  · exact h.symm
                go_wp2
                refine bodyPost_ret (v := .agg #[.bool false, .slice Q qd.length cq]) (by simp [results, Try.results91, go_sem, b3, b4]) rfl ⟨false, Q, qd, cq, q0, rfl, hQ2.store hbw (by omega) hsz2 _ _, ?_⟩
                have hv := HV0.out; simp only [sg_false, sg_true]; omega
end Go.Proofs.Ytejcjonlnijbkaa.Ref

/- Package ref01, walked: Near. For all numbers of few digits, the divisor not 0. Printed by gen_near.py. -/
namespace Go.Proofs.Ytejcjonlnijbkaa.Ref
open Go Go.RowKit Open
set_option maxRecDepth 100000
set_option linter.unusedVariables false
set_option linter.unusedSimpArgs false
theorem near_bel {w W : World} {x0 x1 y0 y1 : Value} (h : W.cell? ⟨w.heap.size, 0, none⟩ = some (x0) ∧ W.cell? ⟨w.heap.size, 1, none⟩ = some (x1) ∧ W.cell? ⟨(w.heap.size + 1), 0, none⟩ = some (y0) ∧ W.cell? ⟨(w.heap.size + 1), 1, none⟩ = some (y1) ∧ W.frozen? ⟨(w.heap.size + 1 + 1), 0, none⟩ = false ∧ W.frozen? ⟨(w.heap.size + 1 + 1), 1, none⟩ = false ∧ (W.cell? ⟨(w.heap.size + 1 + 1), 0, none⟩).isSome = true ∧ (W.cell? ⟨(w.heap.size + 1 + 1), 1, none⟩).isSome = true ∧ w.heap.size + 1 + 1 < W.heap.size ∧ Below w.heap.size w W) : Below w.heap.size w W := h.2.2.2.2.2.2.2.2.2
theorem near_fill {w W w1 : World} {x0 x1 y0 y1 : Value} (h : W.cell? ⟨w.heap.size, 0, none⟩ = some (x0) ∧ W.cell? ⟨w.heap.size, 1, none⟩ = some (x1) ∧ W.cell? ⟨(w.heap.size + 1), 0, none⟩ = some (y0) ∧ W.cell? ⟨(w.heap.size + 1), 1, none⟩ = some (y1) ∧ W.frozen? ⟨(w.heap.size + 1 + 1), 0, none⟩ = false ∧ W.frozen? ⟨(w.heap.size + 1 + 1), 1, none⟩ = false ∧ (W.cell? ⟨(w.heap.size + 1 + 1), 0, none⟩).isSome = true ∧ (W.cell? ⟨(w.heap.size + 1 + 1), 1, none⟩).isSome = true ∧ w.heap.size + 1 + 1 < W.heap.size ∧ Below w.heap.size w W) (hb : Below W.heap.size W w1) : ∃ v0 v1, w1.cell? ⟨(w.heap.size + 1 + 1), 0, none⟩ = some v0 ∧ w1.cell? ⟨(w.heap.size + 1 + 1), 1, none⟩ = some v1 ∧ w1.frozen? ⟨(w.heap.size + 1 + 1), 0, none⟩ = false ∧ w1.frozen? ⟨(w.heap.size + 1 + 1), 1, none⟩ = false := by
  obtain ⟨h1, h2, h3, h4, f1, f2, i1, i2, hs, hB⟩ := h
  obtain ⟨hc, hf⟩ := bcell hb
  obtain ⟨v0, e0⟩ := Option.isSome_iff_exists.1 i1
  obtain ⟨v1, e1⟩ := Option.isSome_iff_exists.1 i2
  exact ⟨v0, v1, (hc _ _ hs).trans e0, (hc _ _ hs).trans e1, (hf _ _ hs).trans f1, (hf _ _ hs).trans f2⟩
theorem near_keep {w W w1 : World} {x0 x1 y0 y1 : Value} (h : W.cell? ⟨w.heap.size, 0, none⟩ = some (x0) ∧ W.cell? ⟨w.heap.size, 1, none⟩ = some (x1) ∧ W.cell? ⟨(w.heap.size + 1), 0, none⟩ = some (y0) ∧ W.cell? ⟨(w.heap.size + 1), 1, none⟩ = some (y1) ∧ W.frozen? ⟨(w.heap.size + 1 + 1), 0, none⟩ = false ∧ W.frozen? ⟨(w.heap.size + 1 + 1), 1, none⟩ = false ∧ (W.cell? ⟨(w.heap.size + 1 + 1), 0, none⟩).isSome = true ∧ (W.cell? ⟨(w.heap.size + 1 + 1), 1, none⟩).isSome = true ∧ w.heap.size + 1 + 1 < W.heap.size ∧ Below w.heap.size w W) (hb : Below W.heap.size W w1) : w1.cell? ⟨w.heap.size, 0, none⟩ = some (x0) ∧ w1.cell? ⟨w.heap.size, 1, none⟩ = some (x1) ∧ w1.cell? ⟨(w.heap.size + 1), 0, none⟩ = some (y0) ∧ w1.cell? ⟨(w.heap.size + 1), 1, none⟩ = some (y1) ∧ w1.frozen? ⟨(w.heap.size + 1 + 1), 0, none⟩ = false ∧ w1.frozen? ⟨(w.heap.size + 1 + 1), 1, none⟩ = false ∧ (w1.cell? ⟨(w.heap.size + 1 + 1), 0, none⟩).isSome = true ∧ (w1.cell? ⟨(w.heap.size + 1 + 1), 1, none⟩).isSome = true ∧ w.heap.size + 1 + 1 < w1.heap.size ∧ Below w.heap.size w w1 := by
  obtain ⟨h1, h2, h3, h4, f1, f2, i1, i2, hs, hB⟩ := h
  obtain ⟨hc, hf⟩ := bcell hb
  have hz := hb.size
  exact ⟨(hc _ _ (by omega)).trans h1, (hc _ _ (by omega)).trans h2, (hc _ _ (by omega)).trans h3, (hc _ _ (by omega)).trans h4, (hf _ _ (by omega)).trans f1, (hf _ _ (by omega)).trans f2,
    by rw [hc _ _ (by omega)]; exact i1, by rw [hc _ _ (by omega)]; exact i2, by omega, hB.trans (hb.mono hB.size)⟩
theorem near_store {w W : World} {x0 x1 y0 y1 : Value} (v0 v1 : Value) (h : W.cell? ⟨w.heap.size, 0, none⟩ = some (x0) ∧ W.cell? ⟨w.heap.size, 1, none⟩ = some (x1) ∧ W.cell? ⟨(w.heap.size + 1), 0, none⟩ = some (y0) ∧ W.cell? ⟨(w.heap.size + 1), 1, none⟩ = some (y1) ∧ W.frozen? ⟨(w.heap.size + 1 + 1), 0, none⟩ = false ∧ W.frozen? ⟨(w.heap.size + 1 + 1), 1, none⟩ = false ∧ (W.cell? ⟨(w.heap.size + 1 + 1), 0, none⟩).isSome = true ∧ (W.cell? ⟨(w.heap.size + 1 + 1), 1, none⟩).isSome = true ∧ w.heap.size + 1 + 1 < W.heap.size ∧ Below w.heap.size w W) : ((W.setCell ⟨w.heap.size + 1 + 1, 0, none⟩ v0).setCell ⟨w.heap.size + 1 + 1, 1, none⟩ v1).cell? ⟨w.heap.size, 0, none⟩ = some (x0) ∧ ((W.setCell ⟨w.heap.size + 1 + 1, 0, none⟩ v0).setCell ⟨w.heap.size + 1 + 1, 1, none⟩ v1).cell? ⟨w.heap.size, 1, none⟩ = some (x1) ∧ ((W.setCell ⟨w.heap.size + 1 + 1, 0, none⟩ v0).setCell ⟨w.heap.size + 1 + 1, 1, none⟩ v1).cell? ⟨(w.heap.size + 1), 0, none⟩ = some (y0) ∧ ((W.setCell ⟨w.heap.size + 1 + 1, 0, none⟩ v0).setCell ⟨w.heap.size + 1 + 1, 1, none⟩ v1).cell? ⟨(w.heap.size + 1), 1, none⟩ = some (y1) ∧ ((W.setCell ⟨w.heap.size + 1 + 1, 0, none⟩ v0).setCell ⟨w.heap.size + 1 + 1, 1, none⟩ v1).frozen? ⟨(w.heap.size + 1 + 1), 0, none⟩ = false ∧ ((W.setCell ⟨w.heap.size + 1 + 1, 0, none⟩ v0).setCell ⟨w.heap.size + 1 + 1, 1, none⟩ v1).frozen? ⟨(w.heap.size + 1 + 1), 1, none⟩ = false ∧ (((W.setCell ⟨w.heap.size + 1 + 1, 0, none⟩ v0).setCell ⟨w.heap.size + 1 + 1, 1, none⟩ v1).cell? ⟨(w.heap.size + 1 + 1), 0, none⟩).isSome = true ∧ (((W.setCell ⟨w.heap.size + 1 + 1, 0, none⟩ v0).setCell ⟨w.heap.size + 1 + 1, 1, none⟩ v1).cell? ⟨(w.heap.size + 1 + 1), 1, none⟩).isSome = true ∧ w.heap.size + 1 + 1 < ((W.setCell ⟨w.heap.size + 1 + 1, 0, none⟩ v0).setCell ⟨w.heap.size + 1 + 1, 1, none⟩ v1).heap.size ∧ Below w.heap.size w ((W.setCell ⟨w.heap.size + 1 + 1, 0, none⟩ v0).setCell ⟨w.heap.size + 1 + 1, 1, none⟩ v1) := by
  obtain ⟨h1, h2, h3, h4, f1, f2, i1, i2, hs, hB⟩ := h
  have ne : ∀ {b o o' : Nat} {u : World} {v : Value}, b ≠ w.heap.size + 1 + 1 → (u.setCell ⟨w.heap.size + 1 + 1, o, none⟩ v).cell? ⟨b, o', none⟩ = u.cell? ⟨b, o', none⟩ := fun hb => World.cell?_setCell_other _ _ _ _ (by intro h; simp at h <;> omega)
  obtain ⟨u0, e0⟩ := Option.isSome_iff_exists.1 i1
  obtain ⟨u1, e1⟩ := Option.isSome_iff_exists.1 i2
  refine ⟨by rw [ne (by omega), ne (by omega)]; exact h1, by rw [ne (by omega), ne (by omega)]; exact h2, by rw [ne (by omega), ne (by omega)]; exact h3, by rw [ne (by omega), ne (by omega)]; exact h4, by rw [World.frozen?_setCell, World.frozen?_setCell]; exact f1, by rw [World.frozen?_setCell, World.frozen?_setCell]; exact f2,
    ?_, ?_, by simpa using hs, (hB.setCell (by show w.heap.size ≤ w.heap.size + 1 + 1; omega) _).setCell (by show w.heap.size ≤ w.heap.size + 1 + 1; omega) _⟩
  · simp [go_sem, e0, e1]
  · simp [go_sem, e0, e1]
theorem near_begin {w : World} (x0 x1 y0 y1 : Value) (t : TypeId) : (((w.alloc (.cells #[x0, x1] t)).alloc (.cells #[y0, y1] t)).alloc (.cells #[.bool false, .slice none 0 0] t)).drew.cell? ⟨w.heap.size, 0, none⟩ = some (x0) ∧ (((w.alloc (.cells #[x0, x1] t)).alloc (.cells #[y0, y1] t)).alloc (.cells #[.bool false, .slice none 0 0] t)).drew.cell? ⟨w.heap.size, 1, none⟩ = some (x1) ∧ (((w.alloc (.cells #[x0, x1] t)).alloc (.cells #[y0, y1] t)).alloc (.cells #[.bool false, .slice none 0 0] t)).drew.cell? ⟨(w.heap.size + 1), 0, none⟩ = some (y0) ∧ (((w.alloc (.cells #[x0, x1] t)).alloc (.cells #[y0, y1] t)).alloc (.cells #[.bool false, .slice none 0 0] t)).drew.cell? ⟨(w.heap.size + 1), 1, none⟩ = some (y1) ∧ (((w.alloc (.cells #[x0, x1] t)).alloc (.cells #[y0, y1] t)).alloc (.cells #[.bool false, .slice none 0 0] t)).drew.frozen? ⟨(w.heap.size + 1 + 1), 0, none⟩ = false ∧ (((w.alloc (.cells #[x0, x1] t)).alloc (.cells #[y0, y1] t)).alloc (.cells #[.bool false, .slice none 0 0] t)).drew.frozen? ⟨(w.heap.size + 1 + 1), 1, none⟩ = false ∧ ((((w.alloc (.cells #[x0, x1] t)).alloc (.cells #[y0, y1] t)).alloc (.cells #[.bool false, .slice none 0 0] t)).drew.cell? ⟨(w.heap.size + 1 + 1), 0, none⟩).isSome = true ∧ ((((w.alloc (.cells #[x0, x1] t)).alloc (.cells #[y0, y1] t)).alloc (.cells #[.bool false, .slice none 0 0] t)).drew.cell? ⟨(w.heap.size + 1 + 1), 1, none⟩).isSome = true ∧ w.heap.size + 1 + 1 < (((w.alloc (.cells #[x0, x1] t)).alloc (.cells #[y0, y1] t)).alloc (.cells #[.bool false, .slice none 0 0] t)).drew.heap.size ∧ Below w.heap.size w (((w.alloc (.cells #[x0, x1] t)).alloc (.cells #[y0, y1] t)).alloc (.cells #[.bool false, .slice none 0 0] t)).drew := by
  refine ⟨?_, ?_, ?_, ?_, ?_, ?_, ?_, ?_, ?_, Below.drew ?_⟩
  · show (World.alloc _ _).cell? _ = _; simp [go_sem]
  · show (World.alloc _ _).cell? _ = _; simp [go_sem]
  · show (World.alloc _ _).cell? _ = _; simp [go_sem]
  · show (World.alloc _ _).cell? _ = _; simp [go_sem]
  · show (World.alloc _ _).frozen? _ = _; simp [go_sem]
  · show (World.alloc _ _).frozen? _ = _; simp [go_sem]
  · show ((World.alloc _ _).cell? _).isSome = _; simp [go_sem]
  · show ((World.alloc _ _).cell? _).isSome = _; simp [go_sem]
  · show _ < (World.alloc _ _).heap.size; simp
  · (repeat' (first | (with_reducible exact Below.refl _ _) | (with_reducible refine Below.drew ?_) | (with_reducible refine below_drewN ?_ _) | ((with_reducible refine Below.setCell ?_ ?side_ _); case side_ => (first | (with_reducible exact Nat.le_refl _) | (with_reducible assumption) | omega | (simp; done) | (simp; omega))) | ((with_reducible refine Below.alloc ?_ ?side_ _); case side_ => (first | (with_reducible exact Nat.le_refl _) | (with_reducible assumption) | omega | (simp; done) | (simp; omega)))))
theorem sg_bound {r s t : Bool} {n a b : Int} (h : sg r n = sg s a + sg t b) (hn : 0 ≤ n) (ha : 0 ≤ a) (hb : 0 ≤ b) : n ≤ a + b := by
  cases r <;> cases s <;> cases t <;> simp [sg] at h <;> omega

theorem near_lt {w W : World} {x0 x1 y0 y1 : Value} (h : W.cell? ⟨w.heap.size, 0, none⟩ = some (x0) ∧ W.cell? ⟨w.heap.size, 1, none⟩ = some (x1) ∧ W.cell? ⟨(w.heap.size + 1), 0, none⟩ = some (y0) ∧ W.cell? ⟨(w.heap.size + 1), 1, none⟩ = some (y1) ∧ W.frozen? ⟨(w.heap.size + 1 + 1), 0, none⟩ = false ∧ W.frozen? ⟨(w.heap.size + 1 + 1), 1, none⟩ = false ∧ (W.cell? ⟨(w.heap.size + 1 + 1), 0, none⟩).isSome = true ∧ (W.cell? ⟨(w.heap.size + 1 + 1), 1, none⟩).isSome = true ∧ w.heap.size + 1 + 1 < W.heap.size ∧ Below w.heap.size w W) : w.heap.size + 1 + 1 < W.heap.size := h.2.2.2.2.2.2.2.2.1
theorem sg_not (s : Bool) (a : Int) : sg (!s) a = -(sg s a) := by cases s <;> simp [sg]

set_option maxHeartbeats 16000000 in
theorem near_pos (s : Bool) (A B : Option Addr) (ps qs : List Int) (ca cb : Nat) (a c : Int) (w : World) (hA : IntRow w .i64 A ps) (hB : IntRow w .i64 B qs) (ha : Says ps a) (hb : Says qs c) (la : ps.length ≤ 10) (lb : qs.length ≤ 10) (hc : 0 < c) :
    Calls Try.prog 82 #[.agg #[.bool s, .slice A ps.length ca], .agg #[.bool false, .slice B qs.length cb]] w (Num0 w ((2 * sg s a + c) / (2 * c))) := by
  have ha0 := ha.nonneg
  have hb0 := hb.nonneg
  have hal := says_lt ha la
  have hbl := says_lt hb lb
  have hpw : pw 10 * 65536 = pw 11 := (pw_succ 10).symm
  go_enter Try.func82, Try.ntmps82
  go_wp2_with fail
  go_region_held3 (fun w' => w'.cell? ⟨w.heap.size, 0, none⟩ = some (.bool s) ∧ w'.cell? ⟨w.heap.size, 1, none⟩ = some (.slice A ps.length ca) ∧ w'.cell? ⟨(w.heap.size + 1), 0, none⟩ = some (.bool false) ∧ w'.cell? ⟨(w.heap.size + 1), 1, none⟩ = some (.slice B qs.length cb) ∧ w'.frozen? ⟨(w.heap.size + 1 + 1), 0, none⟩ = false ∧ w'.frozen? ⟨(w.heap.size + 1 + 1), 1, none⟩ = false ∧ (w'.cell? ⟨(w.heap.size + 1 + 1), 0, none⟩).isSome = true ∧ (w'.cell? ⟨(w.heap.size + 1 + 1), 1, none⟩).isSome = true ∧ w.heap.size + 1 + 1 < w'.heap.size ∧ Below w.heap.size w w') (first | exact near_begin _ _ _ _ _ | exact near_keep (by assumption) (by assumption) | exact near_store _ _ (by assumption))
    (first
      | (go_at_call 92; ((with_reducible refine (add_calls s s A A ps ps ca ca a a _ (by first | exact hA.below (near_bel (by assumption))) (by first | exact hA.below (near_bel (by assumption))) ha ha (by omega) (by omega)).mono ?_); rintro e wA ⟨rA, X1, x1d, x1c, n1, rfl, oA, eA⟩; have bA := oA.bel; have lA := oA.says.len (m := 11) (by have := sg_bound eA oA.says.nonneg ha0 ha0; omega); have nA := sg_bound eA oA.says.nonneg ha0 ha0))
      | (go_at_call 92; ((with_reducible refine (add_calls rA false X1 B x1d qs x1c cb n1 c _ (by first | exact oA.row | exact oA.row.below oC.bel) (by first | exact hB.below (near_bel (by assumption))) oA.says hb (by omega) (by omega)).mono ?_); rintro e wB ⟨rB, X2, x2d, x2c, n2, rfl, oB, eB⟩; have bB := oB.bel; have lB := oB.says.len (m := 11) (by have := sg_bound eB oB.says.nonneg oA.says.nonneg hb0; omega)))
      | (go_at_call 93; ((with_reducible refine (plus_calls B B qs qs cb cb c c _ (by first | exact hB.below (near_bel (by assumption))) (by first | exact hB.below (near_bel (by assumption))) hb hb (by omega) (by omega)).mono ?_); rintro e wC ⟨Y, yd, yc, rfl, oC⟩; have bC := oC.bel; have lC := oC.says.len (m := 11) (by omega)))
      | (go_at_call 91; ((with_reducible refine (floor_calls rB X2 Y x2d yd x2c yc n2 (c + c) _ (by first | exact oB.row | exact oB.row.below oC.bel) (by first | exact oC.row | exact oC.row.below oB.bel | exact (oC.row.below oA.bel).below oB.bel) oB.says oC.says (by omega) (by omega) (by omega)).mono ?_); rintro e wD ⟨rD, Z, zd, zc, n3, rfl, oD, eD⟩; have bD := oD.bel; obtain ⟨v0, v1, k0, k1, k2, k3⟩ := near_fill (by assumption) bD; have oX := (Out.store (w := w) oD (near_bel (by assumption)) (g := w.heap.size + 1 + 1) (by omega) (near_lt (by assumption)) (.bool rD) (.slice Z zd.length zc)))))
  all_goals
    go_wp2
    refine bodyPost_ret (v := .agg #[.bool rD, .slice Z zd.length zc]) (by simp [results, Try.results82, go_sem, k0, k1]) rfl ⟨rD, Z, zd, zc, n3, rfl, oX, ?_⟩
    rw [eD, eB, eA, sg_false]
    congr 1 <;> omega

set_option maxHeartbeats 16000000 in
theorem near_neg (s : Bool) (A B : Option Addr) (ps qs : List Int) (ca cb : Nat) (a c : Int) (w : World) (hA : IntRow w .i64 A ps) (hB : IntRow w .i64 B qs) (ha : Says ps a) (hb : Says qs c) (la : ps.length ≤ 10) (lb : qs.length ≤ 10) (hc : 0 < c) :
    Calls Try.prog 82 #[.agg #[.bool s, .slice A ps.length ca], .agg #[.bool true, .slice B qs.length cb]] w (Num0 w ((2 * -(sg s a) + c) / (2 * c))) := by
  have ha0 := ha.nonneg
  have hb0 := hb.nonneg
  have hal := says_lt ha la
  have hbl := says_lt hb lb
  have hpw : pw 10 * 65536 = pw 11 := (pw_succ 10).symm
  go_enter Try.func82, Try.ntmps82
  go_wp2_with fail
  go_region_held3 (fun w' => w'.cell? ⟨w.heap.size, 0, none⟩ = some (.bool (!s)) ∧ w'.cell? ⟨w.heap.size, 1, none⟩ = some (.slice A ps.length ca) ∧ w'.cell? ⟨(w.heap.size + 1), 0, none⟩ = some (.bool false) ∧ w'.cell? ⟨(w.heap.size + 1), 1, none⟩ = some (.slice B qs.length cb) ∧ w'.frozen? ⟨(w.heap.size + 1 + 1), 0, none⟩ = false ∧ w'.frozen? ⟨(w.heap.size + 1 + 1), 1, none⟩ = false ∧ (w'.cell? ⟨(w.heap.size + 1 + 1), 0, none⟩).isSome = true ∧ (w'.cell? ⟨(w.heap.size + 1 + 1), 1, none⟩).isSome = true ∧ w.heap.size + 1 + 1 < w'.heap.size ∧ Below w.heap.size w w') (first | exact near_begin _ _ _ _ _ | exact near_keep (by assumption) (by assumption) | exact near_store _ _ (by assumption))
    (first
      | (go_at_call 92; ((with_reducible refine (add_calls (!s) (!s) A A ps ps ca ca a a _ (by first | exact hA.below (near_bel (by assumption))) (by first | exact hA.below (near_bel (by assumption))) ha ha (by omega) (by omega)).mono ?_); rintro e wA ⟨rA, X1, x1d, x1c, n1, rfl, oA, eA⟩; have bA := oA.bel; have lA := oA.says.len (m := 11) (by have := sg_bound eA oA.says.nonneg ha0 ha0; omega); have nA := sg_bound eA oA.says.nonneg ha0 ha0))
      | (go_at_call 92; ((with_reducible refine (add_calls rA false X1 B x1d qs x1c cb n1 c _ (by first | exact oA.row | exact oA.row.below oC.bel) (by first | exact hB.below (near_bel (by assumption))) oA.says hb (by omega) (by omega)).mono ?_); rintro e wB ⟨rB, X2, x2d, x2c, n2, rfl, oB, eB⟩; have bB := oB.bel; have lB := oB.says.len (m := 11) (by have := sg_bound eB oB.says.nonneg oA.says.nonneg hb0; omega)))
      | (go_at_call 93; ((with_reducible refine (plus_calls B B qs qs cb cb c c _ (by first | exact hB.below (near_bel (by assumption))) (by first | exact hB.below (near_bel (by assumption))) hb hb (by omega) (by omega)).mono ?_); rintro e wC ⟨Y, yd, yc, rfl, oC⟩; have bC := oC.bel; have lC := oC.says.len (m := 11) (by omega)))
      | (go_at_call 91; ((with_reducible refine (floor_calls rB X2 Y x2d yd x2c yc n2 (c + c) _ (by first | exact oB.row | exact oB.row.below oC.bel) (by first | exact oC.row | exact oC.row.below oB.bel | exact (oC.row.below oA.bel).below oB.bel) oB.says oC.says (by omega) (by omega) (by omega)).mono ?_); rintro e wD ⟨rD, Z, zd, zc, n3, rfl, oD, eD⟩; have bD := oD.bel; obtain ⟨v0, v1, k0, k1, k2, k3⟩ := near_fill (by assumption) bD; have oX := (Out.store (w := w) oD (near_bel (by assumption)) (g := w.heap.size + 1 + 1) (by omega) (near_lt (by assumption)) (.bool rD) (.slice Z zd.length zc)))))
  all_goals
    go_wp2
    refine bodyPost_ret (v := .agg #[.bool rD, .slice Z zd.length zc]) (by simp [results, Try.results82, go_sem, k0, k1]) rfl ⟨rD, Z, zd, zc, n3, rfl, oX, ?_⟩
    rw [eD, eB, eA, sg_false, sg_not]
    congr 1 <;> omega
end Go.Proofs.Ytejcjonlnijbkaa.Ref

/- Package ref01, walked: Power, MulDiv, Dot: each answers the nearest whole number, if it fits. For all arguments. -/
namespace Go.Proofs.Ytejcjonlnijbkaa.Ref
open Go Go.RowKit Open
set_option maxRecDepth 100000
set_option linter.unusedVariables false
set_option linter.unusedSimpArgs false

/-- The nearest whole number to z / c, c not 0; of two the greater one. -/
def nr (z c : Int) : Int := if c < 0 then (2 * -z + -c) / (2 * -c) else (2 * z + c) / (2 * c)
def mdV (a b c : Int) : Int := if c = 0 then 0 else fitV (nr (a * b) c)
def mdB (a b c : Int) : Bool := if c = 0 then false else fitB (nr (a * b) c)

theorem pw4_val : pw 4 = 18446744073709551616 := by decide
theorem pw8_val : pw 8 = 340282366920938463463374607431768211456 := by decide
theorem siz_bound {a : Int} (a0 : -9223372036854775808 ≤ a) (a1 : a ≤ 9223372036854775807) : 0 ≤ siz a ∧ siz a ≤ 9223372036854775808 := by unfold siz; split <;> omega
theorem sg_mul (s t : Bool) (a b : Int) : sg (s != t) (a * b) = sg s a * sg t b := by
  cases s <;> cases t <;> simp [sg, Int.neg_mul, Int.mul_neg]
theorem near_calls (s t : Bool) (A B : Option Addr) (ps qs : List Int) (ca cb : Nat) (a c : Int) (w : World) (hA : IntRow w .i64 A ps) (hB : IntRow w .i64 B qs) (ha : Says ps a) (hb : Says qs c) (la : ps.length ≤ 10) (lb : qs.length ≤ 10) (hc : 0 < c) :
    Calls Try.prog 82 #[.agg #[.bool s, .slice A ps.length ca], .agg #[.bool t, .slice B qs.length cb]] w (Num0 w (nr (sg s a) (sg t c))) := by
  cases t
  · have e : nr (sg s a) (sg false c) = (2 * sg s a + c) / (2 * c) := by unfold nr; rw [sg_false, if_neg (by omega)]
    rw [e]; exact near_pos s A B ps qs ca cb a c w hA hB ha hb la lb hc
  · have e : nr (sg s a) (sg true c) = (2 * -(sg s a) + c) / (2 * c) := by unfold nr; rw [sg_true, if_pos (by omega), Int.neg_neg]
    rw [e]; exact near_neg s A B ps qs ca cb a c w hA hB ha hb la lb hc
theorem Out.len {w w' : World} {C : Option Addr} {cs : List Int} {n : Int} (h : Out w w' C cs n) {m : Nat} (hn : n < pw m) : cs.length ≤ m := h.says.len hn
theorem siz_mul_lt {a b : Int} (h1 : 0 ≤ a ∧ a ≤ 9223372036854775808) (h2 : 0 ≤ b ∧ b ≤ 9223372036854775808) : 0 ≤ a * b ∧ a * b ≤ 85070591730234615865843651857942052864 :=
  ⟨Int.mul_nonneg h1.1 h2.1, Int.mul_le_mul h1.2 h2.2 h2.1 (by omega)⟩

/-- The nearest whole number is no farther from 0 than the number itself. -/
theorem nr_bound {z c M : Int} (hc : c ≠ 0) (h : -M ≤ z ∧ z ≤ M) : -M ≤ nr z c ∧ nr z c ≤ M := by
  have key : ∀ {z c : Int}, 0 < c → -M ≤ z → z ≤ M → -M ≤ (2 * z + c) / (2 * c) ∧ (2 * z + c) / (2 * c) ≤ M := by
    intro z c hc h1 h2
    have hM : 0 ≤ M := by omega
    constructor
    · apply Int.le_ediv_of_mul_le (by omega)
      have : M * 1 ≤ M * c := Int.mul_le_mul_of_nonneg_left hc hM
      have e : -M * (2 * c) = -(2 * (M * c)) := by rw [Int.neg_mul, Int.mul_left_comm]
      rw [e]; omega
    · have : (2 * z + c) / (2 * c) < M + 1 := by
        apply Int.ediv_lt_of_lt_mul (by omega)
        have : M * 1 ≤ M * c := Int.mul_le_mul_of_nonneg_left hc hM
        have e : (M + 1) * (2 * c) = 2 * (M * c) + 2 * c := by rw [Int.add_mul, Int.mul_left_comm, Int.one_mul]
        rw [e]; omega
      omega
  unfold nr
  split
  · exact key (by omega) (by omega) (by omega)
  · exact key (by omega) h.1 h.2
theorem sg_len {w w' : World} {r : Bool} {C : Option Addr} {cs : List Int} {n z M : Int} (h : Out w w' C cs n) (e : sg r n = z) (hz : -M ≤ z ∧ z ≤ M) {m : Nat} (hM : M < pw m) : cs.length ≤ m :=
  h.len (by have := h.says.nonneg; cases r <;> simp [sg] at e <;> omega)

theorem of_num (a : Int) (a0 : -9223372036854775808 ≤ a) (a1 : a ≤ 9223372036854775807) (w : World) : Calls Try.prog 84 #[.int .i64 a] w (Num0 w a) :=
  (of_calls a a0 a1 w).mono fun e w' ⟨C, cs, cc, h1, h2⟩ => ⟨_, C, cs, cc, _, h1, h2, sg_siz a⟩
theorem mul_num {s t : Bool} {A B : Option Addr} {ps qs : List Int} {ca cb : Nat} {a b x y : Int} {w : World} (hA : IntRow w .i64 A ps) (hB : IntRow w .i64 B qs) (ha : Says ps a) (hb : Says qs b) (la : ps.length ≤ 20) (lb : qs.length ≤ 20) (ex : sg s a = x) (ey : sg t b = y) :
    Calls Try.prog 83 #[.agg #[.bool s, .slice A ps.length ca], .agg #[.bool t, .slice B qs.length cb]] w (Num0 w (x * y)) :=
  (mul_calls s t A B ps qs ca cb a b w hA hB ha hb la lb).mono fun e w' ⟨C, cs, cc, h1, h2⟩ => ⟨_, C, cs, cc, _, h1, h2, by rw [sg_mul, ex, ey]⟩
theorem near_num {s t : Bool} {A B : Option Addr} {ps qs : List Int} {ca cb : Nat} {a b x y : Int} {w : World} (hA : IntRow w .i64 A ps) (hB : IntRow w .i64 B qs) (ha : Says ps a) (hb : Says qs b) (la : ps.length ≤ 10) (lb : qs.length ≤ 10) (ex : sg s a = x) (ey : sg t b = y) (hy : y ≠ 0) :
    Calls Try.prog 82 #[.agg #[.bool s, .slice A ps.length ca], .agg #[.bool t, .slice B qs.length cb]] w (Num0 w (nr x y)) := by
  have hb0 := hb.nonneg
  have hc : 0 < b := by cases t <;> simp [sg] at ey <;> omega
  have := near_calls s t A B ps qs ca cb a b w hA hB ha hb la lb hc
  rwa [ex, ey] at this
theorem plain_num {s : Bool} {A : Option Addr} {ps : List Int} {ca : Nat} {n z : Int} {w : World} (hA : IntRow w .i64 A ps) (ha : Says ps n) (la : ps.length ≤ 1000) (ez : sg s n = z) :
    Calls Try.prog 81 #[.agg #[.bool s, .slice A ps.length ca]] w fun e w' => e = .returned (.tuple #[.int .i64 (fitV z), .bool (fitB z)]) ∧ Below w.heap.size w w' := by
  rw [← ez]; exact plain_calls s A ps ca n w hA ha la

theorem mul_i64 {a b : Int} (a0 : -9223372036854775808 ≤ a) (a1 : a ≤ 9223372036854775807) (b0 : -9223372036854775808 ≤ b) (b1 : b ≤ 9223372036854775807) :
    -85070591730234615865843651857942052864 ≤ a * b ∧ a * b ≤ 85070591730234615865843651857942052864 := by
  have hab := siz_mul_lt (siz_bound a0 a1) (siz_bound b0 b1)
  have eab : sg (decide (a < 0) != decide (b < 0)) (siz a * siz b) = a * b := by rw [sg_mul, sg_siz, sg_siz]
  rw [← eab]; unfold sg; split <;> omega

set_option maxHeartbeats 8000000 in
theorem muldiv_calls (a b c : Int) (a0 : -9223372036854775808 ≤ a) (a1 : a ≤ 9223372036854775807) (b0 : -9223372036854775808 ≤ b) (b1 : b ≤ 9223372036854775807) (c0 : -9223372036854775808 ≤ c) (c1 : c ≤ 9223372036854775807) (w : World) :
    Calls Try.prog 71 #[.int .i64 a, .int .i64 b, .int .i64 c] w fun e w' => e = .returned (.tuple #[.int .i64 (mdV a b c), .bool (mdB a b c)]) ∧ Below w.heap.size w w' := by
  by_cases hc : c = 0
  · subst hc
    have h : ((0 : Int) == 0) = true := by decide
    go_enter Try.func71, Try.ntmps71
    go_wp2
    go_ret2
    exact ⟨rfl, Below.refl _ _⟩
  · have eV : mdV a b c = fitV (nr (a * b) c) := if_neg hc
    have eB : mdB a b c = fitB (nr (a * b) c) := if_neg hc
    rw [eV, eB]
    have hz := mul_i64 a0 a1 b0 b1
    have hnb := nr_bound hc hz
    have p4 := pw4_val
    have p8 := pw8_val
    have OA := Lib.hid (of_num a a0 a1)
    have OB := Lib.hid (of_num b b0 b1)
    have OC := Lib.hid (of_num c c0 c1)
    clear eV eB
    go_enter Try.func71, Try.ntmps71
    go_wp2_with (first
      | (go_at_call 84; ((with_reducible refine (OA.out _).mono ?_); rintro e w1 ⟨r1, C1, d1, x1, n1, rfl, o1, e1⟩; clear OA; have l1 := sg_len (M := 9223372036854775808) (m := 4) o1 e1 (by omega) (by omega)))
      | (go_at_call 84; ((with_reducible refine (OB.out _).mono ?_); rintro e w2 ⟨r2, C2, d2, x2, n2, rfl, o2, e2⟩; clear OB; have l2 := sg_len (M := 9223372036854775808) (m := 4) o2 e2 (by omega) (by omega); have y1 := o1.row.below o2.bel))
      | (go_at_call 83; ((with_reducible refine (mul_num y1 o2.row o1.says o2.says (by omega) (by omega) e1 e2).mono ?_); rintro e w3 ⟨r3, C3, d3, x3, n3, rfl, o3, e3⟩; have l3 := sg_len (M := 85070591730234615865843651857942052864) (m := 8) o3 e3 hz (by omega)))
      | (go_at_call 84; ((with_reducible refine (OC.out _).mono ?_); rintro e w4 ⟨r4, C4, d4, x4, n4, rfl, o4, e4⟩; clear OC; have l4 := sg_len (M := 9223372036854775808) (m := 4) o4 e4 (by omega) (by omega); have y3 := o3.row.below o4.bel))
      | (go_at_call 82; ((with_reducible refine (near_num y3 o4.row o3.says o4.says (by omega) (by omega) e3 e4 hc).mono ?_); rintro e w5 ⟨r5, C5, d5, x5, n5, rfl, o5, e5⟩; have l5 := sg_len (M := 85070591730234615865843651857942052864) (m := 8) o5 e5 hnb (by omega)))
      | (go_at_call 81; ((with_reducible refine (plain_num o5.row o5.says (by omega) e5).mono ?_); rintro e w6 ⟨rfl, b6⟩)))
    go_ret2
    exact ⟨rfl, below_more o1.bel (below_more o2.bel (below_more o3.bel (below_more o4.bel (below_more o5.bel b6))))⟩
end Go.Proofs.Ytejcjonlnijbkaa.Ref
