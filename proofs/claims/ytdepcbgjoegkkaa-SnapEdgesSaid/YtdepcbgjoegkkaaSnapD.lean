/- Package snap's Edges, walked, and what its row is to a reader. -/
import Derived.Test.YtdepcbgjoegkkaaSnapC
namespace Go.Proofs.Ytdepcbgjoegkkaa.SnapE
open Go Go.RowKit Go.Proofs.Ytdepcbgjoegkkaa.PSE Go.Proofs.YtdepcbgjoegkkaaW.PrintWords Go.Proofs.YtdepcbgjoegkkaaW.PrintLast Go.Proofs.Ytdepcbgjoegkkaa.Num
set_option maxRecDepth 100000
set_option linter.unusedVariables false
set_option linter.unusedSimpArgs false

set_option maxHeartbeats 4000000 in
theorem collect_calls (Bn : Nat) (A : Option Addr) (es : List S30) (cap : Nat) (hIn : ∀ e ∈ es, In e) (hl : es.length ≤ 1000000) (w : World) (hb : Bn < w.heap.size) (hc : w.cell? ⟨Bn, 0, none⟩ = some (.slice A es.length cap)) (hE : ER w.heap.size w A es) :
    Calls Try.prog 19 #[.func (.func 18) #[] #[.pointer (some ⟨Bn, 0, none⟩)]] w fun e w' => ∃ v, e = .returned v ∧ Row.OwnR 30 4 w.heap.size w w' v (outs es).length (cellsE (outs es)) := by
  have AS := Lib.hid (appendseq_calls Bn A es cap hIn hl w hb hc hE)
  go_enter Try.func19, Try.ntmps19
  go_wp2_with (go_at_call 20; ((with_reducible refine AS.out.mono ?_); rintro e w1 ⟨v, rfl, hO⟩; obtain ⟨A1, cap1, rfl, _, _, _, _⟩ := hO.read))
  go_ret
  exact ⟨_, rfl, hO⟩

set_option maxHeartbeats 4000000 in
theorem edges_calls (A : Option Addr) (es : List S30) (cap : Nat) (hIn : ∀ e ∈ es, In e) (hl : es.length ≤ 1000000) (w : World) (hE : ER w.heap.size w A es) :
    Calls Try.prog 17 #[.slice A es.length cap] w fun e w' => ∃ v, e = .returned v ∧ Row.OwnR 30 4 (w.heap.size + 1) w w' v (outs es).length (cellsE (outs es)) := by
  have AL := Lib.hid (all_calls A es.length cap w)
  have CO := Lib.hid (collect_calls w.heap.size A es cap hIn hl (w.alloc (.cells #[.slice A es.length cap] 32)) (by simp) (by simp) (fun i hi => by
    obtain ⟨b, off, e, hb, c⟩ := (hE.below ((Below.refl _ _).alloc (Nat.le_refl _) _)) i hi
    exact ⟨b, off, e, by simp; omega, c⟩))
  go_enter Try.func17, Try.ntmps17
  go_wp2_with (first
    | (go_at_call 15; ((with_reducible refine AL.out.mono ?_); rintro e w1 ⟨rfl, rfl⟩))
    | (go_at_call 19; ((with_reducible refine CO.out.mono ?_); rintro e w2 ⟨v, rfl, hO⟩; obtain ⟨A1, cap1, rfl, _, _, _, _⟩ := hO.read)))
  go_ret
  refine ⟨_, rfl, ?_⟩
  rw [World.size_alloc] at hO
  exact ⟨hO.row, ((Below.refl w.heap.size w).alloc (Nat.le_refl _) _).trans (hO.bel.mono (by simp)), by omega, hO.hi⟩

theorem cellsE_len (xs : List S30) : (cellsE xs).length = 4 * xs.length := by
  induction xs with
  | nil => rfl
  | cons x xs ih => show (cE x ++ cellsE xs).length = _; rw [List.length_append, ih]; simp [cE]; omega
theorem cellsE_get : ∀ (xs : List S30) (i j : Nat) (h : i < xs.length), j < 4 → (cellsE xs)[i * 4 + j]? = (cE xs[i])[j]?
  | x :: xs, 0, j, _, hj => by
    show (cE x ++ cellsE xs)[0 * 4 + j]? = _
    rw [List.getElem?_append_left (by simp [cE]; omega)]
    simp
  | x :: xs, i + 1, j, h, hj => by
    show (cE x ++ cellsE xs)[(i + 1) * 4 + j]? = _
    rw [List.getElem?_append_right (by simp [cE]; omega)]
    have := cellsE_get xs i j (by simpa using h) hj
    rw [show (i + 1) * 4 + j - (cE x).length = i * 4 + j by simp [cE]; omega, this]
    simp
theorem ER.of_own {B : Nat} {w0 w : World} {v : Value} {xs : List S30} (h : Row.OwnR 30 4 B w0 w v xs.length (cellsE xs)) : ∃ A cap, v = .slice A xs.length cap ∧ xs.length ≤ cap ∧ cap ≤ maxLen ∧ ER w.heap.size w A xs := by
  obtain ⟨A, cap, rfl, h1, h2, h3, _⟩ := h.read
  refine ⟨A, cap, rfl, h1, h2, fun i hi => ?_⟩
  have g := fun j (hj : j < 4) => cellsE_get xs i j hi hj
  obtain ⟨b, rfl, _, hb, c0⟩ := h3 i 0 hi (by omega)
  obtain ⟨_, e1, _, _, c1⟩ := h3 i 1 hi (by omega); cases e1
  obtain ⟨_, e2, _, _, c2⟩ := h3 i 2 hi (by omega); cases e2
  obtain ⟨_, e3, _, _, c3⟩ := h3 i 3 hi (by omega); cases e3
  refine ⟨b, 0, rfl, hb, ?_, ?_, ?_, ?_⟩
  · have := c0.trans (g 0 (by omega)); simpa [cE] using this
  · have := c1.trans (g 1 (by omega)); simpa [cE] using this
  · have := c2.trans (g 2 (by omega)); simpa [cE] using this
  · have := c3.trans (g 3 (by omega)); simpa [cE] using this
/-- .. and from the other side. -/
theorem ER.of_reads {w : World} {A : Option Addr} {es : List S30} (h : Kd.C k30 w A es.length es) (B : Nat) (hB : ∀ ad, A = some ad → 0 < es.length → ad.block < B ∧ ∃ b off, ad = ⟨b, off, none⟩) : ER B w A es := fun i hi => by
  obtain ⟨ad, rfl, c0, c1, c2, c3⟩ := at_T30 h (i : Int) (by omega) (by omega)
  obtain ⟨hb, b, off, rfl⟩ := hB ad rfl (by omega)
  rw [rd_at hi, addr_add'] at c0 c1 c2 c3
  exact ⟨b, off, rfl, hb, by simpa using c0, by simpa using c1, by simpa using c2, by simpa using c3⟩
end Go.Proofs.Ytdepcbgjoegkkaa.SnapE
