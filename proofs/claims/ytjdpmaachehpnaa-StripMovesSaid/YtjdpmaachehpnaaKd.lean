/- Rows that a loop over an iterator has put together, as the printed texts want them. Over any program. -/
import Derived.Test.YtjdpmaachehpnaaSr
import Derived.Test.YtjdpmaachehpnaaWWords
namespace Go.Proofs.Ytjdpmaachehpnaa.KdX
open Go Go.RowKit Go.Proofs.YtjdpmaachehpnaaW.PrintWords
set_option linter.unusedVariables false

/-- The frame, named. -/
theorem with_frame {F : Fence} {n : Nat} {P : Program} {c : Code} {Q : Exit → Act → World → Prop} {T : Array Value} {d : List Deferred} {w : World} (h : ∀ T', T' = T → c.wpIn F n P Q { tmps := T', defers := d } w) : c.wpIn F n P Q { tmps := T, defers := d } w := h T rfl
theorem flat_len {α : Type} {enc : α → List Value} {n : Nat} (h : ∀ x, (enc x).length = n) : ∀ xs : List α, (xs.flatMap enc).length = xs.length * n
  | [] => by simp
  | x :: xs => by rw [List.flatMap_cons, List.length_append, h, flat_len h xs, List.length_cons, Nat.succ_mul, Nat.add_comm]
theorem reps_flat {α : Type} {R : α → List Value → Prop} {enc : α → List Value} {n : Nat} (h : ∀ x, (enc x).length = n) (hR : ∀ x, R x (enc x)) : ∀ (xs : List α), Reps R n xs (xs.flatMap enc)
  | [] => Reps.none _ _
  | x :: xs => Kd.reps_append (ps := [x]) (cs := enc x) (Reps.snoc (Reps.none _ _) (hR x) (h x)) (reps_flat h hR xs)
theorem of_own {α : Type} {d : Kd α} {enc : α → List Value} (hM : ∀ w base ok x, d.M w base ok x (enc x)) (hl : ∀ x, (enc x).length = d.sz) {E m B n : Nat} {w0 w : World} {v : Value} {xs : List α} (h : Row.OwnR E m B w0 w v n (xs.flatMap enc)) (hm : m = d.sz) (hn : n = xs.length) :
    d.R E w B (fun _ => True) v xs := by
  subst hm hn
  exact ⟨fun _ _ => trivial, _, h.row, reps_flat hl (fun x => hM _ _ _ x) xs⟩
theorem flat_snoc {α : Type} {enc : α → List Value} {xs : List α} {k : Nat} {x : α} (h : xs[k]? = some x) : (xs.take (k + 1)).flatMap enc = (xs.take k).flatMap enc ++ enc x := by
  obtain ⟨hk, rfl⟩ := List.getElem?_eq_some_iff.1 h
  rw [List.take_succ_eq_append_getElem hk, List.flatMap_append]; simp
end Go.Proofs.Ytjdpmaachehpnaa.KdX
