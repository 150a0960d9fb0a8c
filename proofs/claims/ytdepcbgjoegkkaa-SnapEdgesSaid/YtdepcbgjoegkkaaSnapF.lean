/- The statement SnapEdges, walked. -/
import Derived.Test.YtdepcbgjoegkkaaSnapD
namespace Go.Proofs.Ytdepcbgjoegkkaa.SnapE
open Go Go.RowKit Go.Shelf Range Go.Proofs.Ytdepcbgjoegkkaa.PSE Go.Proofs.YtdepcbgjoegkkaaW.PrintWords Go.Proofs.YtdepcbgjoegkkaaW.PrintLast Go.Proofs.Ytdepcbgjoegkkaa.Num
set_option maxRecDepth 100000
set_option linter.unusedVariables false
set_option linter.unusedSimpArgs false
attribute [local go_sem] Oper.semAt_some

theorem drewN_below (w : World) (n : Nat) : Below w.heap.size w (w.drewN n) := ⟨rfl, rfl, rfl, Nat.le_refl _, fun _ _ => rfl⟩

set_option maxHeartbeats 16000000 in
theorem snapedges_few (A : Option Addr) (es : List S30) (cap : Nat) (m : Nat) (hm : m ≤ 255) (hc : es.length ≤ cap) (hcap : cap ≤ maxLen) (w : World) (hE : ER w.heap.size w A es) (hno : ¬ (es.length ≤ 100 ∧ ∀ e ∈ es, In e)) :
    Calls Try.prog 6 #[.slice A es.length cap, .int .u8 (m : Int)] w fun e w' => e = .returned (.bool true) ∧ Below w.heap.size w w' := by
  have WK := Lib.hid (fun w => pointillistlaw14_wakes.calls true w wakes)
  by_cases hl : es.length ≤ 100
  · obtain ⟨t, ht, hin⟩ := small_f es (by omega)
    have SM := Lib.hid (fun w h => pointillistref14_Small.calls _ A cap es 4611686018427387904 t w h hc ht)
    cases t with
    | true => exact (hno ⟨hl, hin rfl⟩).elim
    | false =>
      have hE1 := hE.below ((Below.refl _ _).alloc (Nat.le_refl _) (.cells #[.int .u8 (m : Int)] 5))
      have hE2 := hE1.below ((Below.refl _ _).alloc (by simp) (.cells #[.bool false] 4))
      have hR := Lib.hid (hE2.reads (by omega))
      clear hno hin ht hE hE1 hE2
      go_enter Try.func6, Try.ntmps6
      go_wp2_with (first
        | (go_at_call 7; ((with_reducible refine (WK.out _).mono ?_); rintro e w1 ⟨rfl, ⟨nd, rfl⟩⟩))
        | (go_at_call 11; ((with_reducible refine (SM.out _ (Kd.C_below hR.out (drewN_below _ _))).mono ?_); rintro e w2 ⟨rfl, hb2⟩; have q0 := (hb2.cell (p := ⟨w.heap.size + 1, 0, none⟩) (by simp)).trans (show _ = some (Value.bool false) by simp [go_sem]); have q1 := (hb2.frozen (p := ⟨w.heap.size + 1, 0, none⟩) (by simp)).trans (show _ = false by simp [go_sem]); have hB2 : Below w.heap.size w w2 := (((Below.refl w.heap.size w).alloc (Nat.le_refl _) _).alloc (by simp) _).trans ((drewN_below _ nd).mono (by simp; omega) |>.trans (hb2.mono (by simp; omega))))))
      refine bodyPost_ret (v := .bool true) (by simp [results, Try.results6, go_sem, q0]) rfl ⟨rfl, hB2.setCell (by simp) _⟩
  · have hl2 : 100 < es.length := by omega
    clear hno
    go_enter Try.func6, Try.ntmps6
    go_wp2_with (go_at_call 7; ((with_reducible refine (WK.out _).mono ?_); rintro e w1 ⟨rfl, ⟨nd, rfl⟩⟩))
    refine bodyPost_ret (v := .bool true) (by simp [results, Try.results6, go_sem]) rfl ⟨rfl, Below.setCell (((Below.refl w.heap.size w).alloc (Nat.le_refl _) _).alloc (by simp) _ |>.trans ((drewN_below _ nd).mono (by simp; omega))) (by simp) _⟩
end Go.Proofs.Ytdepcbgjoegkkaa.SnapE
