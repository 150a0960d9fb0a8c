/- Package blend's Row, walked: many pixels come to what each one comes to. For all operators, colours, and rows of any length that a call may have. -/
import Derived.Test.YtpmfcedhmfgkiaaDoorBlendD
import Derived.Test.YtpmfcedhmfgkiaaDoorRow
import Derived.LoopTactic
namespace Go.Proofs.YtpmfcedhmfgkiaaDoor.Ops
open Go Go.RowKit
set_option maxRecDepth 100000
set_option linter.unusedVariables false
set_option linter.unusedSimpArgs false
attribute [local go_sem high] eqColour

def q4 (ds : List (List Int)) (i j : Nat) : Int := (ds.getD i []).getD j 0
/-- The pixel at a place: its numbers. -/
def pixR (o s0 s1 s2 s3 : Int) (cs : List Int) (ds : List (List Int)) (i : Nat) : List Value :=
  [.int .u8 (pixV (okV o s0 s1 s2 s3 (q4 ds i 0) (q4 ds i 1) (q4 ds i 2) (q4 ds i 3)) o (cs.getD i 0) s0 (q4 ds i 0) s3 (q4 ds i 3)),
   .int .u8 (pixV (okV o s0 s1 s2 s3 (q4 ds i 0) (q4 ds i 1) (q4 ds i 2) (q4 ds i 3)) o (cs.getD i 0) s1 (q4 ds i 1) s3 (q4 ds i 3)),
   .int .u8 (pixV (okV o s0 s1 s2 s3 (q4 ds i 0) (q4 ds i 1) (q4 ds i 2) (q4 ds i 3)) o (cs.getD i 0) s2 (q4 ds i 2) s3 (q4 ds i 3)),
   .int .u8 (pixV (okV o s0 s1 s2 s3 (q4 ds i 0) (q4 ds i 1) (q4 ds i 2) (q4 ds i 3)) o (cs.getD i 0) s3 (q4 ds i 3) s3 (q4 ds i 3))]
def outsR (o s0 s1 s2 s3 : Int) (cs : List Int) (ds : List (List Int)) (n : Nat) : List Value := (List.range n).flatMap (pixR o s0 s1 s2 s3 cs ds)
theorem outsR_succ (o s0 s1 s2 s3 : Int) (cs : List Int) (ds : List (List Int)) (n : Nat) : outsR o s0 s1 s2 s3 cs ds (n + 1) = outsR o s0 s1 s2 s3 cs ds n ++ pixR o s0 s1 s2 s3 cs ds n := by
  unfold outsR; rw [List.range_succ, List.flatMap_append]; simp

/-- The rows of colours: at a place, its four cells, and that they are bytes. -/
theorem rows4 {w : World} {A : Option Addr} {ds : List (List Int)} (h : Row.Rows w [.u8, .u8, .u8, .u8] A ds) {i : Nat} (hi : i < ds.length) : ∃ b off, A = some ⟨b, off, none⟩ ∧ b < w.heap.size ∧
    w.cell? ⟨b, off + i * 4, none⟩ = some (.int .u8 (q4 ds i 0)) ∧ w.cell? ⟨b, off + i * 4 + 1, none⟩ = some (.int .u8 (q4 ds i 1)) ∧ w.cell? ⟨b, off + i * 4 + 2, none⟩ = some (.int .u8 (q4 ds i 2)) ∧ w.cell? ⟨b, off + i * 4 + 3, none⟩ = some (.int .u8 (q4 ds i 3)) ∧
    Col (q4 ds i 0) (q4 ds i 1) (q4 ds i 2) (q4 ds i 3) := by
  obtain ⟨b, off, rfl, hb, h0⟩ := h.cell i 0 hi (by decide)
  obtain ⟨_, _, e1, _, h1⟩ := h.cell i 1 hi (by decide); cases e1
  obtain ⟨_, _, e2, _, h2⟩ := h.cell i 2 hi (by decide); cases e2
  obtain ⟨_, _, e3, _, h3⟩ := h.cell i 3 hi (by decide); cases e3
  have f0 := Num.wf_u8 (h.wf i 0 hi (by decide))
  have f1 := Num.wf_u8 (h.wf i 1 hi (by decide))
  have f2 := Num.wf_u8 (h.wf i 2 hi (by decide))
  have f3 := Num.wf_u8 (h.wf i 3 hi (by decide))
  exact ⟨b, off, rfl, hb, h0, h1, h2, h3, ⟨f0.1, f0.2, f1.1, f1.2, f2.1, f2.2, f3.1, f3.2⟩⟩

theorem info_colour : (Tryd.prog.info? 31).map (fun i => (i.zero, i.size, i.bytes)) = some (some (.agg #[.int .u8 0, .int .u8 0, .int .u8 0, .int .u8 0]), 4, 4) := by kernel_rfl
theorem new4 (w : World) (a b c d : Value) (t : TypeId) : ∀ j u, [a, b, c, d][j]? = some u → (w.alloc (.cells #[a, b, c, d] t)).cell? ⟨w.heap.size, j, none⟩ = some u := by
  intro j u hj
  match j, hj with
  | 0, hj => simp at hj ⊢; exact hj
  | 1, hj => simp at hj ⊢; exact hj
  | 2, hj => simp at hj ⊢; exact hj
  | 3, hj => simp at hj ⊢; exact hj
theorem one4 (a b c d : Int) : ∀ u ∈ ([.int .u8 a, .int .u8 b, .int .u8 c, .int .u8 d] : List Value), u.oneCell' = true := by
  intro u hu; simp at hu; rcases hu with rfl | rfl | rfl | rfl <;> rfl

set_option maxHeartbeats 8000000 in
theorem row_calls (o s0 s1 s2 s3 : Int) (o0 : -9223372036854775808 ≤ o) (o1 : o ≤ 9223372036854775807) (S : Col s0 s1 s2 s3) (AC AD : Option Addr) (cs : List Int) (ds : List (List Int)) (cc cd : Nat) (nc : cs.length ≤ 1000000) (nd : ds.length ≤ 1000000) (w : World)
    (hC : Open.IntRow w .u8 AC cs) (hD : Row.Rows w [.u8, .u8, .u8, .u8] AD ds) (hK : Kinds w) :
    Calls Tryd.prog 29 #[.int .i64 o, .agg #[.int .u8 s0, .int .u8 s1, .int .u8 s2, .int .u8 s3], .slice AC cs.length cc, .slice AD ds.length cd] w fun e w' => ∃ v, e = .returned v ∧
      Row.OwnR 31 4 (w.heap.size + 1) w w' v ds.length (outsR o s0 s1 s2 s3 cs ds ds.length) := by
  have PX := Lib.hid (fun (c d0 d1 d2 d3 : Int) (c0 : 0 ≤ c) (c1 : c ≤ 255) (D : Col d0 d1 d2 d3) (w1 : World) (hb : Below w.heap.size w w1) => pixel_calls o c s0 s1 s2 s3 d0 d1 d2 d3 o0 o1 c0 c1 S D w1 (hK.below hb))
  obtain ⟨n, hn⟩ : ∃ n, ds.length = n := ⟨_, rfl⟩
  rw [hn] at nd ⊢
  have HN := Lib.hid hn
  clear hn
  go_enter Tryd.func29, Tryd.ntmps29
  go_wp2
  go_loopw [9, 15] (fun v i wr => ∃ k : Nat, k ≤ n ∧ i = .int .i64 k ∧ Row.OwnR 31 4 (w.heap.size + 1) w wr v k (outsR o s0 s1 s2 s3 cs ds k) ∧
    wr.cell? ⟨w.heap.size, 0, none⟩ = some (.int .u8 s0) ∧ wr.cell? ⟨w.heap.size, 1, none⟩ = some (.int .u8 s1) ∧ wr.cell? ⟨w.heap.size, 2, none⟩ = some (.int .u8 s2) ∧ wr.cell? ⟨w.heap.size, 3, none⟩ = some (.int .u8 s3)) (fun _ i _ => n - (intOf i).toNat)
  case atStart => exact ⟨0, Nat.zero_le _, rfl, Row.OwnR.nil (by (repeat' (first | (with_reducible exact Below.refl _ _) | (with_reducible refine Below.drew ?_) | (with_reducible refine below_drewN ?_ _) | ((with_reducible refine Below.setCell ?_ ?side_ _); case side_ => (first | (with_reducible exact Nat.le_refl _) | (with_reducible assumption) | omega | (simp; done) | (simp; omega))) | ((with_reducible refine Below.alloc ?_ ?side_ _); case side_ => (first | (with_reducible exact Nat.le_refl _) | (with_reducible assumption) | omega | (simp; done) | (simp; omega)))))) (by omega) (by simp), by simp, by simp, by simp, by simp⟩
  case round =>
    obtain ⟨k, hk, rfl, hO, e0, e1, e2, e3⟩ := hrel
    by_cases hlt : k < n
    · obtain ⟨b, off, rfl, hb, c0, c1, c2, c3, D⟩ := rows4 (hD.below hO.bel) (i := k) (by rw [HN.out]; exact hlt)
      have hcv : k < cs.length → ∃ b off, AC = some ⟨b, off, none⟩ ∧ b < wr.heap.size ∧ wr.cell? ⟨b, off + k, none⟩ = some (.int .u8 (cs.getD k 0)) := fun h => by
        have := (hC.below hO.bel).cell k h
        simpa [List.getD] using this
      have hcb : 0 ≤ cs.getD k 0 ∧ cs.getD k 0 ≤ 255 := by
        by_cases h : k < cs.length
        · have := Num.wf_u8 (hC.wf cs[k] (List.getElem_mem h))
          simpa [List.getD, h] using this
        · simp [List.getD, h]
      have hc0 : ¬ k < cs.length → cs.getD k 0 = 0 := fun h => by simp [List.getD, h]
      have px := PX.out (cs.getD k 0) _ _ _ _ hcb.1 hcb.2 D
      have hs := outsR_succ o s0 s1 s2 s3 cs ds k
      unfold pixR at hs
      unfold pixA at px
      generalize q4 ds k 0 = d0 at *
      generalize q4 ds k 1 = d1 at *
      generalize q4 ds k 2 = d2 at *
      generalize q4 ds k 3 = d3 at *
      generalize cs.getD k 0 = cv at *
      generalize pixV (okV o s0 s1 s2 s3 d0 d1 d2 d3) o cv s0 d0 s3 d3 = p0 at *
      generalize pixV (okV o s0 s1 s2 s3 d0 d1 d2 d3) o cv s1 d1 s3 d3 = p1 at *
      generalize pixV (okV o s0 s1 s2 s3 d0 d1 d2 d3) o cv s2 d2 s3 d3 = p2 at *
      generalize pixV (okV o s0 s1 s2 s3 d0 d1 d2 d3) o cv s3 d3 s3 d3 = p3 at *
      generalize outsR o s0 s1 s2 s3 cs ds k = ok at *
      have HS := Lib.hid hs
      have HP := Lib.hid px
      have HB0 := hO.bel
      have hz := hO.hi
      have hzw : w.heap.size < wr.heap.size := by omega
      clear hs px D hcb
      by_cases hc : k < cs.length
      · obtain ⟨bc, oc, rfl, hbc, hcc⟩ := hcv hc
        clear hcv hc0
        go_wp2_with (first
          | (go_at_call 20; ((with_reducible refine (HP.out _ ?hk).mono ?_); (case hk => (have z_HB0 := HB0.size; (try simp at z_HB0); (repeat' (first | (with_reducible exact Below.refl _ _) | (with_reducible refine Below.drew ?_) | (with_reducible refine below_drewN ?_ _) | ((with_reducible refine Below.setCell ?_ ?side_ _); case side_ => (first | (with_reducible exact Nat.le_refl _) | (with_reducible assumption) | omega | (simp; done) | (simp; omega))) | ((with_reducible refine Below.alloc ?_ ?side_ _); case side_ => (first | (with_reducible exact Nat.le_refl _) | (with_reducible assumption) | omega | (simp; done) | (simp; omega))) | ((with_reducible refine Below.trans ?_ (HB0.mono ?side_)); case side_ => (first | (with_reducible exact Nat.le_refl _) | (with_reducible assumption) | omega | (simp; done) | (simp; omega))))); done)); rintro e w2 ⟨rfl, hb2⟩; obtain ⟨hc2, hf2⟩ := Eq.bcell hb2; have hO2 := (hO.alloc _).below hb2))
          | (at_builtin; refine Row.app rfl _ _ rfl Tryd.underlying49 info_colour rfl (by decide) (by decide) rfl (hO2.alloc _) _ _ rfl (new4 _ _ _ _ _ _) rfl (one4 _ _ _ _) (by omega) ?_; intro v' w3 hO3 hg3))
        have kB : Below wr.heap.size wr (w2.alloc (.cells #[.int .u8 p0, .int .u8 p1, .int .u8 p2, .int .u8 p3] 31)) := by have z_hb2 := hb2.size; (try simp at z_hb2); (repeat' (first | (with_reducible exact Below.refl _ _) | (with_reducible refine Below.drew ?_) | (with_reducible refine below_drewN ?_ _) | ((with_reducible refine Below.setCell ?_ ?side_ _); case side_ => (first | (with_reducible exact Nat.le_refl _) | (with_reducible assumption) | omega | (simp; done) | (simp; omega))) | ((with_reducible refine Below.alloc ?_ ?side_ _); case side_ => (first | (with_reducible exact Nat.le_refl _) | (with_reducible assumption) | omega | (simp; done) | (simp; omega))) | ((with_reducible refine Below.trans ?_ (hb2.mono ?side_)); case side_ => (first | (with_reducible exact Nat.le_refl _) | (with_reducible assumption) | omega | (simp; done) | (simp; omega)))))
        have kc : ∀ x, w3.cell? ⟨w.heap.size, x, none⟩ = wr.cell? ⟨w.heap.size, x, none⟩ := fun x => (Row.grown_cell (hO2.alloc _) hg3 (Nat.lt_succ_self _) x).trans (kB.cell (p := ⟨w.heap.size, x, none⟩) hzw)
        go_roundw
        case rel => exact ⟨k + 1, by omega, by go_num, by rw [HS.out]; exact hO3, (kc 0).trans e0, (kc 1).trans e1, (kc 2).trans e2, (kc 3).trans e3⟩
        case measure => simp [intOf]; omega
      · obtain rfl := hc0 hc
        clear hcv hc0
        go_wp2_with (first
          | (go_at_call 20; ((with_reducible refine (HP.out _ ?hk).mono ?_); (case hk => (have z_HB0 := HB0.size; (try simp at z_HB0); (repeat' (first | (with_reducible exact Below.refl _ _) | (with_reducible refine Below.drew ?_) | (with_reducible refine below_drewN ?_ _) | ((with_reducible refine Below.setCell ?_ ?side_ _); case side_ => (first | (with_reducible exact Nat.le_refl _) | (with_reducible assumption) | omega | (simp; done) | (simp; omega))) | ((with_reducible refine Below.alloc ?_ ?side_ _); case side_ => (first | (with_reducible exact Nat.le_refl _) | (with_reducible assumption) | omega | (simp; done) | (simp; omega))) | ((with_reducible refine Below.trans ?_ (HB0.mono ?side_)); case side_ => (first | (with_reducible exact Nat.le_refl _) | (with_reducible assumption) | omega | (simp; done) | (simp; omega))))); done)); rintro e w2 ⟨rfl, hb2⟩; obtain ⟨hc2, hf2⟩ := Eq.bcell hb2; have hO2 := (hO.alloc _).below hb2))
          | (at_builtin; refine Row.app rfl _ _ rfl Tryd.underlying49 info_colour rfl (by decide) (by decide) rfl (hO2.alloc _) _ _ rfl (new4 _ _ _ _ _ _) rfl (one4 _ _ _ _) (by omega) ?_; intro v' w3 hO3 hg3))
        have kB : Below wr.heap.size wr (w2.alloc (.cells #[.int .u8 p0, .int .u8 p1, .int .u8 p2, .int .u8 p3] 31)) := by have z_hb2 := hb2.size; (try simp at z_hb2); (repeat' (first | (with_reducible exact Below.refl _ _) | (with_reducible refine Below.drew ?_) | (with_reducible refine below_drewN ?_ _) | ((with_reducible refine Below.setCell ?_ ?side_ _); case side_ => (first | (with_reducible exact Nat.le_refl _) | (with_reducible assumption) | omega | (simp; done) | (simp; omega))) | ((with_reducible refine Below.alloc ?_ ?side_ _); case side_ => (first | (with_reducible exact Nat.le_refl _) | (with_reducible assumption) | omega | (simp; done) | (simp; omega))) | ((with_reducible refine Below.trans ?_ (hb2.mono ?side_)); case side_ => (first | (with_reducible exact Nat.le_refl _) | (with_reducible assumption) | omega | (simp; done) | (simp; omega)))))
        have kc : ∀ x, w3.cell? ⟨w.heap.size, x, none⟩ = wr.cell? ⟨w.heap.size, x, none⟩ := fun x => (Row.grown_cell (hO2.alloc _) hg3 (Nat.lt_succ_self _) x).trans (kB.cell (p := ⟨w.heap.size, x, none⟩) hzw)
        go_roundw
        case rel => exact ⟨k + 1, by omega, by go_num, by rw [HS.out]; exact hO3, (kc 0).trans e0, (kc 1).trans e1, (kc 2).trans e2, (kc 3).trans e3⟩
        case measure => simp [intOf]; omega
    · obtain rfl : k = n := by omega
      clear hD hC PX
      go_wp2
      go_ret
      exact ⟨_, rfl, hO⟩

theorem pixR_length (o s0 s1 s2 s3 : Int) (cs : List Int) (ds : List (List Int)) (i : Nat) : (pixR o s0 s1 s2 s3 cs ds i).length = 4 := rfl
theorem outsR_length (o s0 s1 s2 s3 : Int) (cs : List Int) (ds : List (List Int)) (n : Nat) : (outsR o s0 s1 s2 s3 cs ds n).length = n * 4 := by
  induction n with
  | zero => rfl
  | succ n ih => rw [outsR_succ, List.length_append, ih, pixR_length]; omega
theorem outsR_at (o s0 s1 s2 s3 : Int) (cs : List Int) (ds : List (List Int)) {n k : Nat} (hk : k < n) (j : Nat) (hj : j < 4) : (outsR o s0 s1 s2 s3 cs ds n)[k * 4 + j]? = (pixR o s0 s1 s2 s3 cs ds k)[j]? := by
  induction n with
  | zero => omega
  | succ n ih =>
    rw [outsR_succ]
    by_cases h : k < n
    · rw [List.getElem?_append_left (by rw [outsR_length]; omega)]; exact ih h
    · obtain rfl : k = n := by omega
      rw [List.getElem?_append_right (by rw [outsR_length]; omega), outsR_length]
      congr 1; omega

section
variable {w wc w1 : World} {o c s0 s1 s2 s3 d0 d1 d2 d3 p0 p1 p2 p3 f0 f1 f2 f3 : Int} {g b x y : Nat}
theorem fourat_keep (h : (wc.cell? ⟨g, x, none⟩ = some (.int .u8 p0) ∧ wc.cell? ⟨g, x + 1, none⟩ = some (.int .u8 p1) ∧ wc.cell? ⟨g, x + 2, none⟩ = some (.int .u8 p2) ∧ wc.cell? ⟨g, x + 3, none⟩ = some (.int .u8 p3) ∧ g < wc.heap.size)) (hb : Below wc.heap.size wc w1) : (w1.cell? ⟨g, x, none⟩ = some (.int .u8 p0) ∧ w1.cell? ⟨g, x + 1, none⟩ = some (.int .u8 p1) ∧ w1.cell? ⟨g, x + 2, none⟩ = some (.int .u8 p2) ∧ w1.cell? ⟨g, x + 3, none⟩ = some (.int .u8 p3) ∧ g < w1.heap.size) := by
  obtain ⟨h0, h1, h2, h3, hs⟩ := h
  have k : ∀ i, w1.cell? ⟨g, i, none⟩ = wc.cell? ⟨g, i, none⟩ := fun i => hb.cell (p := ⟨g, i, none⟩) hs
  exact ⟨(k _).trans h0, (k _).trans h1, (k _).trans h2, (k _).trans h3, Nat.lt_of_lt_of_le hs hb.size⟩
theorem rows_keep (h : (wc.cell? ⟨w.heap.size, 0, none⟩ = some (.int .i64 o) ∧ wc.cell? ⟨w.heap.size, 1, none⟩ = some (.int .u8 c) ∧ wc.cell? ⟨w.heap.size, 2, none⟩ = some (.int .u8 s0) ∧ wc.cell? ⟨w.heap.size, 3, none⟩ = some (.int .u8 s1) ∧ wc.cell? ⟨w.heap.size, 4, none⟩ = some (.int .u8 s2) ∧ wc.cell? ⟨w.heap.size, 5, none⟩ = some (.int .u8 s3) ∧ wc.cell? ⟨w.heap.size, 6, none⟩ = some (.int .u8 d0) ∧ wc.cell? ⟨w.heap.size, 7, none⟩ = some (.int .u8 d1) ∧ wc.cell? ⟨w.heap.size, 8, none⟩ = some (.int .u8 d2) ∧ wc.cell? ⟨w.heap.size, 9, none⟩ = some (.int .u8 d3) ∧ w.heap.size < wc.heap.size ∧ Below w.heap.size w wc) ∧ (wc.cell? ⟨g, x, none⟩ = some (.int .u8 p0) ∧ wc.cell? ⟨g, x + 1, none⟩ = some (.int .u8 p1) ∧ wc.cell? ⟨g, x + 2, none⟩ = some (.int .u8 p2) ∧ wc.cell? ⟨g, x + 3, none⟩ = some (.int .u8 p3) ∧ g < wc.heap.size) ∧ (wc.cell? ⟨b, y, none⟩ = some (.int .u8 f0) ∧ wc.cell? ⟨b, y + 1, none⟩ = some (.int .u8 f1) ∧ wc.cell? ⟨b, y + 2, none⟩ = some (.int .u8 f2) ∧ wc.cell? ⟨b, y + 3, none⟩ = some (.int .u8 f3) ∧ b < wc.heap.size)) (hb : Below wc.heap.size wc w1) : (w1.cell? ⟨w.heap.size, 0, none⟩ = some (.int .i64 o) ∧ w1.cell? ⟨w.heap.size, 1, none⟩ = some (.int .u8 c) ∧ w1.cell? ⟨w.heap.size, 2, none⟩ = some (.int .u8 s0) ∧ w1.cell? ⟨w.heap.size, 3, none⟩ = some (.int .u8 s1) ∧ w1.cell? ⟨w.heap.size, 4, none⟩ = some (.int .u8 s2) ∧ w1.cell? ⟨w.heap.size, 5, none⟩ = some (.int .u8 s3) ∧ w1.cell? ⟨w.heap.size, 6, none⟩ = some (.int .u8 d0) ∧ w1.cell? ⟨w.heap.size, 7, none⟩ = some (.int .u8 d1) ∧ w1.cell? ⟨w.heap.size, 8, none⟩ = some (.int .u8 d2) ∧ w1.cell? ⟨w.heap.size, 9, none⟩ = some (.int .u8 d3) ∧ w.heap.size < w1.heap.size ∧ Below w.heap.size w w1) ∧ (w1.cell? ⟨g, x, none⟩ = some (.int .u8 p0) ∧ w1.cell? ⟨g, x + 1, none⟩ = some (.int .u8 p1) ∧ w1.cell? ⟨g, x + 2, none⟩ = some (.int .u8 p2) ∧ w1.cell? ⟨g, x + 3, none⟩ = some (.int .u8 p3) ∧ g < w1.heap.size) ∧ (w1.cell? ⟨b, y, none⟩ = some (.int .u8 f0) ∧ w1.cell? ⟨b, y + 1, none⟩ = some (.int .u8 f1) ∧ w1.cell? ⟨b, y + 2, none⟩ = some (.int .u8 f2) ∧ w1.cell? ⟨b, y + 3, none⟩ = some (.int .u8 f3) ∧ b < w1.heap.size) :=
  ⟨pair_keep h.1 hb, fourat_keep h.2.1 hb, fourat_keep h.2.2 hb⟩
theorem rows_drew (h : (wc.cell? ⟨w.heap.size, 0, none⟩ = some (.int .i64 o) ∧ wc.cell? ⟨w.heap.size, 1, none⟩ = some (.int .u8 c) ∧ wc.cell? ⟨w.heap.size, 2, none⟩ = some (.int .u8 s0) ∧ wc.cell? ⟨w.heap.size, 3, none⟩ = some (.int .u8 s1) ∧ wc.cell? ⟨w.heap.size, 4, none⟩ = some (.int .u8 s2) ∧ wc.cell? ⟨w.heap.size, 5, none⟩ = some (.int .u8 s3) ∧ wc.cell? ⟨w.heap.size, 6, none⟩ = some (.int .u8 d0) ∧ wc.cell? ⟨w.heap.size, 7, none⟩ = some (.int .u8 d1) ∧ wc.cell? ⟨w.heap.size, 8, none⟩ = some (.int .u8 d2) ∧ wc.cell? ⟨w.heap.size, 9, none⟩ = some (.int .u8 d3) ∧ w.heap.size < wc.heap.size ∧ Below w.heap.size w wc) ∧ (wc.cell? ⟨g, x, none⟩ = some (.int .u8 p0) ∧ wc.cell? ⟨g, x + 1, none⟩ = some (.int .u8 p1) ∧ wc.cell? ⟨g, x + 2, none⟩ = some (.int .u8 p2) ∧ wc.cell? ⟨g, x + 3, none⟩ = some (.int .u8 p3) ∧ g < wc.heap.size) ∧ (wc.cell? ⟨b, y, none⟩ = some (.int .u8 f0) ∧ wc.cell? ⟨b, y + 1, none⟩ = some (.int .u8 f1) ∧ wc.cell? ⟨b, y + 2, none⟩ = some (.int .u8 f2) ∧ wc.cell? ⟨b, y + 3, none⟩ = some (.int .u8 f3) ∧ b < wc.heap.size)) : (wc.drew.cell? ⟨w.heap.size, 0, none⟩ = some (.int .i64 o) ∧ wc.drew.cell? ⟨w.heap.size, 1, none⟩ = some (.int .u8 c) ∧ wc.drew.cell? ⟨w.heap.size, 2, none⟩ = some (.int .u8 s0) ∧ wc.drew.cell? ⟨w.heap.size, 3, none⟩ = some (.int .u8 s1) ∧ wc.drew.cell? ⟨w.heap.size, 4, none⟩ = some (.int .u8 s2) ∧ wc.drew.cell? ⟨w.heap.size, 5, none⟩ = some (.int .u8 s3) ∧ wc.drew.cell? ⟨w.heap.size, 6, none⟩ = some (.int .u8 d0) ∧ wc.drew.cell? ⟨w.heap.size, 7, none⟩ = some (.int .u8 d1) ∧ wc.drew.cell? ⟨w.heap.size, 8, none⟩ = some (.int .u8 d2) ∧ wc.drew.cell? ⟨w.heap.size, 9, none⟩ = some (.int .u8 d3) ∧ w.heap.size < wc.drew.heap.size ∧ Below w.heap.size w wc.drew) ∧ (wc.drew.cell? ⟨g, x, none⟩ = some (.int .u8 p0) ∧ wc.drew.cell? ⟨g, x + 1, none⟩ = some (.int .u8 p1) ∧ wc.drew.cell? ⟨g, x + 2, none⟩ = some (.int .u8 p2) ∧ wc.drew.cell? ⟨g, x + 3, none⟩ = some (.int .u8 p3) ∧ g < wc.drew.heap.size) ∧ (wc.drew.cell? ⟨b, y, none⟩ = some (.int .u8 f0) ∧ wc.drew.cell? ⟨b, y + 1, none⟩ = some (.int .u8 f1) ∧ wc.drew.cell? ⟨b, y + 2, none⟩ = some (.int .u8 f2) ∧ wc.drew.cell? ⟨b, y + 3, none⟩ = some (.int .u8 f3) ∧ b < wc.drew.heap.size) :=
  rows_keep h (Below.refl _ _).drew
end

set_option maxHeartbeats 8000000 in
theorem blendrows_calls (o c s0 s1 s2 s3 d0 d1 d2 d3 : Int) (o0 : -9223372036854775808 ≤ o) (o1 : o ≤ 9223372036854775807) (S : Col s0 s1 s2 s3) (AC AD : Option Addr) (cs : List Int) (ds : List (List Int)) (cc cd : Nat) (mc : cs.length ≤ maxLen) (md : ds.length ≤ maxLen) (w : World)
    (hC : Open.IntRow w .u8 AC cs) (hD : Row.Rows w [.u8, .u8, .u8, .u8] AD ds) (hK : Kinds w) :
    Calls Tryd.prog 11 #[.agg #[.int .i64 o, .int .u8 c, .int .u8 s0, .int .u8 s1, .int .u8 s2, .int .u8 s3, .int .u8 d0, .int .u8 d1, .int .u8 d2, .int .u8 d3], .slice AC cs.length cc, .slice AD ds.length cd] w fun e w' => e = .returned (.bool true) ∧ Below w.heap.size w w' := by
  have WK := Lib.hid (fun (w1 : World) (hb : Below w.heap.size w w1) => wakes21_calls w1 (hK.below hb))
  unfold maxLen at mc md
  by_cases nc : cs.length ≤ 60
  · by_cases nd : ds.length ≤ 60
    · have RW := Lib.hid (fun (w1 : World) (hb : Below w.heap.size w w1) => row_calls o s0 s1 s2 s3 o0 o1 S AC AD cs ds cc cd (by omega) (by omega) w1 (hC.below hb) (hD.below hb) (hK.below hb))
      have RX := Lib.hid (fun (c d0 d1 d2 d3 : Int) (c0 : 0 ≤ c) (c1 : c ≤ 255) (D : Col d0 d1 d2 d3) (w1 : World) => refpixel_calls o c s0 s1 s2 s3 d0 d1 d2 d3 o0 o1 c0 c1 S D w1)
      go_enter Tryd.func11, Tryd.ntmps11
      go_wp2_with (first
        | (go_at_call 19; ((with_reducible refine (WK.out _ (by (repeat' (first | (with_reducible exact Below.refl _ _) | (with_reducible refine Below.drew ?_) | (with_reducible refine below_drewN ?_ _) | ((with_reducible refine Below.setCell ?_ ?side_ _); case side_ => (first | (with_reducible exact Nat.le_refl _) | (with_reducible assumption) | omega | (simp; done) | (simp; omega))) | ((with_reducible refine Below.alloc ?_ ?side_ _); case side_ => (first | (with_reducible exact Nat.le_refl _) | (with_reducible assumption) | omega | (simp; done) | (simp; omega))))))).mono ?_); rintro e w1 ⟨rfl, hb1⟩; obtain ⟨hc1, hf1⟩ := Eq.bcell hb1; (try simp only [World.size_drew] at hc1 hf1); have hq1 := hb1.size; (try simp at hq1); have hz1_0 : w.heap.size < w1.heap.size := (by omega); clear hq1; have HB1 : Below w.heap.size w w1 := (by have z_hb1 := hb1.size; (try simp at z_hb1); (repeat' (first | (with_reducible exact Below.refl _ _) | (with_reducible refine Below.drew ?_) | (with_reducible refine below_drewN ?_ _) | ((with_reducible refine Below.setCell ?_ ?side_ _); case side_ => (first | (with_reducible exact Nat.le_refl _) | (with_reducible assumption) | omega | (simp; done) | (simp; omega))) | ((with_reducible refine Below.alloc ?_ ?side_ _); case side_ => (first | (with_reducible exact Nat.le_refl _) | (with_reducible assumption) | omega | (simp; done) | (simp; omega))) | ((with_reducible refine Below.trans ?_ (hb1.mono ?side_)); case side_ => (first | (with_reducible exact Nat.le_refl _) | (with_reducible assumption) | omega | (simp; done) | (simp; omega))))))))
        | (go_at_call 29; ((with_reducible refine (RW.out _ HB1).mono ?_); rintro e w2 ⟨v, rfl, hO⟩; obtain ⟨A, cap, rfl, hcap, hcap2, hrd, hAd⟩ := hO.read; have hb2 := hO.bel)))
      have H1 := pair_keep (pair_keep (pair_alloc _) hb1) hb2
      obtain ⟨n, hn⟩ : ∃ n, ds.length = n := ⟨_, rfl⟩
      rw [hn] at nd hrd hO ⊢
      have HN := Lib.hid hn
      clear hn hc1 hf1 HB1 md WK RW
      go_loopw [34] (fun i wr => ∃ k : Nat, k ≤ n ∧ i = .int .i64 k ∧ (wr.cell? ⟨w.heap.size, 0, none⟩ = some (.int .i64 o) ∧ wr.cell? ⟨w.heap.size, 1, none⟩ = some (.int .u8 c) ∧ wr.cell? ⟨w.heap.size, 2, none⟩ = some (.int .u8 s0) ∧ wr.cell? ⟨w.heap.size, 3, none⟩ = some (.int .u8 s1) ∧ wr.cell? ⟨w.heap.size, 4, none⟩ = some (.int .u8 s2) ∧ wr.cell? ⟨w.heap.size, 5, none⟩ = some (.int .u8 s3) ∧ wr.cell? ⟨w.heap.size, 6, none⟩ = some (.int .u8 d0) ∧ wr.cell? ⟨w.heap.size, 7, none⟩ = some (.int .u8 d1) ∧ wr.cell? ⟨w.heap.size, 8, none⟩ = some (.int .u8 d2) ∧ wr.cell? ⟨w.heap.size, 9, none⟩ = some (.int .u8 d3) ∧ w.heap.size < wr.heap.size ∧ Below w.heap.size w wr) ∧ Below w2.heap.size w2 wr) (fun i _ => n - (intOf i).toNat)
      case atStart => exact ⟨0, Nat.zero_le _, rfl, H1, Below.refl _ _⟩
      case round =>
        obtain ⟨k, hk, rfl, hP, hB⟩ := hrel
        have HB := pair_below hP
        by_cases hlt : k < n
        · obtain ⟨b, off, rfl, hb, e0, e1, e2, e3, D⟩ := rows4 (hD.below HB) (i := k) (by rw [HN.out]; exact hlt)
          have hcv : k < cs.length → ∃ b off, AC = some ⟨b, off, none⟩ ∧ b < wr.heap.size ∧ wr.cell? ⟨b, off + k, none⟩ = some (.int .u8 (cs.getD k 0)) := fun h => by
            have := (hC.below HB).cell k h
            simpa [List.getD] using this
          have hcb : 0 ≤ cs.getD k 0 ∧ cs.getD k 0 ≤ 255 := by
            by_cases h : k < cs.length
            · have := Num.wf_u8 (hC.wf cs[k] (List.getElem_mem h))
              simpa [List.getD, h] using this
            · simp [List.getD, h]
          have hc0 : ¬ k < cs.length → cs.getD k 0 = 0 := fun h => by simp [List.getD, h]
          have px := RX.out (cs.getD k 0) _ _ _ _ hcb.1 hcb.2 D
          obtain ⟨g, hg, hgB, hgl, x0⟩ := hrd k 0 hlt (by decide)
          obtain ⟨_, hg1, _, _, x1⟩ := hrd k 1 hlt (by decide)
          obtain ⟨_, hg2, _, _, x2⟩ := hrd k 2 hlt (by decide)
          obtain ⟨_, hg3, _, _, x3⟩ := hrd k 3 hlt (by decide)
          subst hg
          cases hg1; cases hg2; cases hg3
          rw [outsR_at o s0 s1 s2 s3 cs ds hlt 0 (by decide)] at x0
          rw [outsR_at o s0 s1 s2 s3 cs ds hlt 1 (by decide)] at x1
          rw [outsR_at o s0 s1 s2 s3 cs ds hlt 2 (by decide)] at x2
          rw [outsR_at o s0 s1 s2 s3 cs ds hlt 3 (by decide)] at x3
          have kc : ∀ x, wr.cell? ⟨g, x, none⟩ = w2.cell? ⟨g, x, none⟩ := fun x => hB.cell (p := ⟨g, x, none⟩) hgl
          rw [Nat.add_zero] at x0
          replace x0 := (kc _).trans x0
          replace x1 := (kc _).trans x1
          replace x2 := (kc _).trans x2
          replace x3 := (kc _).trans x3
          unfold pixR at x0 x1 x2 x3
          simp only [List.getElem?_cons_zero, List.getElem?_cons_succ] at x0 x1 x2 x3
          unfold pixA at px
          generalize q4 ds k 0 = f0 at *
          generalize q4 ds k 1 = f1 at *
          generalize q4 ds k 2 = f2 at *
          generalize q4 ds k 3 = f3 at *
          generalize cs.getD k 0 = cv at *
          generalize pixV (okV o s0 s1 s2 s3 f0 f1 f2 f3) o cv s0 f0 s3 f3 = p0 at *
          generalize pixV (okV o s0 s1 s2 s3 f0 f1 f2 f3) o cv s1 f1 s3 f3 = p1 at *
          generalize pixV (okV o s0 s1 s2 s3 f0 f1 f2 f3) o cv s2 f2 s3 f3 = p2 at *
          generalize pixV (okV o s0 s1 s2 s3 f0 f1 f2 f3) o cv s3 f3 s3 f3 = p3 at *
          have E4 := Eq.eq4_self p0 p1 p2 p3
          have HPX := Lib.hid px
          have HS : (wr.cell? ⟨w.heap.size, 0, none⟩ = some (.int .i64 o) ∧ wr.cell? ⟨w.heap.size, 1, none⟩ = some (.int .u8 c) ∧ wr.cell? ⟨w.heap.size, 2, none⟩ = some (.int .u8 s0) ∧ wr.cell? ⟨w.heap.size, 3, none⟩ = some (.int .u8 s1) ∧ wr.cell? ⟨w.heap.size, 4, none⟩ = some (.int .u8 s2) ∧ wr.cell? ⟨w.heap.size, 5, none⟩ = some (.int .u8 s3) ∧ wr.cell? ⟨w.heap.size, 6, none⟩ = some (.int .u8 d0) ∧ wr.cell? ⟨w.heap.size, 7, none⟩ = some (.int .u8 d1) ∧ wr.cell? ⟨w.heap.size, 8, none⟩ = some (.int .u8 d2) ∧ wr.cell? ⟨w.heap.size, 9, none⟩ = some (.int .u8 d3) ∧ w.heap.size < wr.heap.size ∧ Below w.heap.size w wr) ∧ (wr.cell? ⟨g, k * 4, none⟩ = some (.int .u8 p0) ∧ wr.cell? ⟨g, k * 4 + 1, none⟩ = some (.int .u8 p1) ∧ wr.cell? ⟨g, k * 4 + 2, none⟩ = some (.int .u8 p2) ∧ wr.cell? ⟨g, k * 4 + 3, none⟩ = some (.int .u8 p3) ∧ g < wr.heap.size) ∧ (wr.cell? ⟨b, off + k * 4, none⟩ = some (.int .u8 f0) ∧ wr.cell? ⟨b, off + k * 4 + 1, none⟩ = some (.int .u8 f1) ∧ wr.cell? ⟨b, off + k * 4 + 2, none⟩ = some (.int .u8 f2) ∧ wr.cell? ⟨b, off + k * 4 + 3, none⟩ = some (.int .u8 f3) ∧ b < wr.heap.size) := ⟨hP, ⟨x0, x1, x2, x3, Nat.lt_of_lt_of_le hgl hB.size⟩, ⟨e0, e1, e2, e3, hb⟩⟩
          clear px D hcb kc RX hAd
          have HR := Lib.hid hrd
          have HO := Lib.hid hO
          clear hrd hO
          by_cases hc : k < cs.length
          · obtain ⟨bc, oc, rfl, hbc, hcc⟩ := hcv hc
            clear hcv hc0
            go_wp2
            go_region_held3 (fun w' => (w'.cell? ⟨w.heap.size, 0, none⟩ = some (.int .i64 o) ∧ w'.cell? ⟨w.heap.size, 1, none⟩ = some (.int .u8 c) ∧ w'.cell? ⟨w.heap.size, 2, none⟩ = some (.int .u8 s0) ∧ w'.cell? ⟨w.heap.size, 3, none⟩ = some (.int .u8 s1) ∧ w'.cell? ⟨w.heap.size, 4, none⟩ = some (.int .u8 s2) ∧ w'.cell? ⟨w.heap.size, 5, none⟩ = some (.int .u8 s3) ∧ w'.cell? ⟨w.heap.size, 6, none⟩ = some (.int .u8 d0) ∧ w'.cell? ⟨w.heap.size, 7, none⟩ = some (.int .u8 d1) ∧ w'.cell? ⟨w.heap.size, 8, none⟩ = some (.int .u8 d2) ∧ w'.cell? ⟨w.heap.size, 9, none⟩ = some (.int .u8 d3) ∧ w.heap.size < w'.heap.size ∧ Below w.heap.size w w') ∧ (w'.cell? ⟨g, k * 4, none⟩ = some (.int .u8 p0) ∧ w'.cell? ⟨g, k * 4 + 1, none⟩ = some (.int .u8 p1) ∧ w'.cell? ⟨g, k * 4 + 2, none⟩ = some (.int .u8 p2) ∧ w'.cell? ⟨g, k * 4 + 3, none⟩ = some (.int .u8 p3) ∧ g < w'.heap.size) ∧ (w'.cell? ⟨b, off + k * 4, none⟩ = some (.int .u8 f0) ∧ w'.cell? ⟨b, off + k * 4 + 1, none⟩ = some (.int .u8 f1) ∧ w'.cell? ⟨b, off + k * 4 + 2, none⟩ = some (.int .u8 f2) ∧ w'.cell? ⟨b, off + k * 4 + 3, none⟩ = some (.int .u8 f3) ∧ b < w'.heap.size)) (first | exact rows_drew HS | (refine rows_keep ?_ hb3; assumption))
              (first | (go_at_call 21; ((with_reducible refine (HPX.out _).mono ?_); rintro e w3 ⟨rfl, hb3⟩)))
            rename_i hH
            have hB3 : Below w2.heap.size w2 w3 := by have z_hB := hB.size; (try simp at z_hB); have z_hb3 := hb3.size; (try simp at z_hb3); (repeat' (first | (with_reducible exact Below.refl _ _) | (with_reducible refine Below.drew ?_) | (with_reducible refine below_drewN ?_ _) | ((with_reducible refine Below.setCell ?_ ?side_ _); case side_ => (first | (with_reducible exact Nat.le_refl _) | (with_reducible assumption) | omega | (simp; done) | (simp; omega))) | ((with_reducible refine Below.alloc ?_ ?side_ _); case side_ => (first | (with_reducible exact Nat.le_refl _) | (with_reducible assumption) | omega | (simp; done) | (simp; omega))) | ((with_reducible refine Below.trans ?_ (hB.mono ?side_)); case side_ => (first | (with_reducible exact Nat.le_refl _) | (with_reducible assumption) | omega | (simp; done) | (simp; omega))) | ((with_reducible refine Below.trans ?_ (hb3.mono ?side_)); case side_ => (first | (with_reducible exact Nat.le_refl _) | (with_reducible assumption) | omega | (simp; done) | (simp; omega)))))
            clear hb3
            go_wp2
            go_roundw
            case rel => exact ⟨k + 1, by omega, by go_num, hH.1, hB3⟩
            case measure => simp [intOf]; omega
          · obtain rfl := hc0 hc
            clear hcv hc0
            go_wp2
            go_region_held3 (fun w' => (w'.cell? ⟨w.heap.size, 0, none⟩ = some (.int .i64 o) ∧ w'.cell? ⟨w.heap.size, 1, none⟩ = some (.int .u8 c) ∧ w'.cell? ⟨w.heap.size, 2, none⟩ = some (.int .u8 s0) ∧ w'.cell? ⟨w.heap.size, 3, none⟩ = some (.int .u8 s1) ∧ w'.cell? ⟨w.heap.size, 4, none⟩ = some (.int .u8 s2) ∧ w'.cell? ⟨w.heap.size, 5, none⟩ = some (.int .u8 s3) ∧ w'.cell? ⟨w.heap.size, 6, none⟩ = some (.int .u8 d0) ∧ w'.cell? ⟨w.heap.size, 7, none⟩ = some (.int .u8 d1) ∧ w'.cell? ⟨w.heap.size, 8, none⟩ = some (.int .u8 d2) ∧ w'.cell? ⟨w.heap.size, 9, none⟩ = some (.int .u8 d3) ∧ w.heap.size < w'.heap.size ∧ Below w.heap.size w w') ∧ (w'.cell? ⟨g, k * 4, none⟩ = some (.int .u8 p0) ∧ w'.cell? ⟨g, k * 4 + 1, none⟩ = some (.int .u8 p1) ∧ w'.cell? ⟨g, k * 4 + 2, none⟩ = some (.int .u8 p2) ∧ w'.cell? ⟨g, k * 4 + 3, none⟩ = some (.int .u8 p3) ∧ g < w'.heap.size) ∧ (w'.cell? ⟨b, off + k * 4, none⟩ = some (.int .u8 f0) ∧ w'.cell? ⟨b, off + k * 4 + 1, none⟩ = some (.int .u8 f1) ∧ w'.cell? ⟨b, off + k * 4 + 2, none⟩ = some (.int .u8 f2) ∧ w'.cell? ⟨b, off + k * 4 + 3, none⟩ = some (.int .u8 f3) ∧ b < w'.heap.size)) (first | exact rows_drew HS | (refine rows_keep ?_ hb3; assumption))
              (first | (go_at_call 21; ((with_reducible refine (HPX.out _).mono ?_); rintro e w3 ⟨rfl, hb3⟩)))
            rename_i hH
            have hB3 : Below w2.heap.size w2 w3 := by have z_hB := hB.size; (try simp at z_hB); have z_hb3 := hb3.size; (try simp at z_hb3); (repeat' (first | (with_reducible exact Below.refl _ _) | (with_reducible refine Below.drew ?_) | (with_reducible refine below_drewN ?_ _) | ((with_reducible refine Below.setCell ?_ ?side_ _); case side_ => (first | (with_reducible exact Nat.le_refl _) | (with_reducible assumption) | omega | (simp; done) | (simp; omega))) | ((with_reducible refine Below.alloc ?_ ?side_ _); case side_ => (first | (with_reducible exact Nat.le_refl _) | (with_reducible assumption) | omega | (simp; done) | (simp; omega))) | ((with_reducible refine Below.trans ?_ (hB.mono ?side_)); case side_ => (first | (with_reducible exact Nat.le_refl _) | (with_reducible assumption) | omega | (simp; done) | (simp; omega))) | ((with_reducible refine Below.trans ?_ (hb3.mono ?side_)); case side_ => (first | (with_reducible exact Nat.le_refl _) | (with_reducible assumption) | omega | (simp; done) | (simp; omega)))))
            clear hb3
            go_wp2
            go_roundw
            case rel => exact ⟨k + 1, by omega, by go_num, hH.1, hB3⟩
            case measure => simp [intOf]; omega
        · obtain rfl : k = n := by omega
          clear hP hC hD RX hrd hO hAd
          go_wp2
          go_ret
          exact ⟨rfl, HB⟩
    · have nd' : 60 < ds.length := by omega
      clear nd hC hD hK
      go_enter Tryd.func11, Tryd.ntmps11
      go_wp2_with ((go_at_call 19; ((with_reducible refine (WK.out _ (by (repeat' (first | (with_reducible exact Below.refl _ _) | (with_reducible refine Below.drew ?_) | (with_reducible refine below_drewN ?_ _) | ((with_reducible refine Below.setCell ?_ ?side_ _); case side_ => (first | (with_reducible exact Nat.le_refl _) | (with_reducible assumption) | omega | (simp; done) | (simp; omega))) | ((with_reducible refine Below.alloc ?_ ?side_ _); case side_ => (first | (with_reducible exact Nat.le_refl _) | (with_reducible assumption) | omega | (simp; done) | (simp; omega))))))).mono ?_); rintro e w1 ⟨rfl, hb1⟩; obtain ⟨hc1, hf1⟩ := Eq.bcell hb1; (try simp only [World.size_drew] at hc1 hf1); have hq1 := hb1.size; (try simp at hq1); have hz1_0 : w.heap.size < w1.heap.size := (by omega); clear hq1; have HB1 : Below w.heap.size w w1 := (by have z_hb1 := hb1.size; (try simp at z_hb1); (repeat' (first | (with_reducible exact Below.refl _ _) | (with_reducible refine Below.drew ?_) | (with_reducible refine below_drewN ?_ _) | ((with_reducible refine Below.setCell ?_ ?side_ _); case side_ => (first | (with_reducible exact Nat.le_refl _) | (with_reducible assumption) | omega | (simp; done) | (simp; omega))) | ((with_reducible refine Below.alloc ?_ ?side_ _); case side_ => (first | (with_reducible exact Nat.le_refl _) | (with_reducible assumption) | omega | (simp; done) | (simp; omega))) | ((with_reducible refine Below.trans ?_ (hb1.mono ?side_)); case side_ => (first | (with_reducible exact Nat.le_refl _) | (with_reducible assumption) | omega | (simp; done) | (simp; omega)))))))))
      go_ret
      exact ⟨rfl, HB1⟩
  · have nc' : 60 < cs.length := by omega
    clear nc hC hD hK
    go_enter Tryd.func11, Tryd.ntmps11
    go_wp2_with ((go_at_call 19; ((with_reducible refine (WK.out _ (by (repeat' (first | (with_reducible exact Below.refl _ _) | (with_reducible refine Below.drew ?_) | (with_reducible refine below_drewN ?_ _) | ((with_reducible refine Below.setCell ?_ ?side_ _); case side_ => (first | (with_reducible exact Nat.le_refl _) | (with_reducible assumption) | omega | (simp; done) | (simp; omega))) | ((with_reducible refine Below.alloc ?_ ?side_ _); case side_ => (first | (with_reducible exact Nat.le_refl _) | (with_reducible assumption) | omega | (simp; done) | (simp; omega))))))).mono ?_); rintro e w1 ⟨rfl, hb1⟩; obtain ⟨hc1, hf1⟩ := Eq.bcell hb1; (try simp only [World.size_drew] at hc1 hf1); have hq1 := hb1.size; (try simp at hq1); have hz1_0 : w.heap.size < w1.heap.size := (by omega); clear hq1; have HB1 : Below w.heap.size w w1 := (by have z_hb1 := hb1.size; (try simp at z_hb1); (repeat' (first | (with_reducible exact Below.refl _ _) | (with_reducible refine Below.drew ?_) | (with_reducible refine below_drewN ?_ _) | ((with_reducible refine Below.setCell ?_ ?side_ _); case side_ => (first | (with_reducible exact Nat.le_refl _) | (with_reducible assumption) | omega | (simp; done) | (simp; omega))) | ((with_reducible refine Below.alloc ?_ ?side_ _); case side_ => (first | (with_reducible exact Nat.le_refl _) | (with_reducible assumption) | omega | (simp; done) | (simp; omega))) | ((with_reducible refine Below.trans ?_ (hb1.mono ?side_)); case side_ => (first | (with_reducible exact Nat.le_refl _) | (with_reducible assumption) | omega | (simp; done) | (simp; omega)))))))))
    go_ret
    exact ⟨rfl, HB1⟩
end Go.Proofs.YtpmfcedhmfgkiaaDoor.Ops
