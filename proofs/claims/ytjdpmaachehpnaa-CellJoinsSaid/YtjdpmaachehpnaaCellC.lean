/- Package cell's All, walked: the iterator hands a strip's cells, in order. For all strips and widths that may be asked about. -/
import Derived.Test.YtjdpmaachehpnaaCellB
import Derived.Test.YtjdpmaachehpnaaKd
import Derived.Scope
namespace Go.Proofs.Ytjdpmaachehpnaa.Cell
open Go Go.RowKit Go.Shelf Range Go.Proofs.Ytjdpmaachehpnaa.PE Go.Proofs.YtjdpmaachehpnaaW.PrintWords Go.Proofs.YtjdpmaachehpnaaW.PrintLast Go.Proofs.YtjdpmaachehpnaaW.PrintMore Go.Proofs.Ytjdpmaachehpnaa.Num
set_option maxRecDepth 100000
set_option linter.unusedVariables false
set_option linter.unusedSimpArgs false
attribute [local go_sem] Oper.semAt_some max2_int min2_int max_two min_two

def encC (c : Cl) : Array Value := #[.int .i64 c.f0, .agg #[.int .i64 c.f1.f0, .int .i64 c.f1.f1]]
theorem all_calls (X0 Y0 X1 Y1 v : Int) (w : World) : Calls Try.prog 36 #[.agg #[.int .i64 X0, .int .i64 Y0, .int .i64 X1, .int .i64 Y1], .int .i64 v] w fun e w' => e = .returned (.func (.func 54) #[] #[.pointer (some ⟨w.heap.size, 0, none⟩), .pointer (some ⟨w.heap.size + 1, 0, none⟩)]) ∧ w' = (w.alloc (.cells #[.int .i64 X0, .int .i64 Y0, .int .i64 X1, .int .i64 Y1] 32)).alloc (.cells #[.int .i64 v] 3) := by
  go_enter Try.func36, Try.ntmps36
  go_wp2
  go_ret
  exact ⟨by simp, rfl⟩
theorem new4 (w : World) (x : Pc) (t : TypeId) : ∀ j u, ([.int .i64 x.f0, .int .i64 x.f1, .int .i64 x.f2, .int .i64 x.f3] : List Value)[j]? = some u → (w.alloc (.cells #[.int .i64 x.f0, .int .i64 x.f1, .int .i64 x.f2, .int .i64 x.f3] t)).cell? ⟨w.heap.size, j, none⟩ = some u := by
  intro j u hj
  match j, hj with
  | 0, hj => simp at hj ⊢; exact hj
  | 1, hj => simp at hj ⊢; exact hj
  | 2, hj => simp at hj ⊢; exact hj
  | 3, hj => simp at hj ⊢; exact hj
theorem cuts_mem {X0 Y0 X1 Y1 w : Int} (hd : Dom X0 Y0 X1 Y1 w) {k : Nat} {x : Pc} (hx : (cuts X0 Y0 X1 Y1 w)[k]? = some x) : (-17179869184 ≤ x.f0 ∧ x.f0 ≤ 17179869184) ∧ (0 ≤ x.f1 ∧ x.f1 ≤ 65536) ∧ (-17179869184 ≤ x.f2 ∧ x.f2 ≤ 17179869184) ∧ 0 ≤ x.f3 ∧ x.f3 ≤ 65536 := by
  have hk := (List.getElem?_eq_some_iff.1 hx).1
  rw [cuts_len] at hk
  rw [cuts_at hk] at hx
  obtain rfl := Option.some.inj hx
  obtain ⟨a1, a2⟩ := pX_in hd k
  obtain ⟨b1, b2⟩ := pX_in hd (k + 1)
  obtain ⟨c1, c2⟩ := pY_in hd k
  obtain ⟨e1, e2⟩ := pY_in hd (k + 1)
  have h0 := hd.x0
  have h1 := hd.x1
  have h2 := hd.y0
  have h3 := hd.y1
  show (_ ≤ pX X0 X1 w k ∧ pX X0 X1 w k ≤ _) ∧ (_ ≤ pY X0 Y0 X1 Y1 w k ∧ pY X0 Y0 X1 Y1 w k ≤ _) ∧ (_ ≤ pX X0 X1 w (k + 1) ∧ pX X0 X1 w (k + 1) ≤ _) ∧ _ ≤ pY X0 Y0 X1 Y1 w (k + 1) ∧ pY X0 Y0 X1 Y1 w (k + 1) ≤ _
  generalize pX X0 X1 w k = a at *
  generalize pX X0 X1 w (k + 1) = b at *
  generalize pY X0 Y0 X1 Y1 w k = c at *
  generalize pY X0 Y0 X1 Y1 w (k + 1) = e at *
  unfold mn at a1 b1 c1 e1
  unfold mx at a2 b2 c2 e2
  (repeat' split at a1) <;> (repeat' split at a2) <;> (repeat' split at b1) <;> (repeat' split at b2) <;> (repeat' split at c1) <;> (repeat' split at c2) <;> (repeat' split at e1) <;> (repeat' split at e2) <;> omega
theorem mul_in {a b : Int} (ha : -65536 ≤ a ∧ a ≤ 65536) (hb : -68719476736 ≤ b ∧ b ≤ 68719476736) : -4503599627370496 ≤ a * b ∧ a * b ≤ 4503599627370496 := by
  have h1 : (a * b).natAbs ≤ 65536 * 68719476736 := by rw [Int.natAbs_mul]; exact Nat.mul_le_mul (by omega) (by omega)
  omega
theorem cuts_short {X0 Y0 X1 Y1 w : Int} (hd : Dom X0 Y0 X1 Y1 w) : (cuts X0 Y0 X1 Y1 w).length ≤ 1000000 := by
  rw [cuts_len]; have := lN_le hd; have := hd.w1; omega
theorem cells_short {X0 Y0 X1 Y1 w : Int} (hd : Dom X0 Y0 X1 Y1 w) : (cells X0 Y0 X1 Y1 w).length ≤ 1000000 :=
  Nat.le_trans (List.length_filterMap_le _ _) (cuts_short hd)
theorem drop_none {α β : Type} {f : α → Option β} {xs : List α} {k m : Nat} {x : α} (hx : xs[k]? = some x) (hf : f x = none) (hd : (xs.filterMap f).drop m = (xs.drop k).filterMap f) : (xs.filterMap f).drop m = (xs.drop (k + 1)).filterMap f := by
  obtain ⟨hk, rfl⟩ := List.getElem?_eq_some_iff.1 hx
  rw [hd, List.drop_eq_getElem_cons hk, List.filterMap_cons, hf]
theorem drop_some {α β : Type} {f : α → Option β} {xs : List α} {k m : Nat} {x : α} {y : β} (hx : xs[k]? = some x) (hf : f x = some y) (hd : (xs.filterMap f).drop m = (xs.drop k).filterMap f) : (xs.filterMap f)[m]? = some y ∧ (xs.filterMap f).drop (m + 1) = (xs.drop (k + 1)).filterMap f := by
  obtain ⟨hk, rfl⟩ := List.getElem?_eq_some_iff.1 hx
  rw [List.drop_eq_getElem_cons hk, List.filterMap_cons, hf] at hd
  constructor
  · have := congrArg (·[0]?) hd; simpa using this
  · have := congrArg List.tail hd; simpa using this

set_option maxHeartbeats 8000000 in
theorem all_gives (n₀ B1 B2 : Nat) (X0 Y0 X1 Y1 v : Int) (hd : Dom X0 Y0 X1 Y1 v) (w : World) (hn : n₀ ≤ w.heap.size) (hb1 : B1 < w.heap.size) (hb2 : B2 < w.heap.size) (c0 : Four w B1 X0 Y0 X1 Y1) (c4 : w.cell? ⟨B2, 0, none⟩ = some (.int .i64 v)) :
    SeqN.Gives Try.prog 11 54 #[.pointer (some ⟨B1, 0, none⟩), .pointer (some ⟨B2, 0, none⟩)] encC n₀ [B1, B2] (cells X0 Y0 X1 Y1 v) w := by
  intro l J Jx W hW hJ hJx hY h0
  have hB1 := Nat.lt_of_lt_of_le hb1 hW.size
  have hB2 := Nat.lt_of_lt_of_le hb2 hW.size
  have hn := Nat.le_trans hn hW.size
  have D0 : Four W B1 X0 Y0 X1 Y1 := c0.of (hW.block B1 hb1)
  have d4 := (hW.cell (p := ⟨B2, 0, none⟩) hb2).trans c4
  clear hW hb1 hb2 c0 c4
  have CU := Lib.hid (fun w => cuts_calls X0 Y0 X1 Y1 v w)
  have CG := Lib.hid (fun B1 B2 => cuts_gives n₀ B1 B2 X0 Y0 X1 Y1 v hd)
  obtain ⟨d0, d1, d2, d3⟩ := D0
  have HBi : ∀ k A A', J k A → W.heap.size ≤ A.heap.size → SeqN.Win 11 W.heap.size A A' → J k A' := hJ
  have HBx : ∀ k A A', Jx k A → W.heap.size ≤ A.heap.size → SeqN.Win 11 W.heap.size A A' → Jx k A' := hJx
  refine callsIn_of_wp_marks Try.func54 rfl trivial ?_ rfl
  simp only [Try.ntmps54, List.size_toArray, List.length_cons, List.length_nil, Nat.reduceAdd, Nat.reduceSub, Array.replicate_succ, Array.replicate_zero, List.push_toArray, List.append_toArray, List.nil_append, List.cons_append]
  gi_wp2
  refine (show Code.wpIn Fence.wide 0 _ _ _ _ _ from wpIn_wide.2 (wp_scope_straight (wpIn_wide (n := 0).1 ?_)))
  show Code.wpIn (Seq.wideR none) 0 _ _ _ _ _
  apply wpIn_seq_k
  intro K hK
  apply wpIn_label
  apply hK
  clear hK K
  gi_wp2_with (gi_at_call 35; refine (Seq.of_calls (CU.out _)).mono ?_; rintro e w1 ⟨rfl, rfl⟩)
  obtain ⟨W0, hW0⟩ : ∃ W0, (((W.alloc (.cells #[.func (.yield l) #[] #[]] 96)).alloc (.cells #[.int .i64 X0, .int .i64 Y0, .int .i64 X1, .int .i64 Y1] 32)).alloc (.cells #[.int .i64 v] 3)) = W0 := ⟨_, rfl⟩
  have HB : Below W.heap.size W W0 := by rw [← hW0]; exact (((Below.refl _ W).alloc (Nat.le_refl _) _).alloc (by simp) _).alloc (by simp; omega) _
  have hsz : W0.heap.size = W.heap.size + 3 := by rw [← hW0]; simp
  have k0 : W0.cell? ⟨W.heap.size, 0, none⟩ = some (.func (.yield l) #[] #[]) := by subst hW0; go_simp
  have k1 : Four W0 (W.heap.size + 1) X0 Y0 X1 Y1 := by subst hW0; exact ⟨by go_simp, by go_simp, by go_simp, by go_simp⟩
  have q4 : W0.cell? ⟨W.heap.size + 2, 0, none⟩ = some (.int .i64 v) := by subst hW0; go_simp
  have qk : ∀ b ∈ [B1, B2], W0.heap[b]? = W.heap[b]? := fun b hb => HB.block b (by simp at hb; rcases hb with rfl | rfl <;> assumption)
  rw [hW0]
  clear hW0
  have CE : cells X0 Y0 X1 Y1 v = (cuts X0 Y0 X1 Y1 v).filterMap (cellOf v) := rfl
  refine KdX.with_frame fun T hT => ?_
  refine SeqN.range_ax (N := 6) (n₀ := n₀) (by rw [hT]; rfl) (enters_of Try.func51 (by kernel_rfl) rfl) (CG.out (W.heap.size + 1) (W.heap.size + 2) W0 (by omega) (by omega) (by omega) k1 q4) (by omega) (fun b hb => by simp at hb; omega) (Below.refl _ _) (fun _ => rfl)
    (fun k V => (∃ m, J m V ∧ (cells X0 Y0 X1 Y1 v).drop m = ((cuts X0 Y0 X1 Y1 v).drop k).filterMap (cellOf v) ∧ m ≤ (cells X0 Y0 X1 Y1 v).length) ∧ W0.heap.size ≤ V.heap.size ∧ V.cell? ⟨W.heap.size, 0, none⟩ = some (.func (.yield l) #[] #[]) ∧ ∀ b ∈ [B1, B2], V.heap[b]? = W.heap[b]?)
    (fun c k V => c = .ret ∧ (∃ m, m ≤ (cells X0 Y0 X1 Y1 v).length ∧ Jx m V) ∧ W0.heap.size ≤ V.heap.size)
    (fun k A B hs hA hw => by
      obtain ⟨⟨m, h1, h2, h3⟩, h4, h5, h6⟩ := hs
      exact ⟨⟨m, HBi m A B h1 (by omega) (hw.mono (by omega) (by omega)), h2, h3⟩, Nat.le_trans h4 hw.size, (hw.cell (p := ⟨W.heap.size, 0, none⟩) (by simp; omega) (.inl (by simp; omega))).trans h5, fun b hb2 => (hw.block b (by simp at hb2; omega) (.inl (by simp at hb2; omega))).trans (h6 b hb2)⟩)
    (fun c k A B hs hA hw => by
      obtain ⟨h1, ⟨m, h2, h3⟩, h4⟩ := hs
      exact ⟨h1, ⟨m, h2, HBx m A B h3 (by omega) (hw.mono (by omega) (by omega))⟩, Nat.le_trans h4 hw.size⟩)
    ⟨⟨0, HBi 0 _ _ h0 (Nat.le_refl _) (SeqN.Win.of_below HB), CE, Nat.zero_le _⟩, Nat.le_refl _, k0, qk⟩
    (fun x a' V => ∃ g, a' = { tmps := (T.setIfInBounds 10 (.agg #[.int .i64 x.f0, .int .i64 x.f1, .int .i64 x.f2, .int .i64 x.f3])).setIfInBounds 4 (.pointer (some ⟨g, 0, none⟩)), defers := [] } ∧ W0.heap.size ≤ g ∧ g < V.heap.size ∧ ∀ j u, ([.int .i64 x.f0, .int .i64 x.f1, .int .i64 x.f2, .int .i64 x.f3] : List Value)[j]? = some u → V.cell? ⟨g, j, none⟩ = some u)
    (fun x a' _ A B row hs hg hr => by
      obtain ⟨g, h1, h2, h3, h4⟩ := hs
      have hr' := fun r e => (hr r e).2
      exact ⟨g, h1, h2, Nat.lt_of_lt_of_le h3 hg.size, fun j u hj => cell_kept (h4 j u hj) hg hr'⟩) ?assign ?body ?done ?stop
  case assign =>
    intro l' k x V K hx hz ⟨⟨m, i1, i1', i1''⟩, i2, i3, i4⟩ hK
    subst hT
    unfold encP
    simp
    gi_wp2
    have hAl := fun o => (Below.refl V.heap.size V).alloc (Nat.le_refl _) o
    refine hK _ _ (SeqN.KeptN.alloc _ (by omega) (fun b hb => by simp at hb; omega))
      ⟨⟨m, HBi m V _ i1 (by omega) (SeqN.Win.of_below (hAl _)), i1', i1''⟩, by simp; omega, ((hAl _).cell (p := ⟨W.heap.size, 0, none⟩) (by simp; omega)).trans i3, fun b hb => ((hAl _).block b (by simp at hb; omega)).trans (i4 b hb)⟩
      ⟨V.heap.size, rfl, i2, by simp, new4 V x _⟩
  case body =>
    rintro l' k x a' V hl ⟨r, hr⟩ hx hz0 ⟨⟨m, i1, i1', i1''⟩, i2, i3, i4⟩ ⟨g, rfl, hg1, hg2, hgc⟩
    obtain ⟨⟨b0, b0'⟩, ⟨b1, b1'⟩, ⟨b2, b2'⟩, b3, b3'⟩ := cuts_mem hd hx
    have g0 := hgc 0 _ rfl
    have g1 := hgc 1 _ rfl
    have g2 := hgc 2 _ rfl
    have g3 := hgc 3 _ rfl
    have dV : V.cell? ⟨B2, 0, none⟩ = some (.int .i64 v) := (World.cell?_of_block (w := W) (a := ⟨B2, 0, none⟩) (i4 B2 (by simp))).trans d4
    have hw0 := hd.w0
    have hw1 := hd.w1
    have hlt0 : W.heap.size < V.heap.size := by omega
    have hlt2 : B2 < V.heap.size := by omega
    have HN : ∀ (A : World), cellOf v x = none → W0.heap.size ≤ A.heap.size → (∃ m, J m A ∧ (cells X0 Y0 X1 Y1 v).drop m = ((cuts X0 Y0 X1 Y1 v).drop k).filterMap (cellOf v) ∧ m ≤ (cells X0 Y0 X1 Y1 v).length) → (∃ m, J m A ∧ (cells X0 Y0 X1 Y1 v).drop m = ((cuts X0 Y0 X1 Y1 v).drop (k + 1)).filterMap (cellOf v) ∧ m ≤ (cells X0 Y0 X1 Y1 v).length) := fun A hf _ ⟨m, h1, h2, h3⟩ => ⟨m, h1, drop_none hx hf h2, h3⟩
    have HS : ∀ (y : Cl), cellOf v x = some y → (cells X0 Y0 X1 Y1 v)[m]? = some y ∧ (cells X0 Y0 X1 Y1 v).drop (m + 1) = ((cuts X0 Y0 X1 Y1 v).drop (k + 1)).filterMap (cellOf v) := fun y hf => drop_some hx hf i1'
    have HN := Lib.hid HN
    have HS := Lib.hid HS
    have HI := Lib.hid i1'
    clear hgc hx i1'
    obtain ⟨p0, p1, p2, p3⟩ := x
    have CD : cellOf v ⟨p0, p1, p2, p3⟩ = if p3 - p1 = 0 ∨ mn p0 p2 / 65536 ≥ v then none else if mn p0 p2 / 65536 < 0 then some ⟨0, ⟨p3 - p1, 0⟩⟩ else some ⟨mn p0 p2 / 65536, ⟨p3 - p1, (p3 - p1) * (p0 + p2 - 2 * (mn p0 p2 / 65536) * 65536)⟩⟩ := rfl
    dsimp only at b0 b0' b1 b1' b2 b2' b3 b3' g0 g1 g2 g3 ⊢
    have ed : wrap64 (p3 - p1) = p3 - p1 := w64 (by omega) (by omega)
    have em : (if p2 < p0 then p2 else p0) = mn p0 p2 := rfl
    have em1 : -17179869184 ≤ mn p0 p2 ∧ mn p0 p2 ≤ 17179869184 := by unfold mn; split <;> omega
    have eD : -65536 ≤ p3 - p1 ∧ p3 - p1 ≤ 65536 := by omega
    have eq1 : -262144 ≤ mn p0 p2 / 65536 ∧ mn p0 p2 / 65536 ≤ 262144 := by omega
    generalize mn p0 p2 = M at *
    obtain ⟨D, hD⟩ : ∃ D, p3 - p1 = D := ⟨_, rfl⟩
    obtain ⟨q, hq⟩ : ∃ q, M / 65536 = q := ⟨_, rfl⟩
    rw [hD] at eD CD ed
    rw [hq] at eq1 CD
    have CDh := Lib.hid CD
    have hAlV : ∀ o, Below V.heap.size V (V.alloc o) := fun o => (Below.refl _ V).alloc (Nat.le_refl _) o
    have hAl : ∀ o, SeqN.Win 11 W.heap.size V (V.alloc o) := fun o => SeqN.Win.of_below (hAlV o)
    clear CD em1
    subst hl
    subst hT
    simp
    by_cases hz : D = 0
    · gi_wp2
      exact ⟨SeqN.KeptN.alloc _ (by omega) (fun b hb => by simp at hb; omega), HN.out _ (CDh.out.trans (if_pos (.inl hz))) (by simp; omega) ⟨m, HBi m V _ i1 (by omega) (hAl _), HI.out, i1''⟩, by simp; omega, ((hAlV _).cell (p := ⟨W.heap.size, 0, none⟩) hlt0).trans i3, ((hAlV _).block B1 (by omega)).trans (i4 B1 (by simp)), ((hAlV _).block B2 hlt2).trans (i4 B2 (by simp))⟩
    · have hz2 : (D == 0) = false := by simpa using hz
      by_cases hge : v ≤ q
      · gi_wp2
        exact ⟨SeqN.KeptN.alloc _ (by omega) (fun b hb => by simp at hb; omega), HN.out _ (CDh.out.trans (if_pos (.inr hge))) (by simp; omega) ⟨m, HBi m V _ i1 (by omega) (hAl _), HI.out, i1''⟩, by simp; omega, ((hAlV _).cell (p := ⟨W.heap.size, 0, none⟩) hlt0).trans i3, ((hAlV _).block B1 (by omega)).trans (i4 B1 (by simp)), ((hAlV _).block B2 hlt2).trans (i4 B2 (by simp))⟩
      · by_cases hneg : q < 0
        · gi_wp2
          obtain ⟨V2, hV2⟩ : ∃ V2, V.alloc (.cells #[.int .i64 D, .int .i64 0] 56) = V2 := ⟨_, rfl⟩
          have hEV : Below V.heap.size V V2 := by rw [← hV2]; exact hAlV _
          have hs2 : V2.heap.size = V.heap.size + 1 := by rw [← hV2]; simp
          obtain ⟨y, hyd⟩ : ∃ y : Cl, y = ⟨0, ⟨D, 0⟩⟩ := ⟨_, rfl⟩
          obtain ⟨hy1, hy2'⟩ := HS.out y (CDh.out.trans (by rw [if_neg (by omega), if_pos hneg, hyd]))
          have hyf : y.f0 = 0 ∧ y.f1.f0 = D ∧ y.f1.f1 = 0 := by rw [hyd]; exact ⟨rfl, rfl, rfl⟩
          clear hyd
          obtain ⟨yf0, yf1, yf2⟩ := hyf
          rw [hV2, ← yf0, ← yf1]
          rw [show (Value.agg #[.int .i64 y.f1.f0, .int .i64 y.f0]) = .agg #[.int .i64 y.f1.f0, .int .i64 y.f1.f1] by rw [yf0, yf2]]
          have hml := (List.getElem?_eq_some_iff.1 hy1).1
          have hsW := hEV.size
          clear yf0 yf1 yf2 hV2
          obtain ⟨fn, tmps, assign, body, hy2, hR⟩ := hY m y V2 hy1 (by omega) (HBi m V V2 i1 (by omega) (SeqN.Win.of_below hEV))
          have hR := Seq.roundIn_any (ro' := some (W0.heap.size + 1)) (n' := 0 - 1) hR
          unfold encC at hy2
          rw [hy2]
          have HY2 := Lib.hid hy2'
          clear hy2' hY
          gi_wp2
          refine hR.mono ?_
          rintro e3 W3 (⟨rfl, hJ3, hk3⟩ | ⟨rfl, hJx3, hk3⟩)
          all_goals
            have hs3 := hk3.1.size
            have hb3 : ∀ b, W.heap.size ≤ b → b < W.heap.size + 11 → b < V.heap.size → W3.heap[b]? = V.heap[b]? := fun b h1 h2 h3 => (hk3.2.1 b h1 h2 (by omega)).trans (hEV.block b h3)
            have hE3 : SeqN.KeptN 8 n₀ [W.heap.size + 1, W.heap.size + 2] W0.heap.size V W3 := ⟨(hEV.mono (by omega)).trans hk3.1, fun b h1 h2 h3 => hb3 b (by omega) (by omega) h3, fun b hb => hb3 b (by simp at hb; omega) (by simp at hb; omega) (by simp at hb; omega)⟩
            gi_wp2
          · exact ⟨hE3, ⟨m + 1, hJ3, HY2.out, hml⟩, by omega, (World.cell?_of_block (w := V) (a := ⟨W.heap.size, 0, none⟩) (hb3 _ (Nat.le_refl _) (by simp) hlt0)).trans i3, (hk3.2.2 B1 (by simp)).trans ((hEV.block B1 (by omega)).trans (i4 B1 (by simp))), (hk3.2.2 B2 (by simp)).trans ((hEV.block B2 (by omega)).trans (i4 B2 (by simp)))⟩
          · exact ⟨hE3, rfl, ⟨m + 1, hml, hJx3⟩, by omega⟩
        · have e1 : wrap64 (p0 + p2) = p0 + p2 := w64 (by omega) (by omega)
          have e2 : wrap64 (2 * q) = 2 * q := w64 (by omega) (by omega)
          have e3 : wrap64 (2 * q * 65536) = 2 * q * 65536 := w64 (by omega) (by omega)
          have e4 : wrap64 (p0 + p2 - 2 * q * 65536) = p0 + p2 - 2 * q * 65536 := w64 (by omega) (by omega)
          have e5 := mul_in (b := p0 + p2 - 2 * q * 65536) eD (by omega)
          have e6 : wrap64 (D * (p0 + p2 - 2 * q * 65536)) = D * (p0 + p2 - 2 * q * 65536) := w64 (by omega) (by omega)
          have CE2 := CDh.out.trans (by rw [if_neg (by omega), if_neg hneg] : _ = some (⟨q, ⟨D, D * (p0 + p2 - 2 * q * 65536)⟩⟩ : Cl))
          clear CDh
          obtain ⟨ar, har⟩ : ∃ ar, D * (p0 + p2 - 2 * q * 65536) = ar := ⟨_, rfl⟩
          rw [har] at e5 e6 CE2
          have CE2 := Lib.hid CE2
          gi_wp2
          obtain ⟨V2, hV2⟩ : ∃ V2, V.alloc (.cells #[.int .i64 D, .int .i64 ar] 56) = V2 := ⟨_, rfl⟩
          have hEV : Below V.heap.size V V2 := by rw [← hV2]; exact hAlV _
          have hs2 : V2.heap.size = V.heap.size + 1 := by rw [← hV2]; simp
          obtain ⟨y, hyd⟩ : ∃ y : Cl, y = ⟨q, ⟨D, ar⟩⟩ := ⟨_, rfl⟩
          obtain ⟨hy1, hy2'⟩ := HS.out y (CE2.out.trans (by rw [hyd]))
          have hyf : y.f0 = q ∧ y.f1.f0 = D ∧ y.f1.f1 = ar := by rw [hyd]; exact ⟨rfl, rfl, rfl⟩
          clear hyd
          obtain ⟨yf0, yf1, yf2⟩ := hyf
          rw [hV2, ← yf0, ← yf1, ← yf2]
          have hml := (List.getElem?_eq_some_iff.1 hy1).1
          have hsW := hEV.size
          clear har yf0 yf1 yf2 hV2
          obtain ⟨fn, tmps, assign, body, hy2, hR⟩ := hY m y V2 hy1 (by omega) (HBi m V V2 i1 (by omega) (SeqN.Win.of_below hEV))
          have hR := Seq.roundIn_any (ro' := some (W0.heap.size + 1)) (n' := 0 - 1) hR
          unfold encC at hy2
          rw [hy2]
          have HY2 := Lib.hid hy2'
          clear hy2' hY
          gi_wp2
          refine hR.mono ?_
          rintro e3 W3 (⟨rfl, hJ3, hk3⟩ | ⟨rfl, hJx3, hk3⟩)
          all_goals
            have hs3 := hk3.1.size
            have hb3 : ∀ b, W.heap.size ≤ b → b < W.heap.size + 11 → b < V.heap.size → W3.heap[b]? = V.heap[b]? := fun b h1 h2 h3 => (hk3.2.1 b h1 h2 (by omega)).trans (hEV.block b h3)
            have hE3 : SeqN.KeptN 8 n₀ [W.heap.size + 1, W.heap.size + 2] W0.heap.size V W3 := ⟨(hEV.mono (by omega)).trans hk3.1, fun b h1 h2 h3 => hb3 b (by omega) (by omega) h3, fun b hb => hb3 b (by simp at hb; omega) (by simp at hb; omega) (by simp at hb; omega)⟩
            gi_wp2
          · exact ⟨hE3, ⟨m + 1, hJ3, HY2.out, hml⟩, by omega, (World.cell?_of_block (w := V) (a := ⟨W.heap.size, 0, none⟩) (hb3 _ (Nat.le_refl _) (by simp) hlt0)).trans i3, (hk3.2.2 B1 (by simp)).trans ((hEV.block B1 (by omega)).trans (i4 B1 (by simp))), (hk3.2.2 B2 (by simp)).trans ((hEV.block B2 (by omega)).trans (i4 B2 (by simp)))⟩
          · exact ⟨hE3, rfl, ⟨m + 1, hml, hJx3⟩, by omega⟩
  case done =>
    rintro V hz ⟨⟨m, i1, i1', i1''⟩, i2, i3, i4⟩ hK
    have hm : m = (cells X0 Y0 X1 Y1 v).length := by
      have := congrArg List.length i1'
      rw [List.length_drop, List.drop_length, List.filterMap_nil, List.length_nil] at this
      omega
    have hP3 : SeqN.Win 11 W.heap.size V (V.putObj W0.heap.size (.deferred none)) := SeqN.Win.put (by omega) (by omega) _
    subst hT
    gi_wp2
    refine ⟨by simp, .inl ⟨_, _, rfl, run_takeDeferred hK, ?_⟩⟩
    exact ⟨.tuple #[], by simp [results, Try.f54, go_sem], ⟨_, rfl⟩, .inl (by rw [← hm]; exact HBi _ _ _ i1 (by omega) hP3)⟩
  case stop =>
    rintro c k V hk hz ⟨rfl, ⟨m, hm, hx⟩, hs⟩ hK
    have hP3 : SeqN.Win 11 W.heap.size V (V.putObj W0.heap.size (.deferred none)) := SeqN.Win.put (by omega) (by omega) _
    subst hT
    gi_wp2
    refine ⟨by simp, .inl ⟨_, _, rfl, run_takeDeferred hK, ?_⟩⟩
    exact ⟨.tuple #[], by simp [results, Try.f54, go_sem], ⟨_, rfl⟩, .inr ⟨m, hm, HBx m _ _ hx (by omega) hP3⟩⟩
end Go.Proofs.Ytjdpmaachehpnaa.Cell
