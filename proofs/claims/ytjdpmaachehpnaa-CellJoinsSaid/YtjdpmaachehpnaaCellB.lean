/- Package cell's Cuts, walked: the iterator hands a strip's pieces, in order. It keeps the piece in a cell of its own. For all strips and widths that may be asked about. -/
import Derived.Test.YtjdpmaachehpnaaCellA
import Derived.Test.YtjdpmaachehpnaaSeqN
import Derived.Test.YtjdpmaachehpnaaKd
namespace Go.Proofs.Ytjdpmaachehpnaa.Cell
open Go Go.RowKit Go.Shelf Range Go.Proofs.Ytjdpmaachehpnaa.PE Go.Proofs.YtjdpmaachehpnaaW.PrintWords Go.Proofs.YtjdpmaachehpnaaW.PrintLast Go.Proofs.YtjdpmaachehpnaaW.PrintMore Go.Proofs.Ytjdpmaachehpnaa.Num
set_option maxRecDepth 100000
set_option linter.unusedVariables false
set_option linter.unusedSimpArgs false
attribute [local go_sem] Oper.semAt_some

def encP (p : Pc) : Array Value := #[.agg #[.int .i64 p.f0, .int .i64 p.f1, .int .i64 p.f2, .int .i64 p.f3]]
theorem cuts_calls (X0 Y0 X1 Y1 v : Int) (w : World) : Calls Try.prog 35 #[.agg #[.int .i64 X0, .int .i64 Y0, .int .i64 X1, .int .i64 Y1], .int .i64 v] w fun e w' => e = .returned (.func (.func 51) #[] #[.pointer (some ⟨w.heap.size, 0, none⟩), .pointer (some ⟨w.heap.size + 1, 0, none⟩)]) ∧ w' = (w.alloc (.cells #[.int .i64 X0, .int .i64 Y0, .int .i64 X1, .int .i64 Y1] 32)).alloc (.cells #[.int .i64 v] 3) := by
  go_enter Try.func35, Try.ntmps35
  go_wp2
  go_ret
  exact ⟨by simp, rfl⟩

section
variable {W A : World} {b : Nat}
/-- A variable of four numbers in memory. -/
def Four (W : World) (b : Nat) (a c d e : Int) : Prop := W.cell? ⟨b, 0, none⟩ = some (.int .i64 a) ∧ W.cell? ⟨b, 1, none⟩ = some (.int .i64 c) ∧ W.cell? ⟨b, 2, none⟩ = some (.int .i64 d) ∧ W.cell? ⟨b, 3, none⟩ = some (.int .i64 e)
def Free4 (W : World) (b : Nat) : Prop := W.frozen? ⟨b, 0, none⟩ = false ∧ W.frozen? ⟨b, 1, none⟩ = false ∧ W.frozen? ⟨b, 2, none⟩ = false ∧ W.frozen? ⟨b, 3, none⟩ = false
theorem Four.of {a c d e : Int} (h : Four W b a c d e) (hh : A.heap[b]? = W.heap[b]?) : Four A b a c d e :=
  ⟨(World.cell?_of_block (w := W) (a := ⟨b, 0, none⟩) hh).trans h.1, (World.cell?_of_block (w := W) (a := ⟨b, 1, none⟩) hh).trans h.2.1, (World.cell?_of_block (w := W) (a := ⟨b, 2, none⟩) hh).trans h.2.2.1, (World.cell?_of_block (w := W) (a := ⟨b, 3, none⟩) hh).trans h.2.2.2⟩
theorem Free4.of (h : Free4 W b) (hh : A.heap[b]? = W.heap[b]?) : Free4 A b :=
  ⟨(World.frozen?_of_block (w := W) (a := ⟨b, 0, none⟩) hh).trans h.1, (World.frozen?_of_block (w := W) (a := ⟨b, 1, none⟩) hh).trans h.2.1, (World.frozen?_of_block (w := W) (a := ⟨b, 2, none⟩) hh).trans h.2.2.1, (World.frozen?_of_block (w := W) (a := ⟨b, 3, none⟩) hh).trans h.2.2.2⟩
theorem Four.kept {a c d e : Int} {row : Option Nat} (h : Four W b a c d e) (hg : W.grownBy A row) (hr : ∀ r, row = some r → ∃ o, W.heap[r]? = some o ∧ o.isCells = false) : Four A b a c d e :=
  ⟨cell_kept h.1 hg hr, cell_kept h.2.1 hg hr, cell_kept h.2.2.1 hg hr, cell_kept h.2.2.2 hg hr⟩
theorem Free4.kept {a c d e : Int} {row : Option Nat} (h : Free4 W b) (hc : Four W b a c d e) (hg : W.grownBy A row) (hr : ∀ r, row = some r → ∃ o, W.heap[r]? = some o ∧ o.isCells = false) : Free4 A b :=
  ⟨(frozen_kept hc.1 hg hr).trans h.1, (frozen_kept hc.2.1 hg hr).trans h.2.1, (frozen_kept hc.2.2.1 hg hr).trans h.2.2.1, (frozen_kept hc.2.2.2 hg hr).trans h.2.2.2⟩
end

set_option maxHeartbeats 8000000 in
theorem cuts_gives (n₀ B1 B2 : Nat) (X0 Y0 X1 Y1 v : Int) (hd : Dom X0 Y0 X1 Y1 v) (w : World) (hn : n₀ ≤ w.heap.size) (hb1 : B1 < w.heap.size) (hb2 : B2 < w.heap.size) (c0 : Four w B1 X0 Y0 X1 Y1) (c4 : w.cell? ⟨B2, 0, none⟩ = some (.int .i64 v)) :
    SeqN.Gives Try.prog 6 51 #[.pointer (some ⟨B1, 0, none⟩), .pointer (some ⟨B2, 0, none⟩)] encP n₀ [B1, B2] (cuts X0 Y0 X1 Y1 v) w := by
  intro l J Jx W hW hJ hJx hY h0
  have hB1 := Nat.lt_of_lt_of_le hb1 hW.size
  have hB2 := Nat.lt_of_lt_of_le hb2 hW.size
  have hn := Nat.le_trans hn hW.size
  have D0 : Four W B1 X0 Y0 X1 Y1 := c0.of (hW.block B1 hb1)
  have d4 := (hW.cell (p := ⟨B2, 0, none⟩) hb2).trans c4
  clear hW hb1 hb2 c0 c4
  have LN := Lib.hid (fun w => lines_calls X0 Y0 X1 Y1 v w)
  have LG := Lib.hid (fun B1 B2 w h1 h2 h3 h4 h5 => SeqN.of_plain (lines_gives n₀ B1 B2 X0 Y0 X1 Y1 v hd w h1 h2 h3 h4 h5))
  obtain ⟨d0, d1, d2, d3⟩ := D0
  refine callsIn_of_wp_marks Try.func51 rfl trivial ?_ rfl
  simp only [Try.ntmps51, List.size_toArray, List.length_cons, List.length_nil, Nat.reduceAdd, Nat.reduceSub, Array.replicate_succ, Array.replicate_zero, List.push_toArray, List.append_toArray, List.nil_append, List.cons_append]
  gi_wp2_with (gi_at_call 52; refine (Seq.of_calls (LN.out _)).mono ?_; rintro e w1 ⟨rfl, rfl⟩)
  obtain ⟨W0, hW0⟩ : ∃ W0, ((((W.alloc (.cells #[.func (.yield l) #[] #[]] 47)).alloc (.cells #[.int .i64 X0, .int .i64 Y0, .int .i64 X1, .int .i64 Y1] 32)).alloc (.cells #[.int .i64 X0, .int .i64 Y0, .int .i64 X1, .int .i64 Y1] 32)).alloc (.cells #[.int .i64 v] 3)) = W0 := ⟨_, rfl⟩
  have HB : Below W.heap.size W W0 := by rw [← hW0]; exact ((((Below.refl _ W).alloc (Nat.le_refl _) _).alloc (by simp) _).alloc (by simp; omega) _).alloc (by simp; omega) _
  have hsz : W0.heap.size = W.heap.size + 4 := by rw [← hW0]; simp
  have k0 : W0.cell? ⟨W.heap.size, 0, none⟩ = some (.func (.yield l) #[] #[]) := by subst hW0; go_simp
  have k1 : Four W0 (W.heap.size + 1) X0 Y0 X1 Y1 := by subst hW0; exact ⟨by go_simp, by go_simp, by go_simp, by go_simp⟩
  have k2 : Free4 W0 (W.heap.size + 1) := by subst hW0; exact ⟨by go_simp, by go_simp, by go_simp, by go_simp⟩
  have q0 : W0.cell? ⟨W.heap.size + 2, 0, none⟩ = some (.int .i64 X0) := by subst hW0; go_simp
  have q2 : W0.cell? ⟨W.heap.size + 2, 2, none⟩ = some (.int .i64 X1) := by subst hW0; go_simp
  have q4 : W0.cell? ⟨W.heap.size + 3, 0, none⟩ = some (.int .i64 v) := by subst hW0; go_simp
  have qk : ∀ b ∈ [B1, B2], W0.heap[b]? = W.heap[b]? := fun b hb => HB.block b (by simp at hb; rcases hb with rfl | rfl <;> assumption)
  rw [hW0]
  clear hW0
  refine KdX.with_frame fun T hT => ?_
  have HBi : ∀ k A A', J k A → W.heap.size ≤ A.heap.size → SeqN.Win 6 W.heap.size A A' → J k A' := hJ
  have HBx : ∀ k A A', Jx k A → W.heap.size ≤ A.heap.size → SeqN.Win 6 W.heap.size A A' → Jx k A' := hJx
  refine SeqN.range_ax (N := 0) (n₀ := n₀) (by rw [hT]; rfl) (enters_of Try.func62 (by kernel_rfl) rfl) (LG.out (W.heap.size + 2) (W.heap.size + 3) W0 (by omega) (by omega) q0 q2 q4) (by omega) (fun b hb => by simp at hb) (Below.refl _ _) (fun _ => rfl)
    (fun k V => (J k V ∧ W0.heap.size ≤ V.heap.size) ∧ V.cell? ⟨W.heap.size, 0, none⟩ = some (.func (.yield l) #[] #[]) ∧ (∃ d e, Four V (W.heap.size + 1) (pX X0 X1 v k) (pY X0 Y0 X1 Y1 v k) d e) ∧ Free4 V (W.heap.size + 1) ∧ ∀ b ∈ [B1, B2], V.heap[b]? = W.heap[b]?)
    (fun c k V => c = .ret ∧ Jx k V ∧ W0.heap.size ≤ V.heap.size)
    (fun k A B hs hA hw => by
      obtain ⟨⟨h1, h2⟩, h3, ⟨d, e, h4⟩, h5, h6⟩ := hs
      have hw2 : SeqN.Win 6 W.heap.size A B := hw.mono (by omega) (by omega)
      have hP := hw.block (W.heap.size + 1) (by omega) (.inl (by omega))
      exact ⟨⟨HBi k A B h1 (by omega) hw2, Nat.le_trans h2 hw.size⟩, (hw.cell (p := ⟨W.heap.size, 0, none⟩) (by simp; omega) (.inl (by simp; omega))).trans h3, ⟨d, e, h4.of hP⟩, h5.of hP, fun b hb => (hw.block b (by simp at hb; omega) (.inl (by simp at hb; omega))).trans (h6 b hb)⟩)
    (fun c k A B hs hA hw => by
      obtain ⟨h1, h2, h3⟩ := hs
      exact ⟨h1, HBx k A B h2 (by omega) (hw.mono (by omega) (by omega)), Nat.le_trans h3 hw.size⟩)
    ⟨⟨HBi 0 _ _ h0 (Nat.le_refl _) (SeqN.Win.of_below HB), Nat.le_refl _⟩, k0, ⟨X1, Y1, by simp only [pX, pY]; exact k1⟩, k2, qk⟩
    (fun x a' _ => a' = { tmps := ((T.setIfInBounds 10 (.int .i64 x)).setIfInBounds 5 (.int .i64 x)), defers := [] }) (fun _ _ _ _ _ _ hs _ _ => hs) ?assign ?body ?done ?stop
  case assign =>
    intro l' k x V K hx hz hI hK
    subst hT
    unfold encI
    simp
    gi_wp2
    exact hK _ _ SeqN.KeptN.refl hI rfl
  case body =>
    rintro l' k x a' V hl ⟨r, hr⟩ hx hz ⟨⟨i1, i2⟩, i3, ⟨d, e, i4, i5, i6, i7⟩, ⟨f4, f5, f6, f7⟩, i8⟩ rfl
    subst hl
    subst hT
    have hk : k < lN X0 X1 v := by have := (List.getElem?_eq_some_iff.1 hx).1; rwa [lns_len] at this
    have hxe : x = lK X0 X1 v k * 65536 := by rw [lns_at hk] at hx; exact (Option.some.inj hx).symm
    have hpx : Hid (pX X0 X1 v (k + 1) = x) := Lib.hid (by unfold pX; rw [if_neg (by omega), if_pos (by omega), hxe]; rfl)
    have hpy : Hid (pY X0 Y0 X1 Y1 v (k + 1) = hAt X0 Y0 X1 Y1 x) := Lib.hid (by unfold pY; rw [if_neg (by omega), if_pos (by omega), hxe]; rfl)
    have HT := Lib.hid (fun w => cell_height.calls X0 Y0 X1 Y1 x _ w (height_f hd (by rw [hxe]; exact line_lt hd hk)))
    have hc := Lib.hid (cuts_at (Y0 := Y0) (Y1 := Y1) (show k < lN X0 X1 v + 1 by omega))
    have HY := Lib.hid (hY k _ · hc.out)
    have hpc : piece X0 Y0 X1 Y1 v k = ⟨pX X0 X1 v k, pY X0 Y0 X1 Y1 v k, x, hAt X0 Y0 X1 Y1 x⟩ := by unfold piece; rw [hpx.out, hpy.out]
    rw [hpc] at HY
    obtain ⟨g0, g1, g2, g3⟩ := (show Four W B1 X0 Y0 X1 Y1 from ⟨d0, d1, d2, d3⟩).of (i8 B1 (by simp))
    clear hx hc hpc hxe
    generalize pX X0 X1 v k = a at *
    generalize pY X0 Y0 X1 Y1 v k = c at *
    generalize hAt X0 Y0 X1 Y1 x = y at *
    have hlt0 : W.heap.size < V.heap.size := by omega
    have hlt1 : W.heap.size + 1 < V.heap.size := by omega
    have hlb : ∀ b ∈ [B1, B2], b < V.heap.size := fun b hb => by simp at hb; omega
    simp
    gi_wp2_with (gi_at_call 53; refine (Seq.of_calls (HT.out _)).mono ?_; rintro e2 w2 ⟨rfl, hb2⟩; have m3 := (hb2.cell (p := ⟨W.heap.size, 0, none⟩) hlt0).trans i3; have m4 := (hb2.cell (p := ⟨W.heap.size + 1, 0, none⟩) hlt1).trans i4; have m5 := (hb2.cell (p := ⟨W.heap.size + 1, 1, none⟩) hlt1).trans i5; have m6 := (hb2.cell (p := ⟨W.heap.size + 1, 2, none⟩) hlt1).trans i6; have m7 := (hb2.cell (p := ⟨W.heap.size + 1, 3, none⟩) hlt1).trans i7; have o4 := (hb2.frozen (p := ⟨W.heap.size + 1, 0, none⟩) hlt1).trans f4; have o5 := (hb2.frozen (p := ⟨W.heap.size + 1, 1, none⟩) hlt1).trans f5; have o6 := (hb2.frozen (p := ⟨W.heap.size + 1, 2, none⟩) hlt1).trans f6; have o7 := (hb2.frozen (p := ⟨W.heap.size + 1, 3, none⟩) hlt1).trans f7)
    obtain ⟨W2, hW2⟩ : ∃ W2, (w2.setCell ⟨W.heap.size + 1, 2, none⟩ (.int .i64 x)).setCell ⟨W.heap.size + 1, 3, none⟩ (.int .i64 y) = W2 := ⟨_, rfl⟩
    have hV2 : V.heap.size ≤ w2.heap.size := hb2.size
    have hs2 : W2.heap.size = w2.heap.size := by rw [← hW2]; simp
    have hE2 : SeqN.Win 6 W.heap.size V W2 := by rw [← hW2]; exact ((SeqN.Win.of_below hb2).trans (SeqN.Win.set (by simp) (by simp) _)).trans (SeqN.Win.set (by simp) (by simp) _)
    have hK2 : ∀ b, W0.heap.size ≤ b → b < V.heap.size → W2.heap[b]? = V.heap[b]? := fun b h1 h2 => by rw [← hW2]; exact (Below.heap_setCell _ _ _ b (by simp; omega)).trans ((Below.heap_setCell _ _ _ b (by simp; omega)).trans (hb2.block b h2))
    have n3 : W2.cell? ⟨W.heap.size, 0, none⟩ = some (.func (.yield l) #[] #[]) := by subst hW2; go_simp
    have n4 : Four W2 (W.heap.size + 1) a c x y := by subst hW2; exact ⟨by go_simp, by go_simp, by go_simp, by go_simp⟩
    have n5 : Free4 W2 (W.heap.size + 1) := by subst hW2; exact ⟨by go_simp, by go_simp, by go_simp, by go_simp⟩
    have n8 : ∀ b ∈ [B1, B2], W2.heap[b]? = W.heap[b]? := fun b hb => (hE2.block b (by simp at hb; omega) (.inl (by simp at hb; omega))).trans (i8 b hb)
    rw [hW2]
    clear hW2
    obtain ⟨fn, tmps, assign, body, hy2, hR⟩ := HY.out W2 (by omega) (HBi k V W2 i1 (by omega) hE2)
    have hR := Seq.roundIn_any (ro' := some (W0.heap.size + 1)) (n' := 0 - 1) hR
    unfold encP at hy2
    rw [hy2]
    gi_wp2
    refine hR.mono ?_
    rintro e3 W3 (⟨rfl, hJ3, hk3⟩ | ⟨rfl, hJx3, hk3⟩)
    all_goals
      have hs3 := hk3.1.size
      have hE3 : Below n₀ V W3 := (hE2.below hn (by omega)).trans hk3.1
      have hP3 := hk3.2.1 (W.heap.size + 1) (by omega) (by omega) (by omega)
      have p3 := (World.cell?_of_block (w := W2) (a := ⟨W.heap.size, 0, none⟩) (hk3.2.1 W.heap.size (by omega) (by omega) (by omega))).trans n3
      obtain ⟨p4, p5, p6, p7⟩ := n4.of hP3
      obtain ⟨o4', o5', o6', o7'⟩ := n5.of hP3
      have p8 : ∀ b ∈ [B1, B2], W3.heap[b]? = W.heap[b]? := fun b hb => (hk3.2.2 b hb).trans (n8 b hb)
      gi_wp2
    · obtain ⟨W4, hW4⟩ : ∃ W4, (W3.setCell ⟨W.heap.size + 1, 0, none⟩ (.int .i64 x)).setCell ⟨W.heap.size + 1, 1, none⟩ (.int .i64 y) = W4 := ⟨_, rfl⟩
      have hE4 : SeqN.Win 6 W.heap.size W3 W4 := by subst hW4; exact (SeqN.Win.set (by simp) (by simp) _).trans (SeqN.Win.set (by simp) (by simp) _)
      have hK4 : ∀ b, W0.heap.size ≤ b → b < W3.heap.size → W4.heap[b]? = W3.heap[b]? := fun b h1 h2 => by subst hW4; exact (Below.heap_setCell _ _ _ b (by simp; omega)).trans (Below.heap_setCell _ _ _ b (by simp; omega))
      have u3 : W4.cell? ⟨W.heap.size, 0, none⟩ = some (.func (.yield l) #[] #[]) := by subst hW4; go_simp
      have u4 : Four W4 (W.heap.size + 1) x y x y := by subst hW4; exact ⟨by go_simp, by go_simp, by go_simp, by go_simp⟩
      have u5 : Free4 W4 (W.heap.size + 1) := by subst hW4; exact ⟨by go_simp, by go_simp, by go_simp, by go_simp⟩
      have u8 : ∀ b ∈ [B1, B2], W4.heap[b]? = W.heap[b]? := fun b hb => (hE4.block b (by simp at hb; omega) (.inl (by simp at hb; omega))).trans (p8 b hb)
      rw [hW4]
      have hs4 := hE4.size
      exact ⟨⟨hE3.trans (hE4.below hn (by omega)), fun b h1 h2 h3 => (hK4 b h1 (by omega)).trans ((hk3.2.1 b (by omega) (by omega) (by omega)).trans (hK2 b h1 h3)), fun b hb => by simp at hb⟩, ⟨HBi _ _ _ hJ3 (by omega) hE4, by omega⟩, u3, ⟨x, y, by rw [hpx.out, hpy.out]; exact u4⟩, u5, u8 B1 (by simp), u8 B2 (by simp)⟩
    · exact ⟨⟨hE3, fun b h1 h2 h3 => (hk3.2.1 b (by omega) (by omega) (by omega)).trans (hK2 b h1 h3), fun b hb => by simp at hb⟩, rfl, hJx3, by omega⟩
  case done =>
    rintro V hz ⟨⟨i1, i2⟩, i3, ⟨d, e, i4, i5, i6, i7⟩, ⟨f4, f5, f6, f7⟩, i8⟩ hK
    subst hT
    rw [lns_len] at i1 i4 i5
    have hpx : pX X0 X1 v (lN X0 X1 v + 1) = X1 := by unfold pX; rw [if_neg (by omega), if_neg (by omega)]
    have hpy : pY X0 Y0 X1 Y1 v (lN X0 X1 v + 1) = Y1 := by unfold pY; rw [if_neg (by omega), if_neg (by omega)]
    have hc := Lib.hid (cuts_at (Y0 := Y0) (Y1 := Y1) (show lN X0 X1 v < lN X0 X1 v + 1 by omega))
    have HY := Lib.hid (hY (lN X0 X1 v) _ · hc.out)
    have hpc : piece X0 Y0 X1 Y1 v (lN X0 X1 v) = ⟨pX X0 X1 v (lN X0 X1 v), pY X0 Y0 X1 Y1 v (lN X0 X1 v), X1, Y1⟩ := by unfold piece; rw [hpx, hpy]
    rw [hpc] at HY
    obtain ⟨g0, g1, g2, g3⟩ := (show Four W B1 X0 Y0 X1 Y1 from ⟨d0, d1, d2, d3⟩).of (i8 B1 (by simp))
    clear hc hpc hpx hpy
    generalize pX X0 X1 v (lN X0 X1 v) = a at *
    generalize pY X0 Y0 X1 Y1 v (lN X0 X1 v) = c at *
    have hlt0 : W.heap.size < V.heap.size := by omega
    have hlt1 : W.heap.size + 1 < V.heap.size := by omega
    gi_wp2
    refine (show Code.wpIn Fence.wide _ _ _ _ _ _ from wpIn_wide.2 ?_)
    go_region
    obtain ⟨V2, hV2⟩ : ∃ V2, ((V.setCell ⟨W.heap.size + 1, 2, none⟩ (.int .i64 X1)).setCell ⟨W.heap.size + 1, 3, none⟩ (.int .i64 Y1)).drew = V2 := ⟨_, rfl⟩
    have hs2 : V2.heap.size = V.heap.size := by subst hV2; simp
    have hE2 : SeqN.Win 6 W.heap.size V V2 := by subst hV2; exact ((SeqN.Win.set (by simp) (by simp) _).trans (SeqN.Win.set (by simp) (by simp) _)).trans (SeqN.Win.of_below ((Below.refl _ _).drew))
    have n3 : V2.cell? ⟨W.heap.size, 0, none⟩ = some (.func (.yield l) #[] #[]) := by subst hV2; go_simp
    obtain ⟨n4, n5, n6, n7⟩ : Four V2 (W.heap.size + 1) a c X1 Y1 := by subst hV2; exact ⟨by go_simp, by go_simp, by go_simp, by go_simp⟩
    have hD2 : V2.heap[W0.heap.size]? = some (.deferred (some [])) := by subst hV2; exact ((Below.heap_setCell _ _ _ _ (by simp; omega)).trans (Below.heap_setCell _ _ _ _ (by simp; omega))).trans hK
    rw [hV2]
    clear hV2 hK
    gi_wp2
    obtain ⟨fn, tmps, assign, body, hy2, hR⟩ := HY.out V2 (by omega) (HBi _ V V2 i1 (by omega) hE2)
    have hR := Seq.roundIn_any (ro' := none) (n' := 0 - 1) hR
    unfold encP at hy2
    rw [hy2]
    gi_wp2
    refine hR.mono ?_
    rintro e3 W3 (⟨rfl, hJ3, hk3⟩ | ⟨rfl, hJx3, hk3⟩)
    all_goals
      have hs3 := hk3.1.size
      have hD3 : W3.heap[W0.heap.size]? = some (.deferred (some [])) := (hk3.2.1 W0.heap.size (by omega) (by omega) (Array.getElem?_eq_some_iff.1 hD2).1).trans hD2
      have hP3 : SeqN.Win 6 W.heap.size W3 (W3.putObj W0.heap.size (.deferred none)) := SeqN.Win.put (by omega) (by omega) _
      rw [hsz] at hD3 hP3
      gi_wp2
      refine ⟨by simp, .inl ⟨_, _, rfl, run_takeDeferred hD3, ?_⟩⟩
    · exact ⟨.tuple #[], by simp [results, Try.f51, go_sem], ⟨_, rfl⟩, .inl (by rw [cuts_len]; exact HBi _ _ _ hJ3 (by omega) hP3)⟩
    · exact ⟨.tuple #[], by simp [results, Try.f51, go_sem], ⟨_, rfl⟩, .inr ⟨lN X0 X1 v + 1, by rw [cuts_len]; omega, HBx _ _ _ hJx3 (by omega) hP3⟩⟩
  case stop =>
    rintro c k V hk hz ⟨rfl, hx, hs⟩ hK
    subst hT
    rw [lns_len] at hk
    gi_wp2
    refine ⟨by simp, .inl ⟨_, _, rfl, run_takeDeferred hK, ?_⟩⟩
    refine ⟨.tuple #[], by simp [results, Try.f51, go_sem], ⟨_, rfl⟩, .inr ⟨k, by rw [cuts_len]; omega, HBx k _ _ hx (by omega) (SeqN.Win.put (by omega) (by omega) _)⟩⟩
end Go.Proofs.Ytjdpmaachehpnaa.Cell
