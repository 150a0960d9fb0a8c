/- The law CellSums: a strip that ends ahead of the picture's right side is covered whole: its covers come to how far it goes down; each cell's area lies within its pixel; its weight is the rest. For all inputs. -/
import Derived.Test.YtjdpmaachehpnaaCellQ
import Derived.Test.YtjdpmaachehpnaaFlatE
import Derived.Test.YtjdpmaachehpnaaFlatS
import Derived.Test.YtjdpmaachehpnaaWm1
import Derived.Test.YtjdpmaachehpnaaRows
import Derived.ProofKit
import Derived.OpenShut
import Derived.ShutString
import Derived.ChangeOld
import Derived.SizedLaws
import Derived.Test.YtjdpmaachehpnaaPEx29
namespace Go.Proofs.Ytjdpmaachehpnaa
open Go Go.RowKit
set_option linter.unusedVariables false
set_option linter.unusedSimpArgs false
namespace Cell
open Go.Proofs.Ytjdpmaachehpnaa.PE Go.Proofs.YtjdpmaachehpnaaW.PrintWords Go.Proofs.YtjdpmaachehpnaaW.PrintLast Go.Proofs.YtjdpmaachehpnaaW.PrintMore
theorem rdU {xs : List Cl} {i : Nat} (h : i < xs.length) : rd_T58 xs (i : Int) = xs[i] := by simp [rd_T58, h]
/-- The covers together. -/
def cov : List Cl → Int
  | [] => 0
  | c :: cs => c.f1.f0 + cov cs
theorem cov_app (xs ys : List Cl) : cov (xs ++ ys) = cov xs + cov ys := by
  induction xs with
  | nil => simp [cov]
  | cons x xs ih => simp only [List.cons_append, cov, ih]; omega
/-- What is right of a cell. -/
structure Fine (w : Int) (c : Cl) : Prop where
  k0 : 0 ≤ c.f0
  k1 : c.f0 < w
  ne : c.f1.f0 ≠ 0
  lo : -65536 ≤ c.f1.f0
  hi : c.f1.f0 ≤ 65536
  up : 0 < c.f1.f0 → 0 ≤ c.f1.f1 ∧ c.f1.f1 ≤ c.f1.f0 * 131072
  dn : c.f1.f0 < 0 → c.f1.f1 ≤ 0 ∧ c.f1.f0 * 131072 ≤ c.f1.f1
section
variable {X0 Y0 X1 Y1 w : Int}
/-- A piece lies within its column. -/
theorem piece_col (hd : Dom X0 Y0 X1 Y1 w) {k : Nat} (hk : k ≤ lN X0 X1 w) {q : Int} (hq : q = mn (pX X0 X1 w k) (pX X0 X1 w (k + 1)) / 65536) (q0 : 0 ≤ q) (q1 : q < w) :
    (q * 65536 ≤ pX X0 X1 w k ∧ pX X0 X1 w k ≤ q * 65536 + 65536) ∧ q * 65536 ≤ pX X0 X1 w (k + 1) ∧ pX X0 X1 w (k + 1) ≤ q * 65536 + 65536 := by
  have hw := hd.w0
  have e : ∃ a b, pX X0 X1 w k = a ∧ pX X0 X1 w (k + 1) = b := ⟨_, _, rfl, rfl⟩
  obtain ⟨a, b, ha, hb⟩ := e
  rw [ha, hb] at hq ⊢
  have hm : q = a / 65536 ∧ a ≤ b ∨ q = b / 65536 ∧ b ≤ a := by unfold mn at hq; split at hq <;> omega
  clear hq
  unfold pX at ha hb
  rw [if_neg (by omega), show k + 1 - 1 = k from rfl] at hb
  by_cases h : X0 > X1
  · have eK : ∀ i, lK X0 X1 w i = lL X0 X1 w - i := fun i => by unfold lK; rw [if_pos h]
    have eL : lL X0 X1 w = if w < (X0 - 1) / 65536 then w else (X0 - 1) / 65536 := by unfold lL mx mn; rw [if_neg (by omega : ¬ X0 < X1)]
    have eF : lF X0 X1 = if (X1 + 65536) / 65536 < 0 then 0 else (X1 + 65536) / 65536 := by unfold lF mx mn; rw [if_pos (by omega : X1 < X0)]
    have eN : lN X0 X1 w = (lL X0 X1 w - lF X0 X1 + 1).toNat := rfl
    rw [eK] at ha hb
    rw [eN] at hk ha hb
    rw [eL, eF] at hk ha hb
    (repeat' split at ha) <;> (repeat' split at hb) <;> omega
  · have eK : ∀ i, lK X0 X1 w i = lF X0 X1 + i := fun i => by unfold lK; rw [if_neg h]
    have eL : lL X0 X1 w = if w < (X1 - 1) / 65536 then w else (X1 - 1) / 65536 := by
      unfold lL mn
      have : mx X0 X1 = X1 := by unfold mx; split <;> omega
      rw [this]
    have eF : lF X0 X1 = if (X0 + 65536) / 65536 < 0 then 0 else (X0 + 65536) / 65536 := by unfold lF mx mn; rw [if_neg (by omega : ¬ X1 < X0)]
    have eN : lN X0 X1 w = (lL X0 X1 w - lF X0 X1 + 1).toNat := rfl
    rw [eK] at ha hb
    rw [eN] at hk ha hb
    rw [eL, eF] at hk ha hb
    (repeat' split at ha) <;> (repeat' split at hb) <;> omega
theorem fine_of (hd : Dom X0 Y0 X1 Y1 w) {k : Nat} (hk : k ≤ lN X0 X1 w) {c : Cl} (hc : cellOf w (piece X0 Y0 X1 Y1 w k) = some c) : Fine w c := by
  have hw := hd.w0
  obtain ⟨_, ⟨b1, b1'⟩, _, b3, b3'⟩ := cuts_mem hd (cuts_at (Y0 := Y0) (Y1 := Y1) (show k < lN X0 X1 w + 1 by omega))
  have col := fun q (hq : q = mn (pX X0 X1 w k) (pX X0 X1 w (k + 1)) / 65536) => piece_col hd hk hq
  have e0 : (piece X0 Y0 X1 Y1 w k).f0 = pX X0 X1 w k := rfl
  have e2 : (piece X0 Y0 X1 Y1 w k).f2 = pX X0 X1 w (k + 1) := rfl
  rw [← e0, ← e2] at col
  generalize piece X0 Y0 X1 Y1 w k = p at *
  clear e0 e2
  obtain ⟨p0, p1, p2, p3⟩ := p
  unfold cellOf at hc
  dsimp only at *
  split at hc
  · cases hc
  · rename_i h1
    split at hc
    · cases hc
      exact ⟨Int.le_refl _, by dsimp only; omega, by dsimp only; omega, by dsimp only; omega, by dsimp only; omega, fun h => by dsimp only at h ⊢; omega, fun h => by dsimp only at h ⊢; omega⟩
    · rename_i h2
      obtain ⟨⟨c1, c2⟩, c3, c4⟩ := col _ rfl (by omega) (by omega)
      cases hc
      refine ⟨by dsimp only; omega, by dsimp only; omega, by dsimp only; omega, by dsimp only; omega, by dsimp only; omega, fun h => ?_, fun h => ?_⟩
      all_goals
        dsimp only at h ⊢
        obtain ⟨f, hf⟩ : ∃ f, p0 + p2 - 2 * (mn p0 p2 / 65536) * 65536 = f := ⟨_, rfl⟩
        have f0 : 0 ≤ f ∧ f ≤ 131072 := by omega
        rw [hf]
        generalize p3 - p1 = d at *
      · exact ⟨Int.mul_nonneg (by omega) f0.1, Int.mul_le_mul_of_nonneg_left f0.2 (by omega)⟩
      · exact ⟨Int.mul_nonpos_of_nonpos_of_nonneg (by omega) f0.1, Int.mul_le_mul_of_nonpos_left (by omega) f0.2⟩
theorem fine_all (hd : Dom X0 Y0 X1 Y1 w) {c : Cl} (hc : c ∈ cells X0 Y0 X1 Y1 w) : Fine w c := by
  obtain ⟨p, hp, he⟩ := List.mem_filterMap.1 hc
  obtain ⟨k, hk, rfl⟩ := List.mem_map.1 hp
  exact fine_of hd (by have := List.mem_range.1 hk; omega) he
/-- One piece's cover. -/
theorem cov_one {p : Pc} (h : mn p.f0 p.f2 / 65536 < w) : cov ([p].filterMap (cellOf w)) = p.f3 - p.f1 := by
  simp only [List.filterMap_cons, List.filterMap_nil]
  unfold cellOf
  by_cases h1 : p.f3 - p.f1 = 0
  · rw [if_pos (.inl h1)]; exact h1.symm
  · rw [if_neg (by omega)]
    by_cases h2 : mn p.f0 p.f2 / 65536 < 0
    · rw [if_pos h2]; simp [cov]
    · rw [if_neg h2]; simp [cov]
theorem cov_none {p : Pc} (h : mn p.f0 p.f2 / 65536 ≥ w) : cov ([p].filterMap (cellOf w)) = 0 := by
  simp only [List.filterMap_cons, List.filterMap_nil]
  unfold cellOf
  rw [if_pos (.inr h)]; rfl
theorem piece_mn (hd : Dom X0 Y0 X1 Y1 w) (k : Nat) : mn X0 X1 ≤ mn (piece X0 Y0 X1 Y1 w k).f0 (piece X0 Y0 X1 Y1 w k).f2 ∧ mn (piece X0 Y0 X1 Y1 w k).f0 (piece X0 Y0 X1 Y1 w k).f2 ≤ mx X0 X1 := by
  show mn X0 X1 ≤ mn (pX X0 X1 w k) (pX X0 X1 w (k + 1)) ∧ mn (pX X0 X1 w k) (pX X0 X1 w (k + 1)) ≤ mx X0 X1
  have a := pX_in hd k
  have b := pX_in hd (k + 1)
  generalize pX X0 X1 w k = u at *
  generalize pX X0 X1 w (k + 1) = v at *
  generalize mn X0 X1 = m at *
  generalize mx X0 X1 = m2 at *
  unfold mn; split <;> omega
theorem cov_all (hd : Dom X0 Y0 X1 Y1 w) (h : mx X0 X1 < w * 65536) : cov (cells X0 Y0 X1 Y1 w) = Y1 - Y0 := by
  have key : ∀ n, cov (((List.range n).map (piece X0 Y0 X1 Y1 w)).filterMap (cellOf w)) = pY X0 Y0 X1 Y1 w n - pY X0 Y0 X1 Y1 w 0 := by
    intro n
    induction n with
    | zero => simp [cov]
    | succ n ih =>
      rw [List.range_succ, List.map_append, List.filterMap_append, cov_app, ih]
      simp only [List.map_cons, List.map_nil]
      rw [cov_one (by have := (piece_mn (Y0 := Y0) (Y1 := Y1) hd n).2; omega)]
      show _ + (pY X0 Y0 X1 Y1 w (n + 1) - pY X0 Y0 X1 Y1 w n) = _
      omega
  unfold cells cuts
  rw [key]
  unfold pY
  rw [if_neg (by omega), if_neg (by omega), if_pos rfl]
theorem cov_far (hd : Dom X0 Y0 X1 Y1 w) (h : w * 65536 ≤ mn X0 X1) : cov (cells X0 Y0 X1 Y1 w) = 0 := by
  have key : ∀ n, cov (((List.range n).map (piece X0 Y0 X1 Y1 w)).filterMap (cellOf w)) = 0 := by
    intro n
    induction n with
    | zero => simp [cov]
    | succ n ih =>
      rw [List.range_succ, List.map_append, List.filterMap_append, cov_app, ih]
      simp only [List.map_cons, List.map_nil]
      rw [cov_none (by have := (piece_mn (Y0 := Y0) (Y1 := Y1) hd n).1; omega)]; rfl
  exact key _
end
theorem cov_bound {w : Int} : ∀ {xs : List Cl}, (∀ x ∈ xs, Fine w x) → -65536 * xs.length ≤ cov xs ∧ cov xs ≤ 65536 * xs.length
  | [], _ => by simp [cov]
  | x :: xs, h => by
    have h1 := h x (by simp)
    have h2 := cov_bound (xs := xs) (fun y hy => h y (by simp [hy]))
    have a := h1.lo
    have b := h1.hi
    simp only [cov, List.length_cons]
    omega
theorem sums_l0 {a b c d h : Int} (h0 : 1 ≤ h) (h1 : h ≤ 255) (ha : (0 ≤ b ∧ b ≤ 65536) ∧ 0 ≤ d ∧ d ≤ 65536) (xs : List Cl) (hl : xs.length ≤ 1000) (hF : ∀ x ∈ xs, Fine h x) (hA : mx a c < h * 65536 → cov xs = d - b) (hB : h * 65536 ≤ mn a c → cov xs = 0) : ∀ (n i k : Nat), i + n = xs.length → 2 * n < k →
    pointillistlaw16_CellSums.l0 k h (cov (xs.take i)) xs (xs.length : Int) (i : Int) a b c d = some true := by
  intro n
  induction n with
  | zero =>
    intro i k e hk
    obtain ⟨k, rfl⟩ : ∃ m, k = m + 1 := ⟨k - 1, by omega⟩
    simp only [pointillistlaw16_CellSums.l0]
    rw [if_neg (by omega), w64 (x := h) (by omega) (by omega), w64 (x := h * 65536) (by omega) (by omega), List.take_of_length_le (by omega), w64 (x := d - b) (by omega) (by omega)]
    split
    · rename_i hh; rw [hA hh]; simp
    · split
      · rfl
      · rename_i hh; rw [hB (by omega)]; rfl
  | succ n ihn =>
    intro i k e hk
    obtain ⟨k, rfl⟩ : ∃ m, k = m + 2 := ⟨k - 2, by omega⟩
    have hi : i < xs.length := by omega
    have F := hF _ (List.getElem_mem hi)
    have ih := ihn (i + 1) k (by omega) (by omega)
    clear ihn
    have hb := cov_bound (xs := xs.take i) (fun x hx => hF x (List.mem_of_mem_take hx))
    rw [List.length_take] at hb
    have es : cov (xs.take (i + 1)) = cov (xs.take i) + xs[i].f1.f0 := by
      rw [List.take_succ_eq_append_getElem hi, cov_app]; simp [cov]
    rw [es] at ih
    have k0 := F.k0
    have k1 := F.k1
    have ne := F.ne
    have lo := F.lo
    have hi' := F.hi
    have hup := F.up
    have hdn := F.dn
    have j2 : ∀ s, s = cov (xs.take i) + xs[i].f1.f0 → pointillistlaw16_CellSums.j2 (k + 1) h s xs (xs.length : Int) (i : Int) false a b c d xs[i].f1.f0 xs[i].f1.f1 = some true := by
      intro s hs
      simp only [pointillistlaw16_CellSums.j2]
      rw [if_neg (by decide)]
      unfold cell_Weight.f
      simp only [Option.bind_some, if_true]
      rw [w64 (x := (i : Int) + 1) (by omega) (by omega), show (i : Int) + 1 = ((i + 1 : Nat) : Int) by omega, hs, ih]
    clear ih
    rw [show k + 2 = (k + 1) + 1 from rfl]
    simp only [pointillistlaw16_CellSums.l0]
    rw [if_pos (by omega), if_pos (by omega), if_pos (by omega), rdU hi]
    generalize xs[i] = x at *
    obtain ⟨K, C, Ar⟩ := x
    dsimp only at *
    generalize cov (xs.take i) = s at *
    have j2' := j2 _ rfl
    clear j2
    rw [w64 (x := s + C) (by omega) (by omega), w64 (x := h) (by omega) (by omega), w64 (x := C * 131072) (by omega) (by omega)]
    by_cases hp : C > 0
    · obtain ⟨u1, u2⟩ := hup hp
      rw [if_pos hp, if_neg (by omega), if_neg (by omega), if_neg (by omega), if_neg (by omega), if_neg (by omega), decide_eq_false (by omega)]
      exact j2'
    · obtain ⟨u1, u2⟩ := hdn (by omega)
      rw [if_neg hp, if_pos (by omega), if_neg (by omega), if_neg (by omega), if_neg (by omega), if_neg (by omega), decide_eq_false (by omega)]
      exact j2'
theorem cellsums (a b c d h : Int) (h0 : 0 ≤ h) (h1 : h ≤ 255) : ∃ k, pointillistlaw16_CellSums.f k a b c d h = some true := by
  obtain ⟨r, hr, hb⟩ := right_f a b c d
  refine ⟨1100, ?_⟩
  unfold pointillistlaw16_CellSums.f
  rw [wakes, hr]
  simp only [Option.bind_some, if_true]
  cases r with
  | false => rfl
  | true =>
    rw [if_pos rfl]
    by_cases hz : h = 0
    · rw [hz]; rfl
    obtain ⟨q1, q2, q3, q4⟩ := hb.1 rfl
    have D : Dom a b c d h := ⟨q1, q2, q3, q4, by omega, by omega⟩
    have hn := lN_le D
    have hlen : (cells a b c d h).length ≤ lN a c h + 1 := Nat.le_trans (List.length_filterMap_le _ _) (by rw [cuts_len]; omega)
    simp only [pointillistlaw16_CellSums.j0]
    rw [if_neg (by simpa using hz), w64 (x := h) (by omega) (by omega), PE.cells_f D (by omega) (by omega)]
    simp only [Option.bind_some]
    rw [List.take_of_length_le (show (cells a b c d h).length ≤ (999 : Int).toNat by simp; omega)]
    exact sums_l0 (by omega) h1 ⟨q3, q4⟩ _ (by omega) (fun x hx => fine_all D hx) (cov_all D) (cov_far D) (cells a b c d h).length 0 1099 (by omega) (by omega)
theorem cellsums_row (a b c d h : Int) (h0 : 0 ≤ h) (h1 : h ≤ 255) (w : World) : Calls Try.prog 12 #[.agg #[.int .i64 a, .int .i64 b, .int .i64 c, .int .i64 d], .int .u8 h] w fun e w' => e = .returned (.bool true) ∧ Below w.heap.size w w' := by
  obtain ⟨k, hk⟩ := cellsums a b c d h h0 h1
  exact pointillistlaw16_CellSums.calls k a b c d h true w hk
end Cell
namespace cellSums
open Go.ChangeShapes Go.WideShapes Go.ChangeAt Go.RowKit
open Go.ChangeMaps (open_string shut_string)
theorem own : ownKnob Try.prog.godebug = none := by kernel_rfl
theorem laidOut : laidOutB Try.prog = true := by kernel_rfl
set_option maxRecDepth 100000 in
theorem lifted (os : Os) (started : os.Started) (H : Type) (enc : TypeId × Value → H) :
    ReturnsInHanded {} Try.checked os 12 .any (Rows.cellSumsSpec.pre6 enc Try.prog Try.f12 Rows.cellSumsRow.domain false) (Rows.cellSumsSpec.post enc Try.prog Try.f12 false true false false) := by
  refine returnsInHanded_of_change_sized (C := Try.checked) own started (by kernel_rfl) Try.func12
    (ChangeSpec.witness6 (enc := enc) (C := Try.checked) false ⟨#[], #[.agg #[.int .i64 0, .int .i64 0, .int .i64 0, .int .i64 0], .int .u8 0], []⟩ 8 (by kernel_rfl) (by kernel_rfl) (by kernel_rfl) (by kernel_rfl)) ?_
  intro W base args ds gs before hval0 hW hcnd hsz0 _
  have hval : ∀ (j : Nat) t v, Try.f12.params[j]? = some t → args[j]? = some v → Value.okWide Try.prog W .any base t v := hval0
  have hW' := hW
  obtain ⟨p, q, hA0, hV, rfl, hfz, hnd⟩ := hW
  have hA : DataW.TrodAll enc Try.prog W 0 (fun _ => true) true Try.f12.params.toList args.toList ds p := hA0
  have hlt : ∀ x ∈ p, x.block < W.heap.size := fun x hx => by simpa using hW'.lt x (by simp [hx])
  have hready : ∀ t ∈ Try.f12.params.toList, Try.prog.readableRec t = true ∧ t < Try.prog.types.size := by
    rw [Try.params12]
    intro t ht
    simp only [List.mem_cons, List.not_mem_nil, or_false] at ht
    rcases ht with rfl | rfl <;> exact ⟨by kernel_rfl, of_decide_eq_true (by kernel_rfl)⟩
  have hAk := hA
  rw [Try.params12] at hA hval
  obtain ⟨v0, vs0, d0, ds0, p0, q0, hargs, rfl, rfl, h0, r0⟩ := trodAll_cons hA
  obtain ⟨v1, vs1, d1, ds1, p1, q1, rfl, rfl, rfl, h1, r1⟩ := trodAll_cons r0
  obtain ⟨rfl, rfl, rfl⟩ := trodAll_nil r1
  obtain rfl : args = #[v0, v1] := by cases args; simp_all
  obtain ⟨rfl, rfl⟩ := trodVars_none hV
  obtain ⟨c0, m0, rfl, i0⟩ := Open.Flat.open_agg flatStrip (.inl ⟨_, Try.underlying32⟩) (hval 0 32 v0 rfl rfl) h0
  obtain ⟨n0_0, n0_1, n0_2, n0_3, rfl, x0_0, x0_1, x0_2, x0_3⟩ := i0.of4
  obtain ⟨a1, rfl, rfl, rfl, w1⟩ := open_int Try.underlying5 (hval 1 5 v1 rfl rfl) h1
  clear hA0 hval0 hsz0
  refine (Cell.cellsums_row n0_0 n0_1 n0_2 n0_3 a1 (Num.wf_u8 w1).1 (Num.wf_u8 w1).2 W).mono fun e W' ⟨he, bel⟩ => ?_
  subst he
  exact ⟨_, rfl, _, _, _, [], _, [], hW', trodAll_mk1 (shut_bool Try.underlying4 _), Open.trodAll_below laidOut bel hready hAk hlt, rfl, bel.frame _, fun h => by cases h⟩
theorem over : Rows.cellSumsRow.holds Try.pinned (OpenSpec.ofChange Rows.cellSumsSpec) :=
  OpenClaim.holds_of_wide 12 Try.f12 rfl rfl rfl rfl rfl rfl rfl ⟨rfl, rfl, rfl, rfl, rfl⟩ rfl rfl rfl rfl rfl (by kernel_rfl) Try.func12 (by kernel_rfl)
    (of_decide_eq_true (by kernel_rfl)) (by unfold Func.isWrapper; first | (rw [if_pos (by decide +kernel)]; kernel_rfl) | (rw [if_neg (by decide +kernel)]; exact ⟨rfl, rfl⟩))
    (fun os started H enc _ => lifted os started H enc)
theorem proved : Rows.CellSumsSaid := over
end cellSums
/-- The row, for the claim. -/
theorem cellSums_holds : Rows.CellSumsSaid := cellSums.proved
end Go.Proofs.Ytjdpmaachehpnaa
