/- The law BufferAdds: in whatever order edges are added, at once or one by one, the weights are the same. For all inputs. -/
import Derived.Test.YtejcjonlnijbkaaBf3
import Derived.Deep.RegionHeld3
import Derived.Test.YtejcjonlnijbkaaWm1
import Derived.Test.YtejcjonlnijbkaaRows
import Derived.ProofKit
import Derived.OpenShut
import Derived.ShutString
import Derived.ChangeOld
import Derived.SizedLaws
namespace Go.Proofs.Ytejcjonlnijbkaa
open Go Go.RowKit
set_option linter.unusedVariables false
set_option linter.unusedSimpArgs false
namespace Buf
open Go Go.RowKit Go.Shelf Range Go.Proofs.Ytejcjonlnijbkaa.PE Go.Proofs.YtejcjonlnijbkaaW.PrintWords Go.Proofs.YtejcjonlnijbkaaW.PrintLast Go.Proofs.YtejcjonlnijbkaaW.PrintMore Go.Proofs.Ytejcjonlnijbkaa.Num
attribute [local go_sem] Oper.semAt_some
theorem wsmall {x : Int} (h0 : 0 ≤ x) (h1 : x ≤ 1000000) : wrap64 x = x := by unfold wrap64; omega
def encG (e : Eg) : List Value := [.int .i64 e.f0.f0, .int .i64 e.f0.f1, .int .i64 e.f1.f0, .int .i64 e.f1.f1]
theorem info_edge : (Try.prog.info? 38).map (fun i => (i.zero, i.size, i.bytes)) = some (some (.agg #[.int .i64 0, .int .i64 0, .int .i64 0, .int .i64 0]), 4, 32) := by kernel_rfl
theorem newG (w : World) (e : Eg) (t : TypeId) : ∀ j u, (encG e)[j]? = some u → (w.alloc (.cells #[.int .i64 e.f0.f0, .int .i64 e.f0.f1, .int .i64 e.f1.f0, .int .i64 e.f1.f1] t)).cell? ((⟨w.heap.size, 0, none⟩ : Addr).add j) = some u := by
  intro j u hj
  rw [Row.addr_add, Nat.zero_add]
  rcases j with _ | _ | _ | _ | j <;> simp [encG] at hj
  all_goals (subst hj; go_simp)
theorem oneG (e : Eg) : ∀ u ∈ encG e, u.oneCell' = true := by
  intro u hu
  simp [encG] at hu
  rcases hu with rfl | rfl | rfl | rfl <;> rfl
theorem flat_at : ∀ (es : List Eg) (i j : Nat) (hi : i < es.length), j < 4 → (es.flatMap encG)[i * 4 + j]? = (encG es[i])[j]?
  | [], i, j, hi, _ => by simp at hi
  | e :: es, 0, j, hi, hj => by
    rw [List.flatMap_cons, List.getElem?_append_left (by simp [encG]; omega)]; simp
  | e :: es, i + 1, j, hi, hj => by
    rw [List.flatMap_cons, List.getElem?_append_right (by simp [encG]; omega), show (i + 1) * 4 + j - (encG e).length = i * 4 + j by simp [encG]; omega, flat_at es i j (by simpa using hi) hj]; simp
theorem er_of_own {w0 w : World} {v : Value} {es : List Eg} (h : Row.OwnR 38 4 w0.heap.size w0 w v es.length (es.flatMap encG)) : ∃ A cap, v = .slice A es.length cap ∧ ER (fun _ => False) w A es := by
  obtain ⟨A, cap, rfl, _, _, h3, _⟩ := h.read
  refine ⟨A, cap, rfl, fun i hi => ?_⟩
  obtain ⟨g, rfl, hg, hl, c0⟩ := h3 i 0 hi (by omega)
  obtain ⟨_, e1, _, _, c1⟩ := h3 i 1 hi (by omega); cases e1
  obtain ⟨_, e2, _, _, c2⟩ := h3 i 2 hi (by omega); cases e2
  obtain ⟨_, e3, _, _, c3⟩ := h3 i 3 hi (by omega); cases e3
  rw [flat_at es i _ hi (by omega)] at c0 c1 c2 c3
  exact ⟨g, 0, rfl, hl, id, by simpa [encG] using c0, by simpa [encG] using c1, by simpa [encG] using c2, by simpa [encG] using c3⟩
/-- An append that a region's walk does not lay open. -/
noncomputable def hidApp (T : TypeId) (vs : Array Value) : Sem Value := Builtin.append_ #[T, T] T vs
theorem app_hide (T ty : TypeId) (vs : Array Value) : Builtin.append_ #[T, T] ty vs = hidApp T vs := rfl
theorem flat_len : ∀ (es : List Eg), (es.flatMap encG).length = es.length * 4
  | [] => rfl
  | e :: es => by rw [List.flatMap_cons, List.length_append, flat_len es]; simp [encG]; omega
theorem run_append_none_cap {P : Program} (w : World) (base : Nat) (t ty e : TypeId) (i : TypeInfo) (size c : Nat) (ht : P.underlying t = some (.slice e)) (hi : P.info? e = some i)
    (v : Value) (n : Nat) (xs : List Value) (hown : w.ownsRow base e size v n xs) :
    (Builtin.append_ #[t, t] ty #[v, .slice none 0 c]).run P w = .ok v w := by
  rcases hown.2 with ⟨rfl, rfl⟩ | ⟨g, cap, cur, rfl, _, _, hnc, _⟩
  · simp [Builtin.append_, run_underlying ht, sizeOf, typeInfo, hi, Builtin.lenOf, Builtin.firstCells]
  · simp [Builtin.append_, run_underlying ht, sizeOf, typeInfo, hi, Builtin.lenOf, Builtin.firstCells, hnc, storeCells]
theorem allWts_at {W : Nat} (h : Nat) (F : Int → List Cl) (i : Nat) (hi : i < h * W) : (allWts W h F)[i]? = some (wt (i % W) (F ((i / W : Nat) : Int))) := by
  induction h with
  | zero => omega
  | succ h ih =>
    rw [allWts_snoc]
    by_cases hl : i < h * W
    · rw [List.getElem?_append_left (by rw [allWts_len]; exact hl), ih hl]
    · obtain ⟨r, rfl⟩ : ∃ r, i = r + h * W := ⟨i - h * W, by omega⟩
      have hr : r < W := by rw [Nat.succ_mul] at hi; omega
      rw [List.getElem?_append_right (by rw [allWts_len]; omega), allWts_len, show r + h * W - h * W = r by omega, Nat.add_mul_mod_self_right, Nat.mod_eq_of_lt hr, Nat.add_mul_div_right _ _ (by omega), Nat.div_eq_of_lt hr, Nat.zero_add]
      simp [hr]
theorem allWts_add {W h : Nat} (l k : List Eg) (H : Int) (i : Nat) (hi : i < h * W) : (allWts W h (addl W H (l ++ k) nought)).getD i 0 = wrap64 ((allWts W h (addl W H l nought)).getD i 0 + (allWts W h (addl W H k nought)).getD i 0) := by
  simp only [List.getD, allWts_at _ _ _ hi, Option.getD_some]
  exact wt_add _ _ _
theorem own_ints {w0 w : World} {v : Value} {n : Nat} {xs : List Int} (h : Row.OwnR 2 1 w0.heap.size w0 w v n (xs.flatMap encI)) : ∃ A cap, v = .slice A n cap ∧ ∀ i, i < n → ∃ g, A = some ⟨g, 0, none⟩ ∧ g < w.heap.size ∧ w.cell? ⟨g, i, none⟩ = some (.int .i64 (xs.getD i 0)) := by
  obtain ⟨A, cap, rfl, _, _, h3, _⟩ := h.read
  refine ⟨A, cap, rfl, fun i hi => ?_⟩
  obtain ⟨g, rfl, hg, hl, c0⟩ := h3 i 0 hi (by omega)
  have hxl : xs.length = n := by have := h.row.1; rw [show ∀ ys : List Int, (ys.flatMap encI).length = ys.length from fun ys => by induction ys with | nil => rfl | cons y ys ih => rw [List.flatMap_cons, List.length_append, ih]; simp [encI]; omega] at this; omega
  have hf : ∀ (ys : List Int) (j : Nat), (ys.flatMap encI)[j]? = ys[j]?.map (Value.int .i64) := fun ys => by
    induction ys with
    | nil => intro j; simp
    | cons y ys ih => intro j; cases j with
      | zero => simp [encI]
      | succ j => simpa [encI, List.flatMap_cons] using ih j
  rw [hf, Nat.mul_one, Nat.add_zero, List.getElem?_eq_getElem (by omega)] at c0
  exact ⟨g, rfl, hl, by simpa [List.getD, show i < xs.length by omega] using c0⟩
theorem ints_below {A : Option Addr} {n : Nat} {xs : List Int} {w w1 : World} (h : ∀ i, i < n → ∃ g, A = some ⟨g, 0, none⟩ ∧ g < w.heap.size ∧ w.cell? ⟨g, i, none⟩ = some (.int .i64 (xs.getD i 0))) (hb : Below w.heap.size w w1) : ∀ i, i < n → ∃ g, A = some ⟨g, 0, none⟩ ∧ g < w1.heap.size ∧ w1.cell? ⟨g, i, none⟩ = some (.int .i64 (xs.getD i 0)) := fun i hi => by
  obtain ⟨g, e, hl, c0⟩ := h i hi
  exact ⟨g, e, Nat.lt_of_lt_of_le hl hb.size, (hb.cell (p := ⟨g, i, none⟩) hl).trans c0⟩
/-- An append of edges that lie anywhere. -/
theorem app_edges (base : Nat) (w : World) (v : Value) (n : Nat) (xs : List Value) (hown : w.ownsRow base 38 4 v n xs) (A : Option Addr) (es : List Eg) (c : Nat) (hE : ER (fun _ => False) w A es) (h63 : n + es.length ≤ 1000) (hbase : base ≤ w.heap.size) :
    ∃ v' w', (hidApp 23 #[v, .slice A es.length c]).run Try.prog w = .ok v' w' ∧ w'.ownsRow base 38 4 v' (n + es.length) (xs ++ es.flatMap encG) ∧ w.grownBy w' v.ownBlock ∧ (v'.ownBlock = v.ownBlock ∨ v'.ownBlock = some w.heap.size) := by
  obtain ⟨i0, hi0, hz0, hz1, hz2⟩ := info_parts info_edge
  cases A with
  | none =>
    have hn : es = [] := by
      cases es with
      | nil => rfl
      | cons e es => obtain ⟨_, _, h, _⟩ := hE 0 (by simp); simp at h
    subst hn
    refine ⟨v, w, ?_, by simpa using hown, ⟨rfl, rfl, rfl, Nat.le_refl _, fun _ _ _ => rfl⟩, .inl rfl⟩
    exact run_append_none_cap w base 23 23 38 i0 4 c Try.underlying23 hi0 v n xs hown
  | some a =>
    obtain ⟨v', w', hr, h2, h3, _, h5⟩ := run_append_own_at (P := Try.prog) w base 23 23 38 i0 _ 4 32 Try.underlying23 hi0 hz0 hz1 hz2 rfl (by decide) v n xs hown a es.length c (es.flatMap encG) (flat_len es) (fun j u hj => by
      have hlen : j < es.length * 4 := by
        have := (List.getElem?_eq_some_iff.1 hj).1
        rw [flat_len] at this; exact this
      have hq : j / 4 < es.length := by omega
      obtain ⟨g, off, e, _, _, c0, c1, c2, c3⟩ := hE (j / 4) hq
      cases e
      have hf := flat_at es (j / 4) (j % 4) hq (by omega)
      rw [show j / 4 * 4 + j % 4 = j by omega, hj] at hf
      rw [Row.addr_add]
      have hm : j % 4 = 0 ∨ j % 4 = 1 ∨ j % 4 = 2 ∨ j % 4 = 3 := by omega
      rcases hm with h | h | h | h
      all_goals rw [h] at hf; simp [encG] at hf; subst hf
      · rw [show off + j = off + j / 4 * 4 by omega]; exact c0
      · rw [show off + j = off + j / 4 * 4 + 1 by omega]; exact c1
      · rw [show off + j = off + j / 4 * 4 + 2 by omega]; exact c2
      · rw [show off + j = off + j / 4 * 4 + 3 by omega]; exact c3) (fun u hu => by
      obtain ⟨e, _, hu⟩ := List.mem_flatMap.1 hu
      exact oneG e u hu) (by unfold maxLen; omega) (by omega) hbase
    exact ⟨v', w', hr, h2, h3, h5⟩
attribute [local go_sem high] app_hide
attribute [local go_sem ↓] app_hide
set_option maxHeartbeats 16000000 in
set_option maxRecDepth 100000 in
theorem bufferadds (s0 s1 : Int) (h0 : 0 ≤ s0 ∧ s0 ≤ 255) (h1 : 0 ≤ s1 ∧ s1 ≤ 255) (A B : Option Addr) (es ks : List Eg) (cA cB : Nat) (hl : es.length ≤ 12) (hk : ks.length ≤ 12) (hcA : es.length ≤ cA) (hcB : ks.length ≤ cB) (hmA : cA ≤ maxLen) (hmB : cB ≤ maxLen) (hI : ∀ e ∈ es, InIE e) (hJ : ∀ e ∈ ks, InIE e) (w : World) (hE : ER (fun _ => False) w A es) (hK : ER (fun _ => False) w B ks) :
    Calls Try.prog 6 #[.agg #[.int .u8 s0, .int .u8 s1], .slice A es.length cA, .slice B ks.length cB] w fun e w' => e = .returned (.bool true) ∧ Below w.heap.size w w' := by
  obtain ⟨W, hW⟩ : ∃ W : Nat, 1 + s0 % 16 = (W : Int) := ⟨(1 + s0 % 16).toNat, by omega⟩
  obtain ⟨H, hH⟩ : ∃ H : Nat, 1 + s1 % 16 = (H : Int) := ⟨(1 + s1 % 16).toNat, by omega⟩
  have hWb : 1 ≤ W ∧ W ≤ 16 := by omega
  have hHb : 1 ≤ H ∧ H ≤ 16 := by omega
  have WK := Lib.hid (fun w => wakes_calls w)
  have OF := Lib.hid (fun A es cap hl hI w hE => of_calls s0 s1 h0 h1 A es cap hl hI w hE)
  rw [hW, hH] at OF
  simp only [Int.toNat_natCast] at OF
  have OA := Lib.hid (fun w hE => OF.out A es cA (by omega) hI w hE)
  have OB := Lib.hid (fun w hE => OF.out B ks cB (by omega) hJ w hE)
  have HI := Lib.hid hI
  have HJ := Lib.hid hJ
  have HE := Lib.hid hE
  have HK := Lib.hid hK
  clear hI hE hJ hK hW hH
  have hlen : ¬ (es.length : Int) > 12 := by omega
  have hlen2 : ¬ 12 < es.length := by omega
  have hken : ¬ (ks.length : Int) > 12 := by omega
  have hken2 : ¬ 12 < ks.length := by omega
  go_enter Try.func6, Try.ntmps6
  go_wp2_with (first
    | (go_at_call 15; (with_reducible refine (WK.out _).mono ?_); rintro e w1 ⟨rfl, hb1⟩; have q0 := (hb1.cell (p := ⟨w.heap.size, 0, none⟩) (by simp)).trans (show _ = some (Value.int .u8 s0) by go_simp); have q1 := (hb1.cell (p := ⟨w.heap.size, 1, none⟩) (by simp)).trans (show _ = some (Value.int .u8 s1) by go_simp); have z1 : w.heap.size < w1.heap.size := Nat.lt_of_lt_of_le (by simp) hb1.size; have HB1 : Below w.heap.size w w1 := ((Below.refl _ w).alloc (Nat.le_refl _) _).trans (hb1.mono (by simp)); have hE1 := HE.out.over HB1 (O1 := fun _ => False) (fun i h => h.elim))
    | (go_at_call 16; (with_reducible refine (OA.out _ hE1).mono ?_); rintro e w2 ⟨bA, mA, lA, rfl, hb2, hB2, ho2⟩; have r0 := (hb2.cell (p := ⟨w.heap.size, 0, none⟩) z1).trans q0; have r1 := (hb2.cell (p := ⟨w.heap.size, 1, none⟩) z1).trans q1; have z2 := Nat.lt_of_lt_of_le z1 hb2.size; have HB2 : Below w.heap.size w w2 := HB1.trans (hb2.mono HB1.size); have hK2 := HK.out.over HB2 (O1 := fun _ => False) (fun i h => h.elim))
    | (go_at_call 16; (with_reducible refine (OB.out _ hK2).mono ?_); rintro e w3 ⟨bB, mB, lB, rfl, hb3, hB3, ho3⟩; have s0' := (hb3.cell (p := ⟨w.heap.size, 0, none⟩) z2).trans r0; have s1' := (hb3.cell (p := ⟨w.heap.size, 1, none⟩) z2).trans r1; have z3 := Nat.lt_of_lt_of_le z2 hb3.size; have HB3 : Below w.heap.size w w3 := HB2.trans (hb3.mono HB2.size)))
  have HO3 : Row.OwnR 38 4 w3.heap.size w3 (w3.alloc (.cells #[] 38)).drew (.slice (some ⟨w3.heap.size, 0, none⟩) 0 0) 0 [] :=
    Row.OwnR.drew ⟨World.ownsRow_lit w3 #[] 0 (Nat.le_refl _) (by decide) (by simp), (Below.refl _ _).alloc (Nat.le_refl _) _, Nat.le_refl _, by simp⟩
  have HE3 := HE.out.over (HB3.trans (HO3.bel.mono HB3.size)) (O1 := fun _ => False) (fun i h => h.elim)
  obtain ⟨v1, w4, hr1, h12, h13, h15⟩ := app_edges w3.heap.size _ _ 0 [] HO3.row A es cA HE3 (by omega) HO3.hi
  have hrow1 := HO3.row.lt
  have hb4 : Below w3.heap.size w3 w4 := HO3.bel.grown h13 HO3.hi (fun k hk => (hrow1 k hk).1)
  have HB4 : Below w.heap.size w w4 := HB3.trans (hb4.mono HB3.size)
  have HK4 := HK.out.over HB4 (O1 := fun _ => False) (fun i h => h.elim)
  obtain ⟨v2, w5, hr2, h22, h23, h25⟩ := app_edges w3.heap.size w4 v1 _ _ h12 B ks cB HK4 (by omega) hb4.size
  have hrow2 := h12.lt
  have hb5 : Below w3.heap.size w3 w5 := hb4.grown h23 hb4.size (fun k hk => (hrow2 k hk).1)
  have HB5 : Below w.heap.size w w5 := HB3.trans (hb5.mono HB3.size)
  have HO5 : Row.OwnR 38 4 w3.heap.size w3 w5 v2 (es ++ ks).length ((es ++ ks).flatMap encG) := ⟨by simpa using h22, hb5, Nat.le_refl _, hb5.size⟩
  obtain ⟨A5, c5, rfl, hE5⟩ := er_of_own HO5
  have OC0 := (OF.out A5 (es ++ ks) c5 (by simp; omega) (fun e he => (List.mem_append.1 he).elim (HI.out e) (HJ.out e)) w5 hE5)
  have hlen5 : (es ++ ks).length = es.length + ks.length := List.length_append
  rw [hlen5] at OC0
  have OC := Lib.hid OC0
  clear OC0
  have hcd : ∀ {u : World} (j : Nat), Below w3.heap.size w3 u → u.cell? ⟨w.heap.size, j, none⟩ = w3.cell? ⟨w.heap.size, j, none⟩ := fun j hb => hb.cell (p := ⟨w.heap.size, j, none⟩) z3
  have d0 : w3.drew.cell? ⟨w.heap.size, 0, none⟩ = some (.int .u8 s0) ∧ w3.drew.cell? ⟨w.heap.size, 1, none⟩ = some (.int .u8 s1) := ⟨s0', s1'⟩
  have d1 : (w3.alloc (.cells #[] 38)).drew.cell? ⟨w.heap.size, 0, none⟩ = some (.int .u8 s0) ∧ (w3.alloc (.cells #[] 38)).drew.cell? ⟨w.heap.size, 1, none⟩ = some (.int .u8 s1) := ⟨(hcd 0 HO3.bel).trans s0', (hcd 1 HO3.bel).trans s1'⟩
  have d4 : w4.cell? ⟨w.heap.size, 0, none⟩ = some (.int .u8 s0) ∧ w4.cell? ⟨w.heap.size, 1, none⟩ = some (.int .u8 s1) := ⟨(hcd 0 hb4).trans s0', (hcd 1 hb4).trans s1'⟩
  have d5 : w5.cell? ⟨w.heap.size, 0, none⟩ = some (.int .u8 s0) ∧ w5.cell? ⟨w.heap.size, 1, none⟩ = some (.int .u8 s1) := ⟨(hcd 0 hb5).trans s0', (hcd 1 hb5).trans s1'⟩
  have z5 : w.heap.size < w5.heap.size := Nat.lt_of_lt_of_le z3 hb5.size
  have B2 := Lib.hid hB2
  have B3 := Lib.hid hB3
  clear hB2 hB3 h12 h13 h22 h23 h15 h25 hrow1 hrow2 HO3 HO5 hE5 HE3 HK4 hE1 hK2 q0 q1 r0 r1
  go_region_held3 (fun w' => w'.cell? ⟨w.heap.size, 0, none⟩ = some (.int .u8 s0) ∧ w'.cell? ⟨w.heap.size, 1, none⟩ = some (.int .u8 s1)) (first | exact d0 | exact d1 | exact d4 | exact d5 | (exact ⟨(hb6.cell (p := ⟨w.heap.size, 0, none⟩) z5).trans d5.1, (hb6.cell (p := ⟨w.heap.size, 1, none⟩) z5).trans d5.2⟩)) (first | (go_at_call 16; (with_reducible refine OC.out.mono ?_); rintro e w6 ⟨bC, mC, lC, rfl, hb6, hB6, ho6⟩))
  have HB6 : Below w.heap.size w w6 := HB5.trans (hb6.mono HB5.size)
  have hb36 : Below w3.heap.size w3 w6 := hb5.trans (hb6.mono hb5.size)
  have hoA : ∀ i, Own bA mA lA i → i < w2.heap.size := fun i hi => B2.out.lt hi
  have BA : Buf w6 bA mA W H lA (addl W H es nought) (addl W H es nought) := B2.out.of (fun i hi => (hb36.block i (Nat.lt_of_lt_of_le (hoA i hi) hb3.size)).trans (hb3.block i (hoA i hi)))
  have BB : Buf w6 bB mB W H lB (addl W H ks nought) (addl W H ks nought) := B3.out.of (fun i hi => hb36.block i (B3.out.lt hi))
  have BC := hB6
  clear hB6
  have WA := Lib.hid (fun w hB => weights_calls W bA mA H lA (addl W H es nought) (by omega) (by omega) w hB)
  have WB := Lib.hid (fun w hB => weights_calls W bB mB H lB (addl W H ks nought) (by omega) (by omega) w hB)
  have WC := Lib.hid (fun w hB => weights_calls W bC mC H lC (addl W H (es ++ ks) nought) (by omega) (by omega) w hB)
  have AW := Lib.hid (fun i (hi : i < H * W) => allWts_add (W := W) (h := H) es ks H i hi)
  have hHW : H * W ≤ 16 * 16 := Nat.mul_le_mul hHb.2 hWb.2
  obtain ⟨N, hN⟩ : ∃ N, H * W = N := ⟨_, rfl⟩
  rw [hN] at WA WB WC AW hHW
  clear hN
  generalize allWts W H (addl W H es nought) = xs at *
  generalize allWts W H (addl W H ks nought) = ys at *
  generalize allWts W H (addl W H (es ++ ks) nought) = zs at *
  have BAh := Lib.hid BA
  have BBh := Lib.hid BB
  have BCh := Lib.hid BC
  clear BA BB BC d0 d1 d4 d5 hr1 hr2 hcd s0' s1' hoA
  go_wp2_with (first
    | (go_at_call 21; (with_reducible refine (WA.out _ BAh.out).mono ?_); rintro e7 w7 ⟨v7, rfl, hO7⟩; obtain ⟨A7, c7, rfl, hC7⟩ := own_ints hO7; have hb7 := hO7.bel; have BB7 := BBh.out.of (fun i hi => hb7.block i (BBh.out.lt hi)); have BC7 := BCh.out.of (fun i hi => hb7.block i (BCh.out.lt hi)))
    | (go_at_call 21; (with_reducible refine (WB.out _ BB7).mono ?_); rintro e8 w8 ⟨v8, rfl, hO8⟩; obtain ⟨A8, c8, rfl, hC8⟩ := own_ints hO8; have hb8 := hO8.bel; have BC8 := BC7.of (fun i hi => hb8.block i (BC7.lt hi)); have hC7' := ints_below hC7 hb8)
    | (go_at_call 21; (with_reducible refine (WC.out _ BC8).mono ?_); rintro e9 w9 ⟨v9, rfl, hO9⟩; obtain ⟨A9, c9, rfl, hC9⟩ := own_ints hO9; have hb9 := hO9.bel; have hC7'' := ints_below hC7' hb9; have hC8' := ints_below hC8 hb9))
  have HB9 : Below w.heap.size w w9 := HB6.trans ((hb7.trans ((hb8.trans (hb9.mono hb8.size)).mono hb7.size)).mono HB6.size)
  go_loopw [88] (fun x wr => Below w9.heap.size w9 wr ∧ ∃ i : Nat, x = .int .i64 (i : Nat) ∧ i ≤ N) (fun x _ => N - (intOf x).toNat)
  case atStart => exact ⟨Below.refl _ _, 0, rfl, Nat.zero_le _⟩
  case round =>
    obtain ⟨hbr, i, rfl, hi⟩ := hrel
    by_cases hlt : i < N
    · obtain ⟨g7, rfl, _, k7⟩ := ints_below hC7'' hbr i hlt
      obtain ⟨g8, rfl, _, k8⟩ := ints_below hC8' hbr i hlt
      obtain ⟨g9, rfl, _, k9⟩ := ints_below hC9 hbr i hlt
      have hw := AW.out i hlt
      rw [hw] at k9
      have hil : (i : Int) < (N : Int) := by omega
      generalize xs.getD i 0 = a at *
      generalize ys.getD i 0 = b at *
      have hwr : IntKind.i64.wrap (a + b) = wrap64 (a + b) := (IntKind.wrap_i64 _).trans (by unfold wrap64; omega)
      clear hw
      go_wp2
      go_quiet (skip)
      have hbq : Below w9.heap.size w9 (wr.drewN nq) := pw_below_drewN hbr nq
      go_wp2
      go_roundw
      case rel => exact ⟨hbq, i + 1, by go_num, hlt⟩
      case measure => simp [intOf]; omega
    · obtain rfl : i = N := by omega
      go_wp2
      go_ret
      exact ⟨rfl, HB9.trans (hbr.mono HB9.size)⟩
set_option maxHeartbeats 4000000 in
set_option maxRecDepth 100000 in
theorem bufferadds_not (s0 s1 : Int) (A B : Option Addr) (n m cA cB : Nat) (hl : ¬ (n ≤ 12 ∧ m ≤ 12)) (w : World) :
    Calls Try.prog 6 #[.agg #[.int .u8 s0, .int .u8 s1], .slice A n cA, .slice B m cB] w fun e w' => e = .returned (.bool true) ∧ Below w.heap.size w w' := by
  have WK := Lib.hid (fun w => wakes_calls w)
  have hem := Classical.em (12 < n)
  rcases hem with hem | hem
  · have hlen : (n : Int) > 12 := by omega
    go_enter Try.func6, Try.ntmps6
    go_wp2_with (first
      | (go_at_call 15; refine (WK.out _).mono ?_; rintro e w1 ⟨rfl, hb1⟩; have HB1 : Below w.heap.size w w1 := ((Below.refl _ w).alloc (Nat.le_refl _) _).trans (hb1.mono (by simp))))
    go_ret
    exact ⟨rfl, HB1⟩
  · have hlen : ¬ (n : Int) > 12 := by omega
    have hm : 12 < m := by omega
    have hlm : (m : Int) > 12 := by omega
    go_enter Try.func6, Try.ntmps6
    go_wp2_with (first
      | (go_at_call 15; refine (WK.out _).mono ?_; rintro e w1 ⟨rfl, hb1⟩; have HB1 : Below w.heap.size w w1 := ((Below.refl _ w).alloc (Nat.le_refl _) _).trans (hb1.mono (by simp))))
    go_ret
    exact ⟨rfl, HB1⟩
theorem bufferadds_row {v u : Value} {xs ys : List (List Int)} {s0 s1 : Int} (h0 : 0 ≤ s0 ∧ s0 ≤ 255) (h1 : 0 ≤ s1 ∧ s1 ≤ 255) {W : World} (f : Open.FlatRow W [.i64, .i64, .i64, .i64] v xs) (g : Open.FlatRow W [.i64, .i64, .i64, .i64] u ys) :
    Calls Try.prog 6 #[.agg #[.int .u8 s0, .int .u8 s1], v, u] W fun e w' => e = .returned (.bool true) ∧ Below W.heap.size W w' := by
  obtain ⟨A, cA, es, rfl, hcA, hmA, hE, hI⟩ := edges_in f
  obtain ⟨B, cB, ks, rfl, hcB, hmB, hK, hJ⟩ := edges_in g
  by_cases h : es.length ≤ 12 ∧ ks.length ≤ 12
  · exact bufferadds s0 s1 h0 h1 A B es ks cA cB h.1 h.2 hcA hcB hmA hmB hI hJ W hE hK
  · exact bufferadds_not s0 s1 A B es.length ks.length cA cB h W
end Buf
namespace bufferAdds
open Go.ChangeShapes Go.WideShapes Go.ChangeAt Go.RowKit
open Go.ChangeMaps (open_string shut_string)
theorem own : ownKnob Try.prog.godebug = none := by kernel_rfl
theorem laidOut : laidOutB Try.prog = true := by kernel_rfl
set_option maxRecDepth 100000 in
theorem lifted (os : Os) (started : os.Started) (H : Type) (enc : TypeId × Value → H) :
    ReturnsInHanded {} Try.checked os 6 .any (Rows.bufferAddsSpec.pre6 enc Try.prog Try.f6 Rows.bufferAddsRow.domain false) (Rows.bufferAddsSpec.post enc Try.prog Try.f6 false true false false) := by
  refine returnsInHanded_of_change_sized (C := Try.checked) own started (by kernel_rfl) Try.func6
    (ChangeSpec.witness6 (enc := enc) (C := Try.checked) false ⟨#[], #[.agg #[.int .u8 0, .int .u8 0], .slice none 0 0, .slice none 0 0], []⟩ 8 (by kernel_rfl) (by kernel_rfl) (by kernel_rfl) (by kernel_rfl)) ?_
  intro W base args ds gs before hval0 hW hcnd hsz0 _
  have hval : ∀ (j : Nat) t v, Try.f6.params[j]? = some t → args[j]? = some v → Value.okWide Try.prog W .any base t v := hval0
  have hW' := hW
  obtain ⟨p, q, hA0, hV, rfl, hfz, hnd⟩ := hW
  have hA : DataW.TrodAll enc Try.prog W 0 (fun _ => true) true Try.f6.params.toList args.toList ds p := hA0
  have hlt : ∀ x ∈ p, x.block < W.heap.size := fun x hx => by simpa using hW'.lt x (by simp [hx])
  have hready : ∀ t ∈ Try.f6.params.toList, Try.prog.readableRec t = true ∧ t < Try.prog.types.size := by
    rw [Try.params6]
    intro t ht
    simp only [List.mem_cons, List.not_mem_nil, or_false] at ht
    rcases ht with rfl | rfl | rfl <;> exact ⟨by kernel_rfl, of_decide_eq_true (by kernel_rfl)⟩
  have hAk := hA
  rw [Try.params6] at hA hval
  obtain ⟨v0, vs0, d0, ds0, p0, q0, hargs, rfl, rfl, h0, r0⟩ := trodAll_cons hA
  obtain ⟨v1, vs1, d1, ds1, p1, q1, rfl, rfl, rfl, h1, r1⟩ := trodAll_cons r0
  obtain ⟨v2, vs2, d2, ds2, p2, q2, rfl, rfl, rfl, h2, r2⟩ := trodAll_cons r1
  obtain ⟨rfl, rfl, rfl⟩ := trodAll_nil r2
  obtain rfl : args = #[v0, v1, v2] := by cases args; simp_all
  obtain ⟨rfl, rfl⟩ := trodVars_none hV
  obtain ⟨c0, m0, rfl, i0⟩ := Open.Flat.open_agg flatTwo8 (.inr ⟨_, _, Try.underlying22⟩) (hval 0 22 v0 rfl rfl) h0
  obtain ⟨n0_0, n0_1, rfl, x0_0, x0_1⟩ := i0.of2
  obtain ⟨xs1, f1⟩ := Open.Flat.open_slice flatEdge (by decide) Try.underlying23 (hval 1 23 v1 rfl rfl) h1
  obtain ⟨xs2, f2⟩ := Open.Flat.open_slice flatEdge (by decide) Try.underlying23 (hval 2 23 v2 rfl rfl) h2
  clear hA0 hval0 hsz0
  refine (Buf.bufferadds_row (Num.wf_u8 x0_0) (Num.wf_u8 x0_1) f1 f2).mono fun e W' ⟨he, bel⟩ => ?_
  subst he
  exact ⟨_, rfl, _, _, _, [], _, [], hW', trodAll_mk1 (shut_bool Try.underlying4 _), Open.trodAll_below laidOut bel hready hAk hlt, rfl, bel.frame _, fun h => by cases h⟩
theorem over : Rows.bufferAddsRow.holds Try.pinned (OpenSpec.ofChange Rows.bufferAddsSpec) :=
  OpenClaim.holds_of_wide 6 Try.f6 rfl rfl rfl rfl rfl rfl rfl ⟨rfl, rfl, rfl, rfl, rfl⟩ rfl rfl rfl rfl rfl (by kernel_rfl) Try.func6 (by kernel_rfl)
    (of_decide_eq_true (by kernel_rfl)) (by unfold Func.isWrapper; first | (rw [if_pos (by decide +kernel)]; kernel_rfl) | (rw [if_neg (by decide +kernel)]; exact ⟨rfl, rfl⟩))
    (fun os started H enc _ => lifted os started H enc)
theorem proved : Rows.BufferAddsSaid := over
end bufferAdds
/-- The row, for the claim. -/
theorem bufferAdds_holds : Rows.BufferAddsSaid := bufferAdds.proved
end Go.Proofs.Ytejcjonlnijbkaa
