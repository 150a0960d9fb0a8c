/- Package wide's Within, walked: numbers within a bound. For all arguments. -/
import Derived.Test.YtejcjonlnijbkaaWm2
import Derived.Test.YtejcjonlnijbkaaOpen
import Derived.LoopTactic
import Derived.Test.YtejcjonlnijbkaaBf1
import Derived.Test.YtejcjonlnijbkaaWm1
import Derived.Test.YtejcjonlnijbkaaPEx5
import Derived.Deep.QuietTactic
namespace Go.Proofs.Ytejcjonlnijbkaa.Wide
open Go Go.RowKit
set_option maxRecDepth 100000
set_option linter.unusedVariables false
set_option linter.unusedSimpArgs false

def inB (bound : Int) (z : Int) : Bool := decide (0 < bound ∧ z < bound ∧ -bound < z)

theorem all_take_succ {p : Int → Bool} {zs : List Int} {k : Nat} (hk : k < zs.length) : (zs.take (k + 1)).all p = ((zs.take k).all p && p (zs[k]?.getD 0)) := by
  rw [List.take_succ_eq_append_getElem hk, List.all_append]; simp [hk]
theorem all_false_of {p : Int → Bool} {zs : List Int} {k : Nat} (hk : k < zs.length) (h : p (zs[k]?.getD 0) = false) : zs.all p = false := by
  rw [List.all_eq_false]
  exact ⟨zs[k], List.getElem_mem hk, by simpa [hk] using h⟩
theorem wf_at {zs : List Int} {k : IntKind} (h : ∀ z ∈ zs, (Lit.int k z).wf = true) {i : Nat} (hi : i < zs.length) : (Lit.int k (zs[i]?.getD 0)).wf = true := by
  simpa [hi] using h zs[i] (List.getElem_mem hi)

set_option maxHeartbeats 2000000 in
theorem within_calls (bound : Int) (A : Option Addr) (zs : List Int) (cap : Nat) (b0 : -9223372036854775808 ≤ bound) (b1 : bound ≤ 9223372036854775807) (hm : zs.length ≤ maxLen) (w : World) (hA : Open.IntRow w .i64 A zs) :
    Calls Try.prog 42 #[.int .i64 bound, .slice A zs.length cap] w fun e w' => e = .returned (.bool (zs.all (inB bound))) ∧ w = w' := by
  unfold maxLen at hm
  obtain ⟨r, hr⟩ : ∃ r, zs.all (inB bound) = r := ⟨_, rfl⟩
  rw [hr]
  have HR := Lib.hid hr
  clear hr
  go_enter Try.func42, Try.ntmps42
  go_wp2
  go_loop [9] (fun i => ∃ k : Nat, k ≤ zs.length ∧ i = .int .i64 k ∧ (zs.take k).all (inB bound) = true) (fun i => zs.length - (intOf i).toNat)
  case atStart => exact ⟨0, Nat.zero_le _, rfl, by simp⟩
  case round =>
    obtain ⟨k, hk, rfl, hall⟩ := hrel
    have HA := Lib.hid hall
    clear hall
    by_cases hlt : k < zs.length
    · obtain ⟨b, off, rfl, hb, hc⟩ := hA.cell k hlt
      have hwf := Num.wf_i64 (wf_at hA.wf hlt)
      have hs := all_take_succ (p := inB bound) hlt
      have hf := all_false_of (p := inB bound) hlt
      generalize (zs[k]?.getD 0) = z at *
      have HS := Lib.hid hs
      have HF := Lib.hid hf
      clear hs hf hA
      by_cases h1 : 0 < bound
      · by_cases h2 : z < bound
        · by_cases h3 : -bound < z
          · have hz : inB bound z = true := by unfold inB; simp [h1, h2, h3]
            have HZ := Lib.hid hz
            clear hz
            go_wp2
            go_round
            case rel => exact ⟨k + 1, by omega, by go_num, by rw [HS.out, HA.out, HZ.out]; rfl⟩
            case measure => simp [intOf]; omega
          · obtain rfl : r = false := by rw [← HR.out]; exact HF.out (by unfold inB; simp; omega)
            clear HR
            go_wp2
            go_ret
            exact ⟨rfl, rfl⟩
        · obtain rfl : r = false := by rw [← HR.out]; exact HF.out (by unfold inB; simp; omega)
          clear HR
          go_wp2
          go_ret
          exact ⟨rfl, rfl⟩
      · obtain rfl : r = false := by rw [← HR.out]; exact HF.out (by unfold inB; simp; omega)
        clear HR
        go_wp2
        go_ret
        exact ⟨rfl, rfl⟩
    · obtain rfl : k = zs.length := by omega
      obtain rfl : r = true := by rw [← HR.out]; have := HA.out; rwa [List.take_length] at this
      clear HR
      go_wp2
      go_ret
      exact ⟨rfl, rfl⟩

end Go.Proofs.Ytejcjonlnijbkaa.Wide

/- (*Buffer).Add, walked: the edges that may be added are added, one by one. For all edges and all buffers. -/
namespace Go.Proofs.Ytejcjonlnijbkaa.Buf
open Go Go.RowKit Go.Shelf Range Go.Proofs.Ytejcjonlnijbkaa.PE Go.Proofs.YtejcjonlnijbkaaW.PrintWords Go.Proofs.YtejcjonlnijbkaaW.PrintLast Go.Proofs.YtejcjonlnijbkaaW.PrintMore Go.Proofs.Ytejcjonlnijbkaa.Num
set_option maxRecDepth 100000
set_option linter.unusedVariables false
set_option linter.unusedSimpArgs false
attribute [local go_sem] Oper.semAt_some

abbrev Eg := S38
def InI (n : Int) : Prop := -9223372036854775808 ≤ n ∧ n ≤ 9223372036854775807
def InIE (e : Eg) : Prop := InI e.f0.f0 ∧ InI e.f0.f1 ∧ InI e.f1.f0 ∧ InI e.f1.f1
def within (e : Eg) : Bool := [e.f0.f0, e.f0.f1, e.f1.f0, e.f1.f1].all (Wide.inB 17179869185)
def taken (e : Eg) : Bool := !(e.f0.f1 == e.f1.f1) && within e
def strs (H : Int) (e : Eg) : List Rw := Strip.strips e.f0.f0 e.f0.f1 e.f1.f0 e.f1.f1 H
def adde (W H : Int) (F : Int → List Cl) (e : Eg) : Int → List Cl := if taken e then adds W (strs H e) F else F
def addl (W H : Int) (es : List Eg) (F : Int → List Cl) : Int → List Cl := es.foldl (adde W H) F
def count (es : List Eg) : Nat := (es.filter taken).length
theorem addl_snoc (W H : Int) (es : List Eg) (e : Eg) (F : Int → List Cl) : addl W H (es ++ [e]) F = adde W H (addl W H es F) e := by simp [addl]
theorem count_snoc (es : List Eg) (e : Eg) : count (es ++ [e]) = count es + (if taken e then 1 else 0) := by
  unfold count; rw [List.filter_append]; by_cases h : taken e <;> simp [h]
theorem count_le (es : List Eg) : count es ≤ es.length := List.length_filter_le _ _
theorem taken_dom {e : Eg} {H : Int} (h : taken e = true) (h0 : 0 ≤ H) (h1 : H ≤ 100000) : Strip.Dom e.f0.f0 e.f0.f1 e.f1.f0 e.f1.f1 H := by
  simp [taken, within, Wide.inB] at h
  obtain ⟨n, a, b, c, d⟩ := h
  exact ⟨⟨by omega, by omega⟩, ⟨by omega, by omega⟩, ⟨by omega, by omega⟩, ⟨by omega, by omega⟩, n, h0, h1⟩

/-- A slice of edges, apart from these blocks. -/
def ER (O : Nat → Prop) (w : World) (A : Option Addr) (es : List Eg) : Prop :=
  ∀ i (hi : i < es.length), ∃ g off, A = some ⟨g, off, none⟩ ∧ g < w.heap.size ∧ ¬ O g ∧ w.cell? ⟨g, off + i * 4, none⟩ = some (.int .i64 es[i].f0.f0) ∧ w.cell? ⟨g, off + i * 4 + 1, none⟩ = some (.int .i64 es[i].f0.f1) ∧ w.cell? ⟨g, off + i * 4 + 2, none⟩ = some (.int .i64 es[i].f1.f0) ∧ w.cell? ⟨g, off + i * 4 + 3, none⟩ = some (.int .i64 es[i].f1.f1)
theorem ER.fr {O : Nat → Prop} {w w1 : World} {A : Option Addr} {es : List Eg} (h : ER O w A es) (hf : Fr O w w1) : ER O w1 A es := fun i hi => by
  obtain ⟨g, off, hA, hg, hn, c0, c1, c2, c3⟩ := h i hi
  have hc := fun o => World.cell?_of_block (a := ⟨g, o, none⟩) (hf.block g hg hn)
  exact ⟨g, off, hA, Nat.lt_of_lt_of_le hg hf.size, hn, (hc _).trans c0, (hc _).trans c1, (hc _).trans c2, (hc _).trans c3⟩
theorem ER.one {O : Nat → Prop} {w : World} (e : Eg) (hO : ¬ O w.heap.size) (t : TypeId) : ER O (w.alloc (.cells #[.int .i64 e.f0.f0, .int .i64 e.f0.f1, .int .i64 e.f1.f0, .int .i64 e.f1.f1] t)) (some ⟨w.heap.size, 0, none⟩) [e] := fun i hi => by
  have h0 : i = 0 := by simpa using hi
  subst h0
  exact ⟨w.heap.size, 0, rfl, by simp, hO, by go_simp, by go_simp, by go_simp, by go_simp⟩
theorem i64_wf {x : Int} (h : InI x) : (Lit.int .i64 x).wf = true := by
  unfold InI at h
  simp [Lit.wf, IntKind.min, IntKind.max, IntKind.signed, IntKind.bits]; omega
theorem quad_row {w : World} {g : Nat} {a b c d : Int} (hg : g < w.heap.size) (ha : InI a) (hb : InI b) (hc : InI c) (hd : InI d) (h0 : w.cell? ⟨g, 0, none⟩ = some (.int .i64 a)) (h1 : w.cell? ⟨g, 1, none⟩ = some (.int .i64 b)) (h2 : w.cell? ⟨g, 2, none⟩ = some (.int .i64 c)) (h3 : w.cell? ⟨g, 3, none⟩ = some (.int .i64 d)) : Open.IntRow w .i64 (some ⟨g, 0, none⟩) [a, b, c, d] := by
  refine ⟨fun i hi => ?_, fun z hz => ?_⟩
  · refine ⟨g, 0, rfl, hg, ?_⟩
    match i, hi with
    | 0, _ => simpa using h0
    | 1, _ => simpa using h1
    | 2, _ => simpa using h2
    | 3, _ => simpa using h3
  · simp at hz
    rcases hz with rfl | rfl | rfl | rfl
    · exact i64_wf ha
    · exact i64_wf hb
    · exact i64_wf hc
    · exact i64_wf hd

set_option maxHeartbeats 8000000 in
theorem Add_calls (H : Int) (W b m : Nat) (l : List (Int × Nat)) (F : Int → List Cl) (hH : 1 ≤ H ∧ H ≤ 4096) (hW : 1 ≤ W ∧ W ≤ 4096) (A : Option Addr) (es : List Eg) (cap : Nat) (hl : es.length ≤ 1000000) (hI : ∀ e ∈ es, InIE e) (w : World) (hB : Buf w b m W H l F F) (hE : ER (Own b m l) w A es) :
    Calls Try.prog 19 #[.pointer (some ⟨b, 0, none⟩), .slice A es.length cap] w fun e w' => e = .returned (.int .i64 (count es : Nat)) ∧ Fr (Own b m l) w w' ∧
      ∃ l', Buf w' b m W H l' (addl W H es F) (addl W H es F) ∧ ∀ i, Own b m l' i → Own b m l i ∨ w.heap.size ≤ i := by
  have HB := Lib.hid hB
  have HE := Lib.hid hE
  have HI := Lib.hid hI
  clear hB hE hI
  go_enter Try.func19, Try.ntmps19
  go_wp2
  go_loopw [10, 5] (fun x y wr => ∃ i : Nat, x = .int .i64 (i : Nat) ∧ i ≤ es.length ∧ y = .int .i64 (count (es.take i) : Nat) ∧ Fr (Own b m l) w wr ∧ ∃ l', Buf wr b m W H l' (addl W H (es.take i) F) (addl W H (es.take i) F) ∧ ∀ i, Own b m l' i → Own b m l i ∨ w.heap.size ≤ i) (fun x _ _ => es.length - (intOf x).toNat)
  case atStart => exact ⟨0, rfl, Nat.zero_le _, rfl, Fr.refl, l, HB.out, fun i hi => .inl hi⟩
  case round =>
    obtain ⟨i, rfl, hi, rfl, hF, l', h1, h2⟩ := hrel
    by_cases hlt : i < es.length
    · have hEr := HE.out.fr hF
      obtain ⟨g, off, rfl, hg, hno, c0, c1, c2, c3⟩ := hEr i hlt
      obtain ⟨i0, i1, i2, i3⟩ := HI.out es[i] (List.getElem_mem hlt)
      have hil : (i : Int) < (es.length : Int) := by omega
      have hsn := Lib.hid (take_snoc (List.getElem?_eq_getElem hlt))
      have hcl := count_le (es.take i)
      rw [List.length_take] at hcl
      by_cases hy : es[i].f0.f1 = es[i].f1.f1
      · have hy2 : (es[i].f0.f1 == es[i].f1.f1) = true := by simpa using hy
        have htk := Lib.hid (show taken es[i] = false by simp [taken, hy])
        generalize es[i] = e at *
        go_wp2
        have hAl := fun o => (Below.refl wr.heap.size wr).alloc (Nat.le_refl _) o
        go_roundw
        case rel =>
          refine ⟨i + 1, by go_num, by omega, ?_, hF.trans (Fr.of_below (hAl _) (O := fun _ => False)) (fun i hi => hi.elim), l', ?_, h2⟩
          · rw [hsn.out, count_snoc, htk.out]; simp
          · rw [hsn.out, addl_snoc]
            unfold adde; rw [if_neg (by rw [htk.out]; decide)]
            exact h1.of (fun i hi => (hAl _).block i (h1.lt hi))
        case measure => simp [intOf]; omega
      · have hy2 : (es[i].f0.f1 == es[i].f1.f1) = false := by simpa using hy
        obtain ⟨r, hr⟩ : ∃ r, within es[i] = r := ⟨_, rfl⟩
        have htk := Lib.hid (show taken es[i] = r by simp [taken, hy, hr])
        have hrr := Lib.hid (show [es[i].f0.f0, es[i].f0.f1, es[i].f1.f0, es[i].f1.f1].all (Wide.inB 17179869185) = r from hr)
        have hadd : r = true → ∀ w1, Buf w1 b m W H l' (addl W H (es.take i) F) (addl W H (es.take i) F) → _ := fun e w1 hb => add_calls es[i].f0.f0 es[i].f0.f1 es[i].f1.f0 es[i].f1.f1 H W b m l' (addl W H (es.take i) F) (taken_dom (htk.out.trans e) (by omega) (by omega)) hW w1 hb
        have HADD := Lib.hid hadd
        have hst := Lib.hid (show strs H es[i] = Strip.strips es[i].f0.f0 es[i].f0.f1 es[i].f1.f0 es[i].f1.f1 H from rfl)
        have hAl2 : ∀ o o2, Below wr.heap.size wr ((wr.alloc o).alloc o2) := fun o o2 => ((Below.refl wr.heap.size wr).alloc (Nat.le_refl _) _).alloc (by simp) _
        clear hr hadd
        generalize es[i] = e at *
        have hB1 := h1
        have H1 := Lib.hid h1
        clear h1
        cases r with
        | false =>
          go_wp2_with (first
            | (go_at_call 42; refine (Wide.within_calls 17179869185 (some ⟨wr.heap.size + 1, 0, none⟩) [e.f0.f0, e.f0.f1, e.f1.f0, e.f1.f1] 4 (by omega) (by omega) (by simp [maxLen]) _ (quad_row (by simp) i0 i1 i2 i3 (by go_simp) (by go_simp) (by go_simp) (by go_simp))).mono ?_; rintro e1 w1 ⟨rfl, rfl⟩; rw [hrr.out]))
          go_roundw
          case rel =>
            refine ⟨i + 1, by go_num, by omega, ?_, hF.trans (Fr.of_below (hAl2 _ _) (O := fun _ => False)) (fun i hi => hi.elim), l', ?_, h2⟩
            · rw [hsn.out, count_snoc, htk.out]; simp
            · rw [hsn.out, addl_snoc]
              unfold adde; rw [if_neg (by rw [htk.out]; decide)]
              exact H1.out.of (fun i hi => (hAl2 _ _).block i (H1.out.lt hi))
          case measure => simp [intOf]; omega
        | true =>
          go_wp2_with (first
            | (go_at_call 42; refine (Wide.within_calls 17179869185 (some ⟨wr.heap.size + 1, 0, none⟩) [e.f0.f0, e.f0.f1, e.f1.f0, e.f1.f1] 4 (by omega) (by omega) (by simp [maxLen]) _ (quad_row (by simp) i0 i1 i2 i3 (by go_simp) (by go_simp) (by go_simp) (by go_simp))).mono ?_; rintro e1 w1 ⟨rfl, rfl⟩; rw [hrr.out])
            | (go_at_call 43; (refine (HADD.out (by simp) _ (hB1.of (fun i hi => (hAl2 _ _).block i (hB1.lt hi)))).mono ?_; rintro e1 w1 ⟨rfl, hF1, l1, hb1, ho1⟩)))
          go_roundw
          case rel =>
            refine ⟨i + 1, by go_num, by omega, ?_, (hF.trans (Fr.of_below (hAl2 _ _) (O := fun _ => False)) (fun i hi => hi.elim)).trans hF1 (fun j hj => h2 j hj), l1, ?_, fun j hj => ?_⟩
            · rw [hsn.out, count_snoc, htk.out]; go_num
            · rw [hsn.out, addl_snoc]
              unfold adde; rw [if_pos htk.out, hst.out]; exact hb1
            · rcases ho1 j hj with h | h
              · exact h2 j h
              · have := hF.size; simp at h; exact .inr (by omega)
          case measure => simp [intOf]; omega
    · obtain rfl : i = es.length := by omega
      rw [List.take_length] at h1
      go_wp2
      go_ret
      exact ⟨by rw [List.take_length]; rfl, hF, l', h1, h2⟩
end Go.Proofs.Ytejcjonlnijbkaa.Buf

/- (*Buffer).Row, walked: the iterator hands the weights of a row's pixels. For all buffers and all rows. -/
namespace Go.Proofs.Ytejcjonlnijbkaa.Buf
open Go Go.RowKit Go.Shelf Range Go.Proofs.Ytejcjonlnijbkaa.PE Go.Proofs.YtejcjonlnijbkaaW.PrintWords Go.Proofs.YtejcjonlnijbkaaW.PrintLast Go.Proofs.YtejcjonlnijbkaaW.PrintMore Go.Proofs.Ytejcjonlnijbkaa.Num
set_option maxRecDepth 100000
set_option linter.unusedVariables false
set_option linter.unusedSimpArgs false
attribute [local go_sem] Oper.semAt_some

/-- The covers on the left of a column. -/
def low : Nat → List Cl → Int
  | 0, _ => 0
  | x + 1, L => low x L + cov x L
/-- A pixel's weight. -/
def wt (x : Nat) (L : List Cl) : Int := wrap64 (131072 * low x L + (131072 * cov x L - are x L))
def wts (W : Nat) (L : List Cl) : List (Int × Int) := (List.range W).map fun (x : Nat) => ((x : Int), wt x L)
theorem wts_len (W : Nat) (L : List Cl) : (wts W L).length = W := by simp [wts]
theorem wts_at (W : Nat) (L : List Cl) {x : Nat} (hx : x < W) : (wts W L)[x]? = some ((x : Int), wt x L) := by simp [wts, hx]
def encW (p : Int × Int) : Array Value := #[.int .i64 p.1, .int .i64 p.2]
theorem wt_sum (x : Nat) (L : List Cl) : wrap64 (wrap64 (wrap64 (wrap64 (low x L) * 131072) - 0) + wrap64 (wrap64 (wrap64 (cov x L) * 131072) - wrap64 (are x L))) = wt x L := by
  unfold wt wrap64; omega
theorem low_nil (x : Nat) : low x [] = 0 := by induction x with
  | zero => rfl
  | succ x ih => simp [low, ih, cov]
theorem wt_nil (x : Nat) : wt x [] = 0 := by simp [wt, low_nil, cov, are, wrap64]

theorem Row_calls (b : Nat) (y : Int) (w : World) : Calls Try.prog 17 #[.pointer (some ⟨b, 0, none⟩), .int .i64 y] w fun e w' => e = .returned (.func (.func 40) #[] #[.pointer (some ⟨w.heap.size + 1, 0, none⟩), .pointer (some ⟨w.heap.size, 0, none⟩)]) ∧ w' = (w.alloc (.cells #[.pointer (some ⟨b, 0, none⟩)] 26)).alloc (.cells #[.int .i64 y] 3) := by
  go_enter Try.func17, Try.ntmps17
  go_wp2
  go_ret
  exact ⟨by simp, rfl⟩

set_option maxHeartbeats 8000000 in
theorem Row_none (H : Int) (W b m : Nat) (l : List (Int × Nat)) (F : Int → List Cl) (n₀ B1 B2 : Nat) (y : Int) (hy : y < 0 ∨ H ≤ y) (w : World) (hB : Buf w b m W H l F F) (hb1 : B1 < w.heap.size) (hb2 : B2 < w.heap.size)
    (c1 : w.cell? ⟨B1, 0, none⟩ = some (.int .i64 y)) (c2 : w.cell? ⟨B2, 0, none⟩ = some (.pointer (some ⟨b, 0, none⟩))) (kb : List Nat) :
    SeqN.Gives Try.prog 1 40 #[.pointer (some ⟨B1, 0, none⟩), .pointer (some ⟨B2, 0, none⟩)] encW n₀ kb [] w := by
  intro l0 J Jx V hV hJ _ hY h0
  have hB' := hB.of (fun i hi => hV.block i (hB.lt hi))
  have d1 := (hV.cell (p := ⟨B1, 0, none⟩) hb1).trans c1
  have d2 := (hV.cell (p := ⟨B2, 0, none⟩) hb2).trans c2
  have d3 := hB'.c1
  have h3 : J 0 V.drew := hJ 0 V _ h0 (Nat.le_refl _) (SeqN.Win.of_below (Below.refl _ V).drew)
  clear hB hV hb1 hb2 c1 c2
  refine callsIn_of_wp Try.func40 rfl trivial ?_ rfl
  simp only [Try.ntmps40, List.size_toArray, List.length_cons, List.length_nil, Nat.reduceAdd, Nat.reduceSub, Array.replicate_succ, Array.replicate_zero, List.push_toArray, List.append_toArray, List.nil_append, List.cons_append]
  gi_wp2
  have hem := Classical.em (y < 0)
  rcases hem with hneg | hneg
  all_goals
    have hor : y < 0 ∨ (¬ y < 0 ∧ H ≤ y) := (by omega)
    clear hy
    apply Cut.cut_eq
    · gi_region
      all_goals exact ⟨rfl, rfl⟩
  · gi_wp2
    refine bodyPost_ret (results_none rfl _ _ _) rfl ?_
    exact ⟨⟨_, rfl⟩, .inl h3⟩
  · have hge : H ≤ y := by omega
    have hge2 : decide (H ≤ y) = true := by simpa using hge
    gi_wp2
    refine bodyPost_ret (results_none rfl _ _ _) rfl ?_
    exact ⟨⟨_, rfl⟩, .inl h3⟩

set_option maxHeartbeats 8000000 in
theorem Row_gives (H : Int) (W b m : Nat) (l : List (Int × Nat)) (F : Int → List Cl) (n₀ B1 B2 : Nat) (y : Int) (hy : 0 ≤ y ∧ y < H) (hW : 1 ≤ W ∧ W ≤ 4096) (w : World) (hB : Buf w b m W H l F F) (hb1 : B1 < w.heap.size) (hb2 : B2 < w.heap.size)
    (c1 : w.cell? ⟨B1, 0, none⟩ = some (.int .i64 y)) (c2 : w.cell? ⟨B2, 0, none⟩ = some (.pointer (some ⟨b, 0, none⟩))) :
    SeqN.Gives Try.prog 1 40 #[.pointer (some ⟨B1, 0, none⟩), .pointer (some ⟨B2, 0, none⟩)] encW n₀ (l.map (·.2)) (wts W (F y)) w := by
  intro l0 J Jx V hV hJ hJx hY h0
  have hB' := hB.of (fun i hi => hV.block i (hB.lt hi))
  have d1 := (hV.cell (p := ⟨B1, 0, none⟩) hb1).trans c1
  have d2 := (hV.cell (p := ⟨B2, 0, none⟩) hb2).trans c2
  have hb1' := Nat.lt_of_lt_of_le hb1 hV.size
  have hb2' := Nat.lt_of_lt_of_le hb2 hV.size
  have d3 := hB'.c1
  have d4 := hB'.c2
  have d5 := hB'.c0
  have hbV : b < V.heap.size := hB'.lt (.inl rfl)
  have hmV : m < V.heap.size := hB'.lt (.inr (.inl rfl))
  clear hB hV hb1 hb2 c1 c2
  have hn1 : ¬ y < 0 := by omega
  have hn2 : ¬ H ≤ y := by omega
  have hn3 : decide (H ≤ y) = false := by simpa using hn2
  obtain ⟨rv, L, hrun, hL⟩ : ∃ (rv : Option Nat) (L : List Cl), (Instr.lookup 89 (.map (some m)) (.int .i64 y) false).run Try.prog V.drew.drew = .ok (match rv with | some g => .slice (some ⟨g, 0, none⟩) W W | none => .slice none 0 0) V.drew.drew ∧ L = F y ∧ match rv with | some g => (y, g) ∈ l | none => L = [] := by
    have hmap : V.drew.drew.heap[m]? = some (MapI.obj (vals W l)) := hB'.map
    rcases hB'.get (y := y) with ⟨g, hm, hlk⟩ | ⟨hn, hlk⟩
    · exact ⟨some g, F y, by rw [MapI.look_some (P := Try.prog) Try.underlying89 Try.underlying3 hmap hlk false]; rfl, rfl, hm⟩
    · exact ⟨none, F y, by rw [MapI.look_none (P := Try.prog) Try.underlying89 Try.underlying3 hmap (z := .slice none 0 0) (by kernel_rfl) hlk false]; rfl, rfl, (hB'.none y hn).1⟩
  have HB := Lib.hid hB'
  clear hB'
  rcases rv with _ | g
  · obtain ⟨rfl, hLn⟩ := hL
    have HLn := Lib.hid hLn
    dsimp only at hrun
    refine callsIn_of_wp Try.func40 rfl trivial ?_ rfl
    simp only [Try.ntmps40, List.size_toArray, List.length_cons, List.length_nil, Nat.reduceAdd, Nat.reduceSub, Array.replicate_succ, Array.replicate_zero, List.push_toArray, List.append_toArray, List.nil_append, List.cons_append]
    gi_wp2
    have hn4 : ¬ y < 0 := by omega
    apply Cut.cut_eq
    · gi_region
      all_goals exact ⟨rfl, rfl⟩
    gi_wp2
    apply Cut.cut_eq
    · gi_region
      all_goals exact ⟨rfl, rfl⟩
    gi_wp2
    obtain ⟨V1, hV1⟩ : ∃ V1, ((V.alloc (.cells #[.int .i64 0, .int .i64 0] 60)).drew).drew = V1 := ⟨_, rfl⟩
    have hb1 : Below V.heap.size V V1 := by rw [← hV1]; exact (((Below.refl _ V).alloc (Nat.le_refl _) _).drew).drew
    have hs1 : V1.heap.size = V.heap.size + 1 := by rw [← hV1]; simp
    have e0 : V1.cell? ⟨V.heap.size, 0, none⟩ = some (.int .i64 0) := by subst hV1; go_simp
    have e1 : V1.cell? ⟨V.heap.size, 1, none⟩ = some (.int .i64 0) := by subst hV1; go_simp
    rw [hV1]
    clear hV1 hrun
    have CW := Lib.hid (fun w => cell_Weight.calls 0 0 0 w (by kernel_rfl))
    gi_loopw [29] (fun x wr => ∃ i : Nat, x = .int .i64 (i : Nat) ∧ i ≤ W ∧ J i wr ∧ V.heap.size + 1 ≤ wr.heap.size ∧ wr.cell? ⟨V.heap.size, 0, none⟩ = some (.int .i64 0) ∧ wr.cell? ⟨V.heap.size, 1, none⟩ = some (.int .i64 0)) (fun x _ => W - (intOf x).toNat)
    case atStart => exact ⟨0, rfl, Nat.zero_le _, hJ 0 V _ h0 (Nat.le_refl _) (SeqN.Win.of_below hb1), by omega, e0, e1⟩
    case round =>
      obtain ⟨i, rfl, hi, hJi, hsz, f0, f1⟩ := hrel
      by_cases hlt : i < W
      · have hil : (i : Int) < (W : Int) := by omega
        have hx := Lib.hid (show (wts W (F y))[i]? = some ((i : Int), 0) by rw [wts_at W (F y) hlt, hLn, wt_nil])
        clear hLn
        gi_wp2_with (gi_at_call 41; refine (Seq.of_calls (CW.out _)).mono ?_; rintro e w1 ⟨rfl, hb2⟩)
        obtain ⟨fn, tmps, assign, body, hy2, hR⟩ := hY i ((i : Int), 0) w1 hx.out (by have := hb2.size; omega) (hJ i wr w1 hJi (by omega) (SeqN.Win.of_below hb2))
        have hR := Seq.roundIn_any (ro' := none) (n' := 0 - 1) hR
        unfold encW at hy2
        rw [hy2]
        gi_wp2
        have hs2 := hb2.size
        refine hR.mono ?_
        rintro e W3 (⟨rfl, hJ3, hk3⟩ | ⟨rfl, hJx3, hk3⟩)
        · gi_wp2
          have hs3 := hk3.1.size
          have hK := (hk3.2.1 V.heap.size (Nat.le_refl _) (by omega) (by omega)).trans (hb2.block V.heap.size (by omega))
          go_roundw
          case rel => exact ⟨i + 1, by go_num, by omega, hJ3, by omega, (World.cell?_of_block (a := ⟨V.heap.size, 0, none⟩) hK).trans f0, (World.cell?_of_block (a := ⟨V.heap.size, 1, none⟩) hK).trans f1⟩
          case measure => simp [intOf]; omega
        · gi_wp2
          refine bodyPost_ret (results_none rfl _ _ _) rfl ?_
          exact ⟨⟨_, rfl⟩, .inr ⟨i + 1, by rw [wts_len]; omega, hJx3⟩⟩
      · obtain rfl : i = W := by omega
        gi_wp2
        go_end0
        exact ⟨⟨_, rfl⟩, .inl (by rw [wts_len]; exact hJi)⟩
  · obtain ⟨rfl, hm⟩ := hL
    dsimp only at hrun
    have hrow := HB.out.row _ hm
    have hgV := hrow.lt
    have HR := Lib.hid hrow
    have hkb : g ∈ l.map (·.2) := List.mem_map.2 ⟨_, hm, rfl⟩
    have HK := Lib.hid hkb
    clear hrow hkb
    refine callsIn_of_wp Try.func40 rfl trivial ?_ rfl
    simp only [Try.ntmps40, List.size_toArray, List.length_cons, List.length_nil, Nat.reduceAdd, Nat.reduceSub, Array.replicate_succ, Array.replicate_zero, List.push_toArray, List.append_toArray, List.nil_append, List.cons_append]
    gi_wp2
    have hn4 : ¬ y < 0 := by omega
    apply Cut.cut_eq
    · gi_region
      all_goals exact ⟨rfl, rfl⟩
    gi_wp2
    apply Cut.cut_eq
    · gi_region
      all_goals exact ⟨rfl, rfl⟩
    gi_wp2
    obtain ⟨V1, hV1⟩ : ∃ V1, ((V.alloc (.cells #[.int .i64 0, .int .i64 0] 60)).drew).drew = V1 := ⟨_, rfl⟩
    have hb1 : Below V.heap.size V V1 := by rw [← hV1]; exact (((Below.refl _ V).alloc (Nat.le_refl _) _).drew).drew
    have hs1 : V1.heap.size = V.heap.size + 1 := by rw [← hV1]; simp
    have e0 : V1.cell? ⟨V.heap.size, 0, none⟩ = some (.int .i64 (wrap64 (low 0 (F y)))) := by subst hV1; go_simp; simp [low, wrap64]
    have e1 : V1.cell? ⟨V.heap.size, 1, none⟩ = some (.int .i64 0) := by subst hV1; go_simp
    have e2 : V1.frozen? ⟨V.heap.size, 0, none⟩ = false := by subst hV1; go_simp
    rw [hV1]
    clear hV1 hrun
    have hW0 : 0 < W := by omega
    have hW1 : decide (0 < W) = true := by simpa using hW0
    gi_loopw [29] (fun x wr => ∃ i : Nat, x = .int .i64 (i : Nat) ∧ i ≤ W ∧ J i wr ∧ V.heap.size + 1 ≤ wr.heap.size ∧ wr.cell? ⟨V.heap.size, 0, none⟩ = some (.int .i64 (wrap64 (low i (F y)))) ∧ wr.cell? ⟨V.heap.size, 1, none⟩ = some (.int .i64 0) ∧ wr.frozen? ⟨V.heap.size, 0, none⟩ = false ∧ wr.heap[g]? = V.heap[g]?) (fun x _ => W - (intOf x).toNat)
    case atStart => exact ⟨0, rfl, Nat.zero_le _, hJ 0 V _ h0 (Nat.le_refl _) (SeqN.Win.of_below hb1), by omega, e0, e1, e2, hb1.block g hgV⟩
    case round =>
      obtain ⟨i, rfl, hi, hJi, hsz, f0, f1, f2, f3⟩ := hrel
      by_cases hlt : i < W
      · have hil : (i : Int) < (W : Int) := by omega
        have hx := Lib.hid (show (wts W (F y))[i]? = some ((i : Int), wt i (F y)) from wts_at W (F y) hlt)
        have hr3 := HR.out.of f3
        have r0 := hr3.cov i hlt
        have r1 := hr3.are i hlt
        have hS := Lib.hid (wt_sum i (F y))
        have hL2 := Lib.hid (show wrap64 (wrap64 (low i (F y)) + wrap64 (cov i (F y))) = wrap64 (low (i + 1) (F y)) by simp only [low]; unfold wrap64; omega)
        have hg3 : g < wr.heap.size := hr3.lt
        clear hr3
        obtain ⟨p1, hp1⟩ : ∃ p1, wrap64 (wrap64 (wrap64 (low i (F y)) * 131072) - 0) = p1 := ⟨_, rfl⟩
        obtain ⟨p2, hp2⟩ : ∃ p2, wrap64 (wrap64 (wrap64 (cov i (F y)) * 131072) - wrap64 (are i (F y))) = p2 := ⟨_, rfl⟩
        have CW1 := Lib.hid (fun w => cell_Weight.calls (wrap64 (low i (F y))) 0 p1 w (by rw [← hp1]; rfl))
        have CW2 := Lib.hid (fun w => cell_Weight.calls (wrap64 (cov i (F y))) (wrap64 (are i (F y))) p2 w (by rw [← hp2]; rfl))
        rw [hp1, hp2] at hS
        clear hp1 hp2
        generalize wrap64 (low i (F y)) = lw at *
        generalize hlw : wrap64 (low (i + 1) (F y)) = lw' at *
        have HLW := Lib.hid hlw
        clear hlw
        generalize wrap64 (cov i (F y)) = cv at *
        generalize wrap64 (are i (F y)) = av at *
        generalize wt i (F y) = wv at *
        gi_wp2_with (first
          | (gi_at_call 41; refine (Seq.of_calls (CW1.out _)).mono ?_; rintro e w1 ⟨rfl, hb2⟩; have k0 := (hb2.cell (p := ⟨g, i * 2, none⟩) hg3).trans r0; have k1 := (hb2.cell (p := ⟨g, i * 2 + 1, none⟩) hg3).trans r1)
          | (gi_at_call 41; refine (Seq.of_calls (CW2.out _)).mono ?_; rintro e w2 ⟨rfl, hb3⟩))
        have hb23 := hb2.trans (hb3.mono hb2.size)
        have l0' := (hb23.cell (p := ⟨V.heap.size, 0, none⟩) (by show V.heap.size < _; omega)).trans f0
        have l1' := (hb23.cell (p := ⟨V.heap.size, 1, none⟩) (by show V.heap.size < _; omega)).trans f1
        have l2' := (hb23.frozen (p := ⟨V.heap.size, 0, none⟩) (by show V.heap.size < _; omega)).trans f2
        have l3' := (hb23.cell (p := ⟨g, i * 2, none⟩) hg3).trans r0
        have hg4 := (hb23.block g hg3).trans f3
        have hs23 := hb23.size
        have hVg : V.heap.size ≠ g := by omega
        apply Cut.cut_eq
        · gi_region
          all_goals exact ⟨rfl, rfl⟩
        gi_wp2
        rw [hS.out, hL2.out]
        obtain ⟨V4, hV4⟩ : ∃ V4, (w2.setCell ⟨V.heap.size, 0, none⟩ (.int .i64 lw')).drew = V4 := ⟨_, rfl⟩
        have hwn : SeqN.Win 1 V.heap.size wr V4 := (SeqN.Win.of_below hb23).trans (by rw [← hV4]; exact (SeqN.Win.set (p := ⟨V.heap.size, 0, none⟩) (Nat.le_refl _) (Nat.lt_succ_self _) _).trans (SeqN.Win.of_below (Below.refl _ _).drew))
        have m0 : V4.cell? ⟨V.heap.size, 0, none⟩ = some (.int .i64 lw') := by rw [← hV4]; exact World.cell?_setCell_same' _ _ _ (by rw [l0']; rfl)
        have m1 : V4.cell? ⟨V.heap.size, 1, none⟩ = some (.int .i64 0) := by rw [← hV4]; exact (set_other (by omega)).trans l1'
        have m2 : V4.frozen? ⟨V.heap.size, 0, none⟩ = false := by rw [← hV4]; exact (World.frozen?_setCell _ _ _ _).trans l2'
        have m3 : V4.heap[g]? = V.heap[g]? := by rw [← hV4]; exact (Below.heap_setCell _ _ _ _ (by show g ≠ V.heap.size; omega)).trans hg4
        rw [hV4]
        have hs4 := hwn.size
        clear hV4 l0' l1' l2' l3' hg4 k0 k1
        obtain ⟨fn, tmps, assign, body, hy2, hR⟩ := hY i ((i : Int), wv) V4 hx.out (by omega) (hJ i wr V4 hJi (by omega) hwn)
        have hR := Seq.roundIn_any (ro' := none) (n' := 0 - 1) hR
        unfold encW at hy2
        rw [hy2]
        gi_wp2
        refine hR.mono ?_
        rintro e W3 (⟨rfl, hJ3, hk3⟩ | ⟨rfl, hJx3, hk3⟩)
        · gi_wp2
          have hs3 := hk3.1.size
          have hK := hk3.2.1 V.heap.size (Nat.le_refl _) (by omega) (by omega)
          go_roundw
          case rel => exact ⟨i + 1, by go_num, by omega, hJ3, by omega, (World.cell?_of_block (a := ⟨V.heap.size, 0, none⟩) hK).trans (m0.trans (by rw [HLW.out])), (World.cell?_of_block (a := ⟨V.heap.size, 1, none⟩) hK).trans m1, (World.frozen?_of_block (a := ⟨V.heap.size, 0, none⟩) hK).trans m2, (hk3.2.2 g HK.out).trans m3⟩
          case measure => simp [intOf]; omega
        · gi_wp2
          refine bodyPost_ret (results_none rfl _ _ _) rfl ?_
          exact ⟨⟨_, rfl⟩, .inr ⟨i + 1, by rw [wts_len]; omega, hJx3⟩⟩
      · obtain rfl : i = W := by omega
        gi_wp2
        go_end0
        exact ⟨⟨_, rfl⟩, .inl (by rw [wts_len]; exact hJi)⟩
end Go.Proofs.Ytejcjonlnijbkaa.Buf

/- (*Buffer).At and (*Buffer).Covers, walked. For all buffers and all places. -/
namespace Go.Proofs.Ytejcjonlnijbkaa.Buf
open Go Go.RowKit Go.Shelf Range Go.Proofs.Ytejcjonlnijbkaa.PE Go.Proofs.YtejcjonlnijbkaaW.PrintWords Go.Proofs.YtejcjonlnijbkaaW.PrintLast Go.Proofs.YtejcjonlnijbkaaW.PrintMore Go.Proofs.Ytejcjonlnijbkaa.Num
set_option maxRecDepth 100000
set_option linter.unusedVariables false
set_option linter.unusedSimpArgs false
attribute [local go_sem] Oper.semAt_some

/-- The pixels' weights of a row, or none. -/
def rowWts (W : Nat) (H : Int) (F : Int → List Cl) (y : Int) : List (Int × Int) := if 0 ≤ y ∧ y < H then wts W (F y) else []
def atV (W : Nat) (H : Int) (F : Int → List Cl) (x y : Int) : Int := if 0 ≤ x ∧ x < W ∧ 0 ≤ y ∧ y < H then wt x.toNat (F y) else 0
theorem row_gives (H : Int) (W b m : Nat) (l : List (Int × Nat)) (F : Int → List Cl) (n₀ B1 B2 : Nat) (y : Int) (hW : 1 ≤ W ∧ W ≤ 4096) (w : World) (hB : Buf w b m W H l F F) (hb1 : B1 < w.heap.size) (hb2 : B2 < w.heap.size)
    (c1 : w.cell? ⟨B1, 0, none⟩ = some (.int .i64 y)) (c2 : w.cell? ⟨B2, 0, none⟩ = some (.pointer (some ⟨b, 0, none⟩))) :
    SeqN.Gives Try.prog 1 40 #[.pointer (some ⟨B1, 0, none⟩), .pointer (some ⟨B2, 0, none⟩)] encW n₀ (l.map (·.2)) (rowWts W H F y) w := by
  unfold rowWts
  by_cases h : 0 ≤ y ∧ y < H
  · rw [if_pos h]; exact Row_gives H W b m l F n₀ B1 B2 y h hW w hB hb1 hb2 c1 c2
  · rw [if_neg h]; exact Row_none H W b m l F n₀ B1 B2 y (by omega) w hB hb1 hb2 c1 c2 _
theorem rowWts_at {W : Nat} {H : Int} {F : Int → List Cl} {y : Int} {k : Nat} {p : Int × Int} (h : (rowWts W H F y)[k]? = some p) : 0 ≤ y ∧ y < H ∧ k < W ∧ p = ((k : Int), wt k (F y)) := by
  unfold rowWts at h
  split at h
  · rename_i hy
    have hk : k < W := by have := (List.getElem?_eq_some_iff.1 h).1; rwa [wts_len] at this
    rw [wts_at W (F y) hk] at h
    exact ⟨hy.1, hy.2, hk, (Option.some.inj h).symm⟩
  · simp at h

set_option maxHeartbeats 8000000 in
theorem At_calls (H : Int) (W b m : Nat) (l : List (Int × Nat)) (F : Int → List Cl) (hW : 1 ≤ W ∧ W ≤ 4096) (x y : Int) (w : World) (hB : Buf w b m W H l F F) :
    Calls Try.prog 18 #[.pointer (some ⟨b, 0, none⟩), .int .i64 x, .int .i64 y] w fun e w' => e = .returned (.int .i64 (atV W H F x y)) ∧ Below w.heap.size w w' := by
  have HB := Lib.hid hB
  have RC := Lib.hid (fun w => Row_calls b y w)
  have hol : ∀ i, Own b m l i → i < w.heap.size := fun i hi => hB.lt hi
  clear hB
  refine Seq.calls_of (n := 0) (callsIn_of_wp_marks Try.func18 rfl trivial ?_ rfl)
  simp only [Try.ntmps18, List.size_toArray, List.length_cons, List.length_nil, Nat.reduceAdd, Nat.reduceSub, Array.replicate_succ, Array.replicate_zero, List.push_toArray, List.append_toArray, List.nil_append, List.cons_append]
  gi_wp2_with (gi_at_call 17; refine (Seq.of_calls (RC.out _)).mono ?_; rintro e w2 ⟨rfl, rfl⟩)
  obtain ⟨W0, hW0⟩ : ∃ W0, ((((w.alloc (.cells #[.int .i64 x] 3)).alloc (.cells #[.int .i64 0] 2)).alloc (.cells #[.pointer (some ⟨b, 0, none⟩)] 26)).alloc (.cells #[.int .i64 y] 3)) = W0 := ⟨_, rfl⟩
  have HBl : Below w.heap.size w W0 := by rw [← hW0]; (repeat' (first | (with_reducible exact Below.refl _ _) | (with_reducible refine Below.drew ?_) | (with_reducible refine below_drewN ?_ _) | ((with_reducible refine Below.setCell ?_ ?side_ _); case side_ => (first | (with_reducible exact Nat.le_refl _) | (with_reducible assumption) | omega | (simp; done) | (simp; omega))) | ((with_reducible refine Below.alloc ?_ ?side_ _); case side_ => (first | (with_reducible exact Nat.le_refl _) | (with_reducible assumption) | omega | (simp; done) | (simp; omega)))))
  have hsz : W0.heap.size = w.heap.size + 4 := by rw [← hW0]; simp
  have k0 : W0.cell? ⟨w.heap.size, 0, none⟩ = some (.int .i64 x) := by subst hW0; go_simp
  have k1 : W0.cell? ⟨w.heap.size + 1, 0, none⟩ = some (.int .i64 0) := by subst hW0; go_simp
  have k2 : W0.frozen? ⟨w.heap.size + 1, 0, none⟩ = false := by subst hW0; go_simp
  have k3 : W0.cell? ⟨w.heap.size + 1 + 1, 0, none⟩ = some (.pointer (some ⟨b, 0, none⟩)) := by subst hW0; go_simp
  have k4 : W0.cell? ⟨w.heap.size + 1 + 1 + 1, 0, none⟩ = some (.int .i64 y) := by subst hW0; go_simp
  have HB0 : Buf W0 b m W H l F F := HB.out.of (fun i hi => HBl.block i (hol i hi))
  rw [hW0]
  clear hW0
  refine KdX.with_frame fun T hT => ?_
  refine SeqN.range_ax (N := 1) (n₀ := w.heap.size) (by rw [hT]; rfl) (enters_of Try.func40 (by kernel_rfl) rfl) (row_gives H W b m l F w.heap.size (w.heap.size + 1 + 1 + 1) (w.heap.size + 1 + 1) y hW W0 HB0 (by omega) (by omega) k4 k3) (by omega) (fun b hb => by obtain ⟨p, hp, rfl⟩ := List.mem_map.1 hb; have := hol p.2 (.inr (.inr ⟨p, hp, rfl⟩)); omega) (Below.refl _ _) (fun _ => rfl)
    (fun k V => (∀ j : Nat, j < k → (j : Int) ≠ x) ∧ W0.heap.size ≤ V.heap.size ∧ Below w.heap.size w V ∧ V.cell? ⟨w.heap.size, 0, none⟩ = some (.int .i64 x) ∧ V.cell? ⟨w.heap.size + 1, 0, none⟩ = some (.int .i64 0) ∧ V.frozen? ⟨w.heap.size + 1, 0, none⟩ = false)
    (fun c k V => c = .ret ∧ W0.heap.size ≤ V.heap.size ∧ Below w.heap.size w V ∧ V.cell? ⟨w.heap.size + 1, 0, none⟩ = some (.int .i64 (atV W H F x y)))
    (fun k A B hs hA hw => by
      obtain ⟨h1, h2, h3, h4, h5, h6⟩ := hs
      exact ⟨h1, Nat.le_trans h2 hw.size, h3.trans (hw.below (by omega) (by omega)), (hw.cell (p := ⟨w.heap.size, 0, none⟩) (by show w.heap.size < _; omega) (.inl (by show w.heap.size < _; omega))).trans h4, (hw.cell (p := ⟨w.heap.size + 1, 0, none⟩) (by show w.heap.size + 1 < _; omega) (.inl (by show w.heap.size + 1 < _; omega))).trans h5, (hw.frozen (p := ⟨w.heap.size + 1, 0, none⟩) (by show w.heap.size + 1 < _; omega) (.inl (by show w.heap.size + 1 < _; omega))).trans h6⟩)
    (fun c k A B hs hA hw => by
      obtain ⟨h1, h2, h3, h4⟩ := hs
      exact ⟨h1, Nat.le_trans h2 hw.size, h3.trans (hw.below (by omega) (by omega)), (hw.cell (p := ⟨w.heap.size + 1, 0, none⟩) (by show w.heap.size + 1 < _; omega) (.inl (by show w.heap.size + 1 < _; omega))).trans h4⟩)
    ⟨fun j hj => by omega, Nat.le_refl _, HBl, k0, k1, k2⟩
    (fun p a' V => a' = { tmps := (((T.setIfInBounds 12 (.int .i64 p.1)).setIfInBounds 13 (.int .i64 p.2)).setIfInBounds 7 (.int .i64 p.1)).setIfInBounds 8 (.int .i64 p.2), defers := [] })
    (fun p a' _ A B row hs hg hr => hs) ?assign ?body ?done ?stop
  case assign =>
    intro l0 k p V K hx hz0 hI hK
    subst hT
    unfold encW
    simp
    gi_wp2
    exact hK _ _ SeqN.KeptN.refl hI rfl
  case body =>
    rintro l0 k p a' V hl ⟨r, hr⟩ hx hz0 ⟨i1, i2, i3, i4, i5, i6⟩ rfl
    obtain ⟨y0, y1, hk, rfl⟩ := rowWts_at hx
    subst hT
    simp
    by_cases hkx : (k : Int) = x
    · have hat : atV W H F x y = wt k (F y) := by
        unfold atV; rw [if_pos ⟨by omega, by omega, y0, y1⟩, ← hkx, Int.toNat_natCast]
      have HAT := Lib.hid hat
      clear hat
      subst hkx
      gi_wp2
      refine ⟨SeqN.KeptN.of ((Below.refl _ _).setCell (by show w.heap.size ≤ w.heap.size + 1; omega) _) (fun j hj hor => Below.heap_setCell _ _ _ _ (fun e => ?_)) (fun j hj => ?_), rfl, by simp; omega, i3.setCell (by show w.heap.size ≤ w.heap.size + 1; omega) _, ?_⟩
      · rcases hor with h | h
        · have e' : j = w.heap.size + 1 := e; omega
        · obtain ⟨p, hp, rfl⟩ := List.mem_map.1 h
          have h2 := hol p.2 (.inr (.inr ⟨p, hp, rfl⟩))
          have e' : p.2 = w.heap.size + 1 := e; omega
      · obtain ⟨p, hp, rfl⟩ := List.mem_map.1 hj
        have h2 := hol p.2 (.inr (.inr ⟨p, hp, rfl⟩))
        omega
      · rw [HAT.out]; exact World.cell?_setCell_same' _ _ _ (by rw [i5]; rfl)
    · have hkx2 : ((k : Int) == x) = false := by simpa using hkx
      gi_wp2
      exact ⟨SeqN.KeptN.refl, fun j hj => by by_cases e : j = k; subst e; exact hkx; exact i1 j (by omega), i2, i3, i4, i5, i6⟩
  case done =>
    rintro V hz ⟨i1, i2, i3, i4, i5, i6⟩ hK
    have hat : atV W H F x y = 0 := by
      unfold atV; rw [if_neg]
      rintro ⟨h1, h2, h3, h4⟩
      exact i1 x.toNat (by unfold rowWts; rw [if_pos ⟨h3, h4⟩, wts_len]; omega) (by omega)
    subst hT
    gi_wp2
    have hKp : (V.setCell ⟨w.heap.size + 1, 0, none⟩ (.int .i64 0)).heap[W0.heap.size]? = some (.deferred (some [])) := (Below.heap_setCell _ _ _ _ (by show W0.heap.size ≠ w.heap.size + 1; omega)).trans hK
    have hc5 : ((V.setCell ⟨w.heap.size + 1, 0, none⟩ (.int .i64 0)).putObj W0.heap.size (.deferred none)).cell? ⟨w.heap.size + 1, 0, none⟩ = some (.int .i64 0) :=
      (World.cell?_of_block (a := ⟨w.heap.size + 1, 0, none⟩) (World.putObj_heap_other (by show w.heap.size + 1 ≠ W0.heap.size; omega))).trans (World.cell?_setCell_same' _ _ _ (by rw [i5]; rfl))
    refine ⟨by simp, .inl ⟨_, _, rfl, run_takeDeferred hKp, ?_⟩⟩
    refine ⟨.int .i64 0, ?_, by rw [hat], (i3.setCell (by show w.heap.size ≤ w.heap.size + 1; omega) _).trans (Seq.below_put (by omega) (by simp; omega) _)⟩
    simp [results, Try.f18, go_sem, hc5]
  case stop =>
    rintro c k V hk hz ⟨rfl, i1, i2, i3⟩ hK
    have hc5 : (V.putObj W0.heap.size (.deferred none)).cell? ⟨w.heap.size + 1, 0, none⟩ = some (.int .i64 (atV W H F x y)) :=
      (World.cell?_of_block (a := ⟨w.heap.size + 1, 0, none⟩) (World.putObj_heap_other (by show w.heap.size + 1 ≠ W0.heap.size; omega))).trans i3
    subst hT
    gi_wp2
    refine ⟨by simp, .inl ⟨_, _, rfl, run_takeDeferred hK, ?_⟩⟩
    refine ⟨.int .i64 (atV W H F x y), ?_, rfl, i2.trans (Seq.below_put (by omega) (by omega) _)⟩
    simp [results, Try.f18, go_sem, hc5]

set_option maxHeartbeats 8000000 in
theorem Covers_calls (H : Int) (W b m : Nat) (l : List (Int × Nat)) (F : Int → List Cl) (hW : 1 ≤ W ∧ W ≤ 4096) (y : Int) (w : World) (hB : Buf w b m W H l F F) :
    Calls Try.prog 24 #[.pointer (some ⟨b, 0, none⟩), .int .i64 y] w fun e w' => e = .returned (.int .i64 (wrap64 (low W (F y)))) ∧ Below w.heap.size w w' := by
  have d2 := hB.c2
  have hbV : b < w.heap.size := hB.lt (.inl rfl)
  obtain ⟨rv, hrun, hL⟩ : ∃ (rv : Option Nat), (Instr.lookup 89 (.map (some m)) (.int .i64 y) false).run Try.prog w = .ok (match rv with | some g => .slice (some ⟨g, 0, none⟩) W W | none => .slice none 0 0) w ∧ match rv with | some g => RowAt w g W (F y) (F y) | none => F y = [] := by
    rcases hB.get (y := y) with ⟨g, hm, hlk⟩ | ⟨hn, hlk⟩
    · exact ⟨some g, by rw [MapI.look_some (P := Try.prog) Try.underlying89 Try.underlying3 hB.map hlk false]; rfl, hB.row _ hm⟩
    · exact ⟨none, by rw [MapI.look_none (P := Try.prog) Try.underlying89 Try.underlying3 hB.map (z := .slice none 0 0) (by kernel_rfl) hlk false]; rfl, (hB.none y hn).1⟩
  clear hB
  rcases rv with _ | g
  · dsimp only at hrun hL
    rw [hL]
    have hz : wrap64 (low W []) = 0 := by rw [low_nil]; simp [wrap64]
    rw [hz]
    go_enter Try.func24, Try.ntmps24
    go_wp2
    go_loopw [15, 5] (fun x z wr => x = .int .i64 0 ∧ z = .int .i64 0 ∧ wr = w) (fun x _ _ => 0)
    case atStart => exact ⟨rfl, rfl, rfl⟩
    case round =>
      obtain ⟨rfl, rfl, rfl⟩ := hrel
      go_wp2
      go_ret
      exact ⟨rfl, Below.refl _ _⟩
  · dsimp only at hrun hL
    have HR := Lib.hid hL
    clear hL
    go_enter Try.func24, Try.ntmps24
    go_wp2
    go_loopw [15, 5] (fun x z wr => ∃ i : Nat, x = .int .i64 (i : Nat) ∧ i ≤ W ∧ z = .int .i64 (wrap64 (low i (F y))) ∧ Below w.heap.size w wr) (fun x _ _ => W - (intOf x).toNat)
    case atStart => exact ⟨0, rfl, Nat.zero_le _, by simp [low, wrap64], Below.refl _ _⟩
    case round =>
      obtain ⟨i, rfl, hi, rfl, hb⟩ := hrel
      have hr := HR.out.of (hb.block g HR.out.lt)
      by_cases hlt : i < W
      · have hil : (i : Int) < (W : Int) := by omega
        have r0 := hr.cov i hlt
        have r1 := hr.are i hlt
        have hg := hr.lt
        have hL2 := Lib.hid (show wrap64 (wrap64 (low i (F y)) + wrap64 (cov i (F y))) = wrap64 (low (i + 1) (F y)) by simp only [low]; unfold wrap64; omega)
        clear hr
        go_wp2
        go_roundw
        case rel => exact ⟨i + 1, by go_num, by omega, by rw [← hL2.out], hb.alloc hb.size _⟩
        case measure => simp [intOf]; omega
      · obtain rfl : i = W := by omega
        clear hr
        go_wp2
        go_ret
        exact ⟨rfl, hb⟩
end Go.Proofs.Ytejcjonlnijbkaa.Buf

/- The buffer laws' own helpers: the example holds; a buffer with edges. For all sizes and edges. -/
namespace Go.Proofs.Ytejcjonlnijbkaa.Buf
open Go Go.RowKit Go.Shelf Range Go.Proofs.Ytejcjonlnijbkaa.PE Go.Proofs.YtejcjonlnijbkaaW.PrintWords Go.Proofs.YtejcjonlnijbkaaW.PrintLast Go.Proofs.YtejcjonlnijbkaaW.PrintMore Go.Proofs.Ytejcjonlnijbkaa.Num
set_option maxRecDepth 100000
set_option linter.unusedVariables false
set_option linter.unusedSimpArgs false
attribute [local go_sem] Oper.semAt_some

/-- Nothing yet. -/
def nought : Int → List Cl := fun _ => []
def ex1 : Eg := ⟨⟨0, 0⟩, ⟨0, 65536⟩⟩
theorem ex_count : count [ex1] = 1 := by decide
theorem ex_at : atV 1 1 (addl (1 : Nat) 1 [ex1] nought) 0 0 = 8589934592 := by kernel_rfl

set_option maxHeartbeats 4000000 in
theorem wakes_calls (w : World) : Calls Try.prog 15 #[] w fun e w' => e = .returned (.bool true) ∧ Below w.heap.size w w' := by
  have NW := Lib.hid (fun w => new_some 1 1 (by decide) w)
  have AD := Lib.hid (fun (w : World) b m l A hB hE => Add_calls 1 1 b m l nought (by decide) (by decide) A [ex1] 1 (by decide) (fun e he => by simp at he; subst he; unfold InIE InI ex1; decide) w hB hE)
  have AT := Lib.hid (fun (w : World) b m l hB => At_calls 1 1 b m l (addl (1 : Nat) 1 [ex1] nought) (by decide) 0 0 w hB)
  go_enter Try.func15, Try.ntmps15
  go_wp2_with (first
    | (go_at_call 22; refine (NW.out _).mono ?_; rintro e w1 ⟨rfl, hb1, hB1⟩)
    | (go_at_call 19; refine (AD.out _ _ _ _ (some ⟨w1.heap.size, 0, none⟩) (hB1.of (fun i hi => Below.heap_alloc _ _ _ (hB1.lt hi))) (ER.one ex1 (fun h => by have := hB1.lt h; omega) _)).mono ?_; rintro e w2 ⟨rfl, hF2, l2, hB2, ho2⟩; rw [ex_count])
    | (go_at_call 18; refine (AT.out _ _ _ _ hB2).mono ?_; rintro e w3 ⟨rfl, hb3⟩; rw [ex_at]))
  go_ret
  have hE := hF2.below (B := w.heap.size) (fun i hi => by rcases hi with rfl | rfl | ⟨p, hp, _⟩; omega; omega; simp at hp) (by have := hb1.size; simp; omega)
  exact ⟨rfl, ((hb1.alloc hb1.size _).trans hE).trans (hb3.mono (Nat.le_trans (hb1.alloc hb1.size _).size hE.size))⟩

theorem ER.over {O O1 : Nat → Prop} {w w1 : World} {A : Option Addr} {es : List Eg} (h : ER O w A es) (hb : Below w.heap.size w w1) (hO : ∀ i, O1 i → w.heap.size ≤ i) : ER O1 w1 A es := fun i hi => by
  obtain ⟨g, off, hA, hg, hn, c0, c1, c2, c3⟩ := h i hi
  have hc := fun o => World.cell?_of_block (a := ⟨g, o, none⟩) (hb.block g hg)
  exact ⟨g, off, hA, Nat.lt_of_lt_of_le hg hb.size, fun h => by have := hO g h; omega, (hc _).trans c0, (hc _).trans c1, (hc _).trans c2, (hc _).trans c3⟩

set_option maxHeartbeats 4000000 in
theorem of_calls (s0 s1 : Int) (h0 : 0 ≤ s0 ∧ s0 ≤ 255) (h1 : 0 ≤ s1 ∧ s1 ≤ 255) (A : Option Addr) (es : List Eg) (cap : Nat) (hl : es.length ≤ 1000000) (hI : ∀ e ∈ es, InIE e) (w : World) (hE : ER (fun _ => False) w A es) :
    Calls Try.prog 16 #[.agg #[.int .u8 s0, .int .u8 s1], .slice A es.length cap] w fun e w' => ∃ b m l, e = .returned (.tuple #[.pointer (some ⟨b, 0, none⟩), .int .i64 (1 + s0 % 16), .int .i64 (1 + s1 % 16)]) ∧ Below w.heap.size w w' ∧
      Buf w' b m (1 + s0 % 16).toNat (1 + s1 % 16) l (addl (1 + s0 % 16) (1 + s1 % 16) es nought) (addl (1 + s0 % 16) (1 + s1 % 16) es nought) ∧ ∀ i, Own b m l i → w.heap.size ≤ i := by
  obtain ⟨W, hW⟩ : ∃ W, 1 + s0 % 16 = W := ⟨_, rfl⟩
  obtain ⟨H, hH⟩ : ∃ H, 1 + s1 % 16 = H := ⟨_, rfl⟩
  have hWb : 1 ≤ W ∧ W ≤ 16 := by omega
  have hHb : 1 ≤ H ∧ H ≤ 16 := by omega
  have hWn : ((W.toNat : Nat) : Int) = W := by omega
  rw [hW, hH]
  have NW := Lib.hid (fun w => new_some W H (by omega) w)
  have AD := Lib.hid (fun (w : World) b m l A hB hE => Add_calls H W.toNat b m l nought (by omega) (by omega) A es cap hl hI w hB hE)
  have HE := Lib.hid hE
  clear hI hE
  go_enter Try.func16, Try.ntmps16
  go_wp2
  go_quiet (skip)
  have hW16 : 1 + s0 % 16 = W := hW
  have hbq : Below w.heap.size w ((w.alloc (.cells #[.int .u8 s0, .int .u8 s1] 22)).drewN nq) := pw_below_drewN ((Below.refl _ w).alloc (Nat.le_refl _) _) nq
  obtain ⟨W0, hW0⟩ : ∃ W0, ((w.alloc (.cells #[.int .u8 s0, .int .u8 s1] 22)).drewN nq) = W0 := ⟨_, rfl⟩
  have hs0 : W0.heap.size = w.heap.size + 1 := by rw [← hW0]; simp
  rw [hW0] at hbq ⊢
  clear hW0
  have hO1 : ∀ i, Own (W0.heap.size + 1) W0.heap.size [] i → w.heap.size ≤ i := fun i hi => by
    rcases hi with h | h | ⟨p, hp, _⟩
    · omega
    · omega
    · simp at hp
  clear hs0
  go_wp2_with (first
    | (go_at_call 22; refine (NW.out _).mono ?_; rintro e w1 ⟨rfl, hb1, hB1⟩; have HB1 := hbq.trans (hb1.mono hbq.size))
    | (go_at_call 19; ((with_reducible refine (AD.out _ _ _ _ A hB1 (HE.out.over HB1 hO1)).mono ?_); rintro e w2 ⟨rfl, hF2, l2, hB2, ho2⟩)))
  rw [hWn] at hB2
  have hF3 := hF2.below (B := w.heap.size) (fun i hi => hO1 i hi) HB1.size
  refine bodyPost_ret (v := .tuple #[.pointer (some ⟨W0.heap.size + 1, 0, none⟩), .int .i64 W, .int .i64 H]) (by simp [results, Try.f16, go_sem]) rfl ?_
  exact ⟨_, _, l2, rfl, HB1.trans hF3, hB2, fun i hi => by
    rcases ho2 i hi with h | h
    · exact hO1 i h
    · have := HB1.size; omega⟩
end Go.Proofs.Ytejcjonlnijbkaa.Buf
