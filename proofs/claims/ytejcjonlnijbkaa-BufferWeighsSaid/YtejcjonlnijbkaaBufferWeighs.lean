/- The law BufferWeighs: whatever edges are added, in a picture of any size, each pixel's weight is the document's, and each row's covers; those that may not be are left out. For all inputs. -/
import Derived.Test.YtejcjonlnijbkaaBf4
import Derived.Test.YtejcjonlnijbkaaWm1
import Derived.Test.YtejcjonlnijbkaaRows
import Derived.ProofKit
import Derived.OpenShut
import Derived.ShutString
import Derived.ChangeOld
import Derived.SizedLaws
import Derived.Test.YtejcjonlnijbkaaPEx13
import Derived.Test.YtejcjonlnijbkaaPEx15
import Derived.Test.YtejcjonlnijbkaaPEx20
namespace Go.Proofs.Ytejcjonlnijbkaa
open Go Go.RowKit
set_option linter.unusedVariables false
set_option linter.unusedSimpArgs false
namespace Buf
open Go Go.RowKit Go.Shelf Range Go.Proofs.Ytejcjonlnijbkaa.PE Go.Proofs.YtejcjonlnijbkaaW.PrintWords Go.Proofs.YtejcjonlnijbkaaW.PrintLast Go.Proofs.YtejcjonlnijbkaaW.PrintMore Go.Proofs.Ytejcjonlnijbkaa.Num
attribute [local go_sem] Oper.semAt_some

theorem cov_all_step (xs : List Cl) (j : Nat) (hj : j < xs.length) : ((xs.take (j + 1)).map (fun c => c.f1.f0)).sum = ((xs.take j).map (fun c => c.f1.f0)).sum + xs[j].f1.f0 := by
  rw [List.take_succ_eq_append_getElem hj, List.map_append, List.sum_append]; simp
theorem low_all (W : Nat) : ∀ (xs : List Cl), (∀ c ∈ xs, 0 ≤ c.f0 ∧ c.f0 < W) → low W xs = (xs.map (fun c => c.f1.f0)).sum
  | [], _ => by simp [low_nil]
  | c :: xs, h => by
    have h1 := h c (by simp)
    rw [low_cons W c xs h1.1, if_pos h1.2, low_all W xs (fun c hc => h c (by simp [hc]))]; simp
theorem pk_fr {O : Nat → Prop} {W W1 : World} {px : Nat} {a b c : Value} (h : W.cell? ⟨px, 0, none⟩ = some a ∧ W.cell? ⟨px, 1, none⟩ = some b ∧ W.cell? ⟨px, 2, none⟩ = some c ∧ px < W.heap.size) (hf : Fr O W W1) (hn : ¬ O px) : W1.cell? ⟨px, 0, none⟩ = some a ∧ W1.cell? ⟨px, 1, none⟩ = some b ∧ W1.cell? ⟨px, 2, none⟩ = some c ∧ px < W1.heap.size :=
  ⟨(hf.cell (p := ⟨px, 0, none⟩) h.2.2.2 hn).trans h.1, (hf.cell (p := ⟨px, 1, none⟩) h.2.2.2 hn).trans h.2.1, (hf.cell (p := ⟨px, 2, none⟩) h.2.2.2 hn).trans h.2.2.1, Nat.lt_of_lt_of_le h.2.2.2 hf.size⟩
theorem pk_below {W W1 : World} {px : Nat} {a b c : Value} (h : W.cell? ⟨px, 0, none⟩ = some a ∧ W.cell? ⟨px, 1, none⟩ = some b ∧ W.cell? ⟨px, 2, none⟩ = some c ∧ px < W.heap.size) (hf : Below W.heap.size W W1) : W1.cell? ⟨px, 0, none⟩ = some a ∧ W1.cell? ⟨px, 1, none⟩ = some b ∧ W1.cell? ⟨px, 2, none⟩ = some c ∧ px < W1.heap.size :=
  pk_fr (O := fun _ => False) h (Fr.of_below hf) id
theorem pk_drewN {W : World} {px : Nat} {a b c : Value} (h : W.cell? ⟨px, 0, none⟩ = some a ∧ W.cell? ⟨px, 1, none⟩ = some b ∧ W.cell? ⟨px, 2, none⟩ = some c ∧ px < W.heap.size) (n : Nat) : (W.drewN n).cell? ⟨px, 0, none⟩ = some a ∧ (W.drewN n).cell? ⟨px, 1, none⟩ = some b ∧ (W.drewN n).cell? ⟨px, 2, none⟩ = some c ∧ px < (W.drewN n).heap.size := h
set_option maxHeartbeats 16000000 in
set_option maxRecDepth 100000 in
theorem bufferweighs (s0 s1 : Int) (h0 : 0 ≤ s0 ∧ s0 ≤ 255) (h1 : 0 ≤ s1 ∧ s1 ≤ 255) (A : Option Addr) (es : List Eg) (cap : Nat) (hl : es.length ≤ 12) (hcap : es.length ≤ cap) (hI : ∀ e ∈ es, InIE e) (w : World) (hE : ER (fun _ => False) w A es) :
    Calls Try.prog 8 #[.agg #[.int .u8 s0, .int .u8 s1], .slice A es.length cap] w fun e w' => e = .returned (.bool true) ∧ Below w.heap.size w w' := by
  obtain ⟨W, hW⟩ : ∃ W : Nat, 1 + s0 % 16 = (W : Int) := ⟨(1 + s0 % 16).toNat, by omega⟩
  obtain ⟨H, hH⟩ : ∃ H : Nat, 1 + s1 % 16 = (H : Int) := ⟨(1 + s1 % 16).toNat, by omega⟩
  have hWb : 1 ≤ W ∧ W ≤ 16 := by omega
  have hHb : 1 ≤ H ∧ H ≤ 16 := by omega
  have WK := Lib.hid (fun w => wakes_calls w)
  have NW := Lib.hid (fun w => new_some W H (by omega) w)
  have HI := Lib.hid hI
  have HE := Lib.hid hE
  have HC := Lib.hid hcap
  clear hI hE hcap
  have hlen : ¬ (es.length : Int) > 12 := by omega
  have hlen2 : ¬ 12 < es.length := by omega
  go_enter Try.func8, Try.ntmps8
  go_wp2_with (first
    | (go_at_call 15; refine (WK.out _).mono ?_; rintro e w1 ⟨rfl, hb1⟩; have q0 := (hb1.cell (p := ⟨w.heap.size, 0, none⟩) (by simp)).trans (show _ = some (Value.int .u8 s0) by go_simp); have q1 := (hb1.cell (p := ⟨w.heap.size, 1, none⟩) (by simp)).trans (show _ = some (Value.int .u8 s1) by go_simp); have z1 : w.heap.size < w1.heap.size := Nat.lt_of_lt_of_le (by simp) hb1.size; have HB1 : Below w.heap.size w w1 := ((Below.refl _ w).alloc (Nat.le_refl _) _).trans (hb1.mono (by simp))))
  go_quiet (skip)
  have HBq : Below w.heap.size w (w1.drewN nq) := pw_below_drewN HB1 nq
  obtain ⟨V, hV⟩ : ∃ V, w1.drewN nq = V := ⟨_, rfl⟩
  have hVs : w.heap.size < V.heap.size := by rw [← hV]; exact z1
  rw [hV] at HBq ⊢
  clear hV q0 q1 z1 HB1 hb1
  go_wp2_with (first
    | (go_at_call 22; refine (NW.out _).mono ?_; rintro e w2 ⟨rfl, hb2, hB2⟩))
  have hB2' : Buf w2 (V.heap.size + 1) V.heap.size W H [] nought nought := hB2
  obtain ⟨b, hb⟩ : ∃ b, V.heap.size + 1 = b := ⟨_, rfl⟩
  obtain ⟨m, hm⟩ : ∃ m, V.heap.size = m := ⟨_, rfl⟩
  rw [hb, hm] at hB2'
  rw [hb]
  have hown : ∀ i, Own b m [] i → w.heap.size ≤ i := fun i hi => by
    rcases hi with h | h | ⟨p, hp, _⟩
    · omega
    · omega
    · simp at hp
  have HB2 : Below w.heap.size w w2 := HBq.trans (hb2.mono HBq.size)
  have HBU := Lib.hid hB2'
  clear hB2 hB2' hb2 hb hm hVs
  go_loopw [46, 9] (fun x y wr => ∃ i : Nat, x = .int .i64 (i : Nat) ∧ i ≤ es.length ∧ y = .int .i64 (count (es.take i) : Nat) ∧ Below w2.heap.size w2 wr) (fun x _ _ => es.length - (intOf x).toNat)
  case atStart => exact ⟨0, rfl, Nat.zero_le _, rfl, Below.refl _ _⟩
  case round =>
    obtain ⟨i, rfl, hi, rfl, hF⟩ := hrel
    by_cases hlt : i < es.length
    · have hEr := (HE.out.over (HB2.trans (hF.mono HB2.size)) (O1 := fun _ => False) (fun i h => h.elim))
      obtain ⟨g, off, rfl, hg, hno, c0, c1, c2, c3⟩ := hEr i hlt
      have hil : (i : Int) < (es.length : Int) := by omega
      have hsn := Lib.hid (take_snoc (List.getElem?_eq_getElem hlt))
      have hcl := count_le (es.take i)
      rw [List.length_take] at hcl
      obtain ⟨K, hK⟩ := taken_f es[i]
      have TK := Lib.hid (fun w => pointillistref17_Taken.calls K _ _ _ _ _ w (hK K (Nat.le_refl _)))
      have hcs := Lib.hid (count_snoc (es.take i) es[i])
      clear hK hEr
      generalize taken es[i] = r at *
      generalize es[i] = e at *
      cases r
      · go_wp2_with (go_at_call 25; refine (TK.out _).mono ?_; rintro e1 w3 ⟨rfl, hb3⟩)
        go_roundw
        case rel => exact ⟨i + 1, by go_num, by omega, by rw [hsn.out, hcs.out]; simp, (hF.alloc hF.size _).trans (hb3.mono (by have := hF.size; simp; omega))⟩
        case measure => simp [intOf]; omega
      · go_wp2_with (go_at_call 25; refine (TK.out _).mono ?_; rintro e1 w3 ⟨rfl, hb3⟩)
        go_roundw
        case rel => exact ⟨i + 1, by go_num, by omega, by rw [hsn.out, hcs.out]; go_num, (hF.alloc hF.size _).trans (hb3.mono (by have := hF.size; simp; omega))⟩
        case measure => simp [intOf]; omega
    · obtain rfl : i = es.length := by omega
      rw [List.take_length]
      go_wp2
      obtain ⟨V3, hV3⟩ : ∃ V3, wr.alloc (.cells #[.slice A es.length cap, .int .i64 (W : Int), .int .i64 (H : Int)] 55) = V3 := ⟨_, rfl⟩
      have hF3 : Below w2.heap.size w2 V3 := by rw [← hV3]; exact hF.alloc hF.size _
      have k0 : V3.cell? ⟨wr.heap.size, 0, none⟩ = some (.slice A es.length cap) := by subst hV3; go_simp
      have k1 : V3.cell? ⟨wr.heap.size, 1, none⟩ = some (.int .i64 (W : Int)) := by subst hV3; go_simp
      have k2 : V3.cell? ⟨wr.heap.size, 2, none⟩ = some (.int .i64 (H : Int)) := by subst hV3; go_simp
      have kz : wr.heap.size < V3.heap.size := by rw [← hV3]; simp
      have kw : w2.heap.size ≤ wr.heap.size := hF.size
      rw [hV3]
      clear hV3 hF
      obtain ⟨px, hpx⟩ : ∃ px, wr.heap.size = px := ⟨_, rfl⟩
      rw [hpx] at k0 k1 k2 kz kw ⊢
      clear hpx
      have HB3 : Below w.heap.size w V3 := HB2.trans (hF3.mono HB2.size)
      have B3 : Buf V3 b m W H [] nought nought := HBU.out.of (fun i hi => hF3.block i (HBU.out.lt hi))
      have E3 : ER (Own b m []) V3 A es := HE.out.over HB3 hown
      have ho3 : ∀ i, Own b m [] i → i < w2.heap.size := fun i hi => HBU.out.lt hi
      have AD := Lib.hid (fun w => Add_calls H W b m [] nought (by omega) (by omega) A es cap (by omega) HI.out w)
      obtain ⟨KW, hKW⟩ := weights_f (es := es) (W := W) (h := H) (by omega) (by omega) (by omega)
      have RW := Lib.hid (fun w hr => pointillistref17_Weights.calls KW A cap es W H _ w hr HC.out (hKW KW (Nat.le_refl _)))
      have hlw := allWts_len W H (addl W H es nought)
      have HLW := Lib.hid hlw
      have hHW : H * W ≤ 16 * 16 := Nat.mul_le_mul hHb.2 hWb.2
      obtain ⟨KS, hKS⟩ := same_f (allWts W H (addl W H es nought)) (by omega)
      clear hKW
      have B3d : Buf V3.drew b m W H [] nought nought := B3.of (fun _ _ => rfl)
      have E3d : ER (Own b m []) V3.drew A es := E3.fr ⟨rfl, rfl, rfl, Nat.le_refl _, fun _ _ _ => rfl⟩
      have R3 := Lib.hid (HE.out.over HB3 (O1 := fun _ => False) (fun i h => h.elim))
      have bx : ∀ i, Own b m [] i → i ≠ px := fun i hi => by have := ho3 i hi; omega
      have hcnt : ((count es : Int) == (count es : Int)) = true := by simp
      clear B3 E3
      have WT := Lib.hid (fun w l hB => weights_calls W b m H l (addl W H es nought) (by omega) (by omega) w hB)
      have hS0 : pointillistlaw17_same.f KS (allWts W H (addl W H es nought)) (allWts W H (addl W H es nought)) = some true := hKS KS (Nat.le_refl _)
      have SM := Lib.hid (fun w A5 c5 A6 c6 h1 h2 h3 h4 => pointillistlaw17_same.calls KS A5 c5 _ A6 c6 _ true w h1 h2 h3 h4 hS0)
      clear hKS hS0 hlw
      have hpx0 : ¬ Own b m [] px := fun h => bx px h rfl
      have sk0 : V3.drew.cell? ⟨px, 0, none⟩ = some (.slice A es.length cap) ∧ V3.drew.cell? ⟨px, 1, none⟩ = some (.int .i64 (W : Int)) ∧ V3.drew.cell? ⟨px, 2, none⟩ = some (.int .i64 (H : Int)) ∧ px < V3.drew.heap.size := ⟨k0, k1, k2, kz⟩
      clear k0 k1 k2
      go_region_held3 (fun w' => w'.cell? ⟨px, 0, none⟩ = some (.slice A es.length cap) ∧ w'.cell? ⟨px, 1, none⟩ = some (.int .i64 (W : Int)) ∧ w'.cell? ⟨px, 2, none⟩ = some (.int .i64 (H : Int)) ∧ px < w'.heap.size) (first | (with_reducible exact pk_fr (by assumption) hF4 hpx0) | (with_reducible exact pk_below (by assumption) hb5) | (with_reducible exact pk_below (by assumption) hb6) | (with_reducible exact pk_drewN (by assumption) _) | exact sk0) (first
        | (go_at_call 19; ((with_reducible refine (AD.out _ B3d E3d).mono ?_); rintro e4 w4 ⟨rfl, hF4, l4, hB4, ho4⟩; have HB4 : Below w.heap.size w w4 := HB3.drew.trans (hF4.below (B := w.heap.size) (fun i hi => hown i hi) HB3.size)))
        | (go_at_call 21; ((with_reducible refine (WT.out _ _ hB4).mono ?_); rintro e5 w5 ⟨v5, rfl, hO5⟩; obtain ⟨A5, c5, rfl, hc5, hC5⟩ := ints_own hO5 (by rw [HLW.out]); have hb5 := hO5.bel; have HB5 := HB4.trans (hb5.mono HB4.size)))
        | (go_at_call 26; (have hr5 := (HE.out.over HB5 (O1 := fun _ => False) (fun i h => h.elim)).reads (by omega); (with_reducible refine (RW.out _ hr5).mono ?_); rintro e6 w6 ⟨v6, rfl, hR6, hb6⟩; obtain ⟨A6, c6, rfl, hc6, hC6⟩ := Kd.R_reads hR6; have HB6 := HB5.trans (hb6.mono HB5.size)))
        | (go_at_call 20; (have hC5' := Kd.C_below hC5 hb6; (with_reducible refine (SM.out _ _ _ _ _ hC5' hc5 hC6 hc6).mono ?_); rintro e7 w7 ⟨rfl, ⟨nd, rfl⟩⟩)))
      have hpk : (w6.drewN nd).cell? ⟨px, 0, none⟩ = some (.slice A es.length cap) ∧ (w6.drewN nd).cell? ⟨px, 1, none⟩ = some (.int .i64 (W : Int)) ∧ (w6.drewN nd).cell? ⟨px, 2, none⟩ = some (.int .i64 (H : Int)) ∧ px < (w6.drewN nd).heap.size := by assumption
      have B5 : Buf w5 b m W H l4 (addl W H es nought) (addl W H es nought) := hB4.of (fun i hi => hb5.block i (hB4.lt hi))
      have B6 : Buf (w6.drewN nd) b m W H l4 (addl W H es nought) (addl W H es nought) := (B5.of (fun i hi => hb6.block i (B5.lt hi))).of (fun _ _ => rfl)
      have HB7 : Below w.heap.size w (w6.drewN nd) := pw_below_drewN HB6 nd
      obtain ⟨V4, hV4⟩ : ∃ V4, w6.drewN nd = V4 := ⟨_, rfl⟩
      rw [hV4] at hpk B6 HB7 ⊢
      obtain ⟨k0, k1, k2, kz⟩ := hpk
      have BB := Lib.hid B6
      have CV := Lib.hid (fun (y : Int) w hB => Covers_calls H W b m l4 (addl W H es nought) (by omega) y w hB)
      have RR := Lib.hid (fun (y : Int) => row_f (es := es) (W := W) (H := H) (y := y) (by omega) (by omega) (by omega) (by omega))
      have AI := Lib.hid (fun (y : Int) => addl_in (W := W) (H := H) (y := y) (by omega) es)
      have AL := Lib.hid (fun (y : Int) => addl_len (W := W) (H := H) (y := y) (by omega) (by omega) (by omega) es)
      clear hV4 B5 B6 hB4 hb5 hb6 hC5 hC6 hr5 hC5' hR6 hO5 hF4 HB4 HB5 HB6 HB3 hF3 B3d E3d R3 AD RW WT SM sk0
      clear ho4 bx ho3 HBU HB2
      go_wp2
      go_loopw [74] (fun x wr => ∃ y : Nat, x = .int .i64 (y : Nat) ∧ y ≤ H ∧ Below V4.heap.size V4 wr) (fun x _ => H - (intOf x).toNat)
      case atStart => exact ⟨0, rfl, Nat.zero_le _, Below.refl _ _⟩
      case round =>
        obtain ⟨y, rfl, hy, hb8⟩ := hrel
        by_cases hyH : y < H
        · have hyl : (y : Int) < (H : Int) := by omega
          obtain ⟨KR, hKR⟩ := RR.out (y : Int)
          have RC := Lib.hid (fun w hr => pointillistref17_Row.calls KR A cap es W H (y : Int) _ w hr HC.out (hKR KR (Nat.le_refl _)))
          have hr8 := (HE.out.over (HB7.trans (hb8.mono HB7.size)) (O1 := fun _ => False) (fun i h => h.elim)).reads (by omega)
          have m0 := (hb8.cell (p := ⟨px, 0, none⟩) kz).trans k0
          have m1 := (hb8.cell (p := ⟨px, 1, none⟩) kz).trans k1
          have m2 := (hb8.cell (p := ⟨px, 2, none⟩) kz).trans k2
          have hLi := AI.out (y : Int)
          have hLl := AL.out (y : Int)
          have CV1 := Lib.hid (CV.out (y : Int))
          have hlow := Lib.hid (low_all W _ hLi)
          clear hKR hLi
          have BB8 := Lib.hid (BB.out.of (fun i hi => hb8.block i (BB.out.lt hi)))
          generalize hLL : addl W H es nought (y : Int) = L at *
          have hLL2 : L.length ≤ 245760000 := by omega
          clear hLl
          go_wp2_with (go_at_call 27; (with_reducible refine (RC.out _ hr8).mono ?_); rintro e9 w9 ⟨v9, rfl, hR9, hb9⟩; obtain ⟨A9, c9, rfl, hc9, hC9⟩ := CR.of_R hR9)
          have HB9 := hb8.trans (hb9.mono hb8.size)
          clear hR9
          go_loopw [81, 14] (fun x z wq => ∃ j : Nat, x = .int .i64 (j : Nat) ∧ j ≤ L.length ∧ z = .int .i64 (wrap64 ((L.take j).map (fun c => c.f1.f0)).sum) ∧ Below w9.heap.size w9 wq) (fun x _ _ => L.length - (intOf x).toNat)
          case atStart => exact ⟨0, rfl, Nat.zero_le _, by simp [wrap64], Below.refl _ _⟩
          case round =>
            obtain ⟨j, rfl, hj, rfl, hbq⟩ := hrel
            by_cases hjL : j < L.length
            · have hjl : (j : Int) < (L.length : Int) := by omega
              obtain ⟨g, off, rfl, hg, c0, c1, c2⟩ := (hC9.below hbq) j hjL
              have hst := Lib.hid (cov_all_step L j hjL)
              generalize L[j] = c at *
              generalize ((L.take j).map (fun c => c.f1.f0)).sum = sj at *
              go_wp2
              go_roundw
              case rel => exact ⟨j + 1, by go_num, by omega, by rw [hst.out]; exact congrArg _ (by unfold wrap64; omega), hbq.alloc hbq.size _⟩
              case measure => simp [intOf]; omega
            · obtain rfl : j = L.length := by omega
              have hB10 := BB8.out.of (fun i hi => (hb9.trans (hbq.mono hb9.size)).block i (BB8.out.lt hi))
              rw [List.take_length, ← hlow.out]
              have hbeq : ((wrap64 (low W L) : Int) == wrap64 (low W L)) = true := by simp
              go_wp2_with (go_at_call 24; (with_reducible refine (CV1.out _ hB10).mono ?_); rintro e10 w10 ⟨rfl, hb10⟩)
              go_roundw
              case rel => exact ⟨y + 1, by go_num, by omega, (HB9.trans (hbq.mono HB9.size)).trans (hb10.mono (HB9.trans (hbq.mono HB9.size)).size)⟩
              case measure => simp [intOf]; omega
        · obtain rfl : y = H := by omega
          go_wp2
          go_ret
          exact ⟨rfl, HB7.trans (hb8.mono HB7.size)⟩
set_option maxHeartbeats 4000000 in
set_option maxRecDepth 100000 in
theorem bufferweighs_many (s0 s1 : Int) (A : Option Addr) (n : Nat) (cap : Nat) (hl : ¬ n ≤ 12) (w : World) :
    Calls Try.prog 8 #[.agg #[.int .u8 s0, .int .u8 s1], .slice A n cap] w fun e w' => e = .returned (.bool true) ∧ Below w.heap.size w w' := by
  have WK := Lib.hid (fun w => wakes_calls w)
  have hlen : (n : Int) > 12 := by omega
  have hlen2 : 12 < n := by omega
  go_enter Try.func8, Try.ntmps8
  go_wp2_with (first
    | (go_at_call 15; refine (WK.out _).mono ?_; rintro e w1 ⟨rfl, hb1⟩; have HB1 : Below w.heap.size w w1 := ((Below.refl _ w).alloc (Nat.le_refl _) _).trans (hb1.mono (by simp))))
  go_ret
  exact ⟨rfl, HB1⟩
theorem bufferweighs_row {v : Value} {xs : List (List Int)} {s0 s1 : Int} (h0 : 0 ≤ s0 ∧ s0 ≤ 255) (h1 : 0 ≤ s1 ∧ s1 ≤ 255) {W : World} (f : Open.FlatRow W [.i64, .i64, .i64, .i64] v xs) :
    Calls Try.prog 8 #[.agg #[.int .u8 s0, .int .u8 s1], v] W fun e w' => e = .returned (.bool true) ∧ Below W.heap.size W w' := by
  obtain ⟨A, cap, es, rfl, hc, _, hE, hI⟩ := edges_in f
  by_cases h : es.length ≤ 12
  · exact bufferweighs s0 s1 h0 h1 A es cap h hc hI W hE
  · exact bufferweighs_many s0 s1 A es.length cap h W
end Buf
namespace bufferWeighs
open Go.ChangeShapes Go.WideShapes Go.ChangeAt Go.RowKit
open Go.ChangeMaps (open_string shut_string)
theorem own : ownKnob Try.prog.godebug = none := by kernel_rfl
theorem laidOut : laidOutB Try.prog = true := by kernel_rfl
set_option maxRecDepth 100000 in
theorem lifted (os : Os) (started : os.Started) (H : Type) (enc : TypeId × Value → H) :
    ReturnsInHanded {} Try.checked os 8 .any (Rows.bufferWeighsSpec.pre6 enc Try.prog Try.f8 Rows.bufferWeighsRow.domain false) (Rows.bufferWeighsSpec.post enc Try.prog Try.f8 false true false false) := by
  refine returnsInHanded_of_change_sized (C := Try.checked) own started (by kernel_rfl) Try.func8
    (ChangeSpec.witness6 (enc := enc) (C := Try.checked) false ⟨#[], #[.agg #[.int .u8 0, .int .u8 0], .slice none 0 0], []⟩ 8 (by kernel_rfl) (by kernel_rfl) (by kernel_rfl) (by kernel_rfl)) ?_
  intro W base args ds gs before hval0 hW hcnd hsz0 _
  have hval : ∀ (j : Nat) t v, Try.f8.params[j]? = some t → args[j]? = some v → Value.okWide Try.prog W .any base t v := hval0
  have hW' := hW
  obtain ⟨p, q, hA0, hV, rfl, hfz, hnd⟩ := hW
  have hA : DataW.TrodAll enc Try.prog W 0 (fun _ => true) true Try.f8.params.toList args.toList ds p := hA0
  have hlt : ∀ x ∈ p, x.block < W.heap.size := fun x hx => by simpa using hW'.lt x (by simp [hx])
  have hready : ∀ t ∈ Try.f8.params.toList, Try.prog.readableRec t = true ∧ t < Try.prog.types.size := by
    rw [Try.params8]
    intro t ht
    simp only [List.mem_cons, List.not_mem_nil, or_false] at ht
    rcases ht with rfl | rfl <;> exact ⟨by kernel_rfl, of_decide_eq_true (by kernel_rfl)⟩
  have hAk := hA
  rw [Try.params8] at hA hval
  obtain ⟨v0, vs0, d0, ds0, p0, q0, hargs, rfl, rfl, h0, r0⟩ := trodAll_cons hA
  obtain ⟨v1, vs1, d1, ds1, p1, q1, rfl, rfl, rfl, h1, r1⟩ := trodAll_cons r0
  obtain ⟨rfl, rfl, rfl⟩ := trodAll_nil r1
  obtain rfl : args = #[v0, v1] := by cases args; simp_all
  obtain ⟨rfl, rfl⟩ := trodVars_none hV
  obtain ⟨c0, m0, rfl, i0⟩ := Open.Flat.open_agg flatTwo8 (.inr ⟨_, _, Try.underlying22⟩) (hval 0 22 v0 rfl rfl) h0
  obtain ⟨n0_0, n0_1, rfl, x0_0, x0_1⟩ := i0.of2
  obtain ⟨xs1, f1⟩ := Open.Flat.open_slice flatEdge (by decide) Try.underlying23 (hval 1 23 v1 rfl rfl) h1
  clear hA0 hval0 hsz0
  refine (Buf.bufferweighs_row (Num.wf_u8 x0_0) (Num.wf_u8 x0_1) f1).mono fun e W' ⟨he, bel⟩ => ?_
  subst he
  exact ⟨_, rfl, _, _, _, [], _, [], hW', trodAll_mk1 (shut_bool Try.underlying4 _), Open.trodAll_below laidOut bel hready hAk hlt, rfl, bel.frame _, fun h => by cases h⟩
theorem over : Rows.bufferWeighsRow.holds Try.pinned (OpenSpec.ofChange Rows.bufferWeighsSpec) :=
  OpenClaim.holds_of_wide 8 Try.f8 rfl rfl rfl rfl rfl rfl rfl ⟨rfl, rfl, rfl, rfl, rfl⟩ rfl rfl rfl rfl rfl (by kernel_rfl) Try.func8 (by kernel_rfl)
    (of_decide_eq_true (by kernel_rfl)) (by unfold Func.isWrapper; first | (rw [if_pos (by decide +kernel)]; kernel_rfl) | (rw [if_neg (by decide +kernel)]; exact ⟨rfl, rfl⟩))
    (fun os started H enc _ => lifted os started H enc)
theorem proved : Rows.BufferWeighsSaid := over
end bufferWeighs
/-- The row, for the claim. -/
theorem bufferWeighs_holds : Rows.BufferWeighsSaid := bufferWeighs.proved
end Go.Proofs.Ytejcjonlnijbkaa
