/- The law BufferCloses: of points on the grid, put together to a ring: where the ring is on the left of a whole column, that column's weight, and all behind it, is 0. For all inputs. -/
import Derived.Test.YtejcjonlnijbkaaBf3
import Derived.Test.YtejcjonlnijbkaaSr
import Derived.Deep.RegionHeld3
import Derived.Deep.DrawnRows
import Derived.Test.YtejcjonlnijbkaaWm1
import Derived.Test.YtejcjonlnijbkaaRows
import Derived.ProofKit
import Derived.OpenShut
import Derived.ShutString
import Derived.ChangeOld
import Derived.SizedLaws
namespace Go.Proofs.Ytejcjonlnijbkaa
open Go Go.RowKit
set_option linter.unusedVariables false
set_option linter.unusedSimpArgs false
namespace Buf
open Go Go.RowKit Go.Shelf Range Go.Proofs.Ytejcjonlnijbkaa.PE Go.Proofs.YtejcjonlnijbkaaW.PrintWords Go.Proofs.YtejcjonlnijbkaaW.PrintLast Go.Proofs.YtejcjonlnijbkaaW.PrintMore Go.Proofs.Ytejcjonlnijbkaa.Num
attribute [local go_sem] Oper.semAt_some
attribute [local go_sem ↓] Go.wp_at_zero Go.wp_at_succ
abbrev Pt := S36
/-- A slice of points, below B. -/
def PR (B : Nat) (w : World) (A : Option Addr) (ps : List Pt) : Prop :=
  ∀ i (hi : i < ps.length), ∃ g off, A = some ⟨g, off, none⟩ ∧ g < B ∧ w.cell? ⟨g, off + i * 2, none⟩ = some (.int .i64 ps[i].f0) ∧ w.cell? ⟨g, off + i * 2 + 1, none⟩ = some (.int .i64 ps[i].f1)
theorem PR.below {B : Nat} {w w1 : World} {A : Option Addr} {ps : List Pt} (h : PR B w A ps) (hb : Below B w w1) : PR B w1 A ps := fun i hi => by
  obtain ⟨g, off, e, hl, c0, c1⟩ := h i hi
  exact ⟨g, off, e, hl, (hb.cell (p := ⟨g, _, none⟩) hl).trans c0, (hb.cell (p := ⟨g, _, none⟩) hl).trans c1⟩
/-- The ring's edges. -/
def ringE (ps : List Pt) (i : Nat) : Eg := ⟨ps.getD i ⟨0, 0⟩, ps.getD ((i + 1) % ps.length) ⟨0, 0⟩⟩
def ring (ps : List Pt) (n : Nat) : List Eg := (List.range n).map (ringE ps)
theorem ring_succ (ps : List Pt) (n : Nat) : ring ps (n + 1) = ring ps n ++ [ringE ps n] := by simp [ring, List.range_succ]
theorem ring_len (ps : List Pt) (n : Nat) : (ring ps n).length = n := by simp [ring]
def mxs : List Pt → Int → Int
  | [], m => m
  | p :: ps, m => mxs ps (mx m p.f0)
theorem mxs_snoc (ps : List Pt) (p : Pt) (m : Int) : mxs (ps ++ [p]) m = mx (mxs ps m) p.f0 := by
  induction ps generalizing m with
  | nil => rfl
  | cons q ps ih => exact ih _
theorem le_mxs : ∀ (ps : List Pt) (m : Int), m ≤ mxs ps m ∧ ∀ p ∈ ps, p.f0 ≤ mxs ps m
  | [], m => ⟨Int.le_refl _, fun p h => by cases h⟩
  | q :: ps, m => by
    have ⟨h1, h2⟩ := le_mxs ps (mx m q.f0)
    have h3 : m ≤ mx m q.f0 ∧ q.f0 ≤ mx m q.f0 := by unfold mx; split <;> omega
    refine ⟨Int.le_trans h3.1 h1, fun p hp => ?_⟩
    rcases List.mem_cons.1 hp with rfl | hp
    · exact Int.le_trans h3.2 h1
    · exact h2 p hp
def okP (p : Pt) : Prop := ((-8589934592 ≤ p.f0 ∧ p.f0 ≤ 8589934592) ∧ -8589934592 ≤ p.f1 ∧ p.f1 ≤ 8589934592)
theorem sum_tele (f : Nat → Int) : ∀ n, ((List.range n).map fun i => f (i + 1) - f i).sum = f n - f 0
  | 0 => by simp
  | n + 1 => by rw [List.range_succ, List.map_append, List.sum_append, sum_tele f n]; simp; omega
/-- The weights vanish. -/
theorem ring_zero {W H : Nat} (hW : 1 ≤ W ∧ W ≤ 4096) (hH : H ≤ 4096) {ps : List Pt} (hp : ∀ p ∈ ps, okP p) (hn : 2 ≤ ps.length) {x y : Nat} (hx : x < W) (hy : y < H) (hm : mxs ps (-1099511627776) ≤ (x : Int) * 65536) : wt x (addl W H (ring ps ps.length) nought (y : Nat)) = 0 := by
  have hin : ∀ c ∈ addl W H (ring ps ps.length) nought (y : Nat), 0 ≤ c.f0 := fun c hc => (addl_in (by omega) _ c hc).1
  unfold wt
  rw [← wsum_eq x _ hin, addl_eq, wsum_append, wsum_flat]
  have hget : ∀ i, i < ps.length → ps.getD i ⟨0, 0⟩ ∈ ps := fun i hi => by simp [List.getD, hi]
  have hmx := (le_mxs ps (-1099511627776)).2
  have he : (ring ps ps.length).map (fun e => wsum x (contr W H (y : Nat) e)) = (List.range ps.length).map fun i => 131072 * (Strip.cl (ringE ps i).f1.f1 y - Strip.cl (ringE ps i).f0.f1 y) := by
    unfold ring
    rw [List.map_map]
    refine List.map_congr_left fun i hi => ?_
    have hi := List.mem_range.1 hi
    have hj : (i + 1) % ps.length < ps.length := Nat.mod_lt _ (by omega)
    have a0 := hp _ (hget i hi)
    have a1 := hp _ (hget _ hj)
    have b0 := hmx _ (hget i hi)
    have b1 := hmx _ (hget _ hj)
    unfold okP at a0 a1
    have hwi : within (ringE ps i) = true := by
      rw [show within (ringE ps i) = [(ringE ps i).f0.f0, (ringE ps i).f0.f1, (ringE ps i).f1.f0, (ringE ps i).f1.f1].all (Wide.inB 17179869185) from rfl]
      simp only [ringE, List.all_cons, List.all_nil, Wide.inB, Bool.and_true, Bool.and_eq_true, decide_eq_true_eq]
      refine ⟨⟨by omega, by omega, by omega⟩, ⟨by omega, by omega, by omega⟩, ⟨by omega, by omega, by omega⟩, by omega, by omega, by omega⟩
    exact contr_left (e := ringE ps i) hwi (by omega) (by omega) (by omega) (by omega) (by show (ps.getD i ⟨0, 0⟩).f0 ≤ _; omega) (by show (ps.getD ((i + 1) % ps.length) ⟨0, 0⟩).f0 ≤ _; omega)
  rw [he]
  have ht := sum_tele (fun i => 131072 * Strip.cl (ps.getD (i % ps.length) ⟨0, 0⟩).f1 (y : Nat)) ps.length
  have hr : (List.range ps.length).map (fun i => 131072 * (Strip.cl (ringE ps i).f1.f1 y - Strip.cl (ringE ps i).f0.f1 y)) = (List.range ps.length).map fun i => 131072 * Strip.cl (ps.getD ((i + 1) % ps.length) ⟨0, 0⟩).f1 (y : Nat) - 131072 * Strip.cl (ps.getD (i % ps.length) ⟨0, 0⟩).f1 (y : Nat) := by
    refine List.map_congr_left fun i hi => ?_
    have hi := List.mem_range.1 hi
    rw [Nat.mod_eq_of_lt hi]
    show 131072 * (Strip.cl (ps.getD ((i + 1) % ps.length) ⟨0, 0⟩).f1 y - Strip.cl (ps.getD i ⟨0, 0⟩).f1 y) = _
    omega
  rw [hr, ht, Nat.mod_self, Nat.zero_mod]
  simp [nought, wsum, wrap64]

def encG (e : Eg) : List Value := [.int .i64 e.f0.f0, .int .i64 e.f0.f1, .int .i64 e.f1.f0, .int .i64 e.f1.f1]
theorem info_edge : (Try.prog.info? 38).map (fun i => (i.zero, i.size, i.bytes)) = some (some (.agg #[.int .i64 0, .int .i64 0, .int .i64 0, .int .i64 0]), 4, 32) := by kernel_rfl
theorem newG (w : World) (e : Eg) (t : TypeId) : ∀ j u, (encG e)[j]? = some u → (w.alloc (.cells #[.int .i64 e.f0.f0, .int .i64 e.f0.f1, .int .i64 e.f1.f0, .int .i64 e.f1.f1] t)).cell? ((⟨w.heap.size, 0, none⟩ : Addr).add j) = some u := by
  intro j u hj
  rw [Row.addr_add, Nat.zero_add]
  rcases j with _ | _ | _ | _ | j <;> simp [encG] at hj
  all_goals (subst hj; go_simp)
theorem oneG (e : Eg) : ∀ u ∈ encG e, u.oneCell' = true := by
  intro u hu
  simp [encG] at hu
  rcases hu with rfl | rfl | rfl | rfl <;> rfl
theorem flat_at : ∀ (es : List Eg) (i j : Nat) (hi : i < es.length), j < 4 → (es.flatMap encG)[i * 4 + j]? = (encG es[i])[j]?
  | [], i, j, hi, _ => by simp at hi
  | e :: es, 0, j, hi, hj => by
    rw [List.flatMap_cons, List.getElem?_append_left (by simp [encG]; omega)]; simp
  | e :: es, i + 1, j, hi, hj => by
    rw [List.flatMap_cons, List.getElem?_append_right (by simp [encG]; omega), show (i + 1) * 4 + j - (encG e).length = i * 4 + j by simp [encG]; omega, flat_at es i j (by simpa using hi) hj]; simp
theorem er_of_own {w0 w : World} {v : Value} {es : List Eg} (h : Row.OwnR 38 4 w0.heap.size w0 w v es.length (es.flatMap encG)) : ∃ A cap, v = .slice A es.length cap ∧ ER (fun _ => False) w A es := by
  obtain ⟨A, cap, rfl, _, _, h3, _⟩ := h.read
  refine ⟨A, cap, rfl, fun i hi => ?_⟩
  obtain ⟨g, rfl, hg, hl, c0⟩ := h3 i 0 hi (by omega)
  obtain ⟨_, e1, _, _, c1⟩ := h3 i 1 hi (by omega); cases e1
  obtain ⟨_, e2, _, _, c2⟩ := h3 i 2 hi (by omega); cases e2
  obtain ⟨_, e3, _, _, c3⟩ := h3 i 3 hi (by omega); cases e3
  rw [flat_at es i _ hi (by omega)] at c0 c1 c2 c3
  exact ⟨g, 0, rfl, hl, id, by simpa [encG] using c0, by simpa [encG] using c1, by simpa [encG] using c2, by simpa [encG] using c3⟩
/-- An append that a region's walk does not lay open. -/
noncomputable def hidApp (T : TypeId) (vs : Array Value) : Sem Value := Builtin.append_ #[T, T] T vs
theorem app_hide (T ty : TypeId) (vs : Array Value) : Builtin.append_ #[T, T] ty vs = hidApp T vs := rfl
attribute [local go_sem high] app_hide
attribute [local go_sem ↓] app_hide
set_option maxHeartbeats 16000000 in
set_option maxRecDepth 100000 in
theorem buffercloses (s0 s1 : Int) (h0 : 0 ≤ s0 ∧ s0 ≤ 255) (h1 : 0 ≤ s1 ∧ s1 ≤ 255) (A : Option Addr) (ps : List Pt) (cap : Nat) (hl : ps.length ≤ 10) (hl2 : 2 ≤ ps.length) (w : World) (hE : PR w.heap.size w A ps) :
    Calls Try.prog 5 #[.agg #[.int .u8 s0, .int .u8 s1], .slice A ps.length cap] w fun e w' => e = .returned (.bool true) ∧ Below w.heap.size w w' := by
  obtain ⟨W, hW⟩ : ∃ W : Nat, 1 + s0 % 16 = (W : Int) := ⟨(1 + s0 % 16).toNat, by omega⟩
  obtain ⟨H, hH⟩ : ∃ H : Nat, 1 + s1 % 16 = (H : Int) := ⟨(1 + s1 % 16).toNat, by omega⟩
  have hWb : 1 ≤ W ∧ W ≤ 16 := by omega
  have hHb : 1 ≤ H ∧ H ≤ 16 := by omega
  have WK := Lib.hid (fun w => wakes_calls w)
  have OA := Lib.hid (fun es cap hl hI w A hE => of_calls s0 s1 h0 h1 A es cap hl hI w hE)
  rw [hW, hH] at OA
  simp only [Int.toNat_natCast] at OA
  have HE := Lib.hid hE
  clear hE hW hH
  have hlen : ¬ (ps.length : Int) > 10 := by omega
  have hlen2 : ¬ 10 < ps.length := by omega
  have hlen3 : ¬ (ps.length : Int) < 2 := by omega
  have hlen4 : ¬ ps.length < 2 := by omega
  go_enter Try.func5, Try.ntmps5
  go_wp2_with (first
    | (go_at_call 15; (with_reducible refine (WK.out _).mono ?_); rintro e w1 ⟨rfl, hb1⟩; have q0 := (hb1.cell (p := ⟨w.heap.size, 0, none⟩) (by simp)).trans (show _ = some (Value.int .u8 s0) by go_simp); have q1 := (hb1.cell (p := ⟨w.heap.size, 1, none⟩) (by simp)).trans (show _ = some (Value.int .u8 s1) by go_simp); have z1 : w.heap.size < w1.heap.size := Nat.lt_of_lt_of_le (by simp) hb1.size; have HB1 : Below w.heap.size w w1 := ((Below.refl _ w).alloc (Nat.le_refl _) _).trans (hb1.mono (by simp))))
  go_loopw [26, 5, 6] (fun x v z wr => ∃ i : Nat, x = .int .i64 (i : Nat) ∧ i ≤ ps.length ∧ z = .int .i64 (mxs (ps.take i) (-1099511627776)) ∧ (∀ p ∈ ps.take i, okP p) ∧ w1.heap.size ≤ wr.heap.size ∧ Below w1.heap.size w1 wr ∧ Row.OwnR 38 4 w1.heap.size w1 wr v i ((ring ps i).flatMap encG)) (fun x _ _ _ => ps.length - (intOf x).toNat)
  case atStart => exact ⟨0, rfl, Nat.zero_le _, rfl, fun p hp => by simp at hp, Nat.le_refl _, Below.refl _ _, Row.OwnR.nil (Below.refl _ _) (Nat.le_refl _) (Nat.le_refl _)⟩
  case round =>
    obtain ⟨i, rfl, hi, rfl, hok, hsz, hF, hO⟩ := hrel
    by_cases hlt : i < ps.length
    · have hpr := HE.out.below (HB1.trans (hF.mono HB1.size))
      have hj : (i + 1) % ps.length < ps.length := Nat.mod_lt _ (by omega)
      obtain ⟨g, off, rfl, hg, c0, c1⟩ := hpr i hlt
      obtain ⟨g', off', he, _, d0, d1⟩ := hpr _ hj
      cases he
      have hil : (i : Int) < (ps.length : Int) := by omega
      have hge : (ringE ps i) = ⟨ps[i], ps[(i + 1) % ps.length]⟩ := by simp [ringE, List.getD, hlt, hj]
      have hsn := take_snoc (List.getElem?_eq_getElem hlt)
      have hgw : g < wr.heap.size := by omega
      by_cases hpk : okP ps[i]
      · have hms := mxs_snoc (ps.take i) ps[i] (-1099511627776)
        rw [← hsn] at hms
        have HMS := Lib.hid hms
        have HOK := Lib.hid (show ∀ p ∈ ps.take (i + 1), okP p by
          rw [hsn]; intro p hp; rcases List.mem_append.1 hp with hp | hp
          · exact hok p hp
          · rw [List.mem_singleton.1 hp]; exact hpk)
        have HRS := Lib.hid (ring_succ ps i)
        rw [hge] at HRS
        have hki : ((i : Int) + 1) % (ps.length : Int) = (((i + 1) % ps.length : Nat) : Int) := by rw [Int.natCast_emod]; rfl
        unfold okP at hpk
        clear hms hsn hge hpr hok
        generalize ps[i] = p at *
        generalize ps[(i + 1) % ps.length] = q at *
        generalize hkn : (i + 1) % ps.length = k at *
        have hkt : Int.tmod ((i : Int) + 1) (ps.length : Int) = (k : Int) := by rw [Int.tmod_eq_emod_of_nonneg (by omega)]; exact hki
        have hkl : (k : Int) < (ps.length : Int) := by omega
        obtain ⟨⟨p0, p1⟩, p2, p3⟩ := hpk
        have n0 : ¬ p.f0 > 8589934592 := by omega
        have n1 : ¬ p.f0 < -8589934592 := by omega
        have n2 : ¬ p.f1 > 8589934592 := by omega
        have n3 : ¬ p.f1 < -8589934592 := by omega
        have hAl := fun o => (Below.refl wr.heap.size wr).alloc (Nat.le_refl _) o
        have HO := Lib.hid hO
        clear hO
        generalize mxs (ps.take i) (-1099511627776) = M at *
        go_wp2
        obtain ⟨V, hV⟩ : ∃ V, wr.alloc (.cells #[.int .i64 p.f0, .int .i64 p.f1] 36) = V := ⟨_, rfl⟩
        have b0 : V.drew.cell? ⟨wr.heap.size, 0, none⟩ = some (.int .i64 p.f0) := by subst hV; go_simp
        have b1 : V.drew.cell? ⟨wr.heap.size, 1, none⟩ = some (.int .i64 p.f1) := by subst hV; go_simp
        have hbV : Below wr.heap.size wr V := by rw [← hV]; exact hAl _
        have e0 : V.drew.cell? ⟨g, off + k * 2, none⟩ = some (.int .i64 q.f0) := (hbV.cell (p := ⟨g, _, none⟩) hgw).trans d0
        have e1 : V.drew.cell? ⟨g, off + k * 2 + 1, none⟩ = some (.int .i64 q.f1) := (hbV.cell (p := ⟨g, _, none⟩) hgw).trans d1
        have hzV : wr.heap.size < V.heap.size := by rw [← hV]; simp
        have hOV := ((HO.out.below hbV).alloc (.cells #[.int .i64 p.f0, .int .i64 p.f1, .int .i64 q.f0, .int .i64 q.f1] 38)).drew
        rw [hV]
        clear hV hAl d0 d1 c0 c1
        obtain ⟨i0, hi0, hz0, hz1, hz2⟩ := info_parts info_edge
        obtain ⟨v', w', hr, h2, h3, _, h5⟩ := run_append_own_at (P := Try.prog) (V.alloc (.cells #[.int .i64 p.f0, .int .i64 p.f1, .int .i64 q.f0, .int .i64 q.f1] 38)).drew w1.heap.size 23 23 38 i0 _ 4 32 Try.underlying23 hi0 hz0 hz1 hz2 rfl (by decide) u5 i _ hOV.row ⟨V.heap.size, 0, none⟩ 1 1 (encG ⟨p, q⟩) rfl (newG V ⟨p, q⟩ _) (oneG _) (by unfold maxLen; omega) (by omega) (by simp; omega)
        have hw0 : ∀ j, j < V.heap.size → ((V.alloc (.cells #[.int .i64 p.f0, .int .i64 p.f1, .int .i64 q.f0, .int .i64 q.f1] 38)).drew).heap[j]? = V.heap[j]? := fun j hj => Below.heap_alloc _ _ _ hj
        have hS1 : V.drew.cell? ⟨wr.heap.size, 0, none⟩ = some (.int .i64 p.f0) ∧ V.drew.cell? ⟨wr.heap.size, 1, none⟩ = some (.int .i64 p.f1) ∧ V.drew.cell? ⟨g, off + k * 2, none⟩ = some (.int .i64 q.f0) ∧ V.drew.cell? ⟨g, off + k * 2 + 1, none⟩ = some (.int .i64 q.f1) := ⟨b0, b1, e0, e1⟩
        have hP : ∀ j, j < V.heap.size → (V.alloc (.cells #[.int .i64 p.f0, .int .i64 p.f1, .int .i64 q.f0, .int .i64 q.f1] 38)).drew.heap[j]? = V.drew.heap[j]? := fun j hj => Below.heap_alloc _ _ _ hj
        have hQ : ∀ j, j < V.heap.size → u5.ownBlock ≠ some j → w'.heap[j]? = V.drew.heap[j]? := fun j hj hn => (h3.block j (by simp; omega) (fun e => hn e.symm)).trans (hP j hj)
        have hS2 : (V.alloc (.cells #[.int .i64 p.f0, .int .i64 p.f1, .int .i64 q.f0, .int .i64 q.f1] 38)).drew.cell? ⟨wr.heap.size, 0, none⟩ = some (.int .i64 p.f0) ∧ (V.alloc (.cells #[.int .i64 p.f0, .int .i64 p.f1, .int .i64 q.f0, .int .i64 q.f1] 38)).drew.cell? ⟨wr.heap.size, 1, none⟩ = some (.int .i64 p.f1) ∧ (V.alloc (.cells #[.int .i64 p.f0, .int .i64 p.f1, .int .i64 q.f0, .int .i64 q.f1] 38)).drew.cell? ⟨g, off + k * 2, none⟩ = some (.int .i64 q.f0) ∧ (V.alloc (.cells #[.int .i64 p.f0, .int .i64 p.f1, .int .i64 q.f0, .int .i64 q.f1] 38)).drew.cell? ⟨g, off + k * 2 + 1, none⟩ = some (.int .i64 q.f1) :=
          ⟨(World.cell?_of_block (a := ⟨wr.heap.size, 0, none⟩) (hP _ hzV)).trans b0, (World.cell?_of_block (a := ⟨wr.heap.size, 1, none⟩) (hP _ hzV)).trans b1, (World.cell?_of_block (a := ⟨g, _, none⟩) (hP g (by omega))).trans e0, (World.cell?_of_block (a := ⟨g, _, none⟩) (hP g (by omega))).trans e1⟩
        have hn1 : u5.ownBlock ≠ some wr.heap.size := fun e => by have := (HO.out.row.lt _ e).2; omega
        have hn2 : u5.ownBlock ≠ some g := fun e => by have := (HO.out.row.lt _ e).1; omega
        have hS3 : w'.cell? ⟨wr.heap.size, 0, none⟩ = some (.int .i64 p.f0) ∧ w'.cell? ⟨wr.heap.size, 1, none⟩ = some (.int .i64 p.f1) ∧ w'.cell? ⟨g, off + k * 2, none⟩ = some (.int .i64 q.f0) ∧ w'.cell? ⟨g, off + k * 2 + 1, none⟩ = some (.int .i64 q.f1) :=
          ⟨(World.cell?_of_block (a := ⟨wr.heap.size, 0, none⟩) (hQ _ hzV hn1)).trans b0, (World.cell?_of_block (a := ⟨wr.heap.size, 1, none⟩) (hQ _ hzV hn1)).trans b1, (World.cell?_of_block (a := ⟨g, _, none⟩) (hQ g (by omega) hn2)).trans e0, (World.cell?_of_block (a := ⟨g, _, none⟩) (hQ g (by omega) hn2)).trans e1⟩
        rw [app_hide] at hr
        have hnz : ¬ (ps.length : Int) = 0 := by omega
        have hnz1 : ¬ ps.length = 0 := by omega
        have hnz2 : ¬ ps = [] := fun e => by rw [e] at hnz1; exact hnz1 rfl
        have hnz3 : ((ps.length : Int) == 0) = false := by simp only [beq_eq_false_iff_ne]; omega
        have hkl0 : (0 : Int) ≤ k := by omega
        have hiw : IntKind.i64.wrap ((i : Int) + 1) = (i : Int) + 1 := (IntKind.wrap_i64 _).trans (by omega)
        have H2 := Lib.hid h2
        have H3 := Lib.hid h3
        clear b0 b1 e0 e1 hP hQ h2 h3 h5 hn1 hn2
        apply Cut.cut_eq_wp
        · go_region
          all_goals exact ⟨rfl, rfl⟩
        go_wp2
        have hbP : Below w1.heap.size w1 ((V.alloc (.cells #[.int .i64 p.f0, .int .i64 p.f1, .int .i64 q.f0, .int .i64 q.f1] 38)).drew) := hOV.bel
        have hrow1 := HO.out.row.lt
        have hsz2 := H3.out.size
        simp at hsz2
        clear hkn hkt hiw hki hnz hnz1 hnz2 hnz3 hr hS1 hS2 hS3
        go_roundw
        case rel =>
          refine ⟨i + 1, by go_num, hlt, ?_, HOK.out, by omega, hbP.grown H3.out (by simp; omega) (fun k hk => (hrow1 k hk).1), ⟨?_, hbP.grown H3.out (by simp; omega) (fun k hk => (hrow1 k hk).1), Nat.le_refl _, by omega⟩⟩
          · rw [HMS.out]; unfold mx; congr 1; rw [Int.max_def]; split <;> split <;> omega
          · rw [HRS.out, List.flatMap_append]
            have := H2.out
            simpa [encG] using this
        case measure => simp [intOf]; omega
      · have HR : Below w.heap.size w (wr.alloc (.cells #[.int .i64 ps[i].f0, .int .i64 ps[i].f1] 36)) := (HB1.trans (hF.mono HB1.size)).alloc (by have := HB1.size; omega) _
        generalize ps[i] = p at *
        have hcase : p.f0 > 8589934592 ∨ (¬ p.f0 > 8589934592 ∧ p.f0 < -8589934592) ∨ ((¬ p.f0 > 8589934592 ∧ ¬ p.f0 < -8589934592) ∧ p.f1 > 8589934592) ∨ ((¬ p.f0 > 8589934592 ∧ ¬ p.f0 < -8589934592) ∧ ¬ p.f1 > 8589934592 ∧ p.f1 < -8589934592) := by
          unfold okP at hpk; omega
        clear hpk hsn hge hok hO hpr
        rcases hcase with h | ⟨h, h'⟩ | ⟨⟨h, h'⟩, h''⟩ | ⟨⟨h, h'⟩, h'', h3⟩
        all_goals
          go_wp2
          go_ret
          exact ⟨rfl, HR⟩
    · obtain rfl : i = ps.length := by omega
      rw [List.take_length] at hok
      have HBr : Below w.heap.size w wr := HB1.trans (hF.mono HB1.size)
      rw [List.take_length]
      have hrl := ring_len ps ps.length
      have hO' : Row.OwnR 38 4 w1.heap.size w1 wr u5 (ring ps ps.length).length ((ring ps ps.length).flatMap encG) := by rw [hrl]; exact hO
      obtain ⟨A1, cap1, rfl, hE1⟩ := er_of_own hO'
      have hInI : ∀ e ∈ ring ps ps.length, InIE e := by
        intro e he
        obtain ⟨j, hj, rfl⟩ := List.mem_map.1 he
        have hj := List.mem_range.1 hj
        have hk : (j + 1) % ps.length < ps.length := Nat.mod_lt _ (by omega)
        have a0 : okP (ps.getD j ⟨0, 0⟩) := hok _ (by simp [List.getD, hj])
        have a1 : okP (ps.getD ((j + 1) % ps.length) ⟨0, 0⟩) := hok _ (by simp [List.getD, hk])
        unfold okP at a0 a1
        unfold InIE InI ringE
        dsimp only
        omega
      have OA1 := Lib.hid (OA.out (ring ps ps.length) cap1 (by rw [hrl]; omega) hInI wr A1 hE1)
      have RZ := Lib.hid (fun x y => ring_zero (W := W) (H := H) (ps := ps) (x := x) (y := y) (by omega) (by omega) hok hl2)
      have r0 := (hF.cell (p := ⟨w.heap.size, 0, none⟩) z1).trans q0
      have r1 := (hF.cell (p := ⟨w.heap.size, 1, none⟩) z1).trans q1
      clear hO hO' hE1 hInI hok hrl OA
      generalize mxs ps (-1099511627776) = M at *
      generalize ring ps ps.length = es at *
      go_wp2_with (go_at_call 16; (with_reducible refine OA1.out.mono ?_); rintro e w2 ⟨b, m, l, rfl, hb2, hB2, ho2⟩)
      have HB2 : Below w.heap.size w w2 := HBr.trans (hb2.mono HBr.size)
      have HBU := Lib.hid hB2
      clear hB2
      have AT := Lib.hid (fun (x y : Int) w hB => At_calls H W b m l (addl W H es nought) (by omega) x y w hB)
      go_loopw [77] (fun x wq => ∃ y : Nat, x = .int .i64 (y : Nat) ∧ y ≤ H ∧ Below w2.heap.size w2 wq) (fun x _ => H - (intOf x).toNat)
      case atStart => exact ⟨0, rfl, Nat.zero_le _, Below.refl _ _⟩
      case round =>
        obtain ⟨y, rfl, hy, hb3⟩ := hrel
        by_cases hyH : y < H
        · have hyl : (y : Int) < (H : Int) := by omega
          go_wp2
          go_loopw [81] (fun x wp => ∃ k : Nat, x = .int .i64 (k : Nat) ∧ k ≤ W ∧ Below w2.heap.size w2 wp) (fun x _ => W - (intOf x).toNat)
          case atStart => exact ⟨0, rfl, Nat.zero_le _, hb3⟩
          case round =>
            obtain ⟨k, rfl, hk, hb4⟩ := hrel
            by_cases hkW : k < W
            · have hkl : (k : Int) < (W : Int) := by omega
              have hB4 := HBU.out.of (fun i hi => hb4.block i (HBU.out.lt hi))
              have AT1 := Lib.hid (AT.out k y _ hB4)
              have hat : atV W H (addl W H es nought) k y = wt k (addl W H es nought (y : Nat)) := by
                unfold atV; rw [if_pos ⟨by omega, by omega, by omega, by omega⟩, Int.toNat_natCast]
              have HAT := Lib.hid hat
              clear hat hB4
              by_cases hM : M ≤ (k : Int) * 65536
              · have hz := Lib.hid (HAT.out.trans (RZ.out k y hkW hyH hM))
                have hsh : wrap64 ((k : Int) * 65536) = (k : Int) * 65536 := by unfold wrap64; omega
                go_wp2_with (go_at_call 18; ((with_reducible refine AT1.out.mono ?_); rintro e w5 ⟨rfl, hb5⟩; rw [hz.out]))
                go_roundw
                case rel => exact ⟨k + 1, by go_num, hkW, hb4.trans (hb5.mono hb4.size)⟩
                case measure => simp [intOf]; omega
              · go_wp2
                go_roundw
                case rel => exact ⟨k + 1, by go_num, hkW, hb4⟩
                case measure => simp [intOf]; omega
            · obtain rfl : k = W := by omega
              go_wp2
              go_roundw
              case rel => exact ⟨y + 1, by go_num, by omega, hb4⟩
              case measure => simp [intOf]; omega
        · obtain rfl : y = H := by omega
          go_wp2
          go_ret
          exact ⟨rfl, HB2.trans (hb3.mono HB2.size)⟩
set_option maxHeartbeats 4000000 in
set_option maxRecDepth 100000 in
theorem buffercloses_not (s0 s1 : Int) (A : Option Addr) (n : Nat) (cap : Nat) (hl : ¬ (n ≤ 10 ∧ 2 ≤ n)) (w : World) :
    Calls Try.prog 5 #[.agg #[.int .u8 s0, .int .u8 s1], .slice A n cap] w fun e w' => e = .returned (.bool true) ∧ Below w.heap.size w w' := by
  have WK := Lib.hid (fun w => wakes_calls w)
  have hem := Classical.em (10 < n)
  rcases hem with hem | hem
  · have hlen : (n : Int) > 10 := by omega
    go_enter Try.func5, Try.ntmps5
    go_wp2_with (first
      | (go_at_call 15; refine (WK.out _).mono ?_; rintro e w1 ⟨rfl, hb1⟩; have HB1 : Below w.heap.size w w1 := ((Below.refl _ w).alloc (Nat.le_refl _) _).trans (hb1.mono (by simp))))
    go_ret
    exact ⟨rfl, HB1⟩
  · have hlen : ¬ (n : Int) > 10 := by omega
    have hlen2 : n < 2 := by omega
    have hlen3 : (n : Int) < 2 := by omega
    go_enter Try.func5, Try.ntmps5
    go_wp2_with (first
      | (go_at_call 15; refine (WK.out _).mono ?_; rintro e w1 ⟨rfl, hb1⟩; have HB1 : Below w.heap.size w w1 := ((Below.refl _ w).alloc (Nat.le_refl _) _).trans (hb1.mono (by simp))))
    go_ret
    exact ⟨rfl, HB1⟩
theorem pr_of_rows {W : World} {A : Option Addr} {xs : List (List Int)} (h : Row.Rows W [.i64, .i64] A xs) : PR W.heap.size W A (xs.map fun l => (⟨l.getD 0 0, l.getD 1 0⟩ : Pt)) := fun i hi => by
  have hi' : i < xs.length := by simpa using hi
  obtain ⟨b, off, rfl, hb, c0⟩ := h.cell i 0 hi' (by simp)
  obtain ⟨_, _, e1, _, c1⟩ := h.cell i 1 hi' (by simp); cases e1
  exact ⟨b, off, rfl, hb, by simpa [hi'] using c0, by simpa [hi'] using c1⟩
theorem buffercloses_row {v : Value} {xs : List (List Int)} {s0 s1 : Int} (h0 : 0 ≤ s0 ∧ s0 ≤ 255) (h1 : 0 ≤ s1 ∧ s1 ≤ 255) {W : World} (f : Open.FlatRow W [.i64, .i64] v xs) :
    Calls Try.prog 5 #[.agg #[.int .u8 s0, .int .u8 s1], v] W fun e w' => e = .returned (.bool true) ∧ Below W.heap.size W w' := by
  obtain ⟨A, cap, rfl, h2, h3, hR⟩ := Row.Rows.of_flat f
  have hP := pr_of_rows hR
  have hl : (xs.map fun l => (⟨l.getD 0 0, l.getD 1 0⟩ : Pt)).length = xs.length := List.length_map _
  generalize (xs.map fun l => (⟨l.getD 0 0, l.getD 1 0⟩ : Pt)) = ps at *
  rw [← hl]
  by_cases h : ps.length ≤ 10 ∧ 2 ≤ ps.length
  · exact buffercloses s0 s1 h0 h1 A ps cap h.1 h.2 W hP
  · exact buffercloses_not s0 s1 A ps.length cap h W
end Buf
namespace bufferCloses
open Go.ChangeShapes Go.WideShapes Go.ChangeAt Go.RowKit
open Go.ChangeMaps (open_string shut_string)
theorem own : ownKnob Try.prog.godebug = none := by kernel_rfl
theorem laidOut : laidOutB Try.prog = true := by kernel_rfl
set_option maxRecDepth 100000 in
theorem lifted (os : Os) (started : os.Started) (H : Type) (enc : TypeId × Value → H) :
    ReturnsInHanded {} Try.checked os 5 .any (Rows.bufferClosesSpec.pre6 enc Try.prog Try.f5 Rows.bufferClosesRow.domain false) (Rows.bufferClosesSpec.post enc Try.prog Try.f5 false true false false) := by
  refine returnsInHanded_of_change_sized (C := Try.checked) own started (by kernel_rfl) Try.func5
    (ChangeSpec.witness6 (enc := enc) (C := Try.checked) false ⟨#[], #[.agg #[.int .u8 0, .int .u8 0], .slice none 0 0], []⟩ 8 (by kernel_rfl) (by kernel_rfl) (by kernel_rfl) (by kernel_rfl)) ?_
  intro W base args ds gs before hval0 hW hcnd hsz0 _
  have hval : ∀ (j : Nat) t v, Try.f5.params[j]? = some t → args[j]? = some v → Value.okWide Try.prog W .any base t v := hval0
  have hW' := hW
  obtain ⟨p, q, hA0, hV, rfl, hfz, hnd⟩ := hW
  have hA : DataW.TrodAll enc Try.prog W 0 (fun _ => true) true Try.f5.params.toList args.toList ds p := hA0
  have hlt : ∀ x ∈ p, x.block < W.heap.size := fun x hx => by simpa using hW'.lt x (by simp [hx])
  have hready : ∀ t ∈ Try.f5.params.toList, Try.prog.readableRec t = true ∧ t < Try.prog.types.size := by
    rw [Try.params5]
    intro t ht
    simp only [List.mem_cons, List.not_mem_nil, or_false] at ht
    rcases ht with rfl | rfl <;> exact ⟨by kernel_rfl, of_decide_eq_true (by kernel_rfl)⟩
  have hAk := hA
  rw [Try.params5] at hA hval
  obtain ⟨v0, vs0, d0, ds0, p0, q0, hargs, rfl, rfl, h0, r0⟩ := trodAll_cons hA
  obtain ⟨v1, vs1, d1, ds1, p1, q1, rfl, rfl, rfl, h1, r1⟩ := trodAll_cons r0
  obtain ⟨rfl, rfl, rfl⟩ := trodAll_nil r1
  obtain rfl : args = #[v0, v1] := by cases args; simp_all
  obtain ⟨rfl, rfl⟩ := trodVars_none hV
  obtain ⟨c0, m0, rfl, i0⟩ := Open.Flat.open_agg flatTwo8 (.inr ⟨_, _, Try.underlying22⟩) (hval 0 22 v0 rfl rfl) h0
  obtain ⟨n0_0, n0_1, rfl, x0_0, x0_1⟩ := i0.of2
  obtain ⟨xs1, f1⟩ := Open.Flat.open_slice flatPoint (by decide) Try.underlying43 (hval 1 43 v1 rfl rfl) h1
  clear hA0 hval0 hsz0
  refine (Buf.buffercloses_row (Num.wf_u8 x0_0) (Num.wf_u8 x0_1) f1).mono fun e W' ⟨he, bel⟩ => ?_
  subst he
  exact ⟨_, rfl, _, _, _, [], _, [], hW', trodAll_mk1 (shut_bool Try.underlying4 _), Open.trodAll_below laidOut bel hready hAk hlt, rfl, bel.frame _, fun h => by cases h⟩
theorem over : Rows.bufferClosesRow.holds Try.pinned (OpenSpec.ofChange Rows.bufferClosesSpec) :=
  OpenClaim.holds_of_wide 5 Try.f5 rfl rfl rfl rfl rfl rfl rfl ⟨rfl, rfl, rfl, rfl, rfl⟩ rfl rfl rfl rfl rfl (by kernel_rfl) Try.func5 (by kernel_rfl)
    (of_decide_eq_true (by kernel_rfl)) (by unfold Func.isWrapper; first | (rw [if_pos (by decide +kernel)]; kernel_rfl) | (rw [if_neg (by decide +kernel)]; exact ⟨rfl, rfl⟩))
    (fun os started H enc _ => lifted os started H enc)
theorem proved : Rows.BufferClosesSaid := over
end bufferCloses
/-- The row, for the claim. -/
theorem bufferCloses_holds : Rows.BufferClosesSaid := bufferCloses.proved
end Go.Proofs.Ytejcjonlnijbkaa
