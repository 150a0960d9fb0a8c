/- Package snap's All, walked: the iterator hands the edges on the grid, in order, those that go anywhere. For all edges whose numbers may be asked about. -/
import Derived.Test.YtdepcbgjoegkkaaPSEx
import Derived.Test.YtdepcbgjoegkkaaSnapNum
import Derived.Test.YtdepcbgjoegkkaaSeq
import Derived.Test.YtdepcbgjoegkkaaNum
import Derived.LoopTactic
import Derived.WideLaws
import Derived.Lib.Hide
namespace Go.Proofs.Ytdepcbgjoegkkaa.SnapE
open Go Go.RowKit Go.Shelf Range Go.Proofs.Ytdepcbgjoegkkaa.PSE Go.Proofs.YtdepcbgjoegkkaaW.PrintWords Go.Proofs.YtdepcbgjoegkkaaW.PrintLast Go.Proofs.Ytdepcbgjoegkkaa.Num
set_option maxRecDepth 100000
set_option linter.unusedVariables false
set_option linter.unusedSimpArgs false
attribute [local go_sem] Oper.semAt_some

def In62 (n : Int) : Prop := -4611686018427387904 ≤ n ∧ n ≤ 4611686018427387904
/-- An edge whose numbers may be asked about. -/
def In (e : S30) : Prop := In62 e.f0.f0 ∧ In62 e.f0.f1 ∧ In62 e.f1.f0 ∧ In62 e.f1.f1
/-- What comes of an edge. -/
def sn (e : S30) : Option S30 := if snapN e.f0.f1 = snapN e.f1.f1 then none else some ⟨⟨snapN e.f0.f0, snapN e.f0.f1⟩, ⟨snapN e.f1.f0, snapN e.f1.f1⟩⟩
def outs (es : List S30) : List S30 := es.filterMap sn
def encE (e : S30) : Array Value := #[.agg #[.int .i64 e.f0.f0, .int .i64 e.f0.f1, .int .i64 e.f1.f0, .int .i64 e.f1.f1]]

theorem number {n : Int} (h0 : -9223372036854775808 ≤ n) (h1 : n ≤ 9223372036854775295) : snap_Number.f n = some (snapN n) := by
  unfold snap_Number.f; rw [snap_bits h0 h1]
theorem point {x y : Int} (hx : In62 x) (hy : In62 y) : snap_Point.f x y = some (snapN x, snapN y) := by
  unfold In62 at hx hy; unfold snap_Point.f
  rw [number (by omega) (by omega), number (by omega) (by omega)]; rfl
theorem edge {a b c d : Int} (ha : In62 a) (hb : In62 b) (hc : In62 c) (hd : In62 d) : snap_Edge.f a b c d = if snapN b = snapN d then some (0, 0, 0, 0, false) else some (snapN a, snapN b, snapN c, snapN d, true) := by
  unfold snap_Edge.f; rw [point ha hb, point hc hd]; rfl

/-- A row of edges, its block below B. -/
def ER (B : Nat) (w : World) (A : Option Addr) (es : List S30) : Prop :=
  ∀ i (h : i < es.length), ∃ b off, A = some ⟨b, off, none⟩ ∧ b < B ∧ w.cell? ⟨b, off + i * 4, none⟩ = some (.int .i64 es[i].f0.f0) ∧ w.cell? ⟨b, off + i * 4 + 1, none⟩ = some (.int .i64 es[i].f0.f1) ∧ w.cell? ⟨b, off + i * 4 + 2, none⟩ = some (.int .i64 es[i].f1.f0) ∧ w.cell? ⟨b, off + i * 4 + 3, none⟩ = some (.int .i64 es[i].f1.f1)
theorem ER.below {B : Nat} {w w1 : World} {A : Option Addr} {es : List S30} (h : ER B w A es) (hb : Below B w w1) : ER B w1 A es := fun i hi => by
  obtain ⟨b, off, e, hl, c0, c1, c2, c3⟩ := h i hi
  exact ⟨b, off, e, hl, (hb.cell (p := ⟨b, _, none⟩) hl).trans c0, (hb.cell (p := ⟨b, _, none⟩) hl).trans c1, (hb.cell (p := ⟨b, _, none⟩) hl).trans c2, (hb.cell (p := ⟨b, _, none⟩) hl).trans c3⟩
theorem addr_add' (b k j : Nat) : (⟨b, k, none⟩ : Addr).add j = ⟨b, k + j, none⟩ := by unfold Addr.add; split <;> simp_all
theorem ER.reads {B : Nat} {w : World} {A : Option Addr} {es : List S30} (h : ER B w A es) (hl : es.length ≤ 9223372036854775807) : Kd.C k30 w A es.length es := by
  refine ⟨rfl, hl, fun h0 => ?_⟩
  obtain ⟨b, off, rfl, hb, _⟩ := h 0 h0
  refine ⟨_, rfl, fun j p hp => ?_⟩
  obtain ⟨hj, rfl⟩ := List.getElem?_eq_some_iff.1 hp
  obtain ⟨_, _, e, _, c0, c1, c2, c3⟩ := h j hj
  cases e
  refine ⟨_, rfl, k30_mk w _, fun i u hu => ?_⟩
  rw [addr_add']
  match i, hu with
  | 0, hu => simp at hu; subst hu; exact c0
  | 1, hu => simp at hu; subst hu; exact c1
  | 2, hu => simp at hu; subst hu; exact c2
  | 3, hu => simp at hu; subst hu; exact c3

theorem all_calls (A : Option Addr) (n cap : Nat) (w : World) : Calls Try.prog 15 #[.slice A n cap] w fun e w' => e = .returned (.func (.func 18) #[] #[.pointer (some ⟨w.heap.size, 0, none⟩)]) ∧ w' = w.alloc (.cells #[.slice A n cap] 32) := by
  go_enter Try.func15, Try.ntmps15
  go_wp2
  go_ret
  exact ⟨rfl, rfl⟩

/-- A whole struct, read out of the cells at an address, within a fence. -/
theorem run_load_off {P : Program} (w : World) (ad : Addr) (ty : TypeId) (cs : List Value) (d : TypeDesc) (hg : ∀ j v, cs[j]? = some v → w.cell? (ad.add j) = some v)
    (hu : P.underlying ty = some d) (hd : (match d with | .struct _ | .array _ _ => true | _ => false) = true) (hi : (P.info? ty).map (·.size) = some cs.length) :
    (loadVar ty ad).run P w = .ok (.agg cs.toArray) w := by
  have hl : (loadCells ad cs.length).run P w = .ok cs.toArray w := run_loadCells_list (P := P) w ad cs hg
  cases hq : P.info? ty with
  | none => simp [hq] at hi
  | some i =>
    have hs : i.size = cs.length := by simpa [hq] using hi
    have hagg : (isAgg ty).run P w = .ok true w := by
      unfold isAgg
      rw [Sem.run_bind, run_underlying hu w]
      cases d <;> simp_all
    simp [loadVar, Sem.run_bind, hagg, sizeOf, typeInfo, hq, hs, hl]
theorem load_off_in {P : Program} {F : Fence} {n : Nat} {ops : Array Oper} {rest : List Oper} {o : Oper} {a : Act} {w : World} {Q : Exit → Act → World → Prop} (hro : F.round = none) (hgd : o.guard = none) (ty : TypeId) (x : Operand) (ho : o.op = .load ty x)
    (ad : Addr) (hx : a.eval x = .pointer (some ad)) (cs : List Value) (d : TypeDesc) (hg : ∀ j v, cs[j]? = some v → w.cell? (ad.add j) = some v)
    (hu : P.underlying ty = some d) (hd : (match d with | .struct _ | .array _ _ => true | _ => false) = true) (hi : (P.info? ty).map (·.size) = some cs.length)
    (h : wpListIn F n P ops Q rest (a.put o.dst (.agg cs.toArray)) w) : wpListIn F n P ops Q (o :: rest) a w := by
  refine wpListIn_plain hgd fun K hK => ⟨fun f hf => ?_, ?_⟩
  · simp [Oper.about, ho] at hf
  · unfold Oper.semAt execOp
    simp only [hro, ho, hx, Instr.loadAt, Instr.sureAddr, Sem.run_bind, Sem.run_pure, Result.andThen_ok, run_load_off w ad ty cs d hg hu hd hi]
    exact hK _ _ h

theorem outs_drop_none {es : List S30} {i : Nat} (h : i < es.length) (hs : sn es[i] = none) : outs (es.drop i) = outs (es.drop (i + 1)) := by
  unfold outs
  rw [List.drop_eq_getElem_cons h, List.filterMap_cons, hs]
theorem outs_drop_some {es : List S30} {i : Nat} {x : S30} (h : i < es.length) (hs : sn es[i] = some x) : outs (es.drop i) = x :: outs (es.drop (i + 1)) := by
  unfold outs
  rw [List.drop_eq_getElem_cons h, List.filterMap_cons, hs]

set_option maxHeartbeats 8000000 in
theorem all_gives (n₀ Bn : Nat) (A : Option Addr) (es : List S30) (cap : Nat) (hIn : ∀ e ∈ es, In e) (hl : es.length ≤ 1000000) (w : World) (hb : Bn < w.heap.size) (hc : w.cell? ⟨Bn, 0, none⟩ = some (.slice A es.length cap)) (hE : ER n₀ w A es) (hn : n₀ ≤ w.heap.size) :
    Seq.Gives Try.prog false 18 #[.pointer (some ⟨Bn, 0, none⟩)] encE n₀ [] (outs es) w := by
  intro l J Jx W hW hJ _ hY h0
  have hc0 : W.cell? ⟨Bn, 0, none⟩ = some (.slice A es.length cap) := (hW.cell (p := ⟨Bn, 0, none⟩) hb).trans hc
  have hE0 := hE.below (hW.mono hn)
  have hn0 := Nat.le_trans hn hW.size
  clear hc hW hb hE hn
  refine callsIn_of_wp Try.func18 rfl trivial ?_ rfl
  simp only [Try.ntmps18, List.size_toArray, List.length_cons, List.length_nil, Nat.reduceAdd, Nat.reduceSub, Array.replicate_succ, Array.replicate_zero, List.push_toArray, List.append_toArray, List.nil_append, List.cons_append]
  gi_wp2
  gi_loopw [9] (fun x wr => ∃ (i k : Nat), x = .int .i64 (i : Nat) ∧ i ≤ es.length ∧ (outs es).drop k = outs (es.drop i) ∧ k ≤ (outs es).length ∧ J k wr ∧ W.heap.size ≤ wr.heap.size ∧ ER n₀ wr A es) (fun x _ => es.length - (intOf x).toNat)
  case atStart => exact ⟨0, 0, rfl, Nat.zero_le _, rfl, Nat.zero_le _, h0, Nat.le_refl _, hE0⟩
  case round =>
    obtain ⟨i, k, rfl, hi, hd, hk, hJk, hsz, hEr⟩ := hrel
    by_cases hlt : i < es.length
    · obtain ⟨bk, off, rfl, hbl, c0, c1, c2, c3⟩ := hEr i hlt
      have hin := hIn es[i] (List.getElem_mem hlt)
      have hil : (i : Int) < (es.length : Int) := by omega
      have hEd := edge hin.1 hin.2.1 hin.2.2.1 hin.2.2.2
      by_cases hs : snapN es[i].f0.f1 = snapN es[i].f1.f1
      · have hd2 : (outs es).drop k = outs (es.drop (i + 1)) := by rw [hd]; exact outs_drop_none hlt (if_pos hs)
        rw [if_pos hs] at hEd
        have ED := Lib.hid (fun w => snap_Edge.calls _ _ _ _ _ _ _ _ _ w hEd)
        have HD := Lib.hid hd2
        have HE := Lib.hid hEr
        clear hd hd2 hEd hs hin hEr
        generalize es[i].f0.f0 = e0 at *
        generalize es[i].f0.f1 = e1 at *
        generalize es[i].f1.f0 = e2 at *
        generalize es[i].f1.f1 = e3 at *
        gi_wp2_with (gi_at_call 12; refine (Seq.of_calls (ED.out _)).mono ?_; rintro e w1 ⟨rfl, hb1⟩)
        have hB2 : Below wr.heap.size wr (w1.alloc (.cells #[.int .i64 0, .int .i64 0, .int .i64 0, .int .i64 0] 30)) := by have z_hb1 := hb1.size; (try simp at z_hb1); (repeat' (first | (with_reducible exact Below.refl _ _) | (with_reducible refine Below.drew ?_) | (with_reducible refine below_drewN ?_ _) | ((with_reducible refine Below.setCell ?_ ?side_ _); case side_ => (first | (with_reducible exact Nat.le_refl _) | (with_reducible assumption) | omega | (simp; done) | (simp; omega))) | ((with_reducible refine Below.alloc ?_ ?side_ _); case side_ => (first | (with_reducible exact Nat.le_refl _) | (with_reducible assumption) | omega | (simp; done) | (simp; omega))) | ((with_reducible refine Below.trans ?_ (hb1.mono ?side_)); case side_ => (first | (with_reducible exact Nat.le_refl _) | (with_reducible assumption) | omega | (simp; done) | (simp; omega)))))
        go_roundw
        case rel => exact ⟨i + 1, k, by go_num, by omega, HD.out, hk, hJ k _ _ hJk hsz (Seq.tick_below hsz hB2), Nat.le_trans hsz hB2.size, HE.out.below (hB2.mono (Nat.le_trans hn0 hsz))⟩
        case measure => simp [intOf]; omega
      · obtain ⟨y, hy⟩ : ∃ y : S30, y = ⟨⟨snapN es[i].f0.f0, snapN es[i].f0.f1⟩, ⟨snapN es[i].f1.f0, snapN es[i].f1.f1⟩⟩ := ⟨_, rfl⟩
        have hd1 : (outs es).drop k = y :: outs (es.drop (i + 1)) := by rw [hd, hy]; exact outs_drop_some hlt (if_neg hs)
        have hx : (outs es)[k]? = some y := by
          have := congrArg (·[0]?) hd1
          simpa using this
        have hd2 : (outs es).drop (k + 1) = outs (es.drop (i + 1)) := by
          have := congrArg List.tail hd1
          simpa using this
        have hkl := (List.getElem?_eq_some_iff.1 hx).1
        rw [if_neg hs] at hEd
        rw [show snapN es[i].f0.f0 = y.f0.f0 by rw [hy], show snapN es[i].f0.f1 = y.f0.f1 by rw [hy], show snapN es[i].f1.f0 = y.f1.f0 by rw [hy], show snapN es[i].f1.f1 = y.f1.f1 by rw [hy]] at hEd
        have ED := Lib.hid (fun w => snap_Edge.calls _ _ _ _ _ _ _ _ _ w hEd)
        have HD := Lib.hid hd2
        have HE := Lib.hid hEr
        have HX := Lib.hid hx
        have HY := Lib.hid (hY k y)
        clear hd hd1 hd2 hEd hs hin hEr hy hx
        generalize es[i].f0.f0 = e0 at *
        generalize es[i].f0.f1 = e1 at *
        generalize es[i].f1.f0 = e2 at *
        generalize es[i].f1.f1 = e3 at *
        gi_wp2_with (gi_at_call 12; refine (Seq.of_calls (ED.out _)).mono ?_; rintro e w1 ⟨rfl, hb1⟩)
        have hB2 : Below wr.heap.size wr (w1.alloc (.cells #[.int .i64 y.f0.f0, .int .i64 y.f0.f1, .int .i64 y.f1.f0, .int .i64 y.f1.f1] 30)) := by have z_hb1 := hb1.size; (try simp at z_hb1); (repeat' (first | (with_reducible exact Below.refl _ _) | (with_reducible refine Below.drew ?_) | (with_reducible refine below_drewN ?_ _) | ((with_reducible refine Below.setCell ?_ ?side_ _); case side_ => (first | (with_reducible exact Nat.le_refl _) | (with_reducible assumption) | omega | (simp; done) | (simp; omega))) | ((with_reducible refine Below.alloc ?_ ?side_ _); case side_ => (first | (with_reducible exact Nat.le_refl _) | (with_reducible assumption) | omega | (simp; done) | (simp; omega))) | ((with_reducible refine Below.trans ?_ (hb1.mono ?side_)); case side_ => (first | (with_reducible exact Nat.le_refl _) | (with_reducible assumption) | omega | (simp; done) | (simp; omega)))))
        have hs2 := Nat.le_trans hsz hB2.size
        obtain ⟨fn, tmps, assign, body, hy2, hR⟩ := HY.out _ HX.out hs2 (hJ k _ _ hJk hsz (Seq.tick_below hsz hB2))
        have hE2 := HE.out.below (hB2.mono (Nat.le_trans hn0 hsz))
        have hR := Seq.roundIn_any (ro' := none) (n' := 0 - 1) hR
        unfold encE at hy2
        generalize (w1.alloc (.cells #[.int .i64 y.f0.f0, .int .i64 y.f0.f1, .int .i64 y.f1.f0, .int .i64 y.f1.f1] 30)) = W2 at *
        rw [hy2]
        gi_wp2
        refine hR.mono ?_
        rintro e W3 (⟨rfl, hJ3, hk3⟩ | ⟨rfl, hJx3, _⟩)
        · have hs3 := hk3.1.size
          gi_wp2
          go_roundw
          case rel => exact ⟨i + 1, k + 1, by go_num, by omega, HD.out, hkl, hJ3, Nat.le_trans hs2 hs3, hE2.below hk3.1⟩
          case measure => simp [intOf]; omega
        · gi_wp2
          refine bodyPost_ret (results_none rfl _ _ _) rfl ?_
          exact ⟨⟨_, rfl⟩, .inr ⟨k + 1, hkl, hJx3⟩⟩
    · obtain rfl : i = es.length := by omega
      have hkl : k = (outs es).length := by
        have := congrArg List.length hd
        simp [outs] at this
        simp [outs] at hk ⊢
        omega
      subst hkl
      gi_wp2
      go_end0
      exact ⟨⟨_, rfl⟩, .inl hJk⟩
end Go.Proofs.Ytdepcbgjoegkkaa.SnapE
