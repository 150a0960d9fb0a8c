/- A buffer in memory: what its blocks hold, as cells added up, and what adding a cell changes. -/
import Derived.Test.YtejcjonlnijbkaaKs
import Derived.Test.YtejcjonlnijbkaaPEx0
import Derived.Test.YtejcjonlnijbkaaWm1
import Derived.Lib.Hide
import Derived.Sort.QuietTacIn
import Derived.Test.YtejcjonlnijbkaaSp1
import Derived.Test.YtejcjonlnijbkaaCp1
import Derived.Laws.MakeOwn
namespace Go.Proofs.Ytejcjonlnijbkaa.Buf
open Go Go.RowKit Go.Shelf Range Go.Proofs.Ytejcjonlnijbkaa.PE
set_option linter.unusedVariables false
set_option linter.unusedSimpArgs false

abbrev Cl := S62
/-- The covers, and the areas, of a column's cells. -/
def cov (x : Int) : List Cl → Int
  | [] => 0
  | c :: L => (if c.f0 = x then c.f1.f0 else 0) + cov x L
def are (x : Int) : List Cl → Int
  | [] => 0
  | c :: L => (if c.f0 = x then c.f1.f1 else 0) + are x L
theorem cov_append (x : Int) (L M : List Cl) : cov x (L ++ M) = cov x L + cov x M := by
  induction L with
  | nil => simp [cov]
  | cons c L ih => simp only [List.cons_append, cov, ih]; omega
theorem are_append (x : Int) (L M : List Cl) : are x (L ++ M) = are x L + are x M := by
  induction L with
  | nil => simp [are]
  | cons c L ih => simp only [List.cons_append, are, ih]; omega
theorem cov_push (x : Int) (L : List Cl) (c : Cl) : cov x (L ++ [c]) = cov x L + (if c.f0 = x then c.f1.f0 else 0) := by rw [cov_append]; simp [cov]
theorem are_push (x : Int) (L : List Cl) (c : Cl) : are x (L ++ [c]) = are x L + (if c.f0 = x then c.f1.f1 else 0) := by rw [are_append]; simp [are]
theorem wrap_add (a b : Int) : wrap64 (wrap64 a + b) = wrap64 (a + b) := by unfold wrap64; omega

theorem set_other {w : World} {g o o' : Nat} {v : Value} (h : o ≠ o') : (w.setCell ⟨g, o, none⟩ v).cell? ⟨g, o', none⟩ = w.cell? ⟨g, o', none⟩ := by
  apply World.cell?_setCell_other
  intro e; cases e; exact h rfl
theorem set_ty {w : World} {g o : Nat} {v : Value} {T : TypeId} (h : ∃ cs, w.heap[g]? = some (.cells cs T)) : ∃ cs, (w.setCell ⟨g, o, none⟩ v).heap[g]? = some (.cells cs T) := by
  obtain ⟨cs, h⟩ := h
  simp [World.setCell, Array.getElem?_modify, h]
/-- A row's block: covers of the cells L, areas of the cells M. -/
structure RowAt (w : World) (g W : Nat) (L M : List Cl) : Prop where
  cov : ∀ i : Nat, i < W → w.cell? ⟨g, i * 2, none⟩ = some (.int .i64 (wrap64 (cov i L)))
  are : ∀ i : Nat, i < W → w.cell? ⟨g, i * 2 + 1, none⟩ = some (.int .i64 (wrap64 (are i M)))
  fro : ∀ o, w.frozen? ⟨g, o, none⟩ = false
  lt : g < w.heap.size
  ty : ∃ cs, w.heap[g]? = some (.cells cs 60)
section
variable {w w' : World} {g W : Nat} {L M : List Cl} {c : Cl}
theorem RowAt.of (h : RowAt w g W L M) (hb : w'.heap[g]? = w.heap[g]?) : RowAt w' g W L M :=
  ⟨fun i hi => (World.cell?_of_block (a := ⟨g, i * 2, none⟩) hb).trans (h.cov i hi), fun i hi => (World.cell?_of_block (a := ⟨g, i * 2 + 1, none⟩) hb).trans (h.are i hi), fun o => (World.frozen?_of_block (a := ⟨g, o, none⟩) hb).trans (h.fro o), by
    have h1 := h.lt
    have h2 : w.heap[g]? ≠ none := by simp; omega
    rw [← hb] at h2
    exact Nat.lt_of_not_le (by simpa using h2), by rw [hb]; exact h.ty⟩
theorem RowAt.cover (h : RowAt w g W L M) {x : Nat} (hx : x < W) (hc : c.f0 = x) : RowAt (w.setCell ⟨g, x * 2, none⟩ (.int .i64 (wrap64 (wrap64 (Buf.cov x L) + c.f1.f0)))) g W (L ++ [c]) M := by
  refine ⟨fun i hi => ?_, fun i hi => ?_, fun o => by rw [World.frozen?_setCell]; exact h.fro o, by simpa using h.lt, set_ty h.ty⟩
  · rw [cov_push, hc]
    by_cases e : i = x
    · subst e
      rw [World.cell?_setCell_same' _ _ _ (by rw [h.cov i hx]; rfl), wrap_add, if_pos rfl]
    · rw [set_other (by omega), if_neg (by omega), Int.add_zero, h.cov i hi]
  · rw [set_other (by omega)]; exact h.are i hi
theorem RowAt.area (h : RowAt w g W L M) {x : Nat} (hx : x < W) (hc : c.f0 = x) : RowAt (w.setCell ⟨g, x * 2 + 1, none⟩ (.int .i64 (wrap64 (wrap64 (Buf.are x M) + c.f1.f1)))) g W L (M ++ [c]) := by
  refine ⟨fun i hi => ?_, fun i hi => ?_, fun o => by rw [World.frozen?_setCell]; exact h.fro o, by simpa using h.lt, set_ty h.ty⟩
  · rw [set_other (by omega)]; exact h.cov i hi
  · rw [are_push, hc]
    by_cases e : i = x
    · subst e
      rw [World.cell?_setCell_same' _ _ _ (by rw [h.are i hx]; rfl), wrap_add, if_pos rfl]
    · rw [set_other (by omega), if_neg (by omega), Int.add_zero, h.are i hi]
end

theorem uniq {α β : Type} {f : α → β} : ∀ {l : List α}, (l.map f).Nodup → ∀ {p q : α}, p ∈ l → q ∈ l → f p = f q → p = q
  | [], _, _, _, hp, _, _ => by cases hp
  | a :: l, hn, p, q, hp, hq, e => by
    rw [List.map_cons, List.nodup_cons] at hn
    rcases List.mem_cons.1 hp with rfl | hp1 <;> rcases List.mem_cons.1 hq with rfl | hq1
    · rfl
    · exact absurd (List.mem_map.2 ⟨q, hq1, e.symm⟩) hn.1
    · exact absurd (List.mem_map.2 ⟨p, hp1, e⟩) hn.1
    · exact uniq hn.2 hp1 hq1 e
/-- A buffer's own blocks. -/
def Own (b m : Nat) (l : List (Int × Nat)) (i : Nat) : Prop := i = b ∨ i = m ∨ ∃ p ∈ l, p.2 = i
/-- .. as the map holds them. -/
def vals (W : Nat) (l : List (Int × Nat)) : List (Int × Value) := l.map fun p => (p.1, .slice (some ⟨p.2, 0, none⟩) W W)
structure Buf (w : World) (b m W : Nat) (H : Int) (l : List (Int × Nat)) (F G : Int → List Cl) : Prop where
  c0 : w.cell? ⟨b, 0, none⟩ = some (.int .i64 (W : Int))
  c1 : w.cell? ⟨b, 1, none⟩ = some (.int .i64 H)
  c2 : w.cell? ⟨b, 2, none⟩ = some (.map (some m))
  map : w.heap[m]? = some (MapI.obj (vals W l))
  row : ∀ p ∈ l, RowAt w p.2 W (F p.1) (G p.1)
  none : ∀ y, (∀ p ∈ l, p.1 ≠ y) → F y = [] ∧ G y = []
  keys : (l.map (·.1)).Nodup
  blks : (l.map (·.2)).Nodup
  bm : b ≠ m
  apart : ∀ p ∈ l, p.2 ≠ b ∧ p.2 ≠ m
section
variable {w w' : World} {b m W : Nat} {H : Int} {l : List (Int × Nat)} {F G : Int → List Cl} {c : Cl}
theorem Buf.lt (h : Buf w b m W H l F G) {i : Nat} (hi : Own b m l i) : i < w.heap.size := by
  rcases hi with rfl | rfl | ⟨p, hp, rfl⟩
  · exact World.block_lt_of_cell? w _ h.c0
  · exact (Array.getElem?_eq_some_iff.1 h.map).1
  · exact (h.row p hp).lt
theorem Buf.of (h : Buf w b m W H l F G) (hb : ∀ i, Own b m l i → w'.heap[i]? = w.heap[i]?) : Buf w' b m W H l F G where
  c0 := (World.cell?_of_block (a := ⟨b, 0, Option.none⟩) (hb b (.inl rfl))).trans h.c0
  c1 := (World.cell?_of_block (a := ⟨b, 1, Option.none⟩) (hb b (.inl rfl))).trans h.c1
  c2 := (World.cell?_of_block (a := ⟨b, 2, Option.none⟩) (hb b (.inl rfl))).trans h.c2
  map := (hb m (.inr (.inl rfl))).trans h.map
  row p hp := (h.row p hp).of (hb _ (.inr (.inr ⟨p, hp, rfl⟩)))
  none := h.none
  keys := h.keys
  blks := h.blks
  bm := h.bm
  apart := h.apart
def up (F : Int → List Cl) (y : Int) (c : Cl) : Int → List Cl := fun z => if z = y then F z ++ [c] else F z
theorem Buf.get (h : Buf w b m W H l F G) {y : Int} : (∃ g, (y, g) ∈ l ∧ MapI.look (vals W l) y = some (.slice (some ⟨g, 0, Option.none⟩) W W)) ∨ ((∀ p ∈ l, p.1 ≠ y) ∧ MapI.look (vals W l) y = Option.none) := by
  clear h
  induction l with
  | nil => exact .inr ⟨by simp, rfl⟩
  | cons p l ih =>
    obtain ⟨k, g⟩ := p
    have e : MapI.look (vals W ((k, g) :: l)) y = if k = y then some (.slice (some ⟨g, 0, Option.none⟩) W W) else MapI.look (vals W l) y := MapI.look_cons _ _ _ _
    rw [e]
    by_cases hk : k = y
    · subst hk; exact .inl ⟨g, by simp, by simp⟩
    · rw [if_neg hk]
      rcases ih with ⟨g', h1, h2⟩ | ⟨h1, h2⟩
      · exact .inl ⟨g', by simp [h1], h2⟩
      · exact .inr ⟨fun p hp => by (rcases List.mem_cons.1 hp with rfl | hp <;> first | exact hk | exact h1 p hp), h2⟩
/-- A store into a row's block. -/
theorem Buf.store (h : Buf w b m W H l F G) {y : Int} {g : Nat} (hp : (y, g) ∈ l) {F' G' : Int → List Cl} (hF : ∀ z, z ≠ y → F' z = F z ∧ G' z = G z) (ho : ∀ i, i ≠ g → w'.heap[i]? = w.heap[i]?) (hr : RowAt w' g W (F' y) (G' y)) : Buf w' b m W H l F' G' := by
  have ha := h.apart _ hp
  have hb := ho b (Ne.symm ha.1)
  refine ⟨(World.cell?_of_block (a := ⟨b, 0, Option.none⟩) hb).trans h.c0, (World.cell?_of_block (a := ⟨b, 1, Option.none⟩) hb).trans h.c1, (World.cell?_of_block (a := ⟨b, 2, Option.none⟩) hb).trans h.c2, (ho m (Ne.symm ha.2)).trans h.map, ?_, ?_, h.keys, h.blks, h.bm, h.apart⟩
  · intro p hpl
    by_cases e : p.2 = g
    · have hq : p = (y, g) := uniq h.blks hpl hp e
      subst hq; exact hr
    · have hy : p.1 ≠ y := by
        intro hy
        exact e (congrArg Prod.snd (uniq h.keys hpl hp hy))
      rw [(hF _ hy).1, (hF _ hy).2]
      exact (h.row p hpl).of (ho _ e)
  · intro z hz
    have hne : z ≠ y := fun e => hz _ hp e.symm
    rw [(hF z hne).1, (hF z hne).2]; exact h.none z hz
theorem up_other {F : Int → List Cl} {y z : Int} (h : z ≠ y) (c : Cl) : up F y c z = F z := if_neg h
theorem up_same (F : Int → List Cl) (y : Int) (c : Cl) : up F y c y = F y ++ [c] := if_pos rfl
theorem Buf.cover (h : Buf w b m W H l F G) {y : Int} {g : Nat} (hp : (y, g) ∈ l) {x : Nat} (hx : x < W) (hc : c.f0 = x) :
    Buf (w.setCell ⟨g, x * 2, Option.none⟩ (.int .i64 (wrap64 (wrap64 (cov x (F y)) + c.f1.f0)))) b m W H l (up F y c) G :=
  h.store hp (fun z hz => ⟨up_other hz c, rfl⟩) (fun i hi => Below.heap_setCell _ _ _ _ hi) (by rw [up_same]; exact (h.row _ hp).cover hx hc)
theorem Buf.area (h : Buf w b m W H l F G) {y : Int} {g : Nat} (hp : (y, g) ∈ l) {x : Nat} (hx : x < W) (hc : c.f0 = x) :
    Buf (w.setCell ⟨g, x * 2 + 1, Option.none⟩ (.int .i64 (wrap64 (wrap64 (are x (G y)) + c.f1.f1)))) b m W H l F (up G y c) :=
  h.store hp (fun z hz => ⟨rfl, up_other hz c⟩) (fun i hi => Below.heap_setCell _ _ _ _ hi) (by rw [up_same]; exact (h.row _ hp).area hx hc)
/-- A new row. -/
theorem Buf.make (h : Buf w b m W H l F G) {y : Int} (hn : ∀ p ∈ l, p.1 ≠ y) {g : Nat} (hg : ∀ i, Own b m l i → i ≠ g) (hr : RowAt w' g W [] []) (hm : w'.heap[m]? = some (MapI.obj (vals W l ++ [(y, .slice (some ⟨g, 0, Option.none⟩) W W)]))) (ho : ∀ i, Own b m l i → i ≠ m → w'.heap[i]? = w.heap[i]?) :
    Buf w' b m W H (l ++ [(y, g)]) F G := by
  have hb := ho b (.inl rfl) h.bm
  refine ⟨(World.cell?_of_block (a := ⟨b, 0, Option.none⟩) hb).trans h.c0, (World.cell?_of_block (a := ⟨b, 1, Option.none⟩) hb).trans h.c1, (World.cell?_of_block (a := ⟨b, 2, Option.none⟩) hb).trans h.c2, by rw [hm]; simp [vals], ?_, ?_, ?_, ?_, h.bm, ?_⟩
  · intro p hp
    rcases List.mem_append.1 hp with hp | hp
    · exact (h.row p hp).of (ho _ (.inr (.inr ⟨p, hp, rfl⟩)) (h.apart p hp).2)
    · obtain rfl := List.mem_singleton.1 hp
      rw [(h.none y hn).1, (h.none y hn).2]; exact hr
  · exact fun z hz => h.none z (fun p hp => hz p (by simp [hp]))
  · rw [List.map_append, List.nodup_append]
    exact ⟨h.keys, by simp, fun a ha k hk => by simp at hk; subst hk; obtain ⟨p, hp, rfl⟩ := List.mem_map.1 ha; exact hn p hp⟩
  · rw [List.map_append, List.nodup_append]
    exact ⟨h.blks, by simp, fun a ha k hk => by simp at hk; subst hk; obtain ⟨p, hp, rfl⟩ := List.mem_map.1 ha; exact hg _ (.inr (.inr ⟨p, hp, rfl⟩))⟩
  · intro p hp
    rcases List.mem_append.1 hp with hp | hp
    · exact h.apart p hp
    · obtain rfl := List.mem_singleton.1 hp
      exact ⟨fun e => hg b (.inl rfl) e.symm, fun e => hg m (.inr (.inl rfl)) e.symm⟩
end

/-- All but these blocks, and but new ones, is as it was. -/
structure Fr (O : Nat → Prop) (w w' : World) : Prop where
  os : w'.os = w.os
  tape : w'.tape = w.tape
  output : w'.output = w.output
  size : w.heap.size ≤ w'.heap.size
  block : ∀ i, i < w.heap.size → ¬ O i → w'.heap[i]? = w.heap[i]?
section
variable {O O1 : Nat → Prop} {w w1 w2 : World}
theorem Fr.refl : Fr O w w := ⟨rfl, rfl, rfl, Nat.le_refl _, fun _ _ _ => rfl⟩
theorem Fr.trans (h : Fr O w w1) (k : Fr O1 w1 w2) (hO : ∀ i, O1 i → O i ∨ w.heap.size ≤ i) : Fr O w w2 :=
  ⟨k.os.trans h.os, k.tape.trans h.tape, k.output.trans h.output, Nat.le_trans h.size k.size, fun i hi hn => (k.block i (Nat.lt_of_lt_of_le hi h.size) (fun h1 => by rcases hO i h1 with h2 | h2 <;> first | exact hn h2 | exact absurd hi (by omega))).trans (h.block i hi hn)⟩
theorem Fr.of_below (h : Below w.heap.size w w1) : Fr O w w1 := ⟨h.os, h.tape, h.output, h.size, fun i hi _ => h.block i hi⟩
theorem Fr.below (h : Fr O w w1) {B : Nat} (hB : ∀ i, O i → B ≤ i) (hw : B ≤ w.heap.size) : Below B w w1 := ⟨h.os, h.tape, h.output, h.size, fun i hi => h.block i (by omega) (fun h2 => by have := hB i h2; omega)⟩
theorem Fr.low (h : Fr O w w1) : Below 0 w w1 := h.below (fun _ _ => Nat.zero_le _) (Nat.zero_le _)
theorem Fr.mono (h : Fr O w w1) (hO : ∀ i, O i → O1 i ∨ w.heap.size ≤ i) : Fr O1 w w1 := Fr.trans Fr.refl h hO
theorem Fr.cell (h : Fr O w w1) {p : Addr} (hp : p.block < w.heap.size) (hn : ¬ O p.block) : w1.cell? p = w.cell? p := World.cell?_of_block (h.block _ hp hn)
theorem Fr.frozen (h : Fr O w w1) {p : Addr} (hp : p.block < w.heap.size) (hn : ¬ O p.block) : w1.frozen? p = w.frozen? p := World.frozen?_of_block (h.block _ hp hn)
theorem Fr.set {p : Addr} (h : O p.block) (v : Value) : Fr O w (w.setCell p v) :=
  have g := (Below.refl p.block w).setCell (p := p) (Nat.le_refl _) v
  ⟨g.os, g.tape, g.output, g.size, fun i _ hn => Below.heap_setCell w p v i (fun e => hn (e ▸ h))⟩
theorem Fr.put {r : Nat} (h : O r) (o : Obj) : Fr O w (w.putObj r o) :=
  have g := grownBy_putObj' w r o
  ⟨g.os, g.tape, g.output, g.size, fun i hi hn => g.block i hi (fun e => by cases e; exact hn h)⟩
theorem Fr.win {M B : Nat} (h : SeqN.Win M B w w1) (hO : ∀ i, B ≤ i → i < B + M → i < w.heap.size → O i) : Fr O w w1 :=
  ⟨h.os, h.tape, h.output, h.size, fun i hi hn => h.block i hi (by rcases Nat.lt_or_ge i B with h1 | h1; exact .inl h1; exact .inr (Nat.le_of_not_lt fun h2 => hn (hO i h1 h2 hi)))⟩
end
end Go.Proofs.Ytejcjonlnijbkaa.Buf

/- buffer.New, walked. For all sizes. -/
namespace Go.Proofs.Ytejcjonlnijbkaa.Buf
open Go Go.RowKit Go.Shelf Range Go.Proofs.Ytejcjonlnijbkaa.PE Go.Proofs.YtejcjonlnijbkaaW.PrintWords Go.Proofs.YtejcjonlnijbkaaW.PrintLast Go.Proofs.YtejcjonlnijbkaaW.PrintMore Go.Proofs.Ytejcjonlnijbkaa.Num
set_option maxRecDepth 100000
set_option linter.unusedVariables false
set_option linter.unusedSimpArgs false
attribute [local go_sem] Oper.semAt_some

theorem run_mk (w : World) : (Instr.makeMap 89 none).run Try.prog w = .ok (.map (some w.heap.size)) (w.alloc (.map #[] 0)) := by kernel_rfl
attribute [local go_sem] run_mk
theorem new_some (W H : Int) (h : (1 ≤ W ∧ 1 ≤ H) ∧ W ≤ 4096 ∧ H ≤ 4096) (w : World) : Calls Try.prog 22 #[.int .i64 W, .int .i64 H] w fun e w' => e = .returned (.tuple #[.pointer (some ⟨w.heap.size + 1, 0, none⟩), .int .i64 0]) ∧ Below w.heap.size w w' ∧ Buf w' (w.heap.size + 1) w.heap.size W.toNat H [] (fun _ => []) (fun _ => []) := by
  go_enter Try.func22, Try.ntmps22
  have hem := Classical.em (H < W)
  rcases hem with hem | hem
  all_goals
    go_wp2
    all_goals
      go_ret2
      refine ⟨rfl, by (repeat' (first | (with_reducible exact Below.refl _ _) | (with_reducible refine Below.drew ?_) | (with_reducible refine below_drewN ?_ _) | ((with_reducible refine Below.setCell ?_ ?side_ _); case side_ => (first | (with_reducible exact Nat.le_refl _) | (with_reducible assumption) | omega | (simp; done) | (simp; omega))) | ((with_reducible refine Below.alloc ?_ ?side_ _); case side_ => (first | (with_reducible exact Nat.le_refl _) | (with_reducible assumption) | omega | (simp; done) | (simp; omega))))), ?_⟩
      refine ⟨?_, ?_, ?_, ?_, fun p hp => by simp at hp, fun _ _ => ⟨rfl, rfl⟩, by simp, by simp, by omega, fun p hp => by simp at hp⟩
      all_goals (first | (go_simp; done) | (go_simp; omega) | (refine Eq.trans (Below.heap_alloc _ _ _ ?_) ((World.alloc_heap_new w _).trans ?_) <;> simp [vals, MapI.obj, MapI.ents]))
end Go.Proofs.Ytejcjonlnijbkaa.Buf

/- The inner loop's body of (*Buffer).add, walked apart: a cell is added to its column. -/
namespace Go.Proofs.Ytejcjonlnijbkaa.Buf
open Go Go.RowKit Go.Shelf Range Go.Proofs.Ytejcjonlnijbkaa.PE Go.Proofs.YtejcjonlnijbkaaW.PrintWords Go.Proofs.YtejcjonlnijbkaaW.PrintLast Go.Proofs.YtejcjonlnijbkaaW.PrintMore Go.Proofs.Ytejcjonlnijbkaa.Num
set_option maxRecDepth 100000
set_option linter.unusedVariables false
set_option linter.unusedSimpArgs false
attribute [local go_sem] Oper.semAt_some

/-- What the body leaves. -/
def added (A : World) (gr q : Nat) (u v : Int) : World := ((A.setCell ⟨gr, q * 2, none⟩ (.int .i64 u)).setCell ⟨gr, q * 2 + 1, none⟩ (.int .i64 v)).drew.drew
theorem added_eq {A : World} {gr q : Nat} {u v : Int} : ((A.setCell ⟨gr, q * 2, none⟩ (.int .i64 (IntKind.i64.wrap u))).setCell ⟨gr, q * 2 + 1, none⟩ (.int .i64 (IntKind.i64.wrap v))).drew.drew = added A gr q (wrap64 u) (wrap64 v) := by
  have e : ∀ x, IntKind.i64.wrap x = wrap64 x := fun x => by rw [IntKind.wrap_i64]; unfold wrap64; rfl
  rw [e, e]; rfl
set_option maxHeartbeats 8000000 in
theorem body_wp {l r6 gr g2 W q : Nat} {c0 c1 a0 a1 : Int} {A : World} {t0 t1 t2 t3 t4 t5 t7 t10 t11 t12 t13 t14 t15 t16 t17 t18 t19 t20 t21 t22 t23 t24 t25 t26 t27 t28 t29 t30 t31 t32 t33 t34 t35 t36 t37 t38 t39 t40 t41 t42 t43 t44 t45 t46 t47 t48 t49 t50 t51 t52 t53 t54 t55 t56 t57 t58 t59 t60 t61 t62 t63 t64 t65 t66 t67 : Value}
    (hq : q < W) (t6v : A.cell? ⟨r6, 0, none⟩ = some (.slice (some ⟨gr, 0, none⟩) W W)) (x0 : A.cell? ⟨gr, q * 2, none⟩ = some (.int .i64 c0)) (x1 : A.cell? ⟨gr, q * 2 + 1, none⟩ = some (.int .i64 a0))
    (y0 : A.cell? ⟨g2, 0, none⟩ = some (.int .i64 c1)) (y1 : A.cell? ⟨g2, 1, none⟩ = some (.int .i64 a1)) (f0 : A.frozen? ⟨gr, q * 2, none⟩ = false) (f1 : A.frozen? ⟨gr, q * 2 + 1, none⟩ = false) (n6 : r6 ≠ gr) (n2 : g2 ≠ gr) :
    (Cut.pick [1, 1, 0, 1, 0, 1, 1, 1, 1, 1] (Cut.code Try.f43)).wpIn (Seq.wideR (some l)) 0 Try.prog (fun e _ w' => e = .normal ∧ w' = added A gr q (wrap64 (c0 + c1)) (wrap64 (a0 + a1)))
      { tmps := (t0 :: t1 :: t2 :: t3 :: t4 :: t5 :: (.pointer (some ⟨r6, 0, none⟩)) :: t7 :: (.int .i64 (q : Int)) :: (.pointer (some ⟨g2, 0, none⟩)) :: t10 :: t11 :: t12 :: t13 :: t14 :: t15 :: t16 :: t17 :: t18 :: t19 :: t20 :: t21 :: t22 :: t23 :: t24 :: t25 :: t26 :: t27 :: t28 :: t29 :: t30 :: t31 :: t32 :: t33 :: t34 :: t35 :: t36 :: t37 :: t38 :: t39 :: t40 :: t41 :: t42 :: t43 :: t44 :: t45 :: t46 :: t47 :: t48 :: t49 :: t50 :: t51 :: t52 :: t53 :: t54 :: t55 :: t56 :: t57 :: t58 :: t59 :: t60 :: t61 :: t62 :: t63 :: t64 :: t65 :: t66 :: t67 :: []).toArray, defers := [] } A := by
  simp only [Cut.pick, Cut.code, Try.f43, Option.getD_some]
  go_simp
  gi_wp2
  apply Cut.cut_eq
  · gi_region
    all_goals exact ⟨rfl, rfl⟩
  obtain ⟨A1, hA1⟩ : ∃ A1, A.setCell ⟨gr, q * 2, none⟩ (.int .i64 (IntKind.i64.wrap (c0 + c1))) = A1 := ⟨_, rfl⟩
  have t6w : A1.cell? ⟨r6, 0, none⟩ = some (.slice (some ⟨gr, 0, none⟩) W W) := by rw [← hA1]; exact (World.cell?_setCell_other _ _ _ _ (by intro e; injection e with e1; exact n6 e1.symm)).trans t6v
  have x1w : A1.cell? ⟨gr, q * 2 + 1, none⟩ = some (.int .i64 a0) := by rw [← hA1]; exact (set_other (by omega)).trans x1
  have y1w : A1.cell? ⟨g2, 1, none⟩ = some (.int .i64 a1) := by rw [← hA1]; exact (World.cell?_setCell_other _ _ _ _ (by intro e; injection e with e1; exact n2 e1.symm)).trans y1
  have f1w : A1.frozen? ⟨gr, q * 2 + 1, none⟩ = false := by rw [← hA1, World.frozen?_setCell]; exact f1
  clear t6v x0 x1 y0 y1 f0 f1
  gi_wp2
  rw [hA1]
  apply Cut.cut_eq
  · gi_region
    all_goals exact ⟨rfl, rfl⟩
  gi_wp2
  rw [← hA1]; exact added_eq
end Go.Proofs.Ytejcjonlnijbkaa.Buf

/- What an edge adds to a buffer, as lists of cells. Plain. -/
namespace Go.Proofs.Ytejcjonlnijbkaa.Buf
open Go Go.RowKit Go.Proofs.Ytejcjonlnijbkaa.PE Go.Proofs.YtejcjonlnijbkaaW.PrintWords Go.Proofs.YtejcjonlnijbkaaW.PrintLast Go.Proofs.YtejcjonlnijbkaaW.PrintMore
set_option linter.unusedVariables false
set_option linter.unusedSimpArgs false

abbrev Rw := Strip.Rw
/-- A strip's cells, if it lies in row y. -/
def part (W y : Int) (s : Rw) : List Cl := if s.f0 = y then Cell.cells s.f1.f0 s.f1.f1 s.f1.f2 s.f1.f3 W else []
/-- What strips add, and so far. -/
def adds (W : Int) (xs : List Rw) (F : Int → List Cl) : Int → List Cl := fun y => F y ++ xs.flatMap (part W y)
theorem adds_nil (W : Int) (F : Int → List Cl) : adds W [] F = F := by funext y; simp [adds]
theorem adds_snoc (W : Int) (xs : List Rw) (s : Rw) (F : Int → List Cl) (y : Int) : adds W (xs ++ [s]) F y = adds W xs F y ++ part W y s := by simp [adds]
def inner (y : Int) (cs : List Cl) (F : Int → List Cl) : Int → List Cl := fun z => if z = y then F z ++ cs else F z
theorem inner_nil (y : Int) (F : Int → List Cl) : inner y [] F = F := by funext z; simp [inner]
theorem inner_up (y : Int) (cs : List Cl) (c : Cl) (F : Int → List Cl) : up (inner y cs F) y c = inner y (cs ++ [c]) F := by
  funext z; unfold up inner; split <;> simp
theorem inner_all (W : Int) (xs : List Rw) (s : Rw) (F : Int → List Cl) : inner s.f0 (Cell.cells s.f1.f0 s.f1.f1 s.f1.f2 s.f1.f3 W) (adds W xs F) = adds W (xs ++ [s]) F := by
  funext z; rw [adds_snoc]; unfold inner part
  by_cases h : z = s.f0
  · rw [if_pos h, if_pos h.symm]
  · rw [if_neg h, if_neg (fun e => h e.symm), List.append_nil]
theorem take_snoc {α : Type} {xs : List α} {k : Nat} {x : α} (h : xs[k]? = some x) : xs.take (k + 1) = xs.take k ++ [x] := by
  rw [List.take_add_one, h]; rfl

section
variable {px py qx qy h W : Int}
theorem strip_dom (hd : Strip.Dom px py qx qy h) (hW : 1 ≤ W ∧ W ≤ 100000) {x : Rw} (hx : x ∈ Strip.strips px py qx qy h) : Cell.Dom x.f1.f0 x.f1.f1 x.f1.f2 x.f1.f3 W ∧ 0 ≤ x.f0 ∧ x.f0 < h := by
  unfold Strip.strips at hx
  obtain ⟨k, hk, rfl⟩ := List.mem_map.1 hx
  obtain ⟨r0, r1, r2, r3⟩ := Strip.row_bounds hd (List.mem_range.1 hk)
  generalize Strip.sRow py qy h k = row at *
  obtain ⟨c1, c2, c3, c4, c5, c6⟩ := Strip.cl_in r2 r3
  have a1 := Strip.xAt_in hd c1
  have a2 := Strip.xAt_in hd c2
  have b1 := hd.ipx
  have b2 := hd.iqx
  unfold Strip.InE at b1 b2
  refine ⟨⟨?_, ?_, ?_, ?_, hW.1, hW.2⟩, r0, r1⟩
  · show _ ∧ _
    unfold Strip.rowS; dsimp only
    rcases Int.le_total px qx with h1 | h1
    · have := a1.1 h1; omega
    · have := a1.2 h1; omega
  · unfold Strip.rowS; dsimp only
    rcases Int.le_total px qx with h1 | h1
    · have := a2.1 h1; omega
    · have := a2.2 h1; omega
  · unfold Strip.rowS; dsimp only; omega
  · unfold Strip.rowS; dsimp only; omega
theorem cell_in (hW : 1 ≤ W) {X0 Y0 X1 Y1 : Int} {c : Cl} (hc : c ∈ Cell.cells X0 Y0 X1 Y1 W) : 0 ≤ c.f0 ∧ c.f0 < W := by
  unfold Cell.cells at hc
  obtain ⟨p, _, hp⟩ := List.mem_filterMap.1 hc
  unfold Cell.cellOf at hp
  split at hp
  · cases hp
  · split at hp
    · cases hp; dsimp only; omega
    · cases hp; dsimp only; omega
end
end Go.Proofs.Ytejcjonlnijbkaa.Buf

/- (*Buffer).add, walked: an edge's cells are added to its rows. For all edges that may be added, and all buffers. -/
namespace Go.Proofs.Ytejcjonlnijbkaa.Buf
open Go Go.RowKit Go.Shelf Range Go.Proofs.Ytejcjonlnijbkaa.PE Go.Proofs.YtejcjonlnijbkaaW.PrintWords Go.Proofs.YtejcjonlnijbkaaW.PrintLast Go.Proofs.YtejcjonlnijbkaaW.PrintMore Go.Proofs.Ytejcjonlnijbkaa.Num
set_option maxRecDepth 100000
set_option linter.unusedVariables false
set_option linter.unusedSimpArgs false
attribute [local go_sem] Oper.semAt_some

theorem made_at (W j : Nat) (hj : j < W * 2) : (madeCells #[.int .i64 0, .int .i64 0] (W * 2))[j]? = some (.int .i64 0) := by
  unfold madeCells
  rw [Array.getElem?_map, Array.getElem?_range, if_pos hj]
  have h2 : j % 2 = 0 ∨ j % 2 = 1 := by omega
  rcases h2 with h2 | h2 <;> simp [h2]
theorem fresh_row (w : World) (W : Nat) : RowAt (w.alloc (.cells (madeCells #[.int .i64 0, .int .i64 0] (W * 2)) 60)) w.heap.size W [] [] where
  cov i hi := by
    rw [World.cell?_alloc_at _ _ _ _ rfl, made_at W (i * 2) (by omega)]; simp [Buf.cov, wrap64]
  are i hi := by
    rw [World.cell?_alloc_at _ _ _ _ rfl, made_at W (i * 2 + 1) (by omega)]; simp [Buf.are, wrap64]
  fro o := by go_simp
  lt := by simp
  ty := ⟨_, World.alloc_heap_new w _⟩
set_option maxHeartbeats 8000000 in
theorem add_calls (px py qx qy H : Int) (W b m : Nat) (l : List (Int × Nat)) (F : Int → List Cl) (hd : Strip.Dom px py qx qy H) (hW : 1 ≤ W ∧ W ≤ 4096) (w : World) (hB : Buf w b m W H l F F) :
    Calls Try.prog 43 #[.pointer (some ⟨b, 0, none⟩), .agg #[.int .i64 px, .int .i64 py, .int .i64 qx, .int .i64 qy]] w fun e w' => e = .returned (.tuple #[]) ∧ Fr (Own b m l) w w' ∧
      ∃ l', Buf w' b m W H l' (adds W (Strip.strips px py qx qy H) F) (adds W (Strip.strips px py qx qy H) F) ∧ ∀ i, Own b m l' i → Own b m l i ∨ w.heap.size ≤ i := by
  have SA := Lib.hid (fun w => Strip.all_calls px py qx qy H w)
  have SG := Lib.hid (fun n₀ B1 B2 => Strip.all_gives n₀ B1 B2 px py qx qy H hd)
  have hbl : b < w.heap.size := hB.lt (.inl rfl)
  have c0 := hB.c0
  have c1 := hB.c1
  have HB := Lib.hid hB
  clear hB
  refine Seq.calls_of (n := 0) (callsIn_of_wp_marks Try.func43 rfl trivial ?_ rfl)
  simp only [Try.ntmps43, List.size_toArray, List.length_cons, List.length_nil, Nat.reduceAdd, Nat.reduceSub, Array.replicate_succ, Array.replicate_zero, List.push_toArray, List.append_toArray, List.nil_append, List.cons_append]
  gi_wp2
  apply Cut.cut_eq
  · gi_region_with (gi_at_call 56; refine (Seq.of_calls (SA.out _)).mono ?_; rintro e w2 ⟨rfl, rfl⟩)
    all_goals exact ⟨rfl, rfl⟩
  gi_wp2
  obtain ⟨W0, hW0⟩ : ∃ W0, (((((w.alloc (.cells #[.pointer (some ⟨b, 0, none⟩)] 26)).alloc (.cells #[.int .i64 px, .int .i64 py, .int .i64 qx, .int .i64 qy] 38)).alloc (.cells #[.int .i64 px, .int .i64 py, .int .i64 qx, .int .i64 qy] 38)).alloc (.cells #[.int .i64 H] 3)).drew) = W0 := ⟨_, rfl⟩
  have HBl : Below w.heap.size w W0 := by rw [← hW0]; (repeat' (first | (with_reducible exact Below.refl _ _) | (with_reducible refine Below.drew ?_) | (with_reducible refine below_drewN ?_ _) | ((with_reducible refine Below.setCell ?_ ?side_ _); case side_ => (first | (with_reducible exact Nat.le_refl _) | (with_reducible assumption) | omega | (simp; done) | (simp; omega))) | ((with_reducible refine Below.alloc ?_ ?side_ _); case side_ => (first | (with_reducible exact Nat.le_refl _) | (with_reducible assumption) | omega | (simp; done) | (simp; omega)))))
  have hsz : W0.heap.size = w.heap.size + 4 := by rw [← hW0]; simp
  have k2 : W0.cell? ⟨w.heap.size, 0, none⟩ = some (.pointer (some ⟨b, 0, none⟩)) := by subst hW0; go_simp
  have q0 : W0.cell? ⟨w.heap.size + 2, 0, none⟩ = some (.int .i64 px) := by subst hW0; go_simp
  have q1 : W0.cell? ⟨w.heap.size + 2, 1, none⟩ = some (.int .i64 py) := by subst hW0; go_simp
  have q2 : W0.cell? ⟨w.heap.size + 2, 2, none⟩ = some (.int .i64 qx) := by subst hW0; go_simp
  have q3 : W0.cell? ⟨w.heap.size + 2, 3, none⟩ = some (.int .i64 qy) := by subst hW0; go_simp
  have q4 : W0.cell? ⟨w.heap.size + 3, 0, none⟩ = some (.int .i64 H) := by subst hW0; go_simp
  have hol : ∀ i, Own b m l i → i < w.heap.size := fun i hi => HB.out.lt hi
  have HB0 : Buf W0 b m W H l F F := HB.out.of (fun i hi => HBl.block i (hol i hi))
  rw [hW0]
  clear hW0
  have XM := Lib.hid (fun x => strip_dom (W := W) (x := x) hd (by omega))
  generalize hxs : Strip.strips px py qx qy H = xs at *
  refine KdX.with_frame fun T hT => ?_
  refine SeqN.range_ax (N := 0) (n₀ := 0) (by rw [hT]; rfl) (enters_of Try.func66 (by kernel_rfl) rfl) (SeqN.of_plain (SG.out 0 (w.heap.size + 2) (w.heap.size + 3) W0 (by omega) (by omega) q0 q1 q2 q3 q4)) (by omega) (fun b hb => by simp at hb; omega) (Below.refl _ _) (fun _ => rfl)
    (fun k V => W0.heap.size ≤ V.heap.size ∧ ∃ l', Buf V b m W H l' (adds W (xs.take k) F) (adds W (xs.take k) F) ∧ Fr (Own b m l) W0 V ∧ ∀ i, Own b m l' i → Own b m l i ∨ W0.heap.size + 2 ≤ i)
    (fun c k V => False)
    (fun k A B hs hA hw => by
      obtain ⟨h0, l', h1, h2, h3⟩ := hs
      exact ⟨Nat.le_trans h0 hw.size, l', h1.of (fun i hi => hw.block i (h1.lt hi) (by rcases h3 i hi with h | h; have := hol i h; omega; omega)), h2.trans (Fr.win hw (O := fun i => W0.heap.size ≤ i) (fun i hi _ _ => hi)) (fun i hi => .inr hi), h3⟩)
    (fun c k A B hs hA hw => hs)
    ⟨Nat.le_refl _, l, by rw [List.take_zero, adds_nil]; exact HB0, Fr.refl, fun i hi => .inl hi⟩
    (fun x a' V => ∃ g, a' = { tmps := (((T.setIfInBounds 16 (.int .i64 x.f0)).setIfInBounds 17 (.agg #[.int .i64 x.f1.f0, .int .i64 x.f1.f1, .int .i64 x.f1.f2, .int .i64 x.f1.f3])).setIfInBounds 4 (.int .i64 x.f0)).setIfInBounds 5 (.pointer (some ⟨g, 0, none⟩)), defers := [] } ∧ W0.heap.size ≤ g ∧ g < V.heap.size ∧ V.heap[g]? = some (.cells #[.int .i64 x.f1.f0, .int .i64 x.f1.f1, .int .i64 x.f1.f2, .int .i64 x.f1.f3] 100))
    (fun x a' _ A B row hs hg hr => by
      obtain ⟨g, h1, h2, h3, h4⟩ := hs
      refine ⟨g, h1, h2, Nat.lt_of_lt_of_le h3 hg.size, (hg.block g h3 (fun e => ?_)).trans h4⟩
      obtain ⟨_, o, ho, hc⟩ := hr g e.symm
      rw [h4] at ho; cases ho; cases hc) ?assign ?body ?done ?stop
  case assign =>
    intro l0 k x V K hx hz0 ⟨i0, l', i1, i2, i3⟩ hK
    subst hT
    unfold Strip.encR
    simp
    gi_wp2
    have hAl := fun o => (Below.refl V.heap.size V).alloc (Nat.le_refl _) o
    refine hK _ _ (SeqN.KeptN.alloc _ (by omega) (fun b hb => by simp at hb; omega))
      ⟨by simp; omega, l', i1.of (fun i hi => (hAl _).block i (i1.lt hi)), i2.trans (Fr.of_below (hAl _) (O := fun _ => False)) (fun i hi => hi.elim), i3⟩
      ⟨V.heap.size, rfl, by omega, by simp, World.alloc_heap_new V _⟩
  case body =>
    rintro l0 k x a' V hl ⟨r, hr⟩ hx hz0 ⟨i0, l', i1, i2, i3⟩ ⟨g, rfl, hg1, hg2, hgc⟩
    obtain ⟨cd, cr0, cr1⟩ := XM.out x (List.mem_of_getElem? hx)
    have g0 : V.cell? ⟨g, 0, none⟩ = some (.int .i64 x.f1.f0) := by simp [World.cell?, hgc]
    have g1 : V.cell? ⟨g, 1, none⟩ = some (.int .i64 x.f1.f1) := by simp [World.cell?, hgc]
    have g2 : V.cell? ⟨g, 2, none⟩ = some (.int .i64 x.f1.f2) := by simp [World.cell?, hgc]
    have g3 : V.cell? ⟨g, 3, none⟩ = some (.int .i64 x.f1.f3) := by simp [World.cell?, hgc]
    have hgn : ¬ Own b m l' g := by
      rintro (rfl | rfl | ⟨p, hp, rfl⟩)
      · omega
      · have := hol g (.inr (.inl rfl)); omega
      · obtain ⟨cs, hcs⟩ := (i1.row p hp).ty
        rw [hcs] at hgc; cases hgc
    have hbo : ∀ i, w.heap.size ≤ i → i < W0.heap.size → V.heap[i]? = W0.heap[i]? := fun i h1 h2 => i2.block i h2 (fun h3 => by have := hol i h3; omega)
    have k2V : V.cell? ⟨w.heap.size, 0, none⟩ = some (.pointer (some ⟨b, 0, none⟩)) := (World.cell?_of_block (a := ⟨w.heap.size, 0, none⟩) (hbo w.heap.size (Nat.le_refl _) (by omega))).trans k2
    have v0 := i1.c0
    have v1 := i1.c1
    have v2 := i1.c2
    have hbV : b < V.heap.size := i1.lt (.inl rfl)
    have hmV : m < V.heap.size := i1.lt (.inr (.inl rfl))
    have hwV : w.heap.size < V.heap.size := by omega
    have HX := Lib.hid hx
    have HI := Lib.hid i1
    have HG := Lib.hid hgn
    subst hT
    subst hl
    simp
    rcases i1.get (y := x.f0) with ⟨gr, hmem, hlk⟩ | ⟨hnew, hlk⟩
    · have hrun := MapI.look_some (P := Try.prog) (w := V) Try.underlying89 Try.underlying3 i1.map hlk true
      have HM := Lib.hid hmem
      clear hgc hx i1 hlk hmem
      gi_wp2
      obtain ⟨V1, hV1⟩ : ∃ V1, (V.alloc (.cells #[.slice (some ⟨gr, 0, none⟩) W W] 92)) = V1 := ⟨_, rfl⟩
      have hb1 : Below V.heap.size V V1 := by rw [← hV1]; exact (Below.refl _ V).alloc (Nat.le_refl _) _
      have hs1 : V.heap.size + 1 ≤ V1.heap.size := by rw [← hV1]; simp
      have r6 : V1.cell? ⟨V.heap.size, 0, none⟩ = some (.slice (some ⟨gr, 0, none⟩) W W) := by subst hV1; go_simp
      have hB1 : ∃ l1, Buf V1 b m W H l1 (adds W (xs.take k) F) (adds W (xs.take k) F) ∧ (x.f0, gr) ∈ l1 ∧ Fr (Own b m l') V V1 ∧ (∀ i, Own b m l1 i → Own b m l' i ∨ V.heap.size < i) :=
        ⟨l', HI.out.of (fun i hi => hb1.block i (HI.out.lt hi)), HM.out, Fr.of_below hb1, fun i hi => .inl hi⟩
      rw [hV1]
      clear hV1
      obtain ⟨l1, j1, j2, j3, j4⟩ := hB1
      have CA := Lib.hid (fun w => Cell.all_calls x.f1.f0 x.f1.f1 x.f1.f2 x.f1.f3 (W : Int) w)
      have CG := Lib.hid (fun n₀ B1 B2 => Cell.all_gives n₀ B1 B2 x.f1.f0 x.f1.f1 x.f1.f2 x.f1.f3 (W : Int) cd)
      have no1 : ∀ i, Own b m l1 i → i ≠ V.heap.size ∧ i ≠ g ∧ (i < w.heap.size ∨ W0.heap.size + 2 ≤ i) := fun i hi => by
        rcases j4 i hi with h | h
        · have := HI.out.lt h
          refine ⟨by omega, ?_, ?_⟩
          · intro e; subst e; exact HG.out h
          · rcases i3 i h with h2 | h2
            · exact .inl (hol i h2)
            · exact .inr h2
        · exact ⟨by omega, by omega, .inr (by omega)⟩
      have hb1 : ∀ i, i < V.heap.size → ¬ Own b m l' i → V1.heap[i]? = V.heap[i]? := fun i h1 h2 => j3.block i h1 h2
      have g0' := (World.cell?_of_block (a := ⟨g, 0, none⟩) (hb1 g hg2 HG.out)).trans g0
      have g1' := (World.cell?_of_block (a := ⟨g, 1, none⟩) (hb1 g hg2 HG.out)).trans g1
      have g2' := (World.cell?_of_block (a := ⟨g, 2, none⟩) (hb1 g hg2 HG.out)).trans g2
      have g3' := (World.cell?_of_block (a := ⟨g, 3, none⟩) (hb1 g hg2 HG.out)).trans g3
      have k2' := (World.cell?_of_block (a := ⟨w.heap.size, 0, none⟩) (hb1 w.heap.size hwV (fun h => by rcases i3 _ h with h2 | h2; have := hol _ h2; omega; omega))).trans k2V
      have hr1 := (hb1 (W0.heap.size + 1) (by omega) (fun h => by rcases i3 _ h with h2 | h2; have := hol _ h2; omega; omega)).trans hr
      have u0 := j1.c0
      have hbV1 : b < V1.heap.size := by have := j3.size; omega
      have hgV1 : g < V1.heap.size := by have := j3.size; omega
      have hwV1 : w.heap.size < V1.heap.size := by have := j3.size; omega
      have h6V1 : V.heap.size < V1.heap.size := by omega
      gi_wp2
      apply Cut.cut_eq
      · gi_region_with (gi_at_call 57; refine (Seq.of_calls (CA.out _)).mono ?_; rintro e w2 ⟨rfl, rfl⟩)
        all_goals exact ⟨rfl, rfl⟩
      gi_wp2
      obtain ⟨V2, hV2⟩ : ∃ V2, (((V1.alloc (.cells #[.int .i64 x.f1.f0, .int .i64 x.f1.f1, .int .i64 x.f1.f2, .int .i64 x.f1.f3] 100)).alloc (.cells #[.int .i64 (W : Int)] 3)).drew) = V2 := ⟨_, rfl⟩
      have hb2 : Below V1.heap.size V1 V2 := by rw [← hV2]; exact (((Below.refl _ V1).alloc (Nat.le_refl _) _).alloc (by simp) _).drew
      have hs2 : V2.heap.size = V1.heap.size + 2 := by rw [← hV2]; simp
      have s0 : Cell.Four V2 V1.heap.size x.f1.f0 x.f1.f1 x.f1.f2 x.f1.f3 := by subst hV2; exact ⟨by go_simp, by go_simp, by go_simp, by go_simp⟩
      have s4 : V2.cell? ⟨V1.heap.size + 1, 0, none⟩ = some (.int .i64 (W : Int)) := by subst hV2; go_simp
      rw [hV2]
      clear hV2
      have B2 : Buf V2 b m W H l1 (adds W (xs.take k) F) (adds W (xs.take k) F) := j1.of (fun i hi => hb2.block i (j1.lt hi))
      have r6' := (hb2.cell (p := ⟨V.heap.size, 0, none⟩) h6V1).trans r6
      have hr2 := (hb2.block (W0.heap.size + 1) (by omega)).trans hr1
      have ol1 : ∀ i, Own b m l1 i → i < V1.heap.size := fun i hi => j1.lt hi
      have CM := Lib.hid (fun c => cell_in (W := (W : Int)) (c := c) (by omega) (X0 := x.f1.f0) (Y0 := x.f1.f1) (X1 := x.f1.f2) (Y1 := x.f1.f3))
      have AL := Lib.hid (inner_all (W : Int) (xs.take k) x F)
      generalize Cell.cells x.f1.f0 x.f1.f1 x.f1.f2 x.f1.f3 (W : Int) = cs at *
      have J1 := Lib.hid j1
      have J3 := Lib.hid j3
      have J4 := Lib.hid j4
      have N1 := Lib.hid no1
      clear j1 j3 j4 no1 hbo hb1
      refine KdX.with_frame fun T2 hT2 => ?_
      refine SeqN.range_ax_in (N := 11) (n₀ := 0) hr2 (by rw [hT2]; rfl) (enters_of Try.func69 (by kernel_rfl) rfl) (CG.out 0 V1.heap.size (V1.heap.size + 1) V2 (by omega) (by omega) (by omega) s0 s4) (by omega) (fun b hb => by simp at hb; omega) (Below.refl _ _) (fun _ => rfl)
        (fun j A => V2.heap.size ≤ A.heap.size ∧ Buf A b m W H l1 (inner x.f0 (cs.take j) (adds W (xs.take k) F)) (inner x.f0 (cs.take j) (adds W (xs.take k) F)) ∧ Fr (Own b m l1) V2 A)
        (fun c j A => False)
        (fun j A B hs hA hw => by
          obtain ⟨h0, h1, h2⟩ := hs
          exact ⟨Nat.le_trans h0 hw.size, h1.of (fun i hi => hw.block i (h1.lt hi) (.inl (by have := ol1 i hi; omega))), h2.trans (Fr.win hw (O := fun i => V2.heap.size ≤ i) (fun i hi _ _ => hi)) (fun i hi => .inr hi)⟩)
        (fun c j A B hs hA hw => hs)
        ⟨Nat.le_refl _, by rw [List.take_zero, inner_nil]; exact B2, Fr.refl⟩
        (fun c a' A => ∃ q, a' = { tmps := (((T2.setIfInBounds 46 (.int .i64 c.f0)).setIfInBounds 47 (.agg #[.int .i64 c.f1.f0, .int .i64 c.f1.f1])).setIfInBounds 8 (.int .i64 c.f0)).setIfInBounds 9 (.pointer (some ⟨q, 0, none⟩)), defers := [] } ∧ V2.heap.size ≤ q ∧ q < A.heap.size ∧ A.heap[q]? = some (.cells #[.int .i64 c.f1.f0, .int .i64 c.f1.f1] 60))
        (fun c a' _ A B row hs hg hr => by
          obtain ⟨q, h1, h2, h3, h4⟩ := hs
          refine ⟨q, h1, h2, Nat.lt_of_lt_of_le h3 hg.size, (hg.block q h3 (fun e => ?_)).trans h4⟩
          obtain ⟨_, o, ho, hc⟩ := hr q e.symm
          rw [h4] at ho; cases ho; cases hc) ?assign2 ?body2 ?done2 ?stop2
      case assign2 =>
        intro l0 j c A K hx hz0 ⟨i0, i1, i2⟩ hK
        subst hT2
        unfold Cell.encC
        simp
        gi_wp2
        have hAl := fun o => (Below.refl A.heap.size A).alloc (Nat.le_refl _) o
        refine hK _ _ (SeqN.KeptN.alloc _ (by omega) (fun b hb => by simp at hb; omega))
          ⟨by simp; omega, i1.of (fun i hi => (hAl _).block i (i1.lt hi)), i2.trans (Fr.of_below (hAl _) (O := fun _ => False)) (fun i hi => hi.elim)⟩
          ⟨A.heap.size, rfl, by omega, by simp, World.alloc_heap_new A _⟩
      case body2 =>
        rintro l0 j c a' A hl ⟨r2, hr2'⟩ hcj hz0 ⟨a0, a1, a2⟩ ⟨g2, rfl, e1, e2, e3⟩
        obtain ⟨n0, n1⟩ := CM.out c (List.mem_of_getElem? hcj)
        obtain ⟨q, hq⟩ : ∃ q : Nat, c.f0 = q := ⟨c.f0.toNat, by omega⟩
        have hqW : q < W := by omega
        have hrow := a1.row _ j2
        have t0 := hrow.cov q hqW
        have t1 := hrow.are q hqW
        have f0 := hrow.fro (q * 2)
        have f1 := hrow.fro (q * 2 + 1)
        have hgr : gr < A.heap.size := hrow.lt
        have hn6 := (N1.out gr (.inr (.inr ⟨_, j2, rfl⟩))).1
        have t6 : A.cell? ⟨V.heap.size, 0, none⟩ = some (.slice (some ⟨gr, 0, none⟩) W W) := (a2.cell (p := ⟨V.heap.size, 0, none⟩) (by show V.heap.size < _; omega) (fun h => (N1.out _ h).1 rfl)).trans r6'
        have e30 : A.cell? ⟨g2, 0, none⟩ = some (.int .i64 c.f1.f0) := by simp [World.cell?, e3]
        have e31 : A.cell? ⟨g2, 1, none⟩ = some (.int .i64 c.f1.f1) := by simp [World.cell?, e3]
        have hne2 : g2 ≠ gr := by have := ol1 gr (.inr (.inr ⟨_, j2, rfl⟩)); omega
        have HA := Lib.hid a1
        subst hT2
        subst hl
        simp
        rw [hq]
        refine wpIn_mono (body_wp hqW t6 t0 t1 e30 e31 f0 f1 (Ne.symm hn6) hne2) ?_
        rintro e4 a4 A4 ⟨rfl, rfl⟩
        have TS := take_snoc hcj
        have HU := inner_up x.f0 (cs.take j) c (adds W (xs.take k) F)
        rw [← TS] at HU
        have S1 := HA.out.cover (c := c) j2 hqW hq
        have S2 := S1.area (c := c) j2 hqW hq
        rw [HU] at S2
        have S3 := S2.of (w' := added A gr q (wrap64 (wrap64 (cov (q : Int) (inner x.f0 (cs.take j) (adds W (xs.take k) F) x.f0)) + c.f1.f0)) (wrap64 (wrap64 (are (q : Int) (inner x.f0 (cs.take j) (adds W (xs.take k) F) x.f0)) + c.f1.f1))) (fun _ _ => rfl)
        have hog : Own b m l1 gr := .inr (.inr ⟨_, j2, rfl⟩)
        have S4 : Fr (Own b m l1) A (added A gr q (wrap64 (wrap64 (cov (q : Int) (inner x.f0 (cs.take j) (adds W (xs.take k) F) x.f0)) + c.f1.f0)) (wrap64 (wrap64 (are (q : Int) (inner x.f0 (cs.take j) (adds W (xs.take k) F) x.f0)) + c.f1.f1))) :=
          ((Fr.set (p := ⟨gr, q * 2, none⟩) hog _).trans (Fr.set (p := ⟨gr, q * 2 + 1, none⟩) hog _) (fun i hi => .inl hi)).trans (O1 := fun _ => False) ⟨rfl, rfl, rfl, Nat.le_refl _, fun _ _ _ => rfl⟩ (fun i hi => hi.elim)
        have hgr1 := ol1 gr hog
        refine ⟨⟨S4.low, fun i h1 h2 h3 => S4.block i h3 (fun h4 => by have := ol1 i h4; omega), fun i hi => S4.block i (by simp at hi; omega) (fun h4 => by have := ol1 i h4; simp at hi; omega)⟩, Nat.le_trans a0 S4.size, S3, a2.trans S4 (fun i hi => .inl hi)⟩
      case done2 =>
        rintro A hz ⟨a0, a1, a2⟩
        rw [List.take_length, AL.out, ← take_snoc HX.out] at a1
        subst hT2
        gi_wp2
        have hfin : Fr (Own b m l1) V1 A := (Fr.of_below hb2).trans a2 (fun i hi => .inl hi)
        have hfin2 : Fr (Own b m l') V A := J3.out.trans hfin (fun i hi => by rcases J4.out i hi with h | h; exact .inl h; exact .inr (by omega))
        refine ⟨⟨hfin2.low, fun i h1 h2 h3 => hfin2.block i h3 (fun h4 => by rcases i3 i h4 with h5 | h5; have := hol i h5; omega; omega), fun i hi => hfin2.block i (by simp at hi; omega) (fun h4 => by simp at hi; rcases i3 i h4 with h5 | h5; have := hol i h5; omega; omega)⟩, by have := hfin2.size; omega, l1, a1, i2.trans hfin2 (fun i hi => by rcases i3 i hi with h5 | h5; exact .inl h5; exact .inr (by omega)), fun i hi => by rcases J4.out i hi with h5 | h5; exact i3 i h5; exact .inr (by omega)⟩
      case stop2 =>
        rintro c k V hk hz hF
        exact hF.elim
    · have hrun := MapI.look_none (P := Try.prog) (w := V) Try.underlying89 Try.underlying3 i1.map (z := .slice none 0 0) (by kernel_rfl) hlk true
      have hmk := fun w : World => run_make (P := Try.prog) w 92 60 _ _ Try.underlying92 rfl rfl .i64 .i64 (W : Int) (W : Int) (by omega) (Int.le_refl _) (by show ((16 : Nat) : Int) * _ ≤ _; omega) (by omega)
      have hmk2 : ∀ w : World, (Instr.makeSlice 92 (.int .i64 (W : Int)) (.int .i64 (W : Int))).run Try.prog w = .ok (.slice (some ⟨w.heap.size, 0, none⟩) W W) (w.alloc (.cells (madeCells #[.int .i64 0, .int .i64 0] (W * 2)) 60)) := fun w => (hmk w).trans (by rw [Int.toNat_natCast]; rfl)
      have hput := MapI.put_new (P := Try.prog) (w := ((V.alloc (.cells #[.slice (some ⟨V.heap.size + 1, 0, none⟩) W W] 92)).alloc (.cells (madeCells #[.int .i64 0, .int .i64 0] (W * 2)) 60)).drew) (l := vals W l') (m := m) (y := x.f0) Try.underlying89 Try.underlying3
        ((Below.heap_alloc _ _ _ (by simp; omega)).trans ((Below.heap_alloc _ _ _ hmV).trans i1.map)) hlk (.slice (some ⟨V.heap.size + 1, 0, none⟩) W W)
      have HN := Lib.hid hnew
      have HL := Lib.hid hlk
      clear hgc hx i1 hlk hmk hnew
      gi_wp2
      apply Cut.cut_eq
      · gi_region
        all_goals exact ⟨rfl, rfl⟩
      gi_wp2
      obtain ⟨V1, hV1⟩ : ∃ V1, ((((V.alloc (.cells #[.slice (some ⟨V.heap.size + 1, 0, none⟩) W W] 92)).alloc (.cells (madeCells #[.int .i64 0, .int .i64 0] (W * 2)) 60)).drew).putObj m (MapI.obj (vals W l' ++ [(x.f0, .slice (some ⟨V.heap.size + 1, 0, none⟩) W W)]))) = V1 := ⟨_, rfl⟩
      have hs1 : V.heap.size + 1 ≤ V1.heap.size := by rw [← hV1]; refine Nat.le_trans ?_ (grownBy_putObj' _ _ _).size; simp
      have ho1 : ∀ i, i ≠ m → V1.heap[i]? = ((V.alloc (.cells #[.slice (some ⟨V.heap.size + 1, 0, none⟩) W W] 92)).alloc (.cells (madeCells #[.int .i64 0, .int .i64 0] (W * 2)) 60)).heap[i]? := fun i hi => by rw [← hV1]; exact World.putObj_heap_other hi
      have ho2 : ∀ i, i ≠ m → i < V.heap.size → V1.heap[i]? = V.heap[i]? := fun i hi hl => (ho1 i hi).trans ((Below.heap_alloc _ _ _ (by simp; omega)).trans (Below.heap_alloc _ _ _ hl))
      have r6 : V1.cell? ⟨V.heap.size, 0, none⟩ = some (.slice (some ⟨V.heap.size + 1, 0, none⟩) W W) := (World.cell?_of_block (a := ⟨V.heap.size, 0, none⟩) (ho1 V.heap.size (by omega))).trans (by go_simp)
      have fr1 : RowAt V1 (V.heap.size + 1) W [] [] := by
        have h := fresh_row (V.alloc (.cells #[.slice (some ⟨V.heap.size + 1, 0, none⟩) W W] 92)) W
        rw [World.size_alloc] at h
        exact h.of (ho1 _ (by omega))
      have hmm : V1.heap[m]? = some (MapI.obj (vals W l' ++ [(x.f0, .slice (some ⟨V.heap.size + 1, 0, none⟩) W W)])) := by rw [← hV1]; exact World.putObj_heap_same (by simp; omega)
      have hB1 : ∃ l1, Buf V1 b m W H l1 (adds W (xs.take k) F) (adds W (xs.take k) F) ∧ (x.f0, V.heap.size + 1) ∈ l1 ∧ Fr (Own b m l') V V1 ∧ (∀ i, Own b m l1 i → Own b m l' i ∨ V.heap.size < i) :=
        ⟨l' ++ [(x.f0, V.heap.size + 1)], HI.out.make HN.out (fun i hi => by have := HI.out.lt hi; omega) fr1 hmm (fun i hi hne => ho2 i hne (HI.out.lt hi)), by simp,
          ⟨by rw [← hV1]; rfl, by rw [← hV1]; rfl, by rw [← hV1]; rfl, by omega, fun i hi hn => ho2 i (fun e => hn (.inr (.inl e))) hi⟩, fun i hi => by
            rcases hi with h | h | ⟨p, hp, h⟩
            · exact .inl (.inl h)
            · exact .inl (.inr (.inl h))
            · rcases List.mem_append.1 hp with hp | hp
              · exact .inl (.inr (.inr ⟨p, hp, h⟩))
              · obtain rfl := List.mem_singleton.1 hp
                exact .inr (by rw [← h]; show _ < V.heap.size + 1; omega)⟩
      rw [hV1]
      obtain ⟨gr, hgr⟩ : ∃ gr, V.heap.size + 1 = gr := ⟨_, rfl⟩
      rw [hgr] at hB1 r6
      rw [hgr]
      clear hrun hput HN HL hmk2 ho1 ho2 fr1 hmm hgr
      clear hV1
      obtain ⟨l1, j1, j2, j3, j4⟩ := hB1
      have CA := Lib.hid (fun w => Cell.all_calls x.f1.f0 x.f1.f1 x.f1.f2 x.f1.f3 (W : Int) w)
      have CG := Lib.hid (fun n₀ B1 B2 => Cell.all_gives n₀ B1 B2 x.f1.f0 x.f1.f1 x.f1.f2 x.f1.f3 (W : Int) cd)
      have no1 : ∀ i, Own b m l1 i → i ≠ V.heap.size ∧ i ≠ g ∧ (i < w.heap.size ∨ W0.heap.size + 2 ≤ i) := fun i hi => by
        rcases j4 i hi with h | h
        · have := HI.out.lt h
          refine ⟨by omega, ?_, ?_⟩
          · intro e; subst e; exact HG.out h
          · rcases i3 i h with h2 | h2
            · exact .inl (hol i h2)
            · exact .inr h2
        · exact ⟨by omega, by omega, .inr (by omega)⟩
      have hb1 : ∀ i, i < V.heap.size → ¬ Own b m l' i → V1.heap[i]? = V.heap[i]? := fun i h1 h2 => j3.block i h1 h2
      have g0' := (World.cell?_of_block (a := ⟨g, 0, none⟩) (hb1 g hg2 HG.out)).trans g0
      have g1' := (World.cell?_of_block (a := ⟨g, 1, none⟩) (hb1 g hg2 HG.out)).trans g1
      have g2' := (World.cell?_of_block (a := ⟨g, 2, none⟩) (hb1 g hg2 HG.out)).trans g2
      have g3' := (World.cell?_of_block (a := ⟨g, 3, none⟩) (hb1 g hg2 HG.out)).trans g3
      have k2' := (World.cell?_of_block (a := ⟨w.heap.size, 0, none⟩) (hb1 w.heap.size hwV (fun h => by rcases i3 _ h with h2 | h2; have := hol _ h2; omega; omega))).trans k2V
      have hr1 := (hb1 (W0.heap.size + 1) (by omega) (fun h => by rcases i3 _ h with h2 | h2; have := hol _ h2; omega; omega)).trans hr
      have u0 := j1.c0
      have hbV1 : b < V1.heap.size := by have := j3.size; omega
      have hgV1 : g < V1.heap.size := by have := j3.size; omega
      have hwV1 : w.heap.size < V1.heap.size := by have := j3.size; omega
      have h6V1 : V.heap.size < V1.heap.size := by omega
      gi_wp2
      apply Cut.cut_eq
      · gi_region_with (gi_at_call 57; refine (Seq.of_calls (CA.out _)).mono ?_; rintro e w2 ⟨rfl, rfl⟩)
        all_goals exact ⟨rfl, rfl⟩
      gi_wp2
      obtain ⟨V2, hV2⟩ : ∃ V2, (((V1.alloc (.cells #[.int .i64 x.f1.f0, .int .i64 x.f1.f1, .int .i64 x.f1.f2, .int .i64 x.f1.f3] 100)).alloc (.cells #[.int .i64 (W : Int)] 3)).drew) = V2 := ⟨_, rfl⟩
      have hb2 : Below V1.heap.size V1 V2 := by rw [← hV2]; exact (((Below.refl _ V1).alloc (Nat.le_refl _) _).alloc (by simp) _).drew
      have hs2 : V2.heap.size = V1.heap.size + 2 := by rw [← hV2]; simp
      have s0 : Cell.Four V2 V1.heap.size x.f1.f0 x.f1.f1 x.f1.f2 x.f1.f3 := by subst hV2; exact ⟨by go_simp, by go_simp, by go_simp, by go_simp⟩
      have s4 : V2.cell? ⟨V1.heap.size + 1, 0, none⟩ = some (.int .i64 (W : Int)) := by subst hV2; go_simp
      rw [hV2]
      clear hV2
      have B2 : Buf V2 b m W H l1 (adds W (xs.take k) F) (adds W (xs.take k) F) := j1.of (fun i hi => hb2.block i (j1.lt hi))
      have r6' := (hb2.cell (p := ⟨V.heap.size, 0, none⟩) h6V1).trans r6
      have hr2 := (hb2.block (W0.heap.size + 1) (by omega)).trans hr1
      have ol1 : ∀ i, Own b m l1 i → i < V1.heap.size := fun i hi => j1.lt hi
      have CM := Lib.hid (fun c => cell_in (W := (W : Int)) (c := c) (by omega) (X0 := x.f1.f0) (Y0 := x.f1.f1) (X1 := x.f1.f2) (Y1 := x.f1.f3))
      have AL := Lib.hid (inner_all (W : Int) (xs.take k) x F)
      generalize Cell.cells x.f1.f0 x.f1.f1 x.f1.f2 x.f1.f3 (W : Int) = cs at *
      have J1 := Lib.hid j1
      have J3 := Lib.hid j3
      have J4 := Lib.hid j4
      have N1 := Lib.hid no1
      clear j1 j3 j4 no1 hbo hb1
      refine KdX.with_frame fun T2 hT2 => ?_
      refine SeqN.range_ax_in (N := 11) (n₀ := 0) hr2 (by rw [hT2]; rfl) (enters_of Try.func69 (by kernel_rfl) rfl) (CG.out 0 V1.heap.size (V1.heap.size + 1) V2 (by omega) (by omega) (by omega) s0 s4) (by omega) (fun b hb => by simp at hb; omega) (Below.refl _ _) (fun _ => rfl)
        (fun j A => V2.heap.size ≤ A.heap.size ∧ Buf A b m W H l1 (inner x.f0 (cs.take j) (adds W (xs.take k) F)) (inner x.f0 (cs.take j) (adds W (xs.take k) F)) ∧ Fr (Own b m l1) V2 A)
        (fun c j A => False)
        (fun j A B hs hA hw => by
          obtain ⟨h0, h1, h2⟩ := hs
          exact ⟨Nat.le_trans h0 hw.size, h1.of (fun i hi => hw.block i (h1.lt hi) (.inl (by have := ol1 i hi; omega))), h2.trans (Fr.win hw (O := fun i => V2.heap.size ≤ i) (fun i hi _ _ => hi)) (fun i hi => .inr hi)⟩)
        (fun c j A B hs hA hw => hs)
        ⟨Nat.le_refl _, by rw [List.take_zero, inner_nil]; exact B2, Fr.refl⟩
        (fun c a' A => ∃ q, a' = { tmps := (((T2.setIfInBounds 46 (.int .i64 c.f0)).setIfInBounds 47 (.agg #[.int .i64 c.f1.f0, .int .i64 c.f1.f1])).setIfInBounds 8 (.int .i64 c.f0)).setIfInBounds 9 (.pointer (some ⟨q, 0, none⟩)), defers := [] } ∧ V2.heap.size ≤ q ∧ q < A.heap.size ∧ A.heap[q]? = some (.cells #[.int .i64 c.f1.f0, .int .i64 c.f1.f1] 60))
        (fun c a' _ A B row hs hg hr => by
          obtain ⟨q, h1, h2, h3, h4⟩ := hs
          refine ⟨q, h1, h2, Nat.lt_of_lt_of_le h3 hg.size, (hg.block q h3 (fun e => ?_)).trans h4⟩
          obtain ⟨_, o, ho, hc⟩ := hr q e.symm
          rw [h4] at ho; cases ho; cases hc) ?assign2 ?body2 ?done2 ?stop2
      case assign2 =>
        intro l0 j c A K hx hz0 ⟨i0, i1, i2⟩ hK
        subst hT2
        unfold Cell.encC
        simp
        gi_wp2
        have hAl := fun o => (Below.refl A.heap.size A).alloc (Nat.le_refl _) o
        refine hK _ _ (SeqN.KeptN.alloc _ (by omega) (fun b hb => by simp at hb; omega))
          ⟨by simp; omega, i1.of (fun i hi => (hAl _).block i (i1.lt hi)), i2.trans (Fr.of_below (hAl _) (O := fun _ => False)) (fun i hi => hi.elim)⟩
          ⟨A.heap.size, rfl, by omega, by simp, World.alloc_heap_new A _⟩
      case body2 =>
        rintro l0 j c a' A hl ⟨r2, hr2'⟩ hcj hz0 ⟨a0, a1, a2⟩ ⟨g2, rfl, e1, e2, e3⟩
        obtain ⟨n0, n1⟩ := CM.out c (List.mem_of_getElem? hcj)
        obtain ⟨q, hq⟩ : ∃ q : Nat, c.f0 = q := ⟨c.f0.toNat, by omega⟩
        have hqW : q < W := by omega
        have hrow := a1.row _ j2
        have t0 := hrow.cov q hqW
        have t1 := hrow.are q hqW
        have f0 := hrow.fro (q * 2)
        have f1 := hrow.fro (q * 2 + 1)
        have hgr : gr < A.heap.size := hrow.lt
        have hn6 := (N1.out gr (.inr (.inr ⟨_, j2, rfl⟩))).1
        have t6 : A.cell? ⟨V.heap.size, 0, none⟩ = some (.slice (some ⟨gr, 0, none⟩) W W) := (a2.cell (p := ⟨V.heap.size, 0, none⟩) (by show V.heap.size < _; omega) (fun h => (N1.out _ h).1 rfl)).trans r6'
        have e30 : A.cell? ⟨g2, 0, none⟩ = some (.int .i64 c.f1.f0) := by simp [World.cell?, e3]
        have e31 : A.cell? ⟨g2, 1, none⟩ = some (.int .i64 c.f1.f1) := by simp [World.cell?, e3]
        have hne2 : g2 ≠ gr := by have := ol1 gr (.inr (.inr ⟨_, j2, rfl⟩)); omega
        have HA := Lib.hid a1
        subst hT2
        subst hl
        simp
        rw [hq]
        refine wpIn_mono (body_wp hqW t6 t0 t1 e30 e31 f0 f1 (Ne.symm hn6) hne2) ?_
        rintro e4 a4 A4 ⟨rfl, rfl⟩
        have TS := take_snoc hcj
        have HU := inner_up x.f0 (cs.take j) c (adds W (xs.take k) F)
        rw [← TS] at HU
        have S1 := HA.out.cover (c := c) j2 hqW hq
        have S2 := S1.area (c := c) j2 hqW hq
        rw [HU] at S2
        have S3 := S2.of (w' := added A gr q (wrap64 (wrap64 (cov (q : Int) (inner x.f0 (cs.take j) (adds W (xs.take k) F) x.f0)) + c.f1.f0)) (wrap64 (wrap64 (are (q : Int) (inner x.f0 (cs.take j) (adds W (xs.take k) F) x.f0)) + c.f1.f1))) (fun _ _ => rfl)
        have hog : Own b m l1 gr := .inr (.inr ⟨_, j2, rfl⟩)
        have S4 : Fr (Own b m l1) A (added A gr q (wrap64 (wrap64 (cov (q : Int) (inner x.f0 (cs.take j) (adds W (xs.take k) F) x.f0)) + c.f1.f0)) (wrap64 (wrap64 (are (q : Int) (inner x.f0 (cs.take j) (adds W (xs.take k) F) x.f0)) + c.f1.f1))) :=
          ((Fr.set (p := ⟨gr, q * 2, none⟩) hog _).trans (Fr.set (p := ⟨gr, q * 2 + 1, none⟩) hog _) (fun i hi => .inl hi)).trans (O1 := fun _ => False) ⟨rfl, rfl, rfl, Nat.le_refl _, fun _ _ _ => rfl⟩ (fun i hi => hi.elim)
        have hgr1 := ol1 gr hog
        refine ⟨⟨S4.low, fun i h1 h2 h3 => S4.block i h3 (fun h4 => by have := ol1 i h4; omega), fun i hi => S4.block i (by simp at hi; omega) (fun h4 => by have := ol1 i h4; simp at hi; omega)⟩, Nat.le_trans a0 S4.size, S3, a2.trans S4 (fun i hi => .inl hi)⟩
      case done2 =>
        rintro A hz ⟨a0, a1, a2⟩
        rw [List.take_length, AL.out, ← take_snoc HX.out] at a1
        subst hT2
        gi_wp2
        have hfin : Fr (Own b m l1) V1 A := (Fr.of_below hb2).trans a2 (fun i hi => .inl hi)
        have hfin2 : Fr (Own b m l') V A := J3.out.trans hfin (fun i hi => by rcases J4.out i hi with h | h; exact .inl h; exact .inr (by omega))
        refine ⟨⟨hfin2.low, fun i h1 h2 h3 => hfin2.block i h3 (fun h4 => by rcases i3 i h4 with h5 | h5; have := hol i h5; omega; omega), fun i hi => hfin2.block i (by simp at hi; omega) (fun h4 => by simp at hi; rcases i3 i h4 with h5 | h5; have := hol i h5; omega; omega)⟩, by have := hfin2.size; omega, l1, a1, i2.trans hfin2 (fun i hi => by rcases i3 i hi with h5 | h5; exact .inl h5; exact .inr (by omega)), fun i hi => by rcases J4.out i hi with h5 | h5; exact i3 i h5; exact .inr (by omega)⟩
      case stop2 =>
        rintro c k V hk hz hF
        exact hF.elim
  case done =>
    rintro V hz ⟨i0, l', i1, i2, i3⟩ hK
    rw [List.take_length, ← hxs] at i1
    have hKlt : W0.heap.size < V.heap.size := by omega
    have hF : Fr (Own b m l) w (V.putObj W0.heap.size (.deferred none)) :=
      ((Fr.of_below HBl).trans i2 (fun i hi => .inl hi)).trans (Fr.put (O := fun i => i = W0.heap.size) rfl _) (fun i hi => .inr (by omega))
    have hO2 : ∀ i, Own b m l' i → i ≠ W0.heap.size := fun i hi => by
      rcases i3 i hi with h | h
      · have := hol i h; omega
      · omega
    subst hT
    gi_wp2
    refine ⟨by simp, .inl ⟨_, _, rfl, run_takeDeferred hK, ?_⟩⟩
    exact ⟨.tuple #[], by simp [results, Try.f43, go_sem], rfl, hF, l', i1.of (fun i hi => World.putObj_heap_other (hO2 i hi)), fun i hi => by rcases i3 i hi with h | h; exact .inl h; exact .inr (by omega)⟩
  case stop =>
    rintro c k V hk hz hF
    exact hF.elim
end Go.Proofs.Ytejcjonlnijbkaa.Buf
