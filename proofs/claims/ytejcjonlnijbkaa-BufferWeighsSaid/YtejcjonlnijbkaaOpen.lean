/- How the arguments of a law are opened, whatever their types: structs and arrays of whole numbers come as their numbers, slices of such as a list of rows; and an argument reads behind the call as it did, where nothing below the heap's old size has turned. Over any program. -/
import Derived.ProofKit
import Derived.WalkKit
import Derived.Below
import Derived.Carry
import Derived.Deep.Slices
namespace Go.Proofs.Ytejcjonlnijbkaa.Open
open Go Go.RowKit Go.ChangeShapes Go.WideShapes

/-- The cells vs hold numbers of the kinds ks: these. -/
def IntsOf : List IntKind → List Value → List Int → Prop
  | [], [], [] => True
  | k :: ks, v :: vs, n :: ns => (v = .int k n ∧ (Lit.int k n).wf = true) ∧ IntsOf ks vs ns
  | _, _, _ => False

theorem IntsOf.append {k1 k2 : List IntKind} : ∀ {vs ns1 ns2}, IntsOf k1 (vs.take k1.length) ns1 → IntsOf k2 (vs.drop k1.length) ns2 → IntsOf (k1 ++ k2) vs (ns1 ++ ns2) := by
  induction k1 with
  | nil =>
    intro vs ns1 ns2 h1 h2
    cases ns1 with
    | nil => simpa using h2
    | cons => simp [IntsOf] at h1
  | cons k ks ih =>
    intro vs ns1 ns2 h1 h2
    cases vs with
    | nil => simp [IntsOf] at h1
    | cons v vs =>
      cases ns1 with
      | nil => simp [IntsOf] at h1
      | cons n ns =>
        simp only [List.length_cons, List.take_succ_cons, List.drop_succ_cons, IntsOf] at h1 h2
        exact ⟨h1.1, ih h1.2 h2⟩

theorem IntsOf.length : ∀ {ks vs ns}, IntsOf ks vs ns → vs.length = ks.length ∧ ns.length = ks.length
  | [], [], [], _ => ⟨rfl, rfl⟩
  | _ :: _, _ :: _, _ :: _, h => by have := IntsOf.length h.2; simp [this.1, this.2]

theorem IntsOf.of2 {k0 k1 : IntKind} {cs : Array Value} {ns : List Int} (h : IntsOf [k0, k1] cs.toList ns) :
    ∃ n0 n1 : Int, cs = #[.int k0 n0, .int k1 n1] ∧ (Lit.int k0 n0).wf = true ∧ (Lit.int k1 n1).wf = true := by
  obtain ⟨l⟩ := cs
  have hl := IntsOf.length h
  match l, ns, hl, h with
  | [_, _], [_, _], _, h =>
    obtain ⟨⟨rfl, h0⟩, ⟨rfl, h1⟩, _⟩ := h
    exact ⟨_, _, rfl, h0, h1⟩

theorem mapM_some {α β : Type} {f : α → Option β} : ∀ {l : List α} {ys : List β}, l.mapM f = some ys → ∀ x ∈ l, ∃ y, f x = some y
  | [], _, _, x, hx => by simp at hx
  | a :: l, ys, h, x, hx => by
    simp only [List.mapM_cons, Option.pure_def, Option.bind_eq_bind, Option.bind_eq_some_iff] at h
    obtain ⟨y, hy, zs, hz, _⟩ := h
    rcases List.mem_cons.1 hx with rfl | hx
    · exact ⟨y, hy⟩
    · exact mapM_some hz x hx

/-- A type whose values are rows of whole numbers, of these kinds. -/
structure Flat (P : Program) (t : TypeId) (ks : List IntKind) : Prop where
  size : P.cellsOf t = ks.length
  reads : ∀ {H : Type} {enc : TypeId × Value → H} {w : World} {base : Nat} {spare : Nat → Bool} {held : Bool} {fuel : Nat} {cs : List Value} {x : DataW H × List MemPlace},
    DataW.trod enc P w base spare held fuel t cs = some x → ∃ ns, IntsOf ks cs ns

theorem Flat.int {P : Program} {t : TypeId} {k : IntKind} (hu : P.underlying t = some (.int k)) (hc : P.cellsOf t = 1) : Flat P t [k] where
  size := hc
  reads := by
    intro H enc w base spare held fuel cs x h
    cases fuel with
    | zero => simp [DataW.trod] at h
    | succ fuel =>
      unfold DataW.trod at h
      rw [hu] at h
      split at h <;> simp_all
      obtain ⟨⟨rfl, hw⟩, _⟩ := h
      exact ⟨[_], ⟨rfl, hw⟩, trivial⟩

/-- The fields from an offset on, one behind the other. -/
inductive Fields (P : Program) : List Field → Nat → List IntKind → Prop
  | nil (off : Nat) : Fields P [] off []
  | cons {f : Field} {fs : List Field} {off : Nat} {k1 k2 : List IntKind} (hf : Flat P f.type k1) (ho : f.offset = off) (hr : Fields P fs (off + k1.length) k2) : Fields P (f :: fs) off (k1 ++ k2)

theorem Fields.reads {P : Program} {fs : List Field} {off : Nat} {ks : List IntKind} (h : Fields P fs off ks) {H : Type} {enc : TypeId × Value → H} {w : World} {base : Nat} {spare : Nat → Bool} {held : Bool} {fuel : Nat} {cs : List Value}
    (hl : cs.length = off + ks.length) (hx : ∀ f ∈ fs, ∃ y, DataW.trod enc P w base spare held fuel f.type ((cs.drop f.offset).take (P.cellsOf f.type)) = some y) : ∃ ns, IntsOf ks (cs.drop off) ns := by
  induction h with
  | nil off =>
    refine ⟨[], ?_⟩
    simp only [List.length_nil, Nat.add_zero] at hl
    rw [List.drop_eq_nil_of_le (by omega)]
    trivial
  | @cons f fs off k1 k2 hf ho _ ih =>
    obtain ⟨y, hy⟩ := hx f (by simp)
    rw [ho, hf.size] at hy
    obtain ⟨n1, h1⟩ := hf.reads hy
    obtain ⟨n2, h2⟩ := ih (by simp at hl; omega) (fun g hg => hx g (List.mem_cons_of_mem _ hg))
    exact ⟨n1 ++ n2, IntsOf.append h1 (by rwa [List.drop_drop])⟩

theorem Flat.struct {P : Program} {t : TypeId} {fs : Array Field} {ks : List IntKind} (hu : P.underlying t = some (.struct fs)) (hc : P.cellsOf t = ks.length) (hf : Fields P fs.toList 0 ks) : Flat P t ks where
  size := hc
  reads := by
    intro H enc w base spare held fuel cs x h
    cases fuel with
    | zero => simp [DataW.trod] at h
    | succ fuel =>
      unfold DataW.trod at h
      rw [hu] at h
      split at h <;> simp_all
      obtain ⟨hlen, ys, hm, _⟩ := h
      have := hf.reads (enc := enc) (w := w) (base := base) (spare := spare) (held := held) (fuel := fuel) (by omega) (mapM_some hm)
      simpa using this

theorem range_reads {P : Program} {e : TypeId} {ke : List IntKind} (he : Flat P e ke) {H : Type} {enc : TypeId × Value → H} {w : World} {base : Nat} {spare : Nat → Bool} {held : Bool} {fuel : Nat} (m : Nat) : ∀ {cs : List Value},
    cs.length = m * ke.length → (∀ i, i < m → ∃ y, DataW.trod enc P w base spare held fuel e ((cs.drop (i * ke.length)).take ke.length) = some y) → ∃ ns, IntsOf (List.replicate m ke).flatten cs ns := by
  induction m with
  | zero =>
    intro cs hl _
    obtain rfl : cs = [] := by simpa using hl
    exact ⟨[], trivial⟩
  | succ m ih =>
    intro cs hl hx
    obtain ⟨y, hy⟩ := hx 0 (by omega)
    simp only [Nat.zero_mul, List.drop_zero] at hy
    obtain ⟨n1, h1⟩ := he.reads hy
    obtain ⟨n2, h2⟩ := ih (cs := cs.drop ke.length) (by rw [List.length_drop, hl, Nat.succ_mul]; omega) (fun i hi => by
      obtain ⟨y, hy⟩ := hx (i + 1) (by omega)
      refine ⟨y, ?_⟩
      rw [List.drop_drop, show ke.length + i * ke.length = (i + 1) * ke.length by rw [Nat.succ_mul]; omega]
      exact hy)
    exact ⟨n1 ++ n2, by simpa [List.replicate_succ] using IntsOf.append h1 h2⟩

theorem Flat.array {P : Program} {t e : TypeId} {m : Nat} {ke : List IntKind} (hu : P.underlying t = some (.array m e)) (hc : P.cellsOf t = m * ke.length) (he : Flat P e ke) : Flat P t (List.replicate m ke).flatten where
  size := by rw [hc]; simp
  reads := by
    intro H enc w base spare held fuel cs x h
    cases fuel with
    | zero => simp [DataW.trod] at h
    | succ fuel =>
      have e1 : DataW.trod enc P w base spare held (fuel + 1) t cs = if cs.length = P.cellsOf t then ((List.range m).mapM fun i => DataW.trod enc P w base spare held fuel e ((cs.drop (i * P.cellsOf e)).take (P.cellsOf e))).map fun xs => (.agg (xs.map (·.1)), xs.flatMap (·.2)) else none := by
        conv => lhs; unfold DataW.trod
        rw [hu]
      rw [e1] at h
      split at h
      · rename_i hlen
        rw [Option.map_eq_some_iff] at h
        obtain ⟨ys, hm, _⟩ := h
        refine range_reads he (enc := enc) (w := w) (base := base) (spare := spare) (held := held) (fuel := fuel) m (by omega) (fun i hi => ?_)
        obtain ⟨y, hy⟩ := mapM_some hm i (by simpa using hi)
        exact ⟨y, by rw [he.size] at hy; exact hy⟩
      · simp at h

/-- An argument by value: its cells. -/
theorem Flat.open_agg {P : Program} {t : TypeId} {ks : List IntKind} (hF : Flat P t ks) {H : Type} {enc : TypeId × Value → H} {w : World} {base b0 : Nat} {spare : Nat → Bool} {held : Bool} {v : Value} {d : DataW H} {p : List MemPlace}
    (hs : (∃ fs, P.underlying t = some (.struct fs)) ∨ (∃ n e, P.underlying t = some (.array n e))) (hv : Value.okWide P w .any b0 t v) (h : DataW.Trod enc P w base spare held t v d p) :
    ∃ cs ns, v = .agg cs ∧ IntsOf ks cs.toList ns := by
  obtain ⟨fuel, hf⟩ := h
  have : ∃ cs, v = .agg cs := by
    unfold Value.okWide at hv
    rcases hs with ⟨fs, hs⟩ | ⟨n, e, hs⟩ <;> rw [hs] at hv <;> exact ⟨hv.choose, hv.choose_spec.1⟩
  obtain ⟨cs, rfl⟩ := this
  obtain ⟨ns, hn⟩ := hF.reads hf
  exact ⟨cs, ns, rfl, by simpa [Value.cells] using hn⟩

/-- A slice whose elements are rows of whole numbers, as a list of rows. -/
def FlatRow (w : World) (ks : List IntKind) (v : Value) (xs : List (List Int)) : Prop :=
  (v = .slice none 0 0 ∧ xs = []) ∨ ∃ a cap, v = .slice (some a) xs.length cap ∧ xs.length ≤ cap ∧ cap ≤ maxLen ∧
    ∀ i, i < xs.length → ∃ cs, (∃ b off, a = ⟨b, off, none⟩ ∧ b < w.heap.size ∧ ∀ j, j < ks.length → w.cell? ⟨b, off + i * ks.length + j, none⟩ = cs[j]?) ∧ IntsOf ks cs (xs.getD i [])

theorem FlatRow.below {w w' : World} {ks : List IntKind} {v : Value} {xs : List (List Int)} (h : FlatRow w ks v xs) (hb : Below w.heap.size w w') : FlatRow w' ks v xs := by
  rcases h with h | ⟨a, cap, rfl, h1, h2, h3⟩
  · exact .inl h
  · refine .inr ⟨a, cap, rfl, h1, h2, fun i hi => ?_⟩
    obtain ⟨cs, ⟨b, off, rfl, hlt, hc⟩, hI⟩ := h3 i hi
    exact ⟨cs, ⟨b, off, rfl, Nat.lt_of_lt_of_le hlt hb.size, fun j hj => (hb.cell (p := ⟨b, _, none⟩) hlt).trans (hc j hj)⟩, hI⟩

theorem Flat.open_slice {P : Program} {t e : TypeId} {ks : List IntKind} (hF : Flat P e ks) (hk : 0 < ks.length) (ht : P.underlying t = some (.slice e)) {H : Type} {enc : TypeId × Value → H} {w : World} {base b0 : Nat} {spare : Nat → Bool} {held : Bool} {v : Value} {d : DataW H} {p : List MemPlace}
    (hv : Value.okWide P w .any b0 t v) (h : DataW.Trod enc P w base spare held t v d p) : ∃ xs, FlatRow w ks v xs := by
  obtain ⟨a0, len, cap, rfl⟩ := okWide_slice ht hv
  obtain ⟨fuel, hf⟩ := h
  rcases Deep.open_slice ht hf with ⟨hcs, _⟩ | ⟨a, len', cap', m, n, D, Pl, hcs, hb, hl, hm, hmm, _, hx⟩
  · simp [Value.cells] at hcs
    obtain ⟨rfl, rfl, rfl⟩ := hcs
    exact ⟨[], .inl ⟨rfl, rfl⟩⟩
  · simp [Value.cells] at hcs
    obtain ⟨rfl, rfl, rfl⟩ := hcs
    have hle : len ≤ m := by rw [hmm]; split <;> omega
    obtain ⟨b, off, far⟩ := a
    have hfar : 0 < len → far = none := by
      intro h
      obtain ⟨cs', h1, h2⟩ := hx 0 (by omega)
      rw [hF.size, Nat.zero_mul] at h1
      obtain ⟨_, hlen, hcell⟩ := World.cells?_some h1
      have h0 := hcell 0 hk
      have e0 : ∀ a : Addr, (a.add 0).add 0 = a := fun a => by simp [Addr.add]
      rw [e0] at h0
      cases far with
      | none => rfl
      | some q =>
        have hn : w.cell? ⟨b, off, some q⟩ = none := by
          unfold World.cell?
          split <;> simp
        rw [hn] at h0
        rw [eq_comm, List.getElem?_eq_none_iff] at h0; omega
    have hall : ∀ i, i < len → ∃ ns cs, (∃ b' off', (⟨b, off, far⟩ : Addr) = ⟨b', off', none⟩ ∧ b' < w.heap.size ∧ ∀ j, j < ks.length → w.cell? ⟨b', off' + i * ks.length + j, none⟩ = cs[j]?) ∧ IntsOf ks cs ns := by
      intro i hi
      obtain rfl := hfar (by omega)
      obtain ⟨cs', h1, h2⟩ := hx i (by omega)
      rw [hF.size] at h1
      obtain ⟨ns, hn⟩ := hF.reads h2
      obtain ⟨_, hlen, hcell⟩ := World.cells?_some h1
      have e0 : ∀ k j, ((⟨b, off, none⟩ : Addr).add k).add j = ⟨b, off + k + j, none⟩ := fun k j => by
        unfold Addr.add
        by_cases h1 : k = 0 <;> by_cases h2 : j = 0 <;> simp [h1, h2]
      refine ⟨ns, cs', ⟨b, off, rfl, ?_, fun j hj => ?_⟩, hn⟩
      · have h0 := hcell 0 hk
        rw [e0] at h0
        exact World.block_lt_of_cell? w _ (h0.trans (List.getElem?_eq_getElem (by omega)))
      · have := hcell j (by omega)
        rwa [e0] at this
    refine ⟨(List.range len).map fun i => if h : i < len then (hall i h).choose else [], .inr ⟨⟨b, off, far⟩, cap, by simp, by simpa using hl, hm, fun i hi => ?_⟩⟩
    have hi' : i < len := by simpa using hi
    obtain ⟨cs, hc, hI⟩ := (hall i hi').choose_spec
    refine ⟨cs, hc, ?_⟩
    have : ((List.range len).map fun i => if h : i < len then (hall i h).choose else []).getD i [] = (hall i hi').choose := by
      simp [List.getD, hi']
    rw [this]; exact hI

/-- A slice of whole numbers of one kind, as a list. -/
structure IntRow (w : World) (k : IntKind) (A : Option Addr) (zs : List Int) : Prop where
  cell : ∀ i, i < zs.length → ∃ b off, A = some ⟨b, off, none⟩ ∧ b < w.heap.size ∧ w.cell? ⟨b, off + i, none⟩ = some (.int k (zs[i]?.getD 0))
  wf : ∀ z ∈ zs, (Lit.int k z).wf = true
theorem IntRow.below {w w' : World} {k : IntKind} {A : Option Addr} {zs : List Int} (h : IntRow w k A zs) (hb : Below w.heap.size w w') : IntRow w' k A zs :=
  ⟨fun i hi => by
    obtain ⟨b, off, e, hl, hc⟩ := h.cell i hi
    exact ⟨b, off, e, Nat.lt_of_lt_of_le hl hb.size, (hb.cell (p := ⟨b, _, none⟩) hl).trans hc⟩, h.wf⟩

/-- The arguments read behind the call as they did. -/
theorem trodAll_below {H : Type} {enc : TypeId × Value → H} {P : Program} (hl : laidOutB P = true) {W W' : World} (hb : Below W.heap.size W W') : ∀ {ts : List TypeId} {vs : List Value} {ds : List (DataW H)} {ps : List MemPlace},
    (∀ t ∈ ts, P.readableRec t = true ∧ t < P.types.size) → DataW.TrodAll enc P W 0 (fun _ => true) true ts vs ds ps → (∀ x ∈ ps, x.block < W.heap.size) → DataW.TrodAll enc P W' 0 (fun b => decide (b < W.heap.size)) true ts vs ds ps
  | [], [], [], _, _, h, _ => h
  | t :: ts, v :: vs, d :: ds, _, ht, ⟨p, q, h1, h2, rfl⟩, hlt =>
    ⟨p, q, Below.trod hl (ht t (by simp)).1 (ht t (by simp)).2 h1 hb (fun x hx => hlt x (by simp [hx])), trodAll_below hl hb (fun t' h' => ht t' (by simp [h'])) h2 (fun x hx => hlt x (by simp [hx])), rfl⟩
end Go.Proofs.Ytejcjonlnijbkaa.Open
