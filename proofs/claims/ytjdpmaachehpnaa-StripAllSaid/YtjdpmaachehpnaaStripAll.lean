/- The law StripAll: the strips of any edge, in a picture of any height, are the document's, told one by one, up to where one stops; the first and the last row are the least and the greatest. For all inputs. -/
import Derived.Test.YtjdpmaachehpnaaStripP
import Derived.Test.YtjdpmaachehpnaaFlatE
import Derived.Test.YtjdpmaachehpnaaWm1
import Derived.Test.YtjdpmaachehpnaaRows
import Derived.ProofKit
import Derived.OpenShut
import Derived.ShutString
import Derived.ChangeOld
import Derived.SizedLaws
import Derived.Test.YtjdpmaachehpnaaPEx18
namespace Go.Proofs.Ytjdpmaachehpnaa
open Go Go.RowKit
set_option linter.unusedVariables false
set_option linter.unusedSimpArgs false
namespace Strip
open Go.Proofs.Ytjdpmaachehpnaa.PE Go.Proofs.YtjdpmaachehpnaaW.PrintWords Go.Proofs.YtjdpmaachehpnaaW.PrintLast Go.Proofs.YtjdpmaachehpnaaW.PrintMore
theorem rdR {xs : List Rw} {i : Nat} (h : i < xs.length) : rd_T34 xs (i : Int) = xs[i] := by simp [rd_T34, h]
theorem rdR0 {xs : List Rw} (h : 0 < xs.length) : rd_T34 xs 0 = xs[0] := rdR (i := 0) h
section
variable {px py qx qy h : Int}
theorem strips_get (i : Nat) (hi : i < (strips px py qx qy h).length) : (strips px py qx qy h)[i] = rowS px py qx qy (sRow py qy h i) := by simp [strips]
theorem all_end (hd : Dom px py qx qy h) : ((strip_Rows.f px py qx qy h).bind fun b => (if ((strips px py qx qy h).length : Int) = 0 then (if b.2.2 = true then (some false) else (if b.1 = 0 then (some (b.2.1 == 0)) else (some false))) else (if b.2.2 = true then (if 0 < ((strips px py qx qy h).length : Int) then (if 0 ≤ (wrap64 (((strips px py qx qy h).length : Int) - 1)) then (if (wrap64 (((strips px py qx qy h).length : Int) - 1)) < ((strips px py qx qy h).length : Int) then (if b.1 = (mn ((rd_T34 (strips px py qx qy h) 0).f0) ((rd_T34 (strips px py qx qy h) (wrap64 (((strips px py qx qy h).length : Int) - 1))).f0)) then (some (b.2.1 == (mx ((rd_T34 (strips px py qx qy h) 0).f0) ((rd_T34 (strips px py qx qy h) (wrap64 (((strips px py qx qy h).length : Int) - 1))).f0)))) else (some false)) else (none)) else (none)) else (none)) else (some false)))) = some true := by
  rw [rows_f hd]
  have hn := sN_le hd
  have hh := hd.h1
  have hlen : (strips px py qx qy h).length = sN py qy h := strips_len _ _ _ _ _
  by_cases hok : sT py qy < sE py qy h
  · have h0 := sN_pos hd hok
    rw [if_pos hok]
    simp only [Option.bind_some, if_true]
    rw [if_neg (by omega), if_pos (by omega), w64 (x := ((strips px py qx qy h).length : Int) - 1) (by omega) (by omega), if_pos (by omega), if_pos (by omega)]
    rw [show ((strips px py qx qy h).length : Int) - 1 = ((sN py qy h - 1 : Nat) : Int) by omega, rdR0 (by omega), rdR (by omega), strips_get, strips_get]
    show (if sA py qy = mn (sRow py qy h 0) (sRow py qy h (sN py qy h - 1)) then some (sB py qy h == mx (sRow py qy h 0) (sRow py qy h (sN py qy h - 1))) else some false) = some true
    have e1 : sA py qy = mn (sRow py qy h 0) (sRow py qy h (sN py qy h - 1)) := by
      unfold mn sRow sN at *; rw [if_pos hok] at *; (repeat' split) <;> omega
    have e2 : sB py qy h = mx (sRow py qy h 0) (sRow py qy h (sN py qy h - 1)) := by
      unfold mx sRow sN at *; rw [if_pos hok] at *; (repeat' split) <;> omega
    rw [if_pos e1, e2]; simp
  · have h0 : sN py qy h = 0 := by unfold sN; rw [if_neg hok]
    rw [if_neg hok]
    simp only [Option.bind_some]
    rw [if_pos (by omega)]
    simp
theorem all_l0 (hd : Dom px py qx qy h) (hh : h ≤ 255) (m : Nat) (hm : m ≤ (strips px py qx qy h).length) : ∀ (n i k : Nat), i + n = (strips px py qx qy h).length → n < k →
    pointillistlaw15_StripAll.l0 k h (strips px py qx qy h) (m : Int) (strips px py qx qy h) ((strips px py qx qy h).take m) ((strips px py qx qy h).length : Int) (i : Int) px py qx qy = some true
  | 0, i, k, e, hk => by
    obtain ⟨k, rfl⟩ : ∃ m, k = m + 1 := ⟨k - 1, by omega⟩
    have h0 := hd.h0
    simp only [pointillistlaw15_StripAll.l0]
    rw [if_neg (by omega), w64 (x := h) (by omega) (by omega)]
    exact all_end hd
  | n + 1, i, k, e, hk => by
    obtain ⟨k, rfl⟩ : ∃ m, k = m + 1 := ⟨k - 1, by omega⟩
    have hn := sN_le hd
    have hlen : (strips px py qx qy h).length = sN py qy h := strips_len _ _ _ _ _
    have hi : i < (strips px py qx qy h).length := by omega
    have ih := all_l0 hd hh m hm n (i + 1) k (by omega) (by omega)
    simp only [pointillistlaw15_StripAll.l0]
    rw [if_pos (by omega), if_pos (by omega), if_pos (by omega), if_pos (by omega), rdR hi, if_neg (by simp), w64 (x := (i : Int) + 1) (by omega) (by omega), show (i : Int) + 1 = ((i + 1 : Nat) : Int) by omega, ih]
    split
    · have hm2 : i < ((strips px py qx qy h).take m).length := by rw [List.length_take]; omega
      rw [if_pos (by omega), rdR hm2, List.getElem_take, if_neg (by simp)]
    · rfl
end
theorem stripall (a b c d h s : Int) (h0 : 0 ≤ h) (h1 : h ≤ 255) (s0 : 0 ≤ s) (s1 : s ≤ 255) : ∃ k, pointillistlaw15_StripAll.f k a b c d h s = some true := by
  obtain ⟨r, hr, hb⟩ := right_f a b c d (k := 1100) (by omega)
  refine ⟨1100, ?_⟩
  unfold pointillistlaw15_StripAll.f
  rw [wakes, hr]
  simp only [Option.bind_some, if_true]
  cases r with
  | false => rfl
  | true =>
    obtain ⟨⟨ha, hb, hc, hd⟩, hne⟩ := hb.1 rfl
    have D : Dom a b c d h := ⟨ha, hb, hc, hd, hne, h0, by omega⟩
    have hn := sN_le D
    have hlen : (strips a b c d h).length = sN b d h := strips_len _ _ _ _ _
    rw [if_pos rfl, w64 (x := h) (by omega) (by omega), w64 (x := s) (by omega) (by omega), all_f D (by omega), told_f D (by omega) (by omega)]
    simp only [Option.bind_some]
    obtain ⟨m, hm⟩ : ∃ m : Nat, mn s ((strips a b c d h).length : Int) = m := ⟨(mn s ((strips a b c d h).length : Int)).toNat, by unfold mn; split <;> omega⟩
    have hm2 : m ≤ (strips a b c d h).length := by unfold mn at hm; split at hm <;> omega
    rw [hm, told_f D (by omega) (by omega)]
    simp only [Option.bind_some]
    rw [List.take_of_length_le (show (strips a b c d h).length ≤ (999 : Int).toNat by simp; omega), if_pos rfl, Int.toNat_natCast]
    simp only [pointillistlaw15_StripAll.j0]
    rw [if_neg (by simp [List.length_take]; omega)]
    exact all_l0 D h1 m hm2 (strips a b c d h).length 0 1099 (by omega) (by omega)
theorem stripall_row (a b c d h s : Int) (h0 : 0 ≤ h) (h1 : h ≤ 255) (s0 : 0 ≤ s) (s1 : s ≤ 255) (w : World) : Calls Try.prog 3 #[.agg #[.int .i64 a, .int .i64 b, .int .i64 c, .int .i64 d], .int .u8 h, .int .u8 s] w fun e w' => e = .returned (.bool true) ∧ Below w.heap.size w w' := by
  obtain ⟨k, hk⟩ := stripall a b c d h s h0 h1 s0 s1
  exact pointillistlaw15_StripAll.calls k a b c d h s true w hk
end Strip
namespace stripAll
open Go.ChangeShapes Go.WideShapes Go.ChangeAt Go.RowKit
open Go.ChangeMaps (open_string shut_string)
theorem own : ownKnob Try.prog.godebug = none := by kernel_rfl
theorem laidOut : laidOutB Try.prog = true := by kernel_rfl
set_option maxRecDepth 100000 in
theorem lifted (os : Os) (started : os.Started) (H : Type) (enc : TypeId × Value → H) :
    ReturnsInHanded {} Try.checked os 3 .any (Rows.stripAllSpec.pre6 enc Try.prog Try.f3 Rows.stripAllRow.domain false) (Rows.stripAllSpec.post enc Try.prog Try.f3 false true false false) := by
  refine returnsInHanded_of_change_sized (C := Try.checked) own started (by kernel_rfl) Try.func3
    (ChangeSpec.witness6 (enc := enc) (C := Try.checked) false ⟨#[], #[.agg #[.int .i64 0, .int .i64 0, .int .i64 0, .int .i64 0], .int .u8 0, .int .u8 0], []⟩ 8 (by kernel_rfl) (by kernel_rfl) (by kernel_rfl) (by kernel_rfl)) ?_
  intro W base args ds gs before hval0 hW hcnd hsz0 _
  have hval : ∀ (j : Nat) t v, Try.f3.params[j]? = some t → args[j]? = some v → Value.okWide Try.prog W .any base t v := hval0
  have hW' := hW
  obtain ⟨p, q, hA0, hV, rfl, hfz, hnd⟩ := hW
  have hA : DataW.TrodAll enc Try.prog W 0 (fun _ => true) true Try.f3.params.toList args.toList ds p := hA0
  have hlt : ∀ x ∈ p, x.block < W.heap.size := fun x hx => by simpa using hW'.lt x (by simp [hx])
  have hready : ∀ t ∈ Try.f3.params.toList, Try.prog.readableRec t = true ∧ t < Try.prog.types.size := by
    rw [Try.params3]
    intro t ht
    simp only [List.mem_cons, List.not_mem_nil, or_false] at ht
    rcases ht with rfl | rfl | rfl <;> exact ⟨by kernel_rfl, of_decide_eq_true (by kernel_rfl)⟩
  have hAk := hA
  rw [Try.params3] at hA hval
  obtain ⟨v0, vs0, d0, ds0, p0, q0, hargs, rfl, rfl, h0, r0⟩ := trodAll_cons hA
  obtain ⟨v1, vs1, d1, ds1, p1, q1, rfl, rfl, rfl, h1, r1⟩ := trodAll_cons r0
  obtain ⟨v2, vs2, d2, ds2, p2, q2, rfl, rfl, rfl, h2, r2⟩ := trodAll_cons r1
  obtain ⟨rfl, rfl, rfl⟩ := trodAll_nil r2
  obtain rfl : args = #[v0, v1, v2] := by cases args; simp_all
  obtain ⟨rfl, rfl⟩ := trodVars_none hV
  obtain ⟨c0, m0, rfl, i0⟩ := Open.Flat.open_agg flatEdge (.inl ⟨_, Try.underlying25⟩) (hval 0 25 v0 rfl rfl) h0
  obtain ⟨n0_0, n0_1, n0_2, n0_3, rfl, x0_0, x0_1, x0_2, x0_3⟩ := i0.of4
  obtain ⟨a1, rfl, rfl, rfl, w1⟩ := open_int Try.underlying5 (hval 1 5 v1 rfl rfl) h1
  obtain ⟨a2, rfl, rfl, rfl, w2⟩ := open_int Try.underlying5 (hval 2 5 v2 rfl rfl) h2
  clear hA0 hval0 hsz0
  refine (Strip.stripall_row n0_0 n0_1 n0_2 n0_3 a1 a2 (Num.wf_u8 w1).1 (Num.wf_u8 w1).2 (Num.wf_u8 w2).1 (Num.wf_u8 w2).2 W).mono fun e W' ⟨he, bel⟩ => ?_
  subst he
  exact ⟨_, rfl, _, _, _, [], _, [], hW', trodAll_mk1 (shut_bool Try.underlying4 _), Open.trodAll_below laidOut bel hready hAk hlt, rfl, bel.frame _, fun h => by cases h⟩
theorem over : Rows.stripAllRow.holds Try.pinned (OpenSpec.ofChange Rows.stripAllSpec) :=
  OpenClaim.holds_of_wide 3 Try.f3 rfl rfl rfl rfl rfl rfl rfl ⟨rfl, rfl, rfl, rfl, rfl⟩ rfl rfl rfl rfl rfl (by kernel_rfl) Try.func3 (by kernel_rfl)
    (of_decide_eq_true (by kernel_rfl)) (by unfold Func.isWrapper; first | (rw [if_pos (by decide +kernel)]; kernel_rfl) | (rw [if_neg (by decide +kernel)]; exact ⟨rfl, rfl⟩))
    (fun os started H enc _ => lifted os started H enc)
theorem proved : Rows.StripAllSaid := over
end stripAll
/-- The row, for the claim. -/
theorem stripAll_holds : Rows.StripAllSaid := stripAll.proved
end Go.Proofs.Ytjdpmaachehpnaa
