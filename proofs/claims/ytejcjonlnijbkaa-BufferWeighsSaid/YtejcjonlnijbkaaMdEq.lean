/- The document's quotient is package wide's, as numbers. -/
import Derived.Test.YtejcjonlnijbkaaExtMd
import Derived.Test.YtejcjonlnijbkaaExtRmd
namespace Go.Proofs.Ytejcjonlnijbkaa.MdEq
theorem nr_near (z c : Int) : Ref.nr z c = Wide.near (if c < 0 then -z else z) (if c < 0 then -c else c) := by
  unfold Ref.nr Wide.near; split <;> rfl
theorem mdV (a b c : Int) : Ref.mdV a b c = Wide.mulDivV a b c := by
  unfold Ref.mdV Wide.mulDivV
  rw [nr_near]; rfl
end Go.Proofs.Ytejcjonlnijbkaa.MdEq
