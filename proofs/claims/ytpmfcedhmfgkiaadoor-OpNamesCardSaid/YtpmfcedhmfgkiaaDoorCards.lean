/-
  DERIVED. GIVEN WITH THE SEED: THE CARDS: each row of YtpmfcedhmfgkiaaDoorRows.lean that lists a variable, with what it lists TIED to the program's text (the seventh form; the later family's looks); each row that meets fmt, with fmt's text TOLD by the authors' own Lean function (tested against real Go, not proved from fmt's source: count such statements apart). THE CARD IS WHAT COUNTS. Prove the row's statement (the work); the ties are given (YtpmfcedhmfgkiaaDoorTie.lean); close each card by the builder's one call (the guide's Derived/Test/ToyasCard.lean, 'card_holds'). Laid BY PROGRAM, IN A SANDBOX (cutbox-door.mjs). By AI agents, Wed Nov 11 2026. No macro, syntax, notation, axiom, sorry.
-/
import Derived.Test.YtpmfcedhmfgkiaaDoorRows
import GoSem.ClaimSeven
namespace Go.Proofs.YtpmfcedhmfgkiaaDoor
namespace Rows

/-- THE TIED CARD OF 'pointillistlaw20.OpFactors'. -/
def opFactorsCard : Claim7 := { stood := { row := opFactorsRow, standIns := [], harness := (true, "45cae2ddbbf23963f82da80f0ed30f8a2bbe128067bd87d141cd0b08fd806dcb"), looks := false }, kinds := [], alts := [], laidByText := true, laidKinds := [.data], laidTests := true, laidLooks := .later }
def OpFactorsCardSaid : Prop := Claim7.holds Tryd.pinned (.plain (OpenSpec.ofChange opFactorsSpec)) opFactorsCard

/-- THE TIED CARD OF 'pointillistlaw20.OpTurns'. -/
def opTurnsCard : Claim7 := { stood := { row := opTurnsRow, standIns := [], harness := (true, "45cae2ddbbf23963f82da80f0ed30f8a2bbe128067bd87d141cd0b08fd806dcb"), looks := false }, kinds := [], alts := [], laidByText := true, laidKinds := [.data], laidTests := true, laidLooks := .later }
def OpTurnsCardSaid : Prop := Claim7.holds Tryd.pinned (.plain (OpenSpec.ofChange opTurnsSpec)) opTurnsCard

/-- THE TIED CARD OF 'pointillistlaw21.BlendPixels'. -/
def blendPixelsCard : Claim7 := { stood := { row := blendPixelsRow, standIns := [], harness := (true, "45cae2ddbbf23963f82da80f0ed30f8a2bbe128067bd87d141cd0b08fd806dcb"), looks := false }, kinds := [], alts := [], laidByText := true, laidKinds := [.data], laidTests := true, laidLooks := .later }
def BlendPixelsCardSaid : Prop := Claim7.holds Tryd.pinned (.plain (OpenSpec.ofChange blendPixelsSpec)) blendPixelsCard

/-- THE TIED CARD OF 'pointillistlaw21.BlendNear'. -/
def blendNearCard : Claim7 := { stood := { row := blendNearRow, standIns := [], harness := (true, "45cae2ddbbf23963f82da80f0ed30f8a2bbe128067bd87d141cd0b08fd806dcb"), looks := false }, kinds := [], alts := [], laidByText := true, laidKinds := [.data], laidTests := true, laidLooks := .later }
def BlendNearCardSaid : Prop := Claim7.holds Tryd.pinned (.plain (OpenSpec.ofChange blendNearSpec)) blendNearCard

/-- THE TIED CARD OF 'pointillistlaw21.BlendPlain'. -/
def blendPlainCard : Claim7 := { stood := { row := blendPlainRow, standIns := [], harness := (true, "45cae2ddbbf23963f82da80f0ed30f8a2bbe128067bd87d141cd0b08fd806dcb"), looks := false }, kinds := [], alts := [], laidByText := true, laidKinds := [.data], laidTests := true, laidLooks := .later }
def BlendPlainCardSaid : Prop := Claim7.holds Tryd.pinned (.plain (OpenSpec.ofChange blendPlainSpec)) blendPlainCard

/-- THE TIED CARD OF 'pointillistlaw21.BlendRises'. -/
def blendRisesCard : Claim7 := { stood := { row := blendRisesRow, standIns := [], harness := (true, "45cae2ddbbf23963f82da80f0ed30f8a2bbe128067bd87d141cd0b08fd806dcb"), looks := false }, kinds := [], alts := [], laidByText := true, laidKinds := [.data], laidTests := true, laidLooks := .later }
def BlendRisesCardSaid : Prop := Claim7.holds Tryd.pinned (.plain (OpenSpec.ofChange blendRisesSpec)) blendRisesCard

/-- THE TIED CARD OF 'pointillistlaw20.OpAll'. -/
def opAllCard : Claim7 := { stood := { row := opAllRow, standIns := [], harness := (true, "45cae2ddbbf23963f82da80f0ed30f8a2bbe128067bd87d141cd0b08fd806dcb"), looks := false }, kinds := [], alts := [], laidByText := true, laidKinds := [.data], laidTests := true, laidLooks := .later }
def OpAllCardSaid : Prop := Claim7.holds Tryd.pinned (.plain (OpenSpec.ofChange opAllSpec)) opAllCard

/-- THE TIED CARD OF 'pointillistlaw20.OpNames'. -/
def opNamesCard : Claim7 := { stood := { row := opNamesRow, standIns := [], harness := (true, "45cae2ddbbf23963f82da80f0ed30f8a2bbe128067bd87d141cd0b08fd806dcb"), looks := false }, kinds := [], alts := [], laidByText := true, laidKinds := [.data], laidTests := true, laidLooks := .later }
def OpNamesCardSaid : Prop := Claim7.holds Tryd.pinned (.plain (OpenSpec.ofChange opNamesSpec)) opNamesCard

/-- THE TIED CARD OF 'pointillistlaw21.BlendRows'. -/
def blendRowsCard : Claim7 := { stood := { row := blendRowsRow, standIns := [], harness := (true, "45cae2ddbbf23963f82da80f0ed30f8a2bbe128067bd87d141cd0b08fd806dcb"), looks := false }, kinds := [], alts := [], laidByText := true, laidKinds := [.data], laidTests := true, laidLooks := .later }
def BlendRowsCardSaid : Prop := Claim7.holds Tryd.pinned (.plain (OpenSpec.ofChange blendRowsSpec)) blendRowsCard

/-- THE SECOND FORM's CARD OF 'pointillistlaw20.OpFactors'. -/
def opFactorsUptoCard : Claim7 := { stood := { row := opFactorsUptoRow, standIns := [], harness := (true, "45cae2ddbbf23963f82da80f0ed30f8a2bbe128067bd87d141cd0b08fd806dcb"), looks := false }, kinds := [], alts := [], laidByText := true, laidKinds := [.data], laidTests := true, laidLooks := .later }
def OpFactorsUptoCardSaid : Prop := Claim7.holds Tryd.pinned (.plain (OpenSpec.upto opFactorsSpec)) opFactorsUptoCard

/-- THE SECOND FORM's CARD OF 'pointillistlaw20.OpTurns'. -/
def opTurnsUptoCard : Claim7 := { stood := { row := opTurnsUptoRow, standIns := [], harness := (true, "45cae2ddbbf23963f82da80f0ed30f8a2bbe128067bd87d141cd0b08fd806dcb"), looks := false }, kinds := [], alts := [], laidByText := true, laidKinds := [.data], laidTests := true, laidLooks := .later }
def OpTurnsUptoCardSaid : Prop := Claim7.holds Tryd.pinned (.plain (OpenSpec.upto opTurnsSpec)) opTurnsUptoCard

/-- THE SECOND FORM's CARD OF 'pointillistlaw21.BlendPixels'. -/
def blendPixelsUptoCard : Claim7 := { stood := { row := blendPixelsUptoRow, standIns := [], harness := (true, "45cae2ddbbf23963f82da80f0ed30f8a2bbe128067bd87d141cd0b08fd806dcb"), looks := false }, kinds := [], alts := [], laidByText := true, laidKinds := [.data], laidTests := true, laidLooks := .later }
def BlendPixelsUptoCardSaid : Prop := Claim7.holds Tryd.pinned (.plain (OpenSpec.upto blendPixelsSpec)) blendPixelsUptoCard

/-- THE SECOND FORM's CARD OF 'pointillistlaw21.BlendNear'. -/
def blendNearUptoCard : Claim7 := { stood := { row := blendNearUptoRow, standIns := [], harness := (true, "45cae2ddbbf23963f82da80f0ed30f8a2bbe128067bd87d141cd0b08fd806dcb"), looks := false }, kinds := [], alts := [], laidByText := true, laidKinds := [.data], laidTests := true, laidLooks := .later }
def BlendNearUptoCardSaid : Prop := Claim7.holds Tryd.pinned (.plain (OpenSpec.upto blendNearSpec)) blendNearUptoCard

/-- THE SECOND FORM's CARD OF 'pointillistlaw21.BlendPlain'. -/
def blendPlainUptoCard : Claim7 := { stood := { row := blendPlainUptoRow, standIns := [], harness := (true, "45cae2ddbbf23963f82da80f0ed30f8a2bbe128067bd87d141cd0b08fd806dcb"), looks := false }, kinds := [], alts := [], laidByText := true, laidKinds := [.data], laidTests := true, laidLooks := .later }
def BlendPlainUptoCardSaid : Prop := Claim7.holds Tryd.pinned (.plain (OpenSpec.upto blendPlainSpec)) blendPlainUptoCard

/-- THE SECOND FORM's CARD OF 'pointillistlaw21.BlendRises'. -/
def blendRisesUptoCard : Claim7 := { stood := { row := blendRisesUptoRow, standIns := [], harness := (true, "45cae2ddbbf23963f82da80f0ed30f8a2bbe128067bd87d141cd0b08fd806dcb"), looks := false }, kinds := [], alts := [], laidByText := true, laidKinds := [.data], laidTests := true, laidLooks := .later }
def BlendRisesUptoCardSaid : Prop := Claim7.holds Tryd.pinned (.plain (OpenSpec.upto blendRisesSpec)) blendRisesUptoCard

/-- THE SECOND FORM's CARD OF 'pointillistlaw20.OpAll'. -/
def opAllUptoCard : Claim7 := { stood := { row := opAllUptoRow, standIns := [], harness := (true, "45cae2ddbbf23963f82da80f0ed30f8a2bbe128067bd87d141cd0b08fd806dcb"), looks := false }, kinds := [], alts := [], laidByText := true, laidKinds := [.data], laidTests := true, laidLooks := .later }
def OpAllUptoCardSaid : Prop := Claim7.holds Tryd.pinned (.plain (OpenSpec.upto opAllSpec)) opAllUptoCard

/-- THE SECOND FORM's CARD OF 'pointillistlaw20.OpNames'. -/
def opNamesUptoCard : Claim7 := { stood := { row := opNamesUptoRow, standIns := [], harness := (true, "45cae2ddbbf23963f82da80f0ed30f8a2bbe128067bd87d141cd0b08fd806dcb"), looks := false }, kinds := [], alts := [], laidByText := true, laidKinds := [.data], laidTests := true, laidLooks := .later }
def OpNamesUptoCardSaid : Prop := Claim7.holds Tryd.pinned (.plain (OpenSpec.upto opNamesSpec)) opNamesUptoCard

/-- THE SECOND FORM's CARD OF 'pointillistlaw21.BlendRows'. -/
def blendRowsUptoCard : Claim7 := { stood := { row := blendRowsUptoRow, standIns := [], harness := (true, "45cae2ddbbf23963f82da80f0ed30f8a2bbe128067bd87d141cd0b08fd806dcb"), looks := false }, kinds := [], alts := [], laidByText := true, laidKinds := [.data], laidTests := true, laidLooks := .later }
def BlendRowsUptoCardSaid : Prop := Claim7.holds Tryd.pinned (.plain (OpenSpec.upto blendRowsSpec)) blendRowsUptoCard
end Rows
end Go.Proofs.YtpmfcedhmfgkiaaDoor
