/-
  DERIVED. GIVEN WITH THE SEED: THE CARDS: each row of YtokhediaibdkjaaDoorRows.lean that lists a variable, with what it lists TIED to the program's text (the seventh form; the later family's looks); each row that meets fmt, with fmt's text TOLD by the authors' own Lean function (tested against real Go, not proved from fmt's source: count such statements apart). THE CARD IS WHAT COUNTS. Prove the row's statement (the work); the ties are given (YtokhediaibdkjaaDoorTie.lean); close each card by the builder's one call (the guide's Derived/Test/ToyasCard.lean, 'card_holds'). Laid BY PROGRAM, IN A SANDBOX (cutbox-door.mjs). By AI agents, Wed Nov 11 2026. No macro, syntax, notation, axiom, sorry.
-/
import Derived.Test.YtokhediaibdkjaaDoorRows
import GoSem.ClaimSeven
namespace Go.Proofs.YtokhediaibdkjaaDoor
namespace Rows

/-- THE TIED CARD OF 'postmarklaw04.Sha256Sums'. -/
def sha256SumsCard : Claim7 := { stood := { row := sha256SumsRow, standIns := [], harness := (true, "659199ea85039e2e5a2fc61864c61b309c1b19d66e0788429a2e2e48435b79d1"), looks := false }, kinds := [], alts := [], laidByText := true, laidKinds := [.data, .data], laidTests := true, laidLooks := .later }
def Sha256SumsCardSaid : Prop := Claim7.holds Tryd.pinned (.plain (OpenSpec.ofChange sha256SumsSpec)) sha256SumsCard

/-- THE TIED CARD OF 'postmarklaw04.Sha256Names'. -/
def sha256NamesCard : Claim7 := { stood := { row := sha256NamesRow, standIns := [], harness := (true, "659199ea85039e2e5a2fc61864c61b309c1b19d66e0788429a2e2e48435b79d1"), looks := false }, kinds := [], alts := [], laidByText := true, laidKinds := [.data, .data], laidTests := true, laidLooks := .later }
def Sha256NamesCardSaid : Prop := Claim7.holds Tryd.pinned (.plain (OpenSpec.ofChange sha256NamesSpec)) sha256NamesCard

/-- THE TIED CARD OF 'postmarklaw04.Sha256Pieces'. -/
def sha256PiecesCard : Claim7 := { stood := { row := sha256PiecesRow, standIns := [], harness := (true, "659199ea85039e2e5a2fc61864c61b309c1b19d66e0788429a2e2e48435b79d1"), looks := false }, kinds := [], alts := [], laidByText := true, laidKinds := [.data, .data], laidTests := true, laidLooks := .later }
def Sha256PiecesCardSaid : Prop := Claim7.holds Tryd.pinned (.plain (OpenSpec.ofChange sha256PiecesSpec)) sha256PiecesCard

/-- THE TIED CARD OF 'postmarklaw19.DiaryPlays'. -/
def diaryPlaysCard : Claim7 := { stood := { row := diaryPlaysRow, standIns := [], harness := (true, "659199ea85039e2e5a2fc61864c61b309c1b19d66e0788429a2e2e48435b79d1"), looks := false }, kinds := [], alts := [], laidByText := true, laidKinds := [.data, .data, .data, .pinned], laidTests := true, laidLooks := .later }
def DiaryPlaysCardSaid : Prop := Claim7.holds Tryd.pinned (.plain (OpenSpec.ofChange diaryPlaysSpec)) diaryPlaysCard

/-- THE TIED CARD OF 'postmarklaw19.DiaryRises'. -/
def diaryRisesCard : Claim7 := { stood := { row := diaryRisesRow, standIns := [], harness := (true, "659199ea85039e2e5a2fc61864c61b309c1b19d66e0788429a2e2e48435b79d1"), looks := false }, kinds := [], alts := [], laidByText := true, laidKinds := [.data, .data, .data, .pinned], laidTests := true, laidLooks := .later }
def DiaryRisesCardSaid : Prop := Claim7.holds Tryd.pinned (.plain (OpenSpec.ofChange diaryRisesSpec)) diaryRisesCard

/-- THE TIED CARD OF 'postmarklaw04.Sha256Copies'. -/
def sha256CopiesCard : Claim7 := { stood := { row := sha256CopiesRow, standIns := [], harness := (true, "659199ea85039e2e5a2fc61864c61b309c1b19d66e0788429a2e2e48435b79d1"), looks := false }, kinds := [], alts := [], laidByText := true, laidKinds := [.data, .data], laidTests := true, laidLooks := .later }
def Sha256CopiesCardSaid : Prop := Claim7.holds Tryd.pinned (.plain (OpenSpec.ofChange sha256CopiesSpec)) sha256CopiesCard

/-- THE TIED CARD OF 'postmarklaw04.Sha256Empty'. -/
def sha256EmptyCard : Claim7 := { stood := { row := sha256EmptyRow, standIns := [], harness := (true, "659199ea85039e2e5a2fc61864c61b309c1b19d66e0788429a2e2e48435b79d1"), looks := false }, kinds := [], alts := [], laidByText := true, laidKinds := [.data, .data], laidTests := true, laidLooks := .later }
def Sha256EmptyCardSaid : Prop := Claim7.holds Tryd.pinned (.plain (OpenSpec.ofChange sha256EmptySpec)) sha256EmptyCard

/-- THE TIED CARD OF 'postmarklaw18.SlotForms'. -/
def slotFormsCard : Claim7 := { stood := { row := slotFormsRow, standIns := [], harness := (true, "659199ea85039e2e5a2fc61864c61b309c1b19d66e0788429a2e2e48435b79d1"), looks := false }, kinds := [], alts := [], laidByText := true, laidKinds := [.data, .data, .data, .pinned], laidTests := true, laidLooks := .later }
def SlotFormsCardSaid : Prop := Claim7.holds Tryd.pinned (.plain (OpenSpec.ofChange slotFormsSpec)) slotFormsCard

/-- THE TIED CARD OF 'postmarklaw18.SlotNames'. -/
def slotNamesCard : Claim7 := { stood := { row := slotNamesRow, standIns := [], harness := (true, "659199ea85039e2e5a2fc61864c61b309c1b19d66e0788429a2e2e48435b79d1"), looks := false }, kinds := [], alts := [], laidByText := true, laidKinds := [.data, .data, .data, .pinned], laidTests := true, laidLooks := .later }
def SlotNamesCardSaid : Prop := Claim7.holds Tryd.pinned (.plain (OpenSpec.ofChange slotNamesSpec)) slotNamesCard

/-- THE TIED CARD OF 'postmarklaw18.SlotBack'. -/
def slotBackCard : Claim7 := { stood := { row := slotBackRow, standIns := [], harness := (true, "659199ea85039e2e5a2fc61864c61b309c1b19d66e0788429a2e2e48435b79d1"), looks := false }, kinds := [], alts := [], laidByText := true, laidKinds := [.data, .data, .data, .pinned], laidTests := true, laidLooks := .later }
def SlotBackCardSaid : Prop := Claim7.holds Tryd.pinned (.plain (OpenSpec.ofChange slotBackSpec)) slotBackCard

/-- THE TIED CARD OF 'postmarklaw18.SlotCrash'. -/
def slotCrashCard : Claim7 := { stood := { row := slotCrashRow, standIns := [], harness := (true, "659199ea85039e2e5a2fc61864c61b309c1b19d66e0788429a2e2e48435b79d1"), looks := false }, kinds := [], alts := [], laidByText := true, laidKinds := [.data, .data, .data, .pinned], laidTests := true, laidLooks := .later }
def SlotCrashCardSaid : Prop := Claim7.holds Tryd.pinned (.plain (OpenSpec.ofChange slotCrashSpec)) slotCrashCard

/-- THE TIED CARD OF 'postmarklaw18.SlotPlays'. -/
def slotPlaysCard : Claim7 := { stood := { row := slotPlaysRow, standIns := [], harness := (true, "659199ea85039e2e5a2fc61864c61b309c1b19d66e0788429a2e2e48435b79d1"), looks := false }, kinds := [], alts := [], laidByText := true, laidKinds := [.data, .data, .data, .pinned], laidTests := true, laidLooks := .later }
def SlotPlaysCardSaid : Prop := Claim7.holds Tryd.pinned (.plain (OpenSpec.ofChange slotPlaysSpec)) slotPlaysCard

/-- THE TIED CARD OF 'postmarklaw19.DiaryNames'. -/
def diaryNamesCard : Claim7 := { stood := { row := diaryNamesRow, standIns := [], harness := (true, "659199ea85039e2e5a2fc61864c61b309c1b19d66e0788429a2e2e48435b79d1"), looks := false }, kinds := [], alts := [], laidByText := true, laidKinds := [.data, .data, .data, .pinned], laidTests := true, laidLooks := .later }
def DiaryNamesCardSaid : Prop := Claim7.holds Tryd.pinned (.plain (OpenSpec.ofChange diaryNamesSpec)) diaryNamesCard

/-- THE TIED CARD OF 'postmarklaw19.DiaryKeeps'. -/
def diaryKeepsCard : Claim7 := { stood := { row := diaryKeepsRow, standIns := [], harness := (true, "659199ea85039e2e5a2fc61864c61b309c1b19d66e0788429a2e2e48435b79d1"), looks := false }, kinds := [], alts := [], laidByText := true, laidKinds := [.data, .data, .data, .pinned], laidTests := true, laidLooks := .later }
def DiaryKeepsCardSaid : Prop := Claim7.holds Tryd.pinned (.plain (OpenSpec.ofChange diaryKeepsSpec)) diaryKeepsCard

/-- THE SECOND FORM's CARD OF 'postmarklaw04.Sha256Sums'. -/
def sha256SumsUptoCard : Claim7 := { stood := { row := sha256SumsUptoRow, standIns := [], harness := (true, "659199ea85039e2e5a2fc61864c61b309c1b19d66e0788429a2e2e48435b79d1"), looks := false }, kinds := [], alts := [], laidByText := true, laidKinds := [.data, .data], laidTests := true, laidLooks := .later }
def Sha256SumsUptoCardSaid : Prop := Claim7.holds Tryd.pinned (.plain (OpenSpec.upto sha256SumsSpec)) sha256SumsUptoCard

/-- THE SECOND FORM's CARD OF 'postmarklaw04.Sha256Names'. -/
def sha256NamesUptoCard : Claim7 := { stood := { row := sha256NamesUptoRow, standIns := [], harness := (true, "659199ea85039e2e5a2fc61864c61b309c1b19d66e0788429a2e2e48435b79d1"), looks := false }, kinds := [], alts := [], laidByText := true, laidKinds := [.data, .data], laidTests := true, laidLooks := .later }
def Sha256NamesUptoCardSaid : Prop := Claim7.holds Tryd.pinned (.plain (OpenSpec.upto sha256NamesSpec)) sha256NamesUptoCard

/-- THE SECOND FORM's CARD OF 'postmarklaw04.Sha256Pieces'. -/
def sha256PiecesUptoCard : Claim7 := { stood := { row := sha256PiecesUptoRow, standIns := [], harness := (true, "659199ea85039e2e5a2fc61864c61b309c1b19d66e0788429a2e2e48435b79d1"), looks := false }, kinds := [], alts := [], laidByText := true, laidKinds := [.data, .data], laidTests := true, laidLooks := .later }
def Sha256PiecesUptoCardSaid : Prop := Claim7.holds Tryd.pinned (.plain (OpenSpec.upto sha256PiecesSpec)) sha256PiecesUptoCard

/-- THE SECOND FORM's CARD OF 'postmarklaw19.DiaryPlays'. -/
def diaryPlaysUptoCard : Claim7 := { stood := { row := diaryPlaysUptoRow, standIns := [], harness := (true, "659199ea85039e2e5a2fc61864c61b309c1b19d66e0788429a2e2e48435b79d1"), looks := false }, kinds := [], alts := [], laidByText := true, laidKinds := [.data, .data, .data, .pinned], laidTests := true, laidLooks := .later }
def DiaryPlaysUptoCardSaid : Prop := Claim7.holds Tryd.pinned (.plain (OpenSpec.upto diaryPlaysSpec)) diaryPlaysUptoCard

/-- THE SECOND FORM's CARD OF 'postmarklaw19.DiaryRises'. -/
def diaryRisesUptoCard : Claim7 := { stood := { row := diaryRisesUptoRow, standIns := [], harness := (true, "659199ea85039e2e5a2fc61864c61b309c1b19d66e0788429a2e2e48435b79d1"), looks := false }, kinds := [], alts := [], laidByText := true, laidKinds := [.data, .data, .data, .pinned], laidTests := true, laidLooks := .later }
def DiaryRisesUptoCardSaid : Prop := Claim7.holds Tryd.pinned (.plain (OpenSpec.upto diaryRisesSpec)) diaryRisesUptoCard

/-- THE SECOND FORM's CARD OF 'postmarklaw04.Sha256Copies'. -/
def sha256CopiesUptoCard : Claim7 := { stood := { row := sha256CopiesUptoRow, standIns := [], harness := (true, "659199ea85039e2e5a2fc61864c61b309c1b19d66e0788429a2e2e48435b79d1"), looks := false }, kinds := [], alts := [], laidByText := true, laidKinds := [.data, .data], laidTests := true, laidLooks := .later }
def Sha256CopiesUptoCardSaid : Prop := Claim7.holds Tryd.pinned (.plain (OpenSpec.upto sha256CopiesSpec)) sha256CopiesUptoCard

/-- THE SECOND FORM's CARD OF 'postmarklaw04.Sha256Empty'. -/
def sha256EmptyUptoCard : Claim7 := { stood := { row := sha256EmptyUptoRow, standIns := [], harness := (true, "659199ea85039e2e5a2fc61864c61b309c1b19d66e0788429a2e2e48435b79d1"), looks := false }, kinds := [], alts := [], laidByText := true, laidKinds := [.data, .data], laidTests := true, laidLooks := .later }
def Sha256EmptyUptoCardSaid : Prop := Claim7.holds Tryd.pinned (.plain (OpenSpec.upto sha256EmptySpec)) sha256EmptyUptoCard

/-- THE SECOND FORM's CARD OF 'postmarklaw18.SlotForms'. -/
def slotFormsUptoCard : Claim7 := { stood := { row := slotFormsUptoRow, standIns := [], harness := (true, "659199ea85039e2e5a2fc61864c61b309c1b19d66e0788429a2e2e48435b79d1"), looks := false }, kinds := [], alts := [], laidByText := true, laidKinds := [.data, .data, .data, .pinned], laidTests := true, laidLooks := .later }
def SlotFormsUptoCardSaid : Prop := Claim7.holds Tryd.pinned (.plain (OpenSpec.upto slotFormsSpec)) slotFormsUptoCard

/-- THE SECOND FORM's CARD OF 'postmarklaw18.SlotNames'. -/
def slotNamesUptoCard : Claim7 := { stood := { row := slotNamesUptoRow, standIns := [], harness := (true, "659199ea85039e2e5a2fc61864c61b309c1b19d66e0788429a2e2e48435b79d1"), looks := false }, kinds := [], alts := [], laidByText := true, laidKinds := [.data, .data, .data, .pinned], laidTests := true, laidLooks := .later }
def SlotNamesUptoCardSaid : Prop := Claim7.holds Tryd.pinned (.plain (OpenSpec.upto slotNamesSpec)) slotNamesUptoCard

/-- THE SECOND FORM's CARD OF 'postmarklaw18.SlotBack'. -/
def slotBackUptoCard : Claim7 := { stood := { row := slotBackUptoRow, standIns := [], harness := (true, "659199ea85039e2e5a2fc61864c61b309c1b19d66e0788429a2e2e48435b79d1"), looks := false }, kinds := [], alts := [], laidByText := true, laidKinds := [.data, .data, .data, .pinned], laidTests := true, laidLooks := .later }
def SlotBackUptoCardSaid : Prop := Claim7.holds Tryd.pinned (.plain (OpenSpec.upto slotBackSpec)) slotBackUptoCard

/-- THE SECOND FORM's CARD OF 'postmarklaw18.SlotCrash'. -/
def slotCrashUptoCard : Claim7 := { stood := { row := slotCrashUptoRow, standIns := [], harness := (true, "659199ea85039e2e5a2fc61864c61b309c1b19d66e0788429a2e2e48435b79d1"), looks := false }, kinds := [], alts := [], laidByText := true, laidKinds := [.data, .data, .data, .pinned], laidTests := true, laidLooks := .later }
def SlotCrashUptoCardSaid : Prop := Claim7.holds Tryd.pinned (.plain (OpenSpec.upto slotCrashSpec)) slotCrashUptoCard

/-- THE SECOND FORM's CARD OF 'postmarklaw18.SlotPlays'. -/
def slotPlaysUptoCard : Claim7 := { stood := { row := slotPlaysUptoRow, standIns := [], harness := (true, "659199ea85039e2e5a2fc61864c61b309c1b19d66e0788429a2e2e48435b79d1"), looks := false }, kinds := [], alts := [], laidByText := true, laidKinds := [.data, .data, .data, .pinned], laidTests := true, laidLooks := .later }
def SlotPlaysUptoCardSaid : Prop := Claim7.holds Tryd.pinned (.plain (OpenSpec.upto slotPlaysSpec)) slotPlaysUptoCard

/-- THE SECOND FORM's CARD OF 'postmarklaw19.DiaryNames'. -/
def diaryNamesUptoCard : Claim7 := { stood := { row := diaryNamesUptoRow, standIns := [], harness := (true, "659199ea85039e2e5a2fc61864c61b309c1b19d66e0788429a2e2e48435b79d1"), looks := false }, kinds := [], alts := [], laidByText := true, laidKinds := [.data, .data, .data, .pinned], laidTests := true, laidLooks := .later }
def DiaryNamesUptoCardSaid : Prop := Claim7.holds Tryd.pinned (.plain (OpenSpec.upto diaryNamesSpec)) diaryNamesUptoCard

/-- THE SECOND FORM's CARD OF 'postmarklaw19.DiaryKeeps'. -/
def diaryKeepsUptoCard : Claim7 := { stood := { row := diaryKeepsUptoRow, standIns := [], harness := (true, "659199ea85039e2e5a2fc61864c61b309c1b19d66e0788429a2e2e48435b79d1"), looks := false }, kinds := [], alts := [], laidByText := true, laidKinds := [.data, .data, .data, .pinned], laidTests := true, laidLooks := .later }
def DiaryKeepsUptoCardSaid : Prop := Claim7.holds Tryd.pinned (.plain (OpenSpec.upto diaryKeepsSpec)) diaryKeepsUptoCard
end Rows
end Go.Proofs.YtokhediaibdkjaaDoor
