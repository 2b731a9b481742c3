/-
  NARROWER THAN 'FOR EVERY INPUT', by the rows' own cells (each row's printed sentence says how): Sha256Sums: laid · Sha256Names: laid · Sha256Pieces: laid · DiaryPlays: laid · DiaryRises: laid · Sha256Copies: laid · Sha256Empty: laid · SlotForms: laid · SlotNames: laid · SlotBack: laid · SlotCrash: laid · SlotPlays: laid · DiaryNames: laid · DiaryKeeps: laid.
  DERIVED. THE GIVEN ROWS OF THIS SEAT. 14 by the template 'for every input the law returns true; each argument reads behind the call as it read before'; 0 by the template 'total and deterministic' (their statements: YtokhediaibdkjaaDoorTotals.lean).
  GIVEN WITH THE SEED: the statements are not yours to turn. If you find one false, say at which input.
  Laid BY PROGRAM, IN A SANDBOX (cutbox-rows.mjs): the forced cells as the released guide's own fill.sh prints them over the translation d19164ed3dcfe5a9… (all of the seat's roots in one cut). By AI agents, Wed Nov 11 2026. No macro, syntax, notation, axiom, sorry.
-/
import Derived.Test.YtokhediaibdkjaaDoorChecked
import GoSem.PinnedTables
import GoSem.Claim
import GoSem.ClaimJoined
import GoSem.ClaimMapViews
import Derived.JoinedTies
import Derived.KernelRfl
namespace Go.Proofs.YtokhediaibdkjaaDoor
/- THE CELL 'sum', in the pinned program and in every row, IS THE sha256 OF THE DUMP (.gsa) THAT YtokhediaibdkjaaDoorProg.lean LOADS. Nothing in Lean hashes anything: it is a label: what it is worth is what the hold of that sum in a sandbox is worth. -/
noncomputable def Tryd.pinned : Pinned := { name := "ytokhediaibdkjaadoor", sum := "d19164ed3dcfe5a989a7a1e8cb0459e76d5986197178b8480fca59ed34583641", checked := Tryd.checked }
namespace Rows
def none {H : Type} : Left H := { results := [], args := [] }

/- WHAT THE LISTED PACKAGE-LEVEL VARIABLES READ AS WHEN THE CALL BEGINS. Each datum BY PROGRAM (the guide's laid-datum.mjs) off the statement by which the dump's own 'gosem.cut.vars' lays the variable. In a bare row this is a premise. The card (YtokhediaibdkjaaDoorCards.lean) ties it to the program's text. -/
def laid_postmark_sha256_cubes {H : Type} : DataW H := .agg [.lit (.int .u32 1116352408), .lit (.int .u32 1899447441), .lit (.int .u32 3049323471), .lit (.int .u32 3921009573), .lit (.int .u32 961987163), .lit (.int .u32 1508970993), .lit (.int .u32 2453635748), .lit (.int .u32 2870763221), .lit (.int .u32 3624381080), .lit (.int .u32 310598401), .lit (.int .u32 607225278), .lit (.int .u32 1426881987), .lit (.int .u32 1925078388), .lit (.int .u32 2162078206), .lit (.int .u32 2614888103), .lit (.int .u32 3248222580), .lit (.int .u32 3835390401), .lit (.int .u32 4022224774), .lit (.int .u32 264347078), .lit (.int .u32 604807628), .lit (.int .u32 770255983), .lit (.int .u32 1249150122), .lit (.int .u32 1555081692), .lit (.int .u32 1996064986), .lit (.int .u32 2554220882), .lit (.int .u32 2821834349), .lit (.int .u32 2952996808), .lit (.int .u32 3210313671), .lit (.int .u32 3336571891), .lit (.int .u32 3584528711), .lit (.int .u32 113926993), .lit (.int .u32 338241895), .lit (.int .u32 666307205), .lit (.int .u32 773529912), .lit (.int .u32 1294757372), .lit (.int .u32 1396182291), .lit (.int .u32 1695183700), .lit (.int .u32 1986661051), .lit (.int .u32 2177026350), .lit (.int .u32 2456956037), .lit (.int .u32 2730485921), .lit (.int .u32 2820302411), .lit (.int .u32 3259730800), .lit (.int .u32 3345764771), .lit (.int .u32 3516065817), .lit (.int .u32 3600352804), .lit (.int .u32 4094571909), .lit (.int .u32 275423344), .lit (.int .u32 430227734), .lit (.int .u32 506948616), .lit (.int .u32 659060556), .lit (.int .u32 883997877), .lit (.int .u32 958139571), .lit (.int .u32 1322822218), .lit (.int .u32 1537002063), .lit (.int .u32 1747873779), .lit (.int .u32 1955562222), .lit (.int .u32 2024104815), .lit (.int .u32 2227730452), .lit (.int .u32 2361852424), .lit (.int .u32 2428436474), .lit (.int .u32 2756734187), .lit (.int .u32 3204031479), .lit (.int .u32 3329325298)]
def laid_postmark_sha256_first {H : Type} : DataW H := .agg [.agg [.lit (.int .u32 3238371032), .lit (.int .u32 914150663), .lit (.int .u32 812702999), .lit (.int .u32 4144912697), .lit (.int .u32 4290775857), .lit (.int .u32 1750603025), .lit (.int .u32 1694076839), .lit (.int .u32 3204075428)], .agg [.lit (.int .u32 1779033703), .lit (.int .u32 3144134277), .lit (.int .u32 1013904242), .lit (.int .u32 2773480762), .lit (.int .u32 1359893119), .lit (.int .u32 2600822924), .lit (.int .u32 528734635), .lit (.int .u32 1541459225)]]
def laid_unicode_utf8_acceptRanges {H : Type} : DataW H := .agg [.agg [.lit (.int .u8 128), .lit (.int .u8 191)], .agg [.lit (.int .u8 160), .lit (.int .u8 191)], .agg [.lit (.int .u8 128), .lit (.int .u8 159)], .agg [.lit (.int .u8 144), .lit (.int .u8 191)], .agg [.lit (.int .u8 128), .lit (.int .u8 143)], .agg [.lit (.int .u8 0), .lit (.int .u8 0)], .agg [.lit (.int .u8 0), .lit (.int .u8 0)], .agg [.lit (.int .u8 0), .lit (.int .u8 0)], .agg [.lit (.int .u8 0), .lit (.int .u8 0)], .agg [.lit (.int .u8 0), .lit (.int .u8 0)], .agg [.lit (.int .u8 0), .lit (.int .u8 0)], .agg [.lit (.int .u8 0), .lit (.int .u8 0)], .agg [.lit (.int .u8 0), .lit (.int .u8 0)], .agg [.lit (.int .u8 0), .lit (.int .u8 0)], .agg [.lit (.int .u8 0), .lit (.int .u8 0)], .agg [.lit (.int .u8 0), .lit (.int .u8 0)]]
/-- One of Go's own tables, pinned by name: the form's constant. -/
def laid_unicode_utf8_first : DataW Unit := Go.Pinned.utf8First

/-- 'postmarklaw04.Sha256Sums': WHATEVER THE INPUT: true; the input reads as it did. -/
def sha256SumsSpec : ChangeSpec := { name := "sha256Sums", fn := fun _ => fun
  | [d1, d2] => { results := [.lit (.bool true)], args := [d1, d2] }
  | _ => none }
def sha256SumsRow : OpenClaim := { program := "ytokhediaibdkjaadoor", sum := "d19164ed3dcfe5a989a7a1e8cb0459e76d5986197178b8480fca59ed34583641", func := "postmark/postmarklaw04.Sha256Sums", spec := "sha256Sums", unfollowed := true, recurses := true, named := ["postmark/sha256.first", "postmark/sha256.cubes"], apart := false, laid := [("postmark/sha256.cubes", laid_postmark_sha256_cubes), ("postmark/sha256.first", laid_postmark_sha256_first)] }
def Sha256SumsSaid : Prop := sha256SumsRow.holds Tryd.pinned (OpenSpec.ofChange sha256SumsSpec)

/-- ITS FALSE NEIGHBOUR: 'it returns false'. Refute it at one input. -/
def sha256SumsWrong : ChangeSpec := { name := "sha256Sums", fn := fun _ => fun
  | [d1, d2] => { results := [.lit (.bool false)], args := [d1, d2] }
  | _ => none }
def Sha256SumsWrongFalsely : Prop := sha256SumsRow.holds Tryd.pinned (OpenSpec.ofChange sha256SumsWrong)

/-- 'postmarklaw04.Sha256Names': WHATEVER THE INPUT: true; the input reads as it did. -/
def sha256NamesSpec : ChangeSpec := { name := "sha256Names", fn := fun _ => fun
  | [] => { results := [.lit (.bool true)], args := [] }
  | _ => none }
def sha256NamesRow : OpenClaim := { program := "ytokhediaibdkjaadoor", sum := "d19164ed3dcfe5a989a7a1e8cb0459e76d5986197178b8480fca59ed34583641", func := "postmark/postmarklaw04.Sha256Names", spec := "sha256Names", inPlace := ["internal/abi.NoEscape"], unfollowed := true, recurses := true, named := ["postmark/sha256.first", "postmark/sha256.cubes"], apart := false, laid := [("postmark/sha256.cubes", laid_postmark_sha256_cubes), ("postmark/sha256.first", laid_postmark_sha256_first)] }
def Sha256NamesSaid : Prop := sha256NamesRow.holds Tryd.pinned (OpenSpec.ofChange sha256NamesSpec)

/-- ITS FALSE NEIGHBOUR: 'it returns false'. Refute it at one input. -/
def sha256NamesWrong : ChangeSpec := { name := "sha256Names", fn := fun _ => fun
  | [] => { results := [.lit (.bool false)], args := [] }
  | _ => none }
def Sha256NamesWrongFalsely : Prop := sha256NamesRow.holds Tryd.pinned (OpenSpec.ofChange sha256NamesWrong)

/-- 'postmarklaw04.Sha256Pieces': WHATEVER THE INPUT: true; the input reads as it did. -/
def sha256PiecesSpec : ChangeSpec := { name := "sha256Pieces", fn := fun _ => fun
  | [d1, d2, d3, d4] => { results := [.lit (.bool true)], args := [d1, d2, d3, d4] }
  | _ => none }
def sha256PiecesRow : OpenClaim := { program := "ytokhediaibdkjaadoor", sum := "d19164ed3dcfe5a989a7a1e8cb0459e76d5986197178b8480fca59ed34583641", func := "postmark/postmarklaw04.Sha256Pieces", spec := "sha256Pieces", inPlace := ["internal/abi.NoEscape"], unfollowed := true, recurses := true, named := ["postmark/sha256.first", "postmark/sha256.cubes"], apart := false, laid := [("postmark/sha256.cubes", laid_postmark_sha256_cubes), ("postmark/sha256.first", laid_postmark_sha256_first)] }
def Sha256PiecesSaid : Prop := sha256PiecesRow.holds Tryd.pinned (OpenSpec.ofChange sha256PiecesSpec)

/-- ITS FALSE NEIGHBOUR: 'it returns false'. Refute it at one input. -/
def sha256PiecesWrong : ChangeSpec := { name := "sha256Pieces", fn := fun _ => fun
  | [d1, d2, d3, d4] => { results := [.lit (.bool false)], args := [d1, d2, d3, d4] }
  | _ => none }
def Sha256PiecesWrongFalsely : Prop := sha256PiecesRow.holds Tryd.pinned (OpenSpec.ofChange sha256PiecesWrong)

/-- 'postmarklaw19.DiaryPlays': WHATEVER THE INPUT: true; the input reads as it did. -/
def diaryPlaysSpec : ChangeSpec := { name := "diaryPlays", fn := fun _ => fun
  | [d1, d2, d3, d4] => { results := [.lit (.bool true)], args := [d1, d2, d3, d4] }
  | _ => none }
def diaryPlaysRow : OpenClaim := { program := "ytokhediaibdkjaadoor", sum := "d19164ed3dcfe5a989a7a1e8cb0459e76d5986197178b8480fca59ed34583641", func := "postmark/postmarklaw19.DiaryPlays", spec := "diaryPlays", unfollowed := true, recurses := true, named := ["unicode/utf8.first", "unicode/utf8.acceptRanges", "postmark/sha256.first", "postmark/sha256.cubes"], apart := false, laid := [("unicode/utf8.acceptRanges", laid_unicode_utf8_acceptRanges), ("postmark/sha256.cubes", laid_postmark_sha256_cubes), ("postmark/sha256.first", laid_postmark_sha256_first), ("unicode/utf8.first", laid_unicode_utf8_first)] }
def DiaryPlaysSaid : Prop := diaryPlaysRow.holds Tryd.pinned (OpenSpec.ofChange diaryPlaysSpec)

/-- ITS FALSE NEIGHBOUR: 'it returns false'. Refute it at one input. -/
def diaryPlaysWrong : ChangeSpec := { name := "diaryPlays", fn := fun _ => fun
  | [d1, d2, d3, d4] => { results := [.lit (.bool false)], args := [d1, d2, d3, d4] }
  | _ => none }
def DiaryPlaysWrongFalsely : Prop := diaryPlaysRow.holds Tryd.pinned (OpenSpec.ofChange diaryPlaysWrong)

/-- 'postmarklaw19.DiaryRises': WHATEVER THE INPUT: true; the input reads as it did. -/
def diaryRisesSpec : ChangeSpec := { name := "diaryRises", fn := fun _ => fun
  | [d1, d2] => { results := [.lit (.bool true)], args := [d1, d2] }
  | _ => none }
def diaryRisesRow : OpenClaim := { program := "ytokhediaibdkjaadoor", sum := "d19164ed3dcfe5a989a7a1e8cb0459e76d5986197178b8480fca59ed34583641", func := "postmark/postmarklaw19.DiaryRises", spec := "diaryRises", unfollowed := true, recurses := true, named := ["unicode/utf8.first", "unicode/utf8.acceptRanges", "postmark/sha256.first", "postmark/sha256.cubes"], apart := false, laid := [("unicode/utf8.acceptRanges", laid_unicode_utf8_acceptRanges), ("postmark/sha256.cubes", laid_postmark_sha256_cubes), ("postmark/sha256.first", laid_postmark_sha256_first), ("unicode/utf8.first", laid_unicode_utf8_first)] }
def DiaryRisesSaid : Prop := diaryRisesRow.holds Tryd.pinned (OpenSpec.ofChange diaryRisesSpec)

/-- ITS FALSE NEIGHBOUR: 'it returns false'. Refute it at one input. -/
def diaryRisesWrong : ChangeSpec := { name := "diaryRises", fn := fun _ => fun
  | [d1, d2] => { results := [.lit (.bool false)], args := [d1, d2] }
  | _ => none }
def DiaryRisesWrongFalsely : Prop := diaryRisesRow.holds Tryd.pinned (OpenSpec.ofChange diaryRisesWrong)

/-- 'postmarklaw04.Sha256Copies': WHATEVER THE INPUT: true; the input reads as it did. -/
def sha256CopiesSpec : ChangeSpec := { name := "sha256Copies", fn := fun _ => fun
  | [d1, d2, d3, d4] => { results := [.lit (.bool true)], args := [d1, d2, d3, d4] }
  | _ => none }
def sha256CopiesRow : OpenClaim := { program := "ytokhediaibdkjaadoor", sum := "d19164ed3dcfe5a989a7a1e8cb0459e76d5986197178b8480fca59ed34583641", func := "postmark/postmarklaw04.Sha256Copies", spec := "sha256Copies", inPlace := ["internal/abi.NoEscape"], unfollowed := true, recurses := true, named := ["postmark/sha256.first", "postmark/sha256.cubes"], apart := false, laid := [("postmark/sha256.cubes", laid_postmark_sha256_cubes), ("postmark/sha256.first", laid_postmark_sha256_first)] }
def Sha256CopiesSaid : Prop := sha256CopiesRow.holds Tryd.pinned (OpenSpec.ofChange sha256CopiesSpec)

/-- ITS FALSE NEIGHBOUR: 'it returns false'. Refute it at one input. -/
def sha256CopiesWrong : ChangeSpec := { name := "sha256Copies", fn := fun _ => fun
  | [d1, d2, d3, d4] => { results := [.lit (.bool false)], args := [d1, d2, d3, d4] }
  | _ => none }
def Sha256CopiesWrongFalsely : Prop := sha256CopiesRow.holds Tryd.pinned (OpenSpec.ofChange sha256CopiesWrong)

/-- 'postmarklaw04.Sha256Empty': WHATEVER THE INPUT: true; the input reads as it did. -/
def sha256EmptySpec : ChangeSpec := { name := "sha256Empty", fn := fun _ => fun
  | [d1, d2, d3] => { results := [.lit (.bool true)], args := [d1, d2, d3] }
  | _ => none }
def sha256EmptyRow : OpenClaim := { program := "ytokhediaibdkjaadoor", sum := "d19164ed3dcfe5a989a7a1e8cb0459e76d5986197178b8480fca59ed34583641", func := "postmark/postmarklaw04.Sha256Empty", spec := "sha256Empty", inPlace := ["internal/abi.NoEscape"], unfollowed := true, recurses := true, named := ["postmark/sha256.first", "postmark/sha256.cubes"], apart := false, laid := [("postmark/sha256.cubes", laid_postmark_sha256_cubes), ("postmark/sha256.first", laid_postmark_sha256_first)] }
def Sha256EmptySaid : Prop := sha256EmptyRow.holds Tryd.pinned (OpenSpec.ofChange sha256EmptySpec)

/-- ITS FALSE NEIGHBOUR: 'it returns false'. Refute it at one input. -/
def sha256EmptyWrong : ChangeSpec := { name := "sha256Empty", fn := fun _ => fun
  | [d1, d2, d3] => { results := [.lit (.bool false)], args := [d1, d2, d3] }
  | _ => none }
def Sha256EmptyWrongFalsely : Prop := sha256EmptyRow.holds Tryd.pinned (OpenSpec.ofChange sha256EmptyWrong)

/-- 'postmarklaw18.SlotForms': WHATEVER THE INPUT: true; the input reads as it did. -/
def slotFormsSpec : ChangeSpec := { name := "slotForms", fn := fun _ => fun
  | [d1, d2] => { results := [.lit (.bool true)], args := [d1, d2] }
  | _ => none }
def slotFormsRow : OpenClaim := { program := "ytokhediaibdkjaadoor", sum := "d19164ed3dcfe5a989a7a1e8cb0459e76d5986197178b8480fca59ed34583641", func := "postmark/postmarklaw18.SlotForms", spec := "slotForms", unfollowed := true, recurses := true, named := ["postmark/sha256.first", "postmark/sha256.cubes", "unicode/utf8.first", "unicode/utf8.acceptRanges"], apart := false, laid := [("unicode/utf8.acceptRanges", laid_unicode_utf8_acceptRanges), ("postmark/sha256.cubes", laid_postmark_sha256_cubes), ("postmark/sha256.first", laid_postmark_sha256_first), ("unicode/utf8.first", laid_unicode_utf8_first)] }
def SlotFormsSaid : Prop := slotFormsRow.holds Tryd.pinned (OpenSpec.ofChange slotFormsSpec)

/-- ITS FALSE NEIGHBOUR: 'it returns false'. Refute it at one input. -/
def slotFormsWrong : ChangeSpec := { name := "slotForms", fn := fun _ => fun
  | [d1, d2] => { results := [.lit (.bool false)], args := [d1, d2] }
  | _ => none }
def SlotFormsWrongFalsely : Prop := slotFormsRow.holds Tryd.pinned (OpenSpec.ofChange slotFormsWrong)

/-- 'postmarklaw18.SlotNames': WHATEVER THE INPUT: true; the input reads as it did. -/
def slotNamesSpec : ChangeSpec := { name := "slotNames", fn := fun _ => fun
  | [] => { results := [.lit (.bool true)], args := [] }
  | _ => none }
def slotNamesRow : OpenClaim := { program := "ytokhediaibdkjaadoor", sum := "d19164ed3dcfe5a989a7a1e8cb0459e76d5986197178b8480fca59ed34583641", func := "postmark/postmarklaw18.SlotNames", spec := "slotNames", unfollowed := true, recurses := true, named := ["unicode/utf8.first", "unicode/utf8.acceptRanges", "postmark/sha256.first", "postmark/sha256.cubes"], apart := false, laid := [("unicode/utf8.acceptRanges", laid_unicode_utf8_acceptRanges), ("postmark/sha256.cubes", laid_postmark_sha256_cubes), ("postmark/sha256.first", laid_postmark_sha256_first), ("unicode/utf8.first", laid_unicode_utf8_first)] }
def SlotNamesSaid : Prop := slotNamesRow.holds Tryd.pinned (OpenSpec.ofChange slotNamesSpec)

/-- ITS FALSE NEIGHBOUR: 'it returns false'. Refute it at one input. -/
def slotNamesWrong : ChangeSpec := { name := "slotNames", fn := fun _ => fun
  | [] => { results := [.lit (.bool false)], args := [] }
  | _ => none }
def SlotNamesWrongFalsely : Prop := slotNamesRow.holds Tryd.pinned (OpenSpec.ofChange slotNamesWrong)

/-- 'postmarklaw18.SlotBack': WHATEVER THE INPUT: true; the input reads as it did. -/
def slotBackSpec : ChangeSpec := { name := "slotBack", fn := fun _ => fun
  | [d1, d2, d3, d4] => { results := [.lit (.bool true)], args := [d1, d2, d3, d4] }
  | _ => none }
def slotBackRow : OpenClaim := { program := "ytokhediaibdkjaadoor", sum := "d19164ed3dcfe5a989a7a1e8cb0459e76d5986197178b8480fca59ed34583641", func := "postmark/postmarklaw18.SlotBack", spec := "slotBack", unfollowed := true, recurses := true, named := ["unicode/utf8.first", "unicode/utf8.acceptRanges", "postmark/sha256.first", "postmark/sha256.cubes"], apart := false, laid := [("unicode/utf8.acceptRanges", laid_unicode_utf8_acceptRanges), ("postmark/sha256.cubes", laid_postmark_sha256_cubes), ("postmark/sha256.first", laid_postmark_sha256_first), ("unicode/utf8.first", laid_unicode_utf8_first)] }
def SlotBackSaid : Prop := slotBackRow.holds Tryd.pinned (OpenSpec.ofChange slotBackSpec)

/-- ITS FALSE NEIGHBOUR: 'it returns false'. Refute it at one input. -/
def slotBackWrong : ChangeSpec := { name := "slotBack", fn := fun _ => fun
  | [d1, d2, d3, d4] => { results := [.lit (.bool false)], args := [d1, d2, d3, d4] }
  | _ => none }
def SlotBackWrongFalsely : Prop := slotBackRow.holds Tryd.pinned (OpenSpec.ofChange slotBackWrong)

/-- 'postmarklaw18.SlotCrash': WHATEVER THE INPUT: true; the input reads as it did. -/
def slotCrashSpec : ChangeSpec := { name := "slotCrash", fn := fun _ => fun
  | [d1, d2, d3, d4, d5] => { results := [.lit (.bool true)], args := [d1, d2, d3, d4, d5] }
  | _ => none }
def slotCrashRow : OpenClaim := { program := "ytokhediaibdkjaadoor", sum := "d19164ed3dcfe5a989a7a1e8cb0459e76d5986197178b8480fca59ed34583641", func := "postmark/postmarklaw18.SlotCrash", spec := "slotCrash", unfollowed := true, recurses := true, named := ["unicode/utf8.first", "unicode/utf8.acceptRanges", "postmark/sha256.first", "postmark/sha256.cubes"], apart := false, laid := [("unicode/utf8.acceptRanges", laid_unicode_utf8_acceptRanges), ("postmark/sha256.cubes", laid_postmark_sha256_cubes), ("postmark/sha256.first", laid_postmark_sha256_first), ("unicode/utf8.first", laid_unicode_utf8_first)] }
def SlotCrashSaid : Prop := slotCrashRow.holds Tryd.pinned (OpenSpec.ofChange slotCrashSpec)

/-- ITS FALSE NEIGHBOUR: 'it returns false'. Refute it at one input. -/
def slotCrashWrong : ChangeSpec := { name := "slotCrash", fn := fun _ => fun
  | [d1, d2, d3, d4, d5] => { results := [.lit (.bool false)], args := [d1, d2, d3, d4, d5] }
  | _ => none }
def SlotCrashWrongFalsely : Prop := slotCrashRow.holds Tryd.pinned (OpenSpec.ofChange slotCrashWrong)

/-- 'postmarklaw18.SlotPlays': WHATEVER THE INPUT: true; the input reads as it did. -/
def slotPlaysSpec : ChangeSpec := { name := "slotPlays", fn := fun _ => fun
  | [d1, d2, d3] => { results := [.lit (.bool true)], args := [d1, d2, d3] }
  | _ => none }
def slotPlaysRow : OpenClaim := { program := "ytokhediaibdkjaadoor", sum := "d19164ed3dcfe5a989a7a1e8cb0459e76d5986197178b8480fca59ed34583641", func := "postmark/postmarklaw18.SlotPlays", spec := "slotPlays", unfollowed := true, recurses := true, named := ["unicode/utf8.first", "unicode/utf8.acceptRanges", "postmark/sha256.first", "postmark/sha256.cubes"], apart := false, laid := [("unicode/utf8.acceptRanges", laid_unicode_utf8_acceptRanges), ("postmark/sha256.cubes", laid_postmark_sha256_cubes), ("postmark/sha256.first", laid_postmark_sha256_first), ("unicode/utf8.first", laid_unicode_utf8_first)] }
def SlotPlaysSaid : Prop := slotPlaysRow.holds Tryd.pinned (OpenSpec.ofChange slotPlaysSpec)

/-- ITS FALSE NEIGHBOUR: 'it returns false'. Refute it at one input. -/
def slotPlaysWrong : ChangeSpec := { name := "slotPlays", fn := fun _ => fun
  | [d1, d2, d3] => { results := [.lit (.bool false)], args := [d1, d2, d3] }
  | _ => none }
def SlotPlaysWrongFalsely : Prop := slotPlaysRow.holds Tryd.pinned (OpenSpec.ofChange slotPlaysWrong)

/-- 'postmarklaw19.DiaryNames': WHATEVER THE INPUT: true; the input reads as it did. -/
def diaryNamesSpec : ChangeSpec := { name := "diaryNames", fn := fun _ => fun
  | [] => { results := [.lit (.bool true)], args := [] }
  | _ => none }
def diaryNamesRow : OpenClaim := { program := "ytokhediaibdkjaadoor", sum := "d19164ed3dcfe5a989a7a1e8cb0459e76d5986197178b8480fca59ed34583641", func := "postmark/postmarklaw19.DiaryNames", spec := "diaryNames", unfollowed := true, recurses := true, named := ["unicode/utf8.first", "unicode/utf8.acceptRanges", "postmark/sha256.first", "postmark/sha256.cubes"], apart := false, laid := [("unicode/utf8.acceptRanges", laid_unicode_utf8_acceptRanges), ("postmark/sha256.cubes", laid_postmark_sha256_cubes), ("postmark/sha256.first", laid_postmark_sha256_first), ("unicode/utf8.first", laid_unicode_utf8_first)] }
def DiaryNamesSaid : Prop := diaryNamesRow.holds Tryd.pinned (OpenSpec.ofChange diaryNamesSpec)

/-- ITS FALSE NEIGHBOUR: 'it returns false'. Refute it at one input. -/
def diaryNamesWrong : ChangeSpec := { name := "diaryNames", fn := fun _ => fun
  | [] => { results := [.lit (.bool false)], args := [] }
  | _ => none }
def DiaryNamesWrongFalsely : Prop := diaryNamesRow.holds Tryd.pinned (OpenSpec.ofChange diaryNamesWrong)

/-- 'postmarklaw19.DiaryKeeps': WHATEVER THE INPUT: true; the input reads as it did. -/
def diaryKeepsSpec : ChangeSpec := { name := "diaryKeeps", fn := fun _ => fun
  | [d1, d2, d3, d4] => { results := [.lit (.bool true)], args := [d1, d2, d3, d4] }
  | _ => none }
def diaryKeepsRow : OpenClaim := { program := "ytokhediaibdkjaadoor", sum := "d19164ed3dcfe5a989a7a1e8cb0459e76d5986197178b8480fca59ed34583641", func := "postmark/postmarklaw19.DiaryKeeps", spec := "diaryKeeps", unfollowed := true, recurses := true, named := ["unicode/utf8.first", "unicode/utf8.acceptRanges", "postmark/sha256.first", "postmark/sha256.cubes"], apart := false, laid := [("unicode/utf8.acceptRanges", laid_unicode_utf8_acceptRanges), ("postmark/sha256.cubes", laid_postmark_sha256_cubes), ("postmark/sha256.first", laid_postmark_sha256_first), ("unicode/utf8.first", laid_unicode_utf8_first)] }
def DiaryKeepsSaid : Prop := diaryKeepsRow.holds Tryd.pinned (OpenSpec.ofChange diaryKeepsSpec)

/-- ITS FALSE NEIGHBOUR: 'it returns false'. Refute it at one input. -/
def diaryKeepsWrong : ChangeSpec := { name := "diaryKeeps", fn := fun _ => fun
  | [d1, d2, d3, d4] => { results := [.lit (.bool false)], args := [d1, d2, d3, d4] }
  | _ => none }
def DiaryKeepsWrongFalsely : Prop := diaryKeepsRow.holds Tryd.pinned (OpenSpec.ofChange diaryKeepsWrong)

/- THE SECOND FORM. 'bulk': how many values and letters a reading holds, each counted each time it is reached (what is shared counts as often as it is met; a slice's spare places count too). A statement '..UptoSaid' is the law's where the arguments, and the package variables that the reading takes, are together of bulk at most 1048576: NARROWER than '..Said'. Prove '..Said' where nothing that the law and all that it calls make is longer than what came in: it says more and counts as full. Else prove '..UptoSaid'. A law counts once. -/
mutual
def uptoBulk {H : Type} : DataW H → Nat
  | .lit (.string bytes) => bytes.length + 1
  | .lit _ => 1
  | .nil => 1
  | .ptr d => uptoBulk d + 1
  | .slice elems spare => uptoBulkAll elems + uptoBulkAll spare + 1
  | .agg parts => uptoBulkAll parts + 1
  | .iface _ d => uptoBulk d + 1
  | .map entries => uptoBulkEntries entries + 1
  | .held _ => 1
def uptoBulkAll {H : Type} : List (DataW H) → Nat
  | [] => 0
  | d :: r => uptoBulk d + uptoBulkAll r
def uptoBulkEntries {H : Type} : List (Lit × DataW H) → Nat
  | [] => 0
  | x :: r => uptoBulkEntry x + uptoBulkEntries r
def uptoBulkEntry {H : Type} : Lit × DataW H → Nat
  | (.string bytes, d) => bytes.length + uptoBulk d + 1
  | (_, d) => uptoBulk d + 1
 end
def uptoSmall : (H : Type) → List (DataW H) → Bool := fun _ ds => decide (uptoBulkAll ds ≤ 1048576)
def OpenSpec.upto (s : _root_.Go.ChangeSpec) : _root_.Go.OpenSpec := { _root_.Go.OpenSpec.ofChange s with cond := some uptoSmall }

/-- 'postmarklaw04.Sha256Sums', WHERE WHAT IT READS IS OF BULK AT MOST 1048576: true; the input reads as it did. -/
def sha256SumsUptoRow : OpenClaim := { program := "ytokhediaibdkjaadoor", sum := "d19164ed3dcfe5a989a7a1e8cb0459e76d5986197178b8480fca59ed34583641", func := "postmark/postmarklaw04.Sha256Sums", spec := "sha256Sums", unfollowed := true, recurses := true, named := ["postmark/sha256.first", "postmark/sha256.cubes"], apart := false, laid := [("postmark/sha256.cubes", laid_postmark_sha256_cubes), ("postmark/sha256.first", laid_postmark_sha256_first)], narrowed := true }
def Sha256SumsUptoSaid : Prop := sha256SumsUptoRow.holds Tryd.pinned (OpenSpec.upto sha256SumsSpec)

/-- 'postmarklaw04.Sha256Names', WHERE WHAT IT READS IS OF BULK AT MOST 1048576: true; the input reads as it did. -/
def sha256NamesUptoRow : OpenClaim := { program := "ytokhediaibdkjaadoor", sum := "d19164ed3dcfe5a989a7a1e8cb0459e76d5986197178b8480fca59ed34583641", func := "postmark/postmarklaw04.Sha256Names", spec := "sha256Names", inPlace := ["internal/abi.NoEscape"], unfollowed := true, recurses := true, named := ["postmark/sha256.first", "postmark/sha256.cubes"], apart := false, laid := [("postmark/sha256.cubes", laid_postmark_sha256_cubes), ("postmark/sha256.first", laid_postmark_sha256_first)], narrowed := true }
def Sha256NamesUptoSaid : Prop := sha256NamesUptoRow.holds Tryd.pinned (OpenSpec.upto sha256NamesSpec)

/-- 'postmarklaw04.Sha256Pieces', WHERE WHAT IT READS IS OF BULK AT MOST 1048576: true; the input reads as it did. -/
def sha256PiecesUptoRow : OpenClaim := { program := "ytokhediaibdkjaadoor", sum := "d19164ed3dcfe5a989a7a1e8cb0459e76d5986197178b8480fca59ed34583641", func := "postmark/postmarklaw04.Sha256Pieces", spec := "sha256Pieces", inPlace := ["internal/abi.NoEscape"], unfollowed := true, recurses := true, named := ["postmark/sha256.first", "postmark/sha256.cubes"], apart := false, laid := [("postmark/sha256.cubes", laid_postmark_sha256_cubes), ("postmark/sha256.first", laid_postmark_sha256_first)], narrowed := true }
def Sha256PiecesUptoSaid : Prop := sha256PiecesUptoRow.holds Tryd.pinned (OpenSpec.upto sha256PiecesSpec)

/-- 'postmarklaw19.DiaryPlays', WHERE WHAT IT READS IS OF BULK AT MOST 1048576: true; the input reads as it did. -/
def diaryPlaysUptoRow : OpenClaim := { program := "ytokhediaibdkjaadoor", sum := "d19164ed3dcfe5a989a7a1e8cb0459e76d5986197178b8480fca59ed34583641", func := "postmark/postmarklaw19.DiaryPlays", spec := "diaryPlays", unfollowed := true, recurses := true, named := ["unicode/utf8.first", "unicode/utf8.acceptRanges", "postmark/sha256.first", "postmark/sha256.cubes"], apart := false, laid := [("unicode/utf8.acceptRanges", laid_unicode_utf8_acceptRanges), ("postmark/sha256.cubes", laid_postmark_sha256_cubes), ("postmark/sha256.first", laid_postmark_sha256_first), ("unicode/utf8.first", laid_unicode_utf8_first)], narrowed := true }
def DiaryPlaysUptoSaid : Prop := diaryPlaysUptoRow.holds Tryd.pinned (OpenSpec.upto diaryPlaysSpec)

/-- 'postmarklaw19.DiaryRises', WHERE WHAT IT READS IS OF BULK AT MOST 1048576: true; the input reads as it did. -/
def diaryRisesUptoRow : OpenClaim := { program := "ytokhediaibdkjaadoor", sum := "d19164ed3dcfe5a989a7a1e8cb0459e76d5986197178b8480fca59ed34583641", func := "postmark/postmarklaw19.DiaryRises", spec := "diaryRises", unfollowed := true, recurses := true, named := ["unicode/utf8.first", "unicode/utf8.acceptRanges", "postmark/sha256.first", "postmark/sha256.cubes"], apart := false, laid := [("unicode/utf8.acceptRanges", laid_unicode_utf8_acceptRanges), ("postmark/sha256.cubes", laid_postmark_sha256_cubes), ("postmark/sha256.first", laid_postmark_sha256_first), ("unicode/utf8.first", laid_unicode_utf8_first)], narrowed := true }
def DiaryRisesUptoSaid : Prop := diaryRisesUptoRow.holds Tryd.pinned (OpenSpec.upto diaryRisesSpec)

/-- 'postmarklaw04.Sha256Copies', WHERE WHAT IT READS IS OF BULK AT MOST 1048576: true; the input reads as it did. -/
def sha256CopiesUptoRow : OpenClaim := { program := "ytokhediaibdkjaadoor", sum := "d19164ed3dcfe5a989a7a1e8cb0459e76d5986197178b8480fca59ed34583641", func := "postmark/postmarklaw04.Sha256Copies", spec := "sha256Copies", inPlace := ["internal/abi.NoEscape"], unfollowed := true, recurses := true, named := ["postmark/sha256.first", "postmark/sha256.cubes"], apart := false, laid := [("postmark/sha256.cubes", laid_postmark_sha256_cubes), ("postmark/sha256.first", laid_postmark_sha256_first)], narrowed := true }
def Sha256CopiesUptoSaid : Prop := sha256CopiesUptoRow.holds Tryd.pinned (OpenSpec.upto sha256CopiesSpec)

/-- 'postmarklaw04.Sha256Empty', WHERE WHAT IT READS IS OF BULK AT MOST 1048576: true; the input reads as it did. -/
def sha256EmptyUptoRow : OpenClaim := { program := "ytokhediaibdkjaadoor", sum := "d19164ed3dcfe5a989a7a1e8cb0459e76d5986197178b8480fca59ed34583641", func := "postmark/postmarklaw04.Sha256Empty", spec := "sha256Empty", inPlace := ["internal/abi.NoEscape"], unfollowed := true, recurses := true, named := ["postmark/sha256.first", "postmark/sha256.cubes"], apart := false, laid := [("postmark/sha256.cubes", laid_postmark_sha256_cubes), ("postmark/sha256.first", laid_postmark_sha256_first)], narrowed := true }
def Sha256EmptyUptoSaid : Prop := sha256EmptyUptoRow.holds Tryd.pinned (OpenSpec.upto sha256EmptySpec)

/-- 'postmarklaw18.SlotForms', WHERE WHAT IT READS IS OF BULK AT MOST 1048576: true; the input reads as it did. -/
def slotFormsUptoRow : OpenClaim := { program := "ytokhediaibdkjaadoor", sum := "d19164ed3dcfe5a989a7a1e8cb0459e76d5986197178b8480fca59ed34583641", func := "postmark/postmarklaw18.SlotForms", spec := "slotForms", unfollowed := true, recurses := true, named := ["postmark/sha256.first", "postmark/sha256.cubes", "unicode/utf8.first", "unicode/utf8.acceptRanges"], apart := false, laid := [("unicode/utf8.acceptRanges", laid_unicode_utf8_acceptRanges), ("postmark/sha256.cubes", laid_postmark_sha256_cubes), ("postmark/sha256.first", laid_postmark_sha256_first), ("unicode/utf8.first", laid_unicode_utf8_first)], narrowed := true }
def SlotFormsUptoSaid : Prop := slotFormsUptoRow.holds Tryd.pinned (OpenSpec.upto slotFormsSpec)

/-- 'postmarklaw18.SlotNames', WHERE WHAT IT READS IS OF BULK AT MOST 1048576: true; the input reads as it did. -/
def slotNamesUptoRow : OpenClaim := { program := "ytokhediaibdkjaadoor", sum := "d19164ed3dcfe5a989a7a1e8cb0459e76d5986197178b8480fca59ed34583641", func := "postmark/postmarklaw18.SlotNames", spec := "slotNames", unfollowed := true, recurses := true, named := ["unicode/utf8.first", "unicode/utf8.acceptRanges", "postmark/sha256.first", "postmark/sha256.cubes"], apart := false, laid := [("unicode/utf8.acceptRanges", laid_unicode_utf8_acceptRanges), ("postmark/sha256.cubes", laid_postmark_sha256_cubes), ("postmark/sha256.first", laid_postmark_sha256_first), ("unicode/utf8.first", laid_unicode_utf8_first)], narrowed := true }
def SlotNamesUptoSaid : Prop := slotNamesUptoRow.holds Tryd.pinned (OpenSpec.upto slotNamesSpec)

/-- 'postmarklaw18.SlotBack', WHERE WHAT IT READS IS OF BULK AT MOST 1048576: true; the input reads as it did. -/
def slotBackUptoRow : OpenClaim := { program := "ytokhediaibdkjaadoor", sum := "d19164ed3dcfe5a989a7a1e8cb0459e76d5986197178b8480fca59ed34583641", func := "postmark/postmarklaw18.SlotBack", spec := "slotBack", unfollowed := true, recurses := true, named := ["unicode/utf8.first", "unicode/utf8.acceptRanges", "postmark/sha256.first", "postmark/sha256.cubes"], apart := false, laid := [("unicode/utf8.acceptRanges", laid_unicode_utf8_acceptRanges), ("postmark/sha256.cubes", laid_postmark_sha256_cubes), ("postmark/sha256.first", laid_postmark_sha256_first), ("unicode/utf8.first", laid_unicode_utf8_first)], narrowed := true }
def SlotBackUptoSaid : Prop := slotBackUptoRow.holds Tryd.pinned (OpenSpec.upto slotBackSpec)

/-- 'postmarklaw18.SlotCrash', WHERE WHAT IT READS IS OF BULK AT MOST 1048576: true; the input reads as it did. -/
def slotCrashUptoRow : OpenClaim := { program := "ytokhediaibdkjaadoor", sum := "d19164ed3dcfe5a989a7a1e8cb0459e76d5986197178b8480fca59ed34583641", func := "postmark/postmarklaw18.SlotCrash", spec := "slotCrash", unfollowed := true, recurses := true, named := ["unicode/utf8.first", "unicode/utf8.acceptRanges", "postmark/sha256.first", "postmark/sha256.cubes"], apart := false, laid := [("unicode/utf8.acceptRanges", laid_unicode_utf8_acceptRanges), ("postmark/sha256.cubes", laid_postmark_sha256_cubes), ("postmark/sha256.first", laid_postmark_sha256_first), ("unicode/utf8.first", laid_unicode_utf8_first)], narrowed := true }
def SlotCrashUptoSaid : Prop := slotCrashUptoRow.holds Tryd.pinned (OpenSpec.upto slotCrashSpec)

/-- 'postmarklaw18.SlotPlays', WHERE WHAT IT READS IS OF BULK AT MOST 1048576: true; the input reads as it did. -/
def slotPlaysUptoRow : OpenClaim := { program := "ytokhediaibdkjaadoor", sum := "d19164ed3dcfe5a989a7a1e8cb0459e76d5986197178b8480fca59ed34583641", func := "postmark/postmarklaw18.SlotPlays", spec := "slotPlays", unfollowed := true, recurses := true, named := ["unicode/utf8.first", "unicode/utf8.acceptRanges", "postmark/sha256.first", "postmark/sha256.cubes"], apart := false, laid := [("unicode/utf8.acceptRanges", laid_unicode_utf8_acceptRanges), ("postmark/sha256.cubes", laid_postmark_sha256_cubes), ("postmark/sha256.first", laid_postmark_sha256_first), ("unicode/utf8.first", laid_unicode_utf8_first)], narrowed := true }
def SlotPlaysUptoSaid : Prop := slotPlaysUptoRow.holds Tryd.pinned (OpenSpec.upto slotPlaysSpec)

/-- 'postmarklaw19.DiaryNames', WHERE WHAT IT READS IS OF BULK AT MOST 1048576: true; the input reads as it did. -/
def diaryNamesUptoRow : OpenClaim := { program := "ytokhediaibdkjaadoor", sum := "d19164ed3dcfe5a989a7a1e8cb0459e76d5986197178b8480fca59ed34583641", func := "postmark/postmarklaw19.DiaryNames", spec := "diaryNames", unfollowed := true, recurses := true, named := ["unicode/utf8.first", "unicode/utf8.acceptRanges", "postmark/sha256.first", "postmark/sha256.cubes"], apart := false, laid := [("unicode/utf8.acceptRanges", laid_unicode_utf8_acceptRanges), ("postmark/sha256.cubes", laid_postmark_sha256_cubes), ("postmark/sha256.first", laid_postmark_sha256_first), ("unicode/utf8.first", laid_unicode_utf8_first)], narrowed := true }
def DiaryNamesUptoSaid : Prop := diaryNamesUptoRow.holds Tryd.pinned (OpenSpec.upto diaryNamesSpec)

/-- 'postmarklaw19.DiaryKeeps', WHERE WHAT IT READS IS OF BULK AT MOST 1048576: true; the input reads as it did. -/
def diaryKeepsUptoRow : OpenClaim := { program := "ytokhediaibdkjaadoor", sum := "d19164ed3dcfe5a989a7a1e8cb0459e76d5986197178b8480fca59ed34583641", func := "postmark/postmarklaw19.DiaryKeeps", spec := "diaryKeeps", unfollowed := true, recurses := true, named := ["unicode/utf8.first", "unicode/utf8.acceptRanges", "postmark/sha256.first", "postmark/sha256.cubes"], apart := false, laid := [("unicode/utf8.acceptRanges", laid_unicode_utf8_acceptRanges), ("postmark/sha256.cubes", laid_postmark_sha256_cubes), ("postmark/sha256.first", laid_postmark_sha256_first), ("unicode/utf8.first", laid_unicode_utf8_first)], narrowed := true }
def DiaryKeepsUptoSaid : Prop := diaryKeepsUptoRow.holds Tryd.pinned (OpenSpec.upto diaryKeepsSpec)

end Rows
end Go.Proofs.YtokhediaibdkjaaDoor
