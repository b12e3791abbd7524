/- Proved here: facts on the program that the row names; no condition. -/
import Derived.Test.YtlhdliikahebhaaGreatDoorRows
import Derived.LaidByTextLater
import Derived.SevenTiedAt
namespace Go.Proofs.YtlhdliikahebhaaGreatDoor
open Go
set_option maxRecDepth 100000
def laidT : List (String × DataW Unit) := [("strconv.ErrSyntax", Rows.laid_strconv_ErrSyntax), ("strconv.ErrRange", Rows.laid_strconv_ErrRange), ("internal/strconv.uint64pow10", Rows.laid_internal_strconv_uint64pow10), ("math/bits.deBruijn32tab", Rows.laid_math_bits_deBruijn32tab), ("math/bits.deBruijn64tab", Rows.laid_math_bits_deBruijn64tab), ("strings.asciiSpace", Rows.laid_strings_asciiSpace), ("unicode.White_Space", Rows.laid_unicode_White_Space), ("unicode/utf8.acceptRanges", Rows.laid_unicode_utf8_acceptRanges), ("columnseven/pictures.floats", Rows.laid_columnseven_pictures_floats), ("columnseven/edits.shows", Rows.laid_columnseven_edits_shows), ("columnseven/moves.legal", Rows.laid_columnseven_moves_legal)]
def kindsT : List LaidKind := [.sentinel, .sentinel, .data, .data, .data, .data, .listed, .data, .data, .data, .data]
theorem t_hw : Tryz.prog.worded (varsWordLater true) = true := by kernel_rfl
theorem t_hw' : Tryz.prog.worded (varsWordLater !true) = false := by kernel_rfl
theorem t_hroot : Tryz.prog.worded rootWordLater = true := by kernel_rfl
theorem t_hk : laidT.map (fun x => Tryz.prog.kindOfLater x.1) = kindsT.map some := by kernel_rfl
theorem t_hg : Tryz.prog.funcNamed "gosem.cut.vars" = some 661 := by kernel_rfl
theorem t_hn : varsNamedLaterB Tryz.prog 661 laidT = true := by kernel_rfl
theorem t_hp : (laidT.all fun x => x.2.handleName?.isNone) = true := by kernel_rfl
end Go.Proofs.YtlhdliikahebhaaGreatDoor
