import Derived.Test.YtgkolnknobgcmaaGreatProg
import Derived.KernelRfl
import Derived.Shelf.Strings.IndexAnyAll
import Derived.Shelf.Strings.Cut
import Derived.Shelf.Strings.Search3
import Derived.Shelf.Strings.Runes
import Derived.Shelf.Small.Strs
import Derived.Shelf.Small.Utf8
import Derived.Laws.RangeAny
import Derived.Test.YtgkolnknobgcmaaGreatPa2
/-! VTypes, C02, C03, C04, SH, C05, C06, C07, C08 -/
section
namespace Go.Proofs.YtgkolnknobgcmaaGreat
open Go Go.Proofs.YtgkolnknobgcmaaGreatV
theorem ty1 : ty Tryz.prog 1 = some (false, 1) := by kernel_rfl
theorem ty2 : ty Tryz.prog 2 = some (false, 1) := by kernel_rfl
theorem zero2 : tzero Tryz.prog 2 = some [.int .i64 0] := by kernel_rfl
theorem ty3 : ty Tryz.prog 3 = some (false, 1) := by kernel_rfl
theorem zero3 : tzero Tryz.prog 3 = some [.int .i64 0] := by kernel_rfl
theorem ty4 : ty Tryz.prog 4 = some (false, 1) := by kernel_rfl
theorem zero4 : tzero Tryz.prog 4 = some [.bool false] := by kernel_rfl
theorem ty5 : ty Tryz.prog 5 = some (false, 1) := by kernel_rfl
theorem zero5 : tzero Tryz.prog 5 = some [.int .u8 0] := by kernel_rfl
theorem ty6 : ty Tryz.prog 6 = some (false, 1) := by kernel_rfl
theorem zero6 : tzero Tryz.prog 6 = some [.int .u8 0] := by kernel_rfl
theorem ty7 : ty Tryz.prog 7 = some (true, 4) := by kernel_rfl
theorem fld7_0 : fld Tryz.prog 7 0 = some (0, false, 1) := by kernel_rfl
theorem fld7_1 : fld Tryz.prog 7 1 = some (1, false, 1) := by kernel_rfl
theorem fld7_2 : fld Tryz.prog 7 2 = some (2, false, 1) := by kernel_rfl
theorem fld7_3 : fld Tryz.prog 7 3 = some (3, false, 1) := by kernel_rfl
theorem flds7 : flds Tryz.prog 7 = some [(0, 1), (1, 1), (2, 1), (3, 1)] := by kernel_rfl
theorem elt7 : elt Tryz.prog 7 = none := by kernel_rfl
theorem zero7 : tzero Tryz.prog 7 = some [.int .i64 0, .int .i64 0, .bool false, .int .u8 0] := by kernel_rfl
theorem ty8 : ty Tryz.prog 8 = some (true, 4) := by kernel_rfl
theorem fld8_0 : fld Tryz.prog 8 0 = some (0, false, 1) := by kernel_rfl
theorem fld8_1 : fld Tryz.prog 8 1 = some (1, false, 1) := by kernel_rfl
theorem fld8_2 : fld Tryz.prog 8 2 = some (2, false, 1) := by kernel_rfl
theorem fld8_3 : fld Tryz.prog 8 3 = some (3, false, 1) := by kernel_rfl
theorem flds8 : flds Tryz.prog 8 = some [(0, 1), (1, 1), (2, 1), (3, 1)] := by kernel_rfl
theorem elt8 : elt Tryz.prog 8 = none := by kernel_rfl
theorem zero8 : tzero Tryz.prog 8 = some [.int .i64 0, .int .i64 0, .bool false, .int .u8 0] := by kernel_rfl
theorem ty9 : ty Tryz.prog 9 = some (false, 1) := by kernel_rfl
theorem zero9 : tzero Tryz.prog 9 = some [.string ⟨#[]⟩] := by kernel_rfl
theorem ty10 : ty Tryz.prog 10 = some (false, 1) := by kernel_rfl
theorem zero10 : tzero Tryz.prog 10 = some [.string ⟨#[]⟩] := by kernel_rfl
theorem ty11 : ty Tryz.prog 11 = some (false, 1) := by kernel_rfl
theorem zero11 : tzero Tryz.prog 11 = some [.string ⟨#[]⟩] := by kernel_rfl
theorem ty12 : ty Tryz.prog 12 = some (false, 1) := by kernel_rfl
theorem zero12 : tzero Tryz.prog 12 = some [.int .u64 0] := by kernel_rfl
theorem ty13 : ty Tryz.prog 13 = some (true, 2) := by kernel_rfl
theorem fld13_0 : fld Tryz.prog 13 0 = some (0, false, 1) := by kernel_rfl
theorem fld13_1 : fld Tryz.prog 13 1 = some (1, false, 1) := by kernel_rfl
theorem flds13 : flds Tryz.prog 13 = some [(0, 1), (1, 1)] := by kernel_rfl
theorem elt13 : elt Tryz.prog 13 = none := by kernel_rfl
theorem zero13 : tzero Tryz.prog 13 = some [.string ⟨#[]⟩, .int .u64 0] := by kernel_rfl
theorem ty14 : ty Tryz.prog 14 = some (true, 2) := by kernel_rfl
theorem fld14_0 : fld Tryz.prog 14 0 = some (0, false, 1) := by kernel_rfl
theorem fld14_1 : fld Tryz.prog 14 1 = some (1, false, 1) := by kernel_rfl
theorem flds14 : flds Tryz.prog 14 = some [(0, 1), (1, 1)] := by kernel_rfl
theorem elt14 : elt Tryz.prog 14 = none := by kernel_rfl
theorem zero14 : tzero Tryz.prog 14 = some [.string ⟨#[]⟩, .int .u64 0] := by kernel_rfl
theorem ty15 : ty Tryz.prog 15 = some (false, 1) := by kernel_rfl
theorem zero15 : tzero Tryz.prog 15 = some [.pointer none] := by kernel_rfl
theorem ty16 : ty Tryz.prog 16 = some (false, 1) := by kernel_rfl
theorem zero16 : tzero Tryz.prog 16 = some [.pointer none] := by kernel_rfl
theorem ty17 : ty Tryz.prog 17 = some (false, 1) := by kernel_rfl
theorem zero17 : tzero Tryz.prog 17 = some [.pointer none] := by kernel_rfl
theorem ty18 : ty Tryz.prog 18 = some (true, 1) := by kernel_rfl
theorem fld18_0 : fld Tryz.prog 18 0 = some (0, false, 1) := by kernel_rfl
theorem flds18 : flds Tryz.prog 18 = some [(0, 1)] := by kernel_rfl
theorem elt18 : elt Tryz.prog 18 = none := by kernel_rfl
theorem zero18 : tzero Tryz.prog 18 = some [.pointer none] := by kernel_rfl
theorem ty19 : ty Tryz.prog 19 = some (true, 1) := by kernel_rfl
theorem fld19_0 : fld Tryz.prog 19 0 = some (0, false, 1) := by kernel_rfl
theorem flds19 : flds Tryz.prog 19 = some [(0, 1)] := by kernel_rfl
theorem elt19 : elt Tryz.prog 19 = none := by kernel_rfl
theorem zero19 : tzero Tryz.prog 19 = some [.pointer none] := by kernel_rfl
theorem ty20 : ty Tryz.prog 20 = some (false, 1) := by kernel_rfl
theorem zero20 : tzero Tryz.prog 20 = some [.nilIface] := by kernel_rfl
theorem ty21 : ty Tryz.prog 21 = some (false, 1) := by kernel_rfl
theorem zero21 : tzero Tryz.prog 21 = some [.int .i32 0] := by kernel_rfl
theorem ty22 : ty Tryz.prog 22 = some (false, 1) := by kernel_rfl
theorem elt22 : elt Tryz.prog 22 = some (none, true, 5) := by kernel_rfl
theorem einf22 : eInfo Tryz.prog 22 = some (5, 80, [.int .i64 0, .slice none 0 0, .slice none 0 0, .string ⟨#[]⟩, .int .i64 0]) := by kernel_rfl
theorem zero22 : tzero Tryz.prog 22 = some [.slice none 0 0] := by kernel_rfl
theorem ty23 : ty Tryz.prog 23 = some (false, 1) := by kernel_rfl
theorem ty24 : ty Tryz.prog 24 = some (false, 1) := by kernel_rfl
theorem ty25 : ty Tryz.prog 25 = some (false, 1) := by kernel_rfl
theorem zero25 : tzero Tryz.prog 25 = some [.pointer none] := by kernel_rfl
theorem ty26 : ty Tryz.prog 26 = some (false, 1) := by kernel_rfl
theorem ty27 : ty Tryz.prog 27 = some (true, 12) := by kernel_rfl
theorem elt27 : elt Tryz.prog 27 = some (some 12, false, 1) := by kernel_rfl
theorem flds27 : flds Tryz.prog 27 = none := by kernel_rfl
theorem zero27 : tzero Tryz.prog 27 = some [.int .i64 0, .int .i64 0, .int .i64 0, .int .i64 0, .int .i64 0, .int .i64 0, .int .i64 0, .int .i64 0, .int .i64 0, .int .i64 0, .int .i64 0, .int .i64 0] := by kernel_rfl
theorem ty28 : ty Tryz.prog 28 = some (true, 12) := by kernel_rfl
theorem elt28 : elt Tryz.prog 28 = some (some 12, false, 1) := by kernel_rfl
theorem flds28 : flds Tryz.prog 28 = none := by kernel_rfl
theorem zero28 : tzero Tryz.prog 28 = some [.int .i64 0, .int .i64 0, .int .i64 0, .int .i64 0, .int .i64 0, .int .i64 0, .int .i64 0, .int .i64 0, .int .i64 0, .int .i64 0, .int .i64 0, .int .i64 0] := by kernel_rfl
theorem ty29 : ty Tryz.prog 29 = some (false, 1) := by kernel_rfl
theorem elt29 : elt Tryz.prog 29 = some (none, true, 9) := by kernel_rfl
theorem einf29 : eInfo Tryz.prog 29 = some (9, 96, [.int .i64 0, .int .u8 0, .string ⟨#[]⟩, .string ⟨#[]⟩, .string ⟨#[]⟩, .int .i64 0, .int .i64 0, .int .i64 0, .int .i64 0]) := by kernel_rfl
theorem zero29 : tzero Tryz.prog 29 = some [.slice none 0 0] := by kernel_rfl
theorem ty30 : ty Tryz.prog 30 = some (false, 1) := by kernel_rfl
theorem elt30 : elt Tryz.prog 30 = some (none, false, 1) := by kernel_rfl
theorem einf30 : eInfo Tryz.prog 30 = some (1, 8, [.int .i64 0]) := by kernel_rfl
theorem zero30 : tzero Tryz.prog 30 = some [.slice none 0 0] := by kernel_rfl
theorem ty31 : ty Tryz.prog 31 = some (true, 3) := by kernel_rfl
theorem fld31_0 : fld Tryz.prog 31 0 = some (0, false, 1) := by kernel_rfl
theorem fld31_1 : fld Tryz.prog 31 1 = some (1, false, 1) := by kernel_rfl
theorem fld31_2 : fld Tryz.prog 31 2 = some (2, false, 1) := by kernel_rfl
theorem flds31 : flds Tryz.prog 31 = some [(0, 1), (1, 1), (2, 1)] := by kernel_rfl
theorem elt31 : elt Tryz.prog 31 = none := by kernel_rfl
theorem zero31 : tzero Tryz.prog 31 = some [.int .i64 0, .slice none 0 0, .slice none 0 0] := by kernel_rfl
theorem ty32 : ty Tryz.prog 32 = some (true, 3) := by kernel_rfl
theorem fld32_0 : fld Tryz.prog 32 0 = some (0, false, 1) := by kernel_rfl
theorem fld32_1 : fld Tryz.prog 32 1 = some (1, false, 1) := by kernel_rfl
theorem fld32_2 : fld Tryz.prog 32 2 = some (2, false, 1) := by kernel_rfl
theorem flds32 : flds Tryz.prog 32 = some [(0, 1), (1, 1), (2, 1)] := by kernel_rfl
theorem elt32 : elt Tryz.prog 32 = none := by kernel_rfl
theorem zero32 : tzero Tryz.prog 32 = some [.int .i64 0, .slice none 0 0, .slice none 0 0] := by kernel_rfl
theorem ty33 : ty Tryz.prog 33 = some (true, 5) := by kernel_rfl
theorem fld33_0 : fld Tryz.prog 33 0 = some (0, true, 3) := by kernel_rfl
theorem fld33_1 : fld Tryz.prog 33 1 = some (3, false, 1) := by kernel_rfl
theorem fld33_2 : fld Tryz.prog 33 2 = some (4, false, 1) := by kernel_rfl
theorem flds33 : flds Tryz.prog 33 = some [(0, 3), (3, 1), (4, 1)] := by kernel_rfl
theorem elt33 : elt Tryz.prog 33 = none := by kernel_rfl
theorem zero33 : tzero Tryz.prog 33 = some [.int .i64 0, .slice none 0 0, .slice none 0 0, .string ⟨#[]⟩, .int .i64 0] := by kernel_rfl
theorem ty34 : ty Tryz.prog 34 = some (true, 5) := by kernel_rfl
theorem fld34_0 : fld Tryz.prog 34 0 = some (0, true, 3) := by kernel_rfl
theorem fld34_1 : fld Tryz.prog 34 1 = some (3, false, 1) := by kernel_rfl
theorem fld34_2 : fld Tryz.prog 34 2 = some (4, false, 1) := by kernel_rfl
theorem flds34 : flds Tryz.prog 34 = some [(0, 3), (3, 1), (4, 1)] := by kernel_rfl
theorem elt34 : elt Tryz.prog 34 = none := by kernel_rfl
theorem zero34 : tzero Tryz.prog 34 = some [.int .i64 0, .slice none 0 0, .slice none 0 0, .string ⟨#[]⟩, .int .i64 0] := by kernel_rfl
theorem ty35 : ty Tryz.prog 35 = some (false, 1) := by kernel_rfl
theorem ty36 : ty Tryz.prog 36 = some (false, 1) := by kernel_rfl
theorem zero36 : tzero Tryz.prog 36 = some [.int .i64 0] := by kernel_rfl
theorem ty37 : ty Tryz.prog 37 = some (false, 1) := by kernel_rfl
theorem elt37 : elt Tryz.prog 37 = some (none, true, 9) := by kernel_rfl
theorem einf37 : eInfo Tryz.prog 37 = some (9, 96, [.int .i64 0, .int .u8 0, .string ⟨#[]⟩, .string ⟨#[]⟩, .string ⟨#[]⟩, .int .i64 0, .int .i64 0, .int .i64 0, .int .i64 0]) := by kernel_rfl
theorem zero37 : tzero Tryz.prog 37 = some [.slice none 0 0] := by kernel_rfl
theorem ty38 : ty Tryz.prog 38 = some (true, 3) := by kernel_rfl
theorem fld38_0 : fld Tryz.prog 38 0 = some (0, false, 1) := by kernel_rfl
theorem fld38_1 : fld Tryz.prog 38 1 = some (1, false, 1) := by kernel_rfl
theorem fld38_2 : fld Tryz.prog 38 2 = some (2, false, 1) := by kernel_rfl
theorem flds38 : flds Tryz.prog 38 = some [(0, 1), (1, 1), (2, 1)] := by kernel_rfl
theorem elt38 : elt Tryz.prog 38 = none := by kernel_rfl
theorem zero38 : tzero Tryz.prog 38 = some [.int .i64 0, .slice none 0 0, .slice none 0 0] := by kernel_rfl
theorem ty39 : ty Tryz.prog 39 = some (true, 3) := by kernel_rfl
theorem fld39_0 : fld Tryz.prog 39 0 = some (0, false, 1) := by kernel_rfl
theorem fld39_1 : fld Tryz.prog 39 1 = some (1, false, 1) := by kernel_rfl
theorem fld39_2 : fld Tryz.prog 39 2 = some (2, false, 1) := by kernel_rfl
theorem flds39 : flds Tryz.prog 39 = some [(0, 1), (1, 1), (2, 1)] := by kernel_rfl
theorem elt39 : elt Tryz.prog 39 = none := by kernel_rfl
theorem zero39 : tzero Tryz.prog 39 = some [.int .i64 0, .slice none 0 0, .slice none 0 0] := by kernel_rfl
theorem ty40 : ty Tryz.prog 40 = some (false, 1) := by kernel_rfl
theorem ty41 : ty Tryz.prog 41 = some (false, 1) := by kernel_rfl
theorem ty42 : ty Tryz.prog 42 = some (false, 1) := by kernel_rfl
theorem ty44 : ty Tryz.prog 44 = some (false, 1) := by kernel_rfl
theorem ty45 : ty Tryz.prog 45 = some (false, 1) := by kernel_rfl
theorem ty46 : ty Tryz.prog 46 = some (false, 1) := by kernel_rfl
theorem elt46 : elt Tryz.prog 46 = some (none, true, 2) := by kernel_rfl
theorem einf46 : eInfo Tryz.prog 46 = some (2, 24, [.string ⟨#[]⟩, .int .i64 0]) := by kernel_rfl
theorem zero46 : tzero Tryz.prog 46 = some [.slice none 0 0] := by kernel_rfl
theorem ty47 : ty Tryz.prog 47 = some (false, 1) := by kernel_rfl
theorem ty48 : ty Tryz.prog 48 = some (false, 1) := by kernel_rfl
theorem elt48 : elt Tryz.prog 48 = some (none, false, 1) := by kernel_rfl
theorem einf48 : eInfo Tryz.prog 48 = some (1, 16, [.string ⟨#[]⟩]) := by kernel_rfl
theorem zero48 : tzero Tryz.prog 48 = some [.slice none 0 0] := by kernel_rfl
theorem ty49 : ty Tryz.prog 49 = some (false, 1) := by kernel_rfl
theorem ty50 : ty Tryz.prog 50 = some (false, 1) := by kernel_rfl
theorem ty51 : ty Tryz.prog 51 = some (true, 2) := by kernel_rfl
theorem fld51_0 : fld Tryz.prog 51 0 = some (0, false, 1) := by kernel_rfl
theorem fld51_1 : fld Tryz.prog 51 1 = some (1, false, 1) := by kernel_rfl
theorem flds51 : flds Tryz.prog 51 = some [(0, 1), (1, 1)] := by kernel_rfl
theorem elt51 : elt Tryz.prog 51 = none := by kernel_rfl
theorem zero51 : tzero Tryz.prog 51 = some [.string ⟨#[]⟩, .int .i64 0] := by kernel_rfl
theorem ty52 : ty Tryz.prog 52 = some (true, 2) := by kernel_rfl
theorem fld52_0 : fld Tryz.prog 52 0 = some (0, false, 1) := by kernel_rfl
theorem fld52_1 : fld Tryz.prog 52 1 = some (1, false, 1) := by kernel_rfl
theorem flds52 : flds Tryz.prog 52 = some [(0, 1), (1, 1)] := by kernel_rfl
theorem elt52 : elt Tryz.prog 52 = none := by kernel_rfl
theorem zero52 : tzero Tryz.prog 52 = some [.string ⟨#[]⟩, .int .i64 0] := by kernel_rfl
theorem ty53 : ty Tryz.prog 53 = some (false, 1) := by kernel_rfl
theorem ty54 : ty Tryz.prog 54 = some (false, 1) := by kernel_rfl
theorem ty55 : ty Tryz.prog 55 = some (false, 1) := by kernel_rfl
theorem ty56 : ty Tryz.prog 56 = some (false, 1) := by kernel_rfl
theorem ty57 : ty Tryz.prog 57 = some (false, 1) := by kernel_rfl
theorem zero57 : tzero Tryz.prog 57 = some [.int .u32 0] := by kernel_rfl
theorem ty58 : ty Tryz.prog 58 = some (false, 1) := by kernel_rfl
theorem ty59 : ty Tryz.prog 59 = some (false, 1) := by kernel_rfl
theorem elt59 : elt Tryz.prog 59 = some (none, true, 8) := by kernel_rfl
theorem einf59 : eInfo Tryz.prog 59 = some (8, 88, [.int .u8 0, .string ⟨#[]⟩, .string ⟨#[]⟩, .string ⟨#[]⟩, .int .i64 0, .int .i64 0, .int .i64 0, .int .i64 0]) := by kernel_rfl
theorem zero59 : tzero Tryz.prog 59 = some [.slice none 0 0] := by kernel_rfl
theorem ty60 : ty Tryz.prog 60 = some (false, 1) := by kernel_rfl
theorem elt60 : elt Tryz.prog 60 = some (none, true, 8) := by kernel_rfl
theorem einf60 : eInfo Tryz.prog 60 = some (8, 88, [.int .u8 0, .string ⟨#[]⟩, .string ⟨#[]⟩, .string ⟨#[]⟩, .int .i64 0, .int .i64 0, .int .i64 0, .int .i64 0]) := by kernel_rfl
theorem zero60 : tzero Tryz.prog 60 = some [.slice none 0 0] := by kernel_rfl
theorem ty61 : ty Tryz.prog 61 = some (false, 1) := by kernel_rfl
theorem ty62 : ty Tryz.prog 62 = some (true, 8) := by kernel_rfl
theorem fld62_0 : fld Tryz.prog 62 0 = some (0, false, 1) := by kernel_rfl
theorem fld62_1 : fld Tryz.prog 62 1 = some (1, false, 1) := by kernel_rfl
theorem fld62_2 : fld Tryz.prog 62 2 = some (2, false, 1) := by kernel_rfl
theorem fld62_3 : fld Tryz.prog 62 3 = some (3, false, 1) := by kernel_rfl
theorem fld62_4 : fld Tryz.prog 62 4 = some (4, false, 1) := by kernel_rfl
theorem fld62_5 : fld Tryz.prog 62 5 = some (5, false, 1) := by kernel_rfl
theorem fld62_6 : fld Tryz.prog 62 6 = some (6, false, 1) := by kernel_rfl
theorem fld62_7 : fld Tryz.prog 62 7 = some (7, false, 1) := by kernel_rfl
theorem flds62 : flds Tryz.prog 62 = some [(0, 1), (1, 1), (2, 1), (3, 1), (4, 1), (5, 1), (6, 1), (7, 1)] := by kernel_rfl
theorem elt62 : elt Tryz.prog 62 = none := by kernel_rfl
theorem zero62 : tzero Tryz.prog 62 = some [.int .u8 0, .string ⟨#[]⟩, .string ⟨#[]⟩, .string ⟨#[]⟩, .int .i64 0, .int .i64 0, .int .i64 0, .int .i64 0] := by kernel_rfl
theorem ty63 : ty Tryz.prog 63 = some (true, 8) := by kernel_rfl
theorem fld63_0 : fld Tryz.prog 63 0 = some (0, false, 1) := by kernel_rfl
theorem fld63_1 : fld Tryz.prog 63 1 = some (1, false, 1) := by kernel_rfl
theorem fld63_2 : fld Tryz.prog 63 2 = some (2, false, 1) := by kernel_rfl
theorem fld63_3 : fld Tryz.prog 63 3 = some (3, false, 1) := by kernel_rfl
theorem fld63_4 : fld Tryz.prog 63 4 = some (4, false, 1) := by kernel_rfl
theorem fld63_5 : fld Tryz.prog 63 5 = some (5, false, 1) := by kernel_rfl
theorem fld63_6 : fld Tryz.prog 63 6 = some (6, false, 1) := by kernel_rfl
theorem fld63_7 : fld Tryz.prog 63 7 = some (7, false, 1) := by kernel_rfl
theorem flds63 : flds Tryz.prog 63 = some [(0, 1), (1, 1), (2, 1), (3, 1), (4, 1), (5, 1), (6, 1), (7, 1)] := by kernel_rfl
theorem elt63 : elt Tryz.prog 63 = none := by kernel_rfl
theorem zero63 : tzero Tryz.prog 63 = some [.int .u8 0, .string ⟨#[]⟩, .string ⟨#[]⟩, .string ⟨#[]⟩, .int .i64 0, .int .i64 0, .int .i64 0, .int .i64 0] := by kernel_rfl
theorem ty64 : ty Tryz.prog 64 = some (true, 8) := by kernel_rfl
theorem fld64_0 : fld Tryz.prog 64 0 = some (0, false, 1) := by kernel_rfl
theorem fld64_1 : fld Tryz.prog 64 1 = some (1, false, 1) := by kernel_rfl
theorem fld64_2 : fld Tryz.prog 64 2 = some (2, false, 1) := by kernel_rfl
theorem fld64_3 : fld Tryz.prog 64 3 = some (3, false, 1) := by kernel_rfl
theorem fld64_4 : fld Tryz.prog 64 4 = some (4, false, 1) := by kernel_rfl
theorem fld64_5 : fld Tryz.prog 64 5 = some (5, false, 1) := by kernel_rfl
theorem fld64_6 : fld Tryz.prog 64 6 = some (6, false, 1) := by kernel_rfl
theorem fld64_7 : fld Tryz.prog 64 7 = some (7, false, 1) := by kernel_rfl
theorem flds64 : flds Tryz.prog 64 = some [(0, 1), (1, 1), (2, 1), (3, 1), (4, 1), (5, 1), (6, 1), (7, 1)] := by kernel_rfl
theorem elt64 : elt Tryz.prog 64 = none := by kernel_rfl
theorem zero64 : tzero Tryz.prog 64 = some [.int .u8 0, .string ⟨#[]⟩, .string ⟨#[]⟩, .string ⟨#[]⟩, .int .i64 0, .int .i64 0, .int .i64 0, .int .i64 0] := by kernel_rfl
theorem ty65 : ty Tryz.prog 65 = some (true, 9) := by kernel_rfl
theorem fld65_0 : fld Tryz.prog 65 0 = some (0, false, 1) := by kernel_rfl
theorem fld65_1 : fld Tryz.prog 65 1 = some (1, true, 8) := by kernel_rfl
theorem flds65 : flds Tryz.prog 65 = some [(0, 1), (1, 8)] := by kernel_rfl
theorem elt65 : elt Tryz.prog 65 = none := by kernel_rfl
theorem zero65 : tzero Tryz.prog 65 = some [.int .i64 0, .int .u8 0, .string ⟨#[]⟩, .string ⟨#[]⟩, .string ⟨#[]⟩, .int .i64 0, .int .i64 0, .int .i64 0, .int .i64 0] := by kernel_rfl
theorem ty66 : ty Tryz.prog 66 = some (true, 9) := by kernel_rfl
theorem fld66_0 : fld Tryz.prog 66 0 = some (0, false, 1) := by kernel_rfl
theorem fld66_1 : fld Tryz.prog 66 1 = some (1, true, 8) := by kernel_rfl
theorem flds66 : flds Tryz.prog 66 = some [(0, 1), (1, 8)] := by kernel_rfl
theorem elt66 : elt Tryz.prog 66 = none := by kernel_rfl
theorem zero66 : tzero Tryz.prog 66 = some [.int .i64 0, .int .u8 0, .string ⟨#[]⟩, .string ⟨#[]⟩, .string ⟨#[]⟩, .int .i64 0, .int .i64 0, .int .i64 0, .int .i64 0] := by kernel_rfl
theorem ty67 : ty Tryz.prog 67 = some (false, 1) := by kernel_rfl
theorem ty69 : ty Tryz.prog 69 = some (false, 1) := by kernel_rfl
theorem ty70 : ty Tryz.prog 70 = some (false, 1) := by kernel_rfl
theorem ty71 : ty Tryz.prog 71 = some (false, 1) := by kernel_rfl
theorem elt71 : elt Tryz.prog 71 = some (none, true, 5) := by kernel_rfl
theorem einf71 : eInfo Tryz.prog 71 = some (5, 48, [.string ⟨#[]⟩, .bool false, .int .i64 0, .int .i64 0, .int .i64 0]) := by kernel_rfl
theorem zero71 : tzero Tryz.prog 71 = some [.slice none 0 0] := by kernel_rfl
theorem ty72 : ty Tryz.prog 72 = some (true, 4) := by kernel_rfl
theorem fld72_0 : fld Tryz.prog 72 0 = some (0, false, 1) := by kernel_rfl
theorem fld72_1 : fld Tryz.prog 72 1 = some (1, false, 1) := by kernel_rfl
theorem fld72_2 : fld Tryz.prog 72 2 = some (2, false, 1) := by kernel_rfl
theorem fld72_3 : fld Tryz.prog 72 3 = some (3, false, 1) := by kernel_rfl
theorem flds72 : flds Tryz.prog 72 = some [(0, 1), (1, 1), (2, 1), (3, 1)] := by kernel_rfl
theorem elt72 : elt Tryz.prog 72 = none := by kernel_rfl
theorem zero72 : tzero Tryz.prog 72 = some [.bool false, .bool false, .string ⟨#[]⟩, .int .i64 0] := by kernel_rfl
theorem ty73 : ty Tryz.prog 73 = some (true, 4) := by kernel_rfl
theorem fld73_0 : fld Tryz.prog 73 0 = some (0, false, 1) := by kernel_rfl
theorem fld73_1 : fld Tryz.prog 73 1 = some (1, false, 1) := by kernel_rfl
theorem fld73_2 : fld Tryz.prog 73 2 = some (2, false, 1) := by kernel_rfl
theorem fld73_3 : fld Tryz.prog 73 3 = some (3, false, 1) := by kernel_rfl
theorem flds73 : flds Tryz.prog 73 = some [(0, 1), (1, 1), (2, 1), (3, 1)] := by kernel_rfl
theorem elt73 : elt Tryz.prog 73 = none := by kernel_rfl
theorem zero73 : tzero Tryz.prog 73 = some [.bool false, .bool false, .string ⟨#[]⟩, .int .i64 0] := by kernel_rfl
theorem ty74 : ty Tryz.prog 74 = some (true, 7) := by kernel_rfl
theorem fld74_0 : fld Tryz.prog 74 0 = some (0, false, 1) := by kernel_rfl
theorem fld74_1 : fld Tryz.prog 74 1 = some (1, true, 4) := by kernel_rfl
theorem fld74_2 : fld Tryz.prog 74 2 = some (5, false, 1) := by kernel_rfl
theorem fld74_3 : fld Tryz.prog 74 3 = some (6, false, 1) := by kernel_rfl
theorem flds74 : flds Tryz.prog 74 = some [(0, 1), (1, 4), (5, 1), (6, 1)] := by kernel_rfl
theorem elt74 : elt Tryz.prog 74 = none := by kernel_rfl
theorem zero74 : tzero Tryz.prog 74 = some [.slice none 0 0, .bool false, .bool false, .string ⟨#[]⟩, .int .i64 0, .int .i64 0, .int .i64 0] := by kernel_rfl
theorem ty75 : ty Tryz.prog 75 = some (true, 7) := by kernel_rfl
theorem fld75_0 : fld Tryz.prog 75 0 = some (0, false, 1) := by kernel_rfl
theorem fld75_1 : fld Tryz.prog 75 1 = some (1, true, 4) := by kernel_rfl
theorem fld75_2 : fld Tryz.prog 75 2 = some (5, false, 1) := by kernel_rfl
theorem fld75_3 : fld Tryz.prog 75 3 = some (6, false, 1) := by kernel_rfl
theorem flds75 : flds Tryz.prog 75 = some [(0, 1), (1, 4), (5, 1), (6, 1)] := by kernel_rfl
theorem elt75 : elt Tryz.prog 75 = none := by kernel_rfl
theorem zero75 : tzero Tryz.prog 75 = some [.slice none 0 0, .bool false, .bool false, .string ⟨#[]⟩, .int .i64 0, .int .i64 0, .int .i64 0] := by kernel_rfl
theorem ty76 : ty Tryz.prog 76 = some (true, 4) := by kernel_rfl
theorem fld76_0 : fld Tryz.prog 76 0 = some (0, false, 1) := by kernel_rfl
theorem fld76_1 : fld Tryz.prog 76 1 = some (1, false, 1) := by kernel_rfl
theorem fld76_2 : fld Tryz.prog 76 2 = some (2, false, 1) := by kernel_rfl
theorem fld76_3 : fld Tryz.prog 76 3 = some (3, false, 1) := by kernel_rfl
theorem flds76 : flds Tryz.prog 76 = some [(0, 1), (1, 1), (2, 1), (3, 1)] := by kernel_rfl
theorem elt76 : elt Tryz.prog 76 = none := by kernel_rfl
theorem zero76 : tzero Tryz.prog 76 = some [.bool false, .int .i64 0, .int .i64 0, .int .i64 0] := by kernel_rfl
theorem ty77 : ty Tryz.prog 77 = some (true, 4) := by kernel_rfl
theorem fld77_0 : fld Tryz.prog 77 0 = some (0, false, 1) := by kernel_rfl
theorem fld77_1 : fld Tryz.prog 77 1 = some (1, false, 1) := by kernel_rfl
theorem fld77_2 : fld Tryz.prog 77 2 = some (2, false, 1) := by kernel_rfl
theorem fld77_3 : fld Tryz.prog 77 3 = some (3, false, 1) := by kernel_rfl
theorem flds77 : flds Tryz.prog 77 = some [(0, 1), (1, 1), (2, 1), (3, 1)] := by kernel_rfl
theorem elt77 : elt Tryz.prog 77 = none := by kernel_rfl
theorem zero77 : tzero Tryz.prog 77 = some [.bool false, .int .i64 0, .int .i64 0, .int .i64 0] := by kernel_rfl
theorem ty78 : ty Tryz.prog 78 = some (true, 5) := by kernel_rfl
theorem fld78_0 : fld Tryz.prog 78 0 = some (0, false, 1) := by kernel_rfl
theorem fld78_1 : fld Tryz.prog 78 1 = some (1, true, 4) := by kernel_rfl
theorem flds78 : flds Tryz.prog 78 = some [(0, 1), (1, 4)] := by kernel_rfl
theorem elt78 : elt Tryz.prog 78 = none := by kernel_rfl
theorem zero78 : tzero Tryz.prog 78 = some [.string ⟨#[]⟩, .bool false, .int .i64 0, .int .i64 0, .int .i64 0] := by kernel_rfl
theorem ty79 : ty Tryz.prog 79 = some (true, 5) := by kernel_rfl
theorem fld79_0 : fld Tryz.prog 79 0 = some (0, false, 1) := by kernel_rfl
theorem fld79_1 : fld Tryz.prog 79 1 = some (1, true, 4) := by kernel_rfl
theorem flds79 : flds Tryz.prog 79 = some [(0, 1), (1, 4)] := by kernel_rfl
theorem elt79 : elt Tryz.prog 79 = none := by kernel_rfl
theorem zero79 : tzero Tryz.prog 79 = some [.string ⟨#[]⟩, .bool false, .int .i64 0, .int .i64 0, .int .i64 0] := by kernel_rfl
theorem ty80 : ty Tryz.prog 80 = some (false, 1) := by kernel_rfl
theorem ty81 : ty Tryz.prog 81 = some (false, 1) := by kernel_rfl
theorem elt81 : elt Tryz.prog 81 = some (none, true, 5) := by kernel_rfl
theorem einf81 : eInfo Tryz.prog 81 = some (5, 48, [.string ⟨#[]⟩, .bool false, .int .i64 0, .int .i64 0, .int .i64 0]) := by kernel_rfl
theorem zero81 : tzero Tryz.prog 81 = some [.slice none 0 0] := by kernel_rfl
theorem ty82 : ty Tryz.prog 82 = some (false, 1) := by kernel_rfl
theorem elt82 : elt Tryz.prog 82 = some (none, true, 5) := by kernel_rfl
theorem einf82 : eInfo Tryz.prog 82 = some (5, 48, [.string ⟨#[]⟩, .bool false, .int .i64 0, .int .i64 0, .int .i64 0]) := by kernel_rfl
theorem zero82 : tzero Tryz.prog 82 = some [.slice none 0 0] := by kernel_rfl
theorem ty83 : ty Tryz.prog 83 = some (true, 4) := by kernel_rfl
theorem fld83_0 : fld Tryz.prog 83 0 = some (0, false, 1) := by kernel_rfl
theorem fld83_1 : fld Tryz.prog 83 1 = some (1, false, 1) := by kernel_rfl
theorem fld83_2 : fld Tryz.prog 83 2 = some (2, false, 1) := by kernel_rfl
theorem fld83_3 : fld Tryz.prog 83 3 = some (3, false, 1) := by kernel_rfl
theorem flds83 : flds Tryz.prog 83 = some [(0, 1), (1, 1), (2, 1), (3, 1)] := by kernel_rfl
theorem elt83 : elt Tryz.prog 83 = none := by kernel_rfl
theorem zero83 : tzero Tryz.prog 83 = some [.bool false, .bool false, .string ⟨#[]⟩, .int .i64 0] := by kernel_rfl
theorem ty84 : ty Tryz.prog 84 = some (true, 7) := by kernel_rfl
theorem fld84_0 : fld Tryz.prog 84 0 = some (0, false, 1) := by kernel_rfl
theorem fld84_1 : fld Tryz.prog 84 1 = some (1, true, 4) := by kernel_rfl
theorem fld84_2 : fld Tryz.prog 84 2 = some (5, false, 1) := by kernel_rfl
theorem fld84_3 : fld Tryz.prog 84 3 = some (6, false, 1) := by kernel_rfl
theorem flds84 : flds Tryz.prog 84 = some [(0, 1), (1, 4), (5, 1), (6, 1)] := by kernel_rfl
theorem elt84 : elt Tryz.prog 84 = none := by kernel_rfl
theorem zero84 : tzero Tryz.prog 84 = some [.slice none 0 0, .bool false, .bool false, .string ⟨#[]⟩, .int .i64 0, .int .i64 0, .int .i64 0] := by kernel_rfl
theorem ty85 : ty Tryz.prog 85 = some (true, 7) := by kernel_rfl
theorem fld85_0 : fld Tryz.prog 85 0 = some (0, false, 1) := by kernel_rfl
theorem fld85_1 : fld Tryz.prog 85 1 = some (1, true, 4) := by kernel_rfl
theorem fld85_2 : fld Tryz.prog 85 2 = some (5, false, 1) := by kernel_rfl
theorem fld85_3 : fld Tryz.prog 85 3 = some (6, false, 1) := by kernel_rfl
theorem flds85 : flds Tryz.prog 85 = some [(0, 1), (1, 4), (5, 1), (6, 1)] := by kernel_rfl
theorem elt85 : elt Tryz.prog 85 = none := by kernel_rfl
theorem zero85 : tzero Tryz.prog 85 = some [.slice none 0 0, .bool false, .bool false, .string ⟨#[]⟩, .int .i64 0, .int .i64 0, .int .i64 0] := by kernel_rfl
theorem ty86 : ty Tryz.prog 86 = some (false, 1) := by kernel_rfl
theorem ty87 : ty Tryz.prog 87 = some (false, 1) := by kernel_rfl
theorem ty88 : ty Tryz.prog 88 = some (false, 1) := by kernel_rfl
theorem ty89 : ty Tryz.prog 89 = some (false, 1) := by kernel_rfl
theorem ty90 : ty Tryz.prog 90 = some (true, 4) := by kernel_rfl
theorem fld90_0 : fld Tryz.prog 90 0 = some (0, false, 1) := by kernel_rfl
theorem fld90_1 : fld Tryz.prog 90 1 = some (1, false, 1) := by kernel_rfl
theorem fld90_2 : fld Tryz.prog 90 2 = some (2, false, 1) := by kernel_rfl
theorem fld90_3 : fld Tryz.prog 90 3 = some (3, false, 1) := by kernel_rfl
theorem flds90 : flds Tryz.prog 90 = some [(0, 1), (1, 1), (2, 1), (3, 1)] := by kernel_rfl
theorem elt90 : elt Tryz.prog 90 = none := by kernel_rfl
theorem zero90 : tzero Tryz.prog 90 = some [.bool false, .int .i64 0, .int .i64 0, .int .i64 0] := by kernel_rfl
theorem ty91 : ty Tryz.prog 91 = some (false, 1) := by kernel_rfl
theorem ty92 : ty Tryz.prog 92 = some (false, 1) := by kernel_rfl
theorem ty93 : ty Tryz.prog 93 = some (false, 1) := by kernel_rfl
theorem ty94 : ty Tryz.prog 94 = some (false, 1) := by kernel_rfl
theorem ty95 : ty Tryz.prog 95 = some (false, 1) := by kernel_rfl
theorem ty96 : ty Tryz.prog 96 = some (false, 1) := by kernel_rfl
theorem ty97 : ty Tryz.prog 97 = some (false, 1) := by kernel_rfl
theorem ty98 : ty Tryz.prog 98 = some (false, 1) := by kernel_rfl
theorem ty99 : ty Tryz.prog 99 = some (false, 1) := by kernel_rfl
theorem ty100 : ty Tryz.prog 100 = some (false, 1) := by kernel_rfl
theorem ty101 : ty Tryz.prog 101 = some (false, 1) := by kernel_rfl
theorem ty102 : ty Tryz.prog 102 = some (false, 1) := by kernel_rfl
theorem elt102 : elt Tryz.prog 102 = some (none, true, 5) := by kernel_rfl
theorem einf102 : eInfo Tryz.prog 102 = some (5, 5, [.int .u8 0, .int .u8 0, .bool false, .int .u8 0, .bool false]) := by kernel_rfl
theorem zero102 : tzero Tryz.prog 102 = some [.slice none 0 0] := by kernel_rfl
theorem ty103 : ty Tryz.prog 103 = some (true, 2) := by kernel_rfl
theorem fld103_0 : fld Tryz.prog 103 0 = some (0, false, 1) := by kernel_rfl
theorem fld103_1 : fld Tryz.prog 103 1 = some (1, false, 1) := by kernel_rfl
theorem flds103 : flds Tryz.prog 103 = some [(0, 1), (1, 1)] := by kernel_rfl
theorem elt103 : elt Tryz.prog 103 = none := by kernel_rfl
theorem zero103 : tzero Tryz.prog 103 = some [.slice none 0 0, .slice none 0 0] := by kernel_rfl
theorem ty104 : ty Tryz.prog 104 = some (true, 2) := by kernel_rfl
theorem fld104_0 : fld Tryz.prog 104 0 = some (0, false, 1) := by kernel_rfl
theorem fld104_1 : fld Tryz.prog 104 1 = some (1, false, 1) := by kernel_rfl
theorem flds104 : flds Tryz.prog 104 = some [(0, 1), (1, 1)] := by kernel_rfl
theorem elt104 : elt Tryz.prog 104 = none := by kernel_rfl
theorem zero104 : tzero Tryz.prog 104 = some [.slice none 0 0, .slice none 0 0] := by kernel_rfl
theorem ty105 : ty Tryz.prog 105 = some (false, 1) := by kernel_rfl
theorem ty106 : ty Tryz.prog 106 = some (false, 1) := by kernel_rfl
theorem elt106 : elt Tryz.prog 106 = some (none, true, 6) := by kernel_rfl
theorem einf106 : eInfo Tryz.prog 106 = some (6, 64, [.string ⟨#[]⟩, .string ⟨#[]⟩, .bool false, .int .i64 0, .int .i64 0, .int .i64 0]) := by kernel_rfl
theorem zero106 : tzero Tryz.prog 106 = some [.slice none 0 0] := by kernel_rfl
theorem ty107 : ty Tryz.prog 107 = some (true, 2) := by kernel_rfl
theorem fld107_0 : fld Tryz.prog 107 0 = some (0, false, 1) := by kernel_rfl
theorem fld107_1 : fld Tryz.prog 107 1 = some (1, false, 1) := by kernel_rfl
theorem flds107 : flds Tryz.prog 107 = some [(0, 1), (1, 1)] := by kernel_rfl
theorem elt107 : elt Tryz.prog 107 = none := by kernel_rfl
theorem zero107 : tzero Tryz.prog 107 = some [.int .i64 0, .slice none 0 0] := by kernel_rfl
theorem ty108 : ty Tryz.prog 108 = some (true, 2) := by kernel_rfl
theorem fld108_0 : fld Tryz.prog 108 0 = some (0, false, 1) := by kernel_rfl
theorem fld108_1 : fld Tryz.prog 108 1 = some (1, false, 1) := by kernel_rfl
theorem flds108 : flds Tryz.prog 108 = some [(0, 1), (1, 1)] := by kernel_rfl
theorem elt108 : elt Tryz.prog 108 = none := by kernel_rfl
theorem zero108 : tzero Tryz.prog 108 = some [.int .i64 0, .slice none 0 0] := by kernel_rfl
theorem ty109 : ty Tryz.prog 109 = some (true, 5) := by kernel_rfl
theorem fld109_0 : fld Tryz.prog 109 0 = some (0, false, 1) := by kernel_rfl
theorem fld109_1 : fld Tryz.prog 109 1 = some (1, false, 1) := by kernel_rfl
theorem fld109_2 : fld Tryz.prog 109 2 = some (2, false, 1) := by kernel_rfl
theorem fld109_3 : fld Tryz.prog 109 3 = some (3, false, 1) := by kernel_rfl
theorem fld109_4 : fld Tryz.prog 109 4 = some (4, false, 1) := by kernel_rfl
theorem flds109 : flds Tryz.prog 109 = some [(0, 1), (1, 1), (2, 1), (3, 1), (4, 1)] := by kernel_rfl
theorem elt109 : elt Tryz.prog 109 = none := by kernel_rfl
theorem zero109 : tzero Tryz.prog 109 = some [.int .u8 0, .int .u8 0, .bool false, .int .u8 0, .bool false] := by kernel_rfl
theorem ty110 : ty Tryz.prog 110 = some (true, 5) := by kernel_rfl
theorem fld110_0 : fld Tryz.prog 110 0 = some (0, false, 1) := by kernel_rfl
theorem fld110_1 : fld Tryz.prog 110 1 = some (1, false, 1) := by kernel_rfl
theorem fld110_2 : fld Tryz.prog 110 2 = some (2, false, 1) := by kernel_rfl
theorem fld110_3 : fld Tryz.prog 110 3 = some (3, false, 1) := by kernel_rfl
theorem fld110_4 : fld Tryz.prog 110 4 = some (4, false, 1) := by kernel_rfl
theorem flds110 : flds Tryz.prog 110 = some [(0, 1), (1, 1), (2, 1), (3, 1), (4, 1)] := by kernel_rfl
theorem elt110 : elt Tryz.prog 110 = none := by kernel_rfl
theorem zero110 : tzero Tryz.prog 110 = some [.int .u8 0, .int .u8 0, .bool false, .int .u8 0, .bool false] := by kernel_rfl
theorem ty112 : ty Tryz.prog 112 = some (false, 1) := by kernel_rfl
theorem ty113 : ty Tryz.prog 113 = some (false, 1) := by kernel_rfl
theorem ty114 : ty Tryz.prog 114 = some (false, 1) := by kernel_rfl
theorem ty116 : ty Tryz.prog 116 = some (false, 1) := by kernel_rfl
theorem ty117 : ty Tryz.prog 117 = some (false, 1) := by kernel_rfl
theorem ty118 : ty Tryz.prog 118 = some (true, 3) := by kernel_rfl
theorem elt118 : elt Tryz.prog 118 = some (some 3, false, 1) := by kernel_rfl
theorem flds118 : flds Tryz.prog 118 = none := by kernel_rfl
theorem zero118 : tzero Tryz.prog 118 = some [.int .u8 0, .int .u8 0, .int .u8 0] := by kernel_rfl
theorem ty119 : ty Tryz.prog 119 = some (true, 80) := by kernel_rfl
theorem elt119 : elt Tryz.prog 119 = some (some 20, true, 4) := by kernel_rfl
theorem flds119 : flds Tryz.prog 119 = none := by kernel_rfl
theorem zero119 : tzero Tryz.prog 119 = some [.bool false, .int .i64 0, .int .i64 0, .int .i64 0, .bool false, .int .i64 0, .int .i64 0, .int .i64 0, .bool false, .int .i64 0, .int .i64 0, .int .i64 0, .bool false, .int .i64 0, .int .i64 0, .int .i64 0, .bool false, .int .i64 0, .int .i64 0, .int .i64 0, .bool false, .int .i64 0, .int .i64 0, .int .i64 0, .bool false, .int .i64 0, .int .i64 0, .int .i64 0, .bool false, .int .i64 0, .int .i64 0, .int .i64 0, .bool false, .int .i64 0, .int .i64 0, .int .i64 0, .bool false, .int .i64 0, .int .i64 0, .int .i64 0, .bool false, .int .i64 0, .int .i64 0, .int .i64 0, .bool false, .int .i64 0, .int .i64 0, .int .i64 0, .bool false, .int .i64 0, .int .i64 0, .int .i64 0, .bool false, .int .i64 0, .int .i64 0, .int .i64 0, .bool false, .int .i64 0, .int .i64 0, .int .i64 0, .bool false, .int .i64 0, .int .i64 0, .int .i64 0, .bool false, .int .i64 0, .int .i64 0, .int .i64 0, .bool false, .int .i64 0, .int .i64 0, .int .i64 0, .bool false, .int .i64 0, .int .i64 0, .int .i64 0, .bool false, .int .i64 0, .int .i64 0, .int .i64 0] := by kernel_rfl
theorem ty120 : ty Tryz.prog 120 = some (true, 20) := by kernel_rfl
theorem elt120 : elt Tryz.prog 120 = some (some 20, false, 1) := by kernel_rfl
theorem flds120 : flds Tryz.prog 120 = none := by kernel_rfl
theorem zero120 : tzero Tryz.prog 120 = some [.bool false, .bool false, .bool false, .bool false, .bool false, .bool false, .bool false, .bool false, .bool false, .bool false, .bool false, .bool false, .bool false, .bool false, .bool false, .bool false, .bool false, .bool false, .bool false, .bool false] := by kernel_rfl
theorem ty121 : ty Tryz.prog 121 = some (true, 20) := by kernel_rfl
theorem elt121 : elt Tryz.prog 121 = some (some 20, false, 1) := by kernel_rfl
theorem flds121 : flds Tryz.prog 121 = none := by kernel_rfl
theorem zero121 : tzero Tryz.prog 121 = some [.int .i64 0, .int .i64 0, .int .i64 0, .int .i64 0, .int .i64 0, .int .i64 0, .int .i64 0, .int .i64 0, .int .i64 0, .int .i64 0, .int .i64 0, .int .i64 0, .int .i64 0, .int .i64 0, .int .i64 0, .int .i64 0, .int .i64 0, .int .i64 0, .int .i64 0, .int .i64 0] := by kernel_rfl
theorem ty122 : ty Tryz.prog 122 = some (true, 121) := by kernel_rfl
theorem fld122_0 : fld Tryz.prog 122 0 = some (0, true, 80) := by kernel_rfl
theorem fld122_1 : fld Tryz.prog 122 1 = some (80, false, 1) := by kernel_rfl
theorem fld122_2 : fld Tryz.prog 122 2 = some (81, true, 20) := by kernel_rfl
theorem fld122_3 : fld Tryz.prog 122 3 = some (101, true, 20) := by kernel_rfl
theorem flds122 : flds Tryz.prog 122 = some [(0, 80), (80, 1), (81, 20), (101, 20)] := by kernel_rfl
theorem elt122 : elt Tryz.prog 122 = none := by kernel_rfl
theorem zero122 : tzero Tryz.prog 122 = some [.bool false, .int .i64 0, .int .i64 0, .int .i64 0, .bool false, .int .i64 0, .int .i64 0, .int .i64 0, .bool false, .int .i64 0, .int .i64 0, .int .i64 0, .bool false, .int .i64 0, .int .i64 0, .int .i64 0, .bool false, .int .i64 0, .int .i64 0, .int .i64 0, .bool false, .int .i64 0, .int .i64 0, .int .i64 0, .bool false, .int .i64 0, .int .i64 0, .int .i64 0, .bool false, .int .i64 0, .int .i64 0, .int .i64 0, .bool false, .int .i64 0, .int .i64 0, .int .i64 0, .bool false, .int .i64 0, .int .i64 0, .int .i64 0, .bool false, .int .i64 0, .int .i64 0, .int .i64 0, .bool false, .int .i64 0, .int .i64 0, .int .i64 0, .bool false, .int .i64 0, .int .i64 0, .int .i64 0, .bool false, .int .i64 0, .int .i64 0, .int .i64 0, .bool false, .int .i64 0, .int .i64 0, .int .i64 0, .bool false, .int .i64 0, .int .i64 0, .int .i64 0, .bool false, .int .i64 0, .int .i64 0, .int .i64 0, .bool false, .int .i64 0, .int .i64 0, .int .i64 0, .bool false, .int .i64 0, .int .i64 0, .int .i64 0, .bool false, .int .i64 0, .int .i64 0, .int .i64 0, .bool false, .bool false, .bool false, .bool false, .bool false, .bool false, .bool false, .bool false, .bool false, .bool false, .bool false, .bool false, .bool false, .bool false, .bool false, .bool false, .bool false, .bool false, .bool false, .bool false, .bool false, .int .i64 0, .int .i64 0, .int .i64 0, .int .i64 0, .int .i64 0, .int .i64 0, .int .i64 0, .int .i64 0, .int .i64 0, .int .i64 0, .int .i64 0, .int .i64 0, .int .i64 0, .int .i64 0, .int .i64 0, .int .i64 0, .int .i64 0, .int .i64 0, .int .i64 0, .int .i64 0] := by kernel_rfl
theorem ty123 : ty Tryz.prog 123 = some (true, 121) := by kernel_rfl
theorem fld123_0 : fld Tryz.prog 123 0 = some (0, true, 80) := by kernel_rfl
theorem fld123_1 : fld Tryz.prog 123 1 = some (80, false, 1) := by kernel_rfl
theorem fld123_2 : fld Tryz.prog 123 2 = some (81, true, 20) := by kernel_rfl
theorem fld123_3 : fld Tryz.prog 123 3 = some (101, true, 20) := by kernel_rfl
theorem flds123 : flds Tryz.prog 123 = some [(0, 80), (80, 1), (81, 20), (101, 20)] := by kernel_rfl
theorem elt123 : elt Tryz.prog 123 = none := by kernel_rfl
theorem zero123 : tzero Tryz.prog 123 = some [.bool false, .int .i64 0, .int .i64 0, .int .i64 0, .bool false, .int .i64 0, .int .i64 0, .int .i64 0, .bool false, .int .i64 0, .int .i64 0, .int .i64 0, .bool false, .int .i64 0, .int .i64 0, .int .i64 0, .bool false, .int .i64 0, .int .i64 0, .int .i64 0, .bool false, .int .i64 0, .int .i64 0, .int .i64 0, .bool false, .int .i64 0, .int .i64 0, .int .i64 0, .bool false, .int .i64 0, .int .i64 0, .int .i64 0, .bool false, .int .i64 0, .int .i64 0, .int .i64 0, .bool false, .int .i64 0, .int .i64 0, .int .i64 0, .bool false, .int .i64 0, .int .i64 0, .int .i64 0, .bool false, .int .i64 0, .int .i64 0, .int .i64 0, .bool false, .int .i64 0, .int .i64 0, .int .i64 0, .bool false, .int .i64 0, .int .i64 0, .int .i64 0, .bool false, .int .i64 0, .int .i64 0, .int .i64 0, .bool false, .int .i64 0, .int .i64 0, .int .i64 0, .bool false, .int .i64 0, .int .i64 0, .int .i64 0, .bool false, .int .i64 0, .int .i64 0, .int .i64 0, .bool false, .int .i64 0, .int .i64 0, .int .i64 0, .bool false, .int .i64 0, .int .i64 0, .int .i64 0, .bool false, .bool false, .bool false, .bool false, .bool false, .bool false, .bool false, .bool false, .bool false, .bool false, .bool false, .bool false, .bool false, .bool false, .bool false, .bool false, .bool false, .bool false, .bool false, .bool false, .bool false, .int .i64 0, .int .i64 0, .int .i64 0, .int .i64 0, .int .i64 0, .int .i64 0, .int .i64 0, .int .i64 0, .int .i64 0, .int .i64 0, .int .i64 0, .int .i64 0, .int .i64 0, .int .i64 0, .int .i64 0, .int .i64 0, .int .i64 0, .int .i64 0, .int .i64 0, .int .i64 0] := by kernel_rfl
theorem ty124 : ty Tryz.prog 124 = some (false, 1) := by kernel_rfl
theorem ty125 : ty Tryz.prog 125 = some (true, 6) := by kernel_rfl
theorem fld125_0 : fld Tryz.prog 125 0 = some (0, false, 1) := by kernel_rfl
theorem fld125_1 : fld Tryz.prog 125 1 = some (1, false, 1) := by kernel_rfl
theorem fld125_2 : fld Tryz.prog 125 2 = some (2, true, 4) := by kernel_rfl
theorem flds125 : flds Tryz.prog 125 = some [(0, 1), (1, 1), (2, 4)] := by kernel_rfl
theorem elt125 : elt Tryz.prog 125 = none := by kernel_rfl
theorem zero125 : tzero Tryz.prog 125 = some [.string ⟨#[]⟩, .string ⟨#[]⟩, .bool false, .int .i64 0, .int .i64 0, .int .i64 0] := by kernel_rfl
theorem ty126 : ty Tryz.prog 126 = some (true, 6) := by kernel_rfl
theorem fld126_0 : fld Tryz.prog 126 0 = some (0, false, 1) := by kernel_rfl
theorem fld126_1 : fld Tryz.prog 126 1 = some (1, false, 1) := by kernel_rfl
theorem fld126_2 : fld Tryz.prog 126 2 = some (2, true, 4) := by kernel_rfl
theorem flds126 : flds Tryz.prog 126 = some [(0, 1), (1, 1), (2, 4)] := by kernel_rfl
theorem elt126 : elt Tryz.prog 126 = none := by kernel_rfl
theorem zero126 : tzero Tryz.prog 126 = some [.string ⟨#[]⟩, .string ⟨#[]⟩, .bool false, .int .i64 0, .int .i64 0, .int .i64 0] := by kernel_rfl
theorem ty127 : ty Tryz.prog 127 = some (false, 1) := by kernel_rfl
theorem ty129 : ty Tryz.prog 129 = some (false, 1) := by kernel_rfl
theorem ty130 : ty Tryz.prog 130 = some (false, 1) := by kernel_rfl
theorem ty131 : ty Tryz.prog 131 = some (true, 9) := by kernel_rfl
theorem fld131_0 : fld Tryz.prog 131 0 = some (0, false, 1) := by kernel_rfl
theorem fld131_1 : fld Tryz.prog 131 1 = some (1, true, 8) := by kernel_rfl
theorem flds131 : flds Tryz.prog 131 = some [(0, 1), (1, 8)] := by kernel_rfl
theorem elt131 : elt Tryz.prog 131 = none := by kernel_rfl
theorem zero131 : tzero Tryz.prog 131 = some [.int .i64 0, .int .u8 0, .string ⟨#[]⟩, .string ⟨#[]⟩, .string ⟨#[]⟩, .int .i64 0, .int .i64 0, .int .i64 0, .int .i64 0] := by kernel_rfl
theorem ty132 : ty Tryz.prog 132 = some (true, 9) := by kernel_rfl
theorem fld132_0 : fld Tryz.prog 132 0 = some (0, false, 1) := by kernel_rfl
theorem fld132_1 : fld Tryz.prog 132 1 = some (1, true, 8) := by kernel_rfl
theorem flds132 : flds Tryz.prog 132 = some [(0, 1), (1, 8)] := by kernel_rfl
theorem elt132 : elt Tryz.prog 132 = none := by kernel_rfl
theorem zero132 : tzero Tryz.prog 132 = some [.int .i64 0, .int .u8 0, .string ⟨#[]⟩, .string ⟨#[]⟩, .string ⟨#[]⟩, .int .i64 0, .int .i64 0, .int .i64 0, .int .i64 0] := by kernel_rfl
theorem ty133 : ty Tryz.prog 133 = some (true, 0) := by kernel_rfl
theorem flds133 : flds Tryz.prog 133 = some [] := by kernel_rfl
theorem elt133 : elt Tryz.prog 133 = none := by kernel_rfl
theorem zero133 : tzero Tryz.prog 133 = some [] := by kernel_rfl
theorem ty134 : ty Tryz.prog 134 = some (true, 0) := by kernel_rfl
theorem flds134 : flds Tryz.prog 134 = some [] := by kernel_rfl
theorem elt134 : elt Tryz.prog 134 = none := by kernel_rfl
theorem zero134 : tzero Tryz.prog 134 = some [] := by kernel_rfl
theorem ty135 : ty Tryz.prog 135 = some (true, 0) := by kernel_rfl
theorem flds135 : flds Tryz.prog 135 = some [] := by kernel_rfl
theorem elt135 : elt Tryz.prog 135 = none := by kernel_rfl
theorem zero135 : tzero Tryz.prog 135 = some [] := by kernel_rfl
theorem ty136 : ty Tryz.prog 136 = some (true, 1) := by kernel_rfl
theorem fld136_0 : fld Tryz.prog 136 0 = some (0, true, 0) := by kernel_rfl
theorem fld136_1 : fld Tryz.prog 136 1 = some (0, true, 0) := by kernel_rfl
theorem fld136_2 : fld Tryz.prog 136 2 = some (0, false, 1) := by kernel_rfl
theorem flds136 : flds Tryz.prog 136 = some [(0, 0), (0, 0), (0, 1)] := by kernel_rfl
theorem elt136 : elt Tryz.prog 136 = none := by kernel_rfl
theorem zero136 : tzero Tryz.prog 136 = some [.int .i64 0] := by kernel_rfl
theorem ty137 : ty Tryz.prog 137 = some (true, 1) := by kernel_rfl
theorem fld137_0 : fld Tryz.prog 137 0 = some (0, true, 0) := by kernel_rfl
theorem fld137_1 : fld Tryz.prog 137 1 = some (0, true, 0) := by kernel_rfl
theorem fld137_2 : fld Tryz.prog 137 2 = some (0, false, 1) := by kernel_rfl
theorem flds137 : flds Tryz.prog 137 = some [(0, 0), (0, 0), (0, 1)] := by kernel_rfl
theorem elt137 : elt Tryz.prog 137 = none := by kernel_rfl
theorem zero137 : tzero Tryz.prog 137 = some [.int .i64 0] := by kernel_rfl
theorem ty138 : ty Tryz.prog 138 = some (true, 12) := by kernel_rfl
theorem elt138 : elt Tryz.prog 138 = some (some 12, true, 1) := by kernel_rfl
theorem flds138 : flds Tryz.prog 138 = none := by kernel_rfl
theorem zero138 : tzero Tryz.prog 138 = some [.int .i64 0, .int .i64 0, .int .i64 0, .int .i64 0, .int .i64 0, .int .i64 0, .int .i64 0, .int .i64 0, .int .i64 0, .int .i64 0, .int .i64 0, .int .i64 0] := by kernel_rfl
theorem ty139 : ty Tryz.prog 139 = some (true, 0) := by kernel_rfl
theorem flds139 : flds Tryz.prog 139 = some [] := by kernel_rfl
theorem elt139 : elt Tryz.prog 139 = none := by kernel_rfl
theorem zero139 : tzero Tryz.prog 139 = some [] := by kernel_rfl
theorem ty140 : ty Tryz.prog 140 = some (true, 1) := by kernel_rfl
theorem fld140_0 : fld Tryz.prog 140 0 = some (0, true, 0) := by kernel_rfl
theorem fld140_1 : fld Tryz.prog 140 1 = some (0, false, 1) := by kernel_rfl
theorem flds140 : flds Tryz.prog 140 = some [(0, 0), (0, 1)] := by kernel_rfl
theorem elt140 : elt Tryz.prog 140 = none := by kernel_rfl
theorem zero140 : tzero Tryz.prog 140 = some [.int .u32 0] := by kernel_rfl
theorem ty141 : ty Tryz.prog 141 = some (true, 1) := by kernel_rfl
theorem fld141_0 : fld Tryz.prog 141 0 = some (0, true, 0) := by kernel_rfl
theorem fld141_1 : fld Tryz.prog 141 1 = some (0, false, 1) := by kernel_rfl
theorem flds141 : flds Tryz.prog 141 = some [(0, 0), (0, 1)] := by kernel_rfl
theorem elt141 : elt Tryz.prog 141 = none := by kernel_rfl
theorem zero141 : tzero Tryz.prog 141 = some [.int .u32 0] := by kernel_rfl
theorem ty142 : ty Tryz.prog 142 = some (true, 2) := by kernel_rfl
theorem fld142_0 : fld Tryz.prog 142 0 = some (0, false, 1) := by kernel_rfl
theorem fld142_1 : fld Tryz.prog 142 1 = some (1, false, 1) := by kernel_rfl
theorem flds142 : flds Tryz.prog 142 = some [(0, 1), (1, 1)] := by kernel_rfl
theorem elt142 : elt Tryz.prog 142 = none := by kernel_rfl
theorem zero142 : tzero Tryz.prog 142 = some [.int .i32 0, .int .u32 0] := by kernel_rfl
theorem ty143 : ty Tryz.prog 143 = some (true, 2) := by kernel_rfl
theorem fld143_0 : fld Tryz.prog 143 0 = some (0, false, 1) := by kernel_rfl
theorem fld143_1 : fld Tryz.prog 143 1 = some (1, false, 1) := by kernel_rfl
theorem flds143 : flds Tryz.prog 143 = some [(0, 1), (1, 1)] := by kernel_rfl
theorem elt143 : elt Tryz.prog 143 = none := by kernel_rfl
theorem zero143 : tzero Tryz.prog 143 = some [.int .i32 0, .int .u32 0] := by kernel_rfl
theorem ty144 : ty Tryz.prog 144 = some (true, 2) := by kernel_rfl
theorem fld144_0 : fld Tryz.prog 144 0 = some (0, true, 0) := by kernel_rfl
theorem fld144_1 : fld Tryz.prog 144 1 = some (0, true, 2) := by kernel_rfl
theorem flds144 : flds Tryz.prog 144 = some [(0, 0), (0, 2)] := by kernel_rfl
theorem elt144 : elt Tryz.prog 144 = none := by kernel_rfl
theorem zero144 : tzero Tryz.prog 144 = some [.int .i32 0, .int .u32 0] := by kernel_rfl
theorem ty145 : ty Tryz.prog 145 = some (true, 2) := by kernel_rfl
theorem fld145_0 : fld Tryz.prog 145 0 = some (0, true, 0) := by kernel_rfl
theorem fld145_1 : fld Tryz.prog 145 1 = some (0, true, 2) := by kernel_rfl
theorem flds145 : flds Tryz.prog 145 = some [(0, 0), (0, 2)] := by kernel_rfl
theorem elt145 : elt Tryz.prog 145 = none := by kernel_rfl
theorem zero145 : tzero Tryz.prog 145 = some [.int .i32 0, .int .u32 0] := by kernel_rfl
theorem ty146 : ty Tryz.prog 146 = some (true, 3) := by kernel_rfl
theorem fld146_0 : fld Tryz.prog 146 0 = some (0, true, 0) := by kernel_rfl
theorem fld146_1 : fld Tryz.prog 146 1 = some (0, true, 1) := by kernel_rfl
theorem fld146_2 : fld Tryz.prog 146 2 = some (1, true, 2) := by kernel_rfl
theorem flds146 : flds Tryz.prog 146 = some [(0, 0), (0, 1), (1, 2)] := by kernel_rfl
theorem elt146 : elt Tryz.prog 146 = none := by kernel_rfl
theorem zero146 : tzero Tryz.prog 146 = some [.int .u32 0, .int .i32 0, .int .u32 0] := by kernel_rfl
theorem ty147 : ty Tryz.prog 147 = some (true, 3) := by kernel_rfl
theorem fld147_0 : fld Tryz.prog 147 0 = some (0, true, 0) := by kernel_rfl
theorem fld147_1 : fld Tryz.prog 147 1 = some (0, true, 1) := by kernel_rfl
theorem fld147_2 : fld Tryz.prog 147 2 = some (1, true, 2) := by kernel_rfl
theorem flds147 : flds Tryz.prog 147 = some [(0, 0), (0, 1), (1, 2)] := by kernel_rfl
theorem elt147 : elt Tryz.prog 147 = none := by kernel_rfl
theorem zero147 : tzero Tryz.prog 147 = some [.int .u32 0, .int .i32 0, .int .u32 0] := by kernel_rfl
theorem ty148 : ty Tryz.prog 148 = some (true, 16) := by kernel_rfl
theorem fld148_0 : fld Tryz.prog 148 0 = some (0, true, 12) := by kernel_rfl
theorem fld148_1 : fld Tryz.prog 148 1 = some (12, true, 3) := by kernel_rfl
theorem fld148_2 : fld Tryz.prog 148 2 = some (15, false, 1) := by kernel_rfl
theorem flds148 : flds Tryz.prog 148 = some [(0, 12), (12, 3), (15, 1)] := by kernel_rfl
theorem elt148 : elt Tryz.prog 148 = none := by kernel_rfl
theorem zero148 : tzero Tryz.prog 148 = some [.int .i64 0, .int .i64 0, .int .i64 0, .int .i64 0, .int .i64 0, .int .i64 0, .int .i64 0, .int .i64 0, .int .i64 0, .int .i64 0, .int .i64 0, .int .i64 0, .int .u32 0, .int .i32 0, .int .u32 0, .slice none 0 0] := by kernel_rfl
theorem ty149 : ty Tryz.prog 149 = some (true, 16) := by kernel_rfl
theorem fld149_0 : fld Tryz.prog 149 0 = some (0, true, 12) := by kernel_rfl
theorem fld149_1 : fld Tryz.prog 149 1 = some (12, true, 3) := by kernel_rfl
theorem fld149_2 : fld Tryz.prog 149 2 = some (15, false, 1) := by kernel_rfl
theorem flds149 : flds Tryz.prog 149 = some [(0, 12), (12, 3), (15, 1)] := by kernel_rfl
theorem elt149 : elt Tryz.prog 149 = none := by kernel_rfl
theorem zero149 : tzero Tryz.prog 149 = some [.int .i64 0, .int .i64 0, .int .i64 0, .int .i64 0, .int .i64 0, .int .i64 0, .int .i64 0, .int .i64 0, .int .i64 0, .int .i64 0, .int .i64 0, .int .i64 0, .int .u32 0, .int .i32 0, .int .u32 0, .slice none 0 0] := by kernel_rfl
theorem ty150 : ty Tryz.prog 150 = some (false, 1) := by kernel_rfl
theorem ty151 : ty Tryz.prog 151 = some (false, 1) := by kernel_rfl
theorem ty152 : ty Tryz.prog 152 = some (false, 1) := by kernel_rfl
theorem ty153 : ty Tryz.prog 153 = some (false, 1) := by kernel_rfl
theorem ty155 : ty Tryz.prog 155 = some (false, 1) := by kernel_rfl
theorem ty156 : ty Tryz.prog 156 = some (false, 1) := by kernel_rfl
theorem ty157 : ty Tryz.prog 157 = some (false, 1) := by kernel_rfl
theorem ty158 : ty Tryz.prog 158 = some (false, 1) := by kernel_rfl
theorem ty159 : ty Tryz.prog 159 = some (false, 1) := by kernel_rfl
theorem ty160 : ty Tryz.prog 160 = some (false, 1) := by kernel_rfl
theorem ty161 : ty Tryz.prog 161 = some (false, 1) := by kernel_rfl
theorem ty163 : ty Tryz.prog 163 = some (false, 1) := by kernel_rfl
theorem ty164 : ty Tryz.prog 164 = some (false, 1) := by kernel_rfl
theorem ty165 : ty Tryz.prog 165 = some (false, 1) := by kernel_rfl
theorem ty166 : ty Tryz.prog 166 = some (false, 1) := by kernel_rfl
theorem ty167 : ty Tryz.prog 167 = some (false, 1) := by kernel_rfl
theorem ty168 : ty Tryz.prog 168 = some (false, 1) := by kernel_rfl
theorem ty170 : ty Tryz.prog 170 = some (false, 1) := by kernel_rfl
theorem ty171 : ty Tryz.prog 171 = some (false, 1) := by kernel_rfl
theorem ty172 : ty Tryz.prog 172 = some (false, 1) := by kernel_rfl
theorem ty174 : ty Tryz.prog 174 = some (false, 1) := by kernel_rfl
theorem ty176 : ty Tryz.prog 176 = some (false, 1) := by kernel_rfl
theorem ty177 : ty Tryz.prog 177 = some (false, 1) := by kernel_rfl
theorem ty178 : ty Tryz.prog 178 = some (false, 1) := by kernel_rfl
theorem ty179 : ty Tryz.prog 179 = some (false, 1) := by kernel_rfl
theorem ty180 : ty Tryz.prog 180 = some (false, 1) := by kernel_rfl
theorem ty181 : ty Tryz.prog 181 = some (false, 1) := by kernel_rfl
theorem ty182 : ty Tryz.prog 182 = some (false, 1) := by kernel_rfl
theorem ty183 : ty Tryz.prog 183 = some (false, 1) := by kernel_rfl
theorem elt183 : elt Tryz.prog 183 = some (none, false, 1) := by kernel_rfl
theorem einf183 : eInfo Tryz.prog 183 = some (1, 1, [.int .u8 0]) := by kernel_rfl
theorem zero183 : tzero Tryz.prog 183 = some [.slice none 0 0] := by kernel_rfl
theorem ty184 : ty Tryz.prog 184 = some (false, 1) := by kernel_rfl
theorem ty186 : ty Tryz.prog 186 = some (false, 1) := by kernel_rfl
theorem ty187 : ty Tryz.prog 187 = some (false, 1) := by kernel_rfl
theorem ty188 : ty Tryz.prog 188 = some (false, 1) := by kernel_rfl
theorem ty189 : ty Tryz.prog 189 = some (false, 1) := by kernel_rfl
theorem ty190 : ty Tryz.prog 190 = some (false, 1) := by kernel_rfl
theorem zero190 : tzero Tryz.prog 190 = some [.pointer none] := by kernel_rfl
theorem ty191 : ty Tryz.prog 191 = some (true, 1) := by kernel_rfl
theorem fld191_0 : fld Tryz.prog 191 0 = some (0, false, 1) := by kernel_rfl
theorem flds191 : flds Tryz.prog 191 = some [(0, 1)] := by kernel_rfl
theorem elt191 : elt Tryz.prog 191 = none := by kernel_rfl
theorem zero191 : tzero Tryz.prog 191 = some [.int .i64 0] := by kernel_rfl
theorem ty192 : ty Tryz.prog 192 = some (true, 1) := by kernel_rfl
theorem fld192_0 : fld Tryz.prog 192 0 = some (0, false, 1) := by kernel_rfl
theorem flds192 : flds Tryz.prog 192 = some [(0, 1)] := by kernel_rfl
theorem elt192 : elt Tryz.prog 192 = none := by kernel_rfl
theorem zero192 : tzero Tryz.prog 192 = some [.int .i64 0] := by kernel_rfl
theorem ty193 : ty Tryz.prog 193 = some (true, 12) := by kernel_rfl
theorem fld193_0 : fld Tryz.prog 193 0 = some (0, true, 1) := by kernel_rfl
theorem fld193_1 : fld Tryz.prog 193 1 = some (1, true, 7) := by kernel_rfl
theorem fld193_2 : fld Tryz.prog 193 2 = some (8, true, 2) := by kernel_rfl
theorem fld193_3 : fld Tryz.prog 193 3 = some (10, true, 2) := by kernel_rfl
theorem flds193 : flds Tryz.prog 193 = some [(0, 1), (1, 7), (8, 2), (10, 2)] := by kernel_rfl
theorem elt193 : elt Tryz.prog 193 = none := by kernel_rfl
theorem zero193 : tzero Tryz.prog 193 = some [.int .i64 0, .slice none 0 0, .bool false, .bool false, .string ⟨#[]⟩, .int .i64 0, .int .i64 0, .int .i64 0, .slice none 0 0, .slice none 0 0, .int .i64 0, .slice none 0 0] := by kernel_rfl
theorem ty194 : ty Tryz.prog 194 = some (true, 12) := by kernel_rfl
theorem fld194_0 : fld Tryz.prog 194 0 = some (0, true, 1) := by kernel_rfl
theorem fld194_1 : fld Tryz.prog 194 1 = some (1, true, 7) := by kernel_rfl
theorem fld194_2 : fld Tryz.prog 194 2 = some (8, true, 2) := by kernel_rfl
theorem fld194_3 : fld Tryz.prog 194 3 = some (10, true, 2) := by kernel_rfl
theorem flds194 : flds Tryz.prog 194 = some [(0, 1), (1, 7), (8, 2), (10, 2)] := by kernel_rfl
theorem elt194 : elt Tryz.prog 194 = none := by kernel_rfl
theorem zero194 : tzero Tryz.prog 194 = some [.int .i64 0, .slice none 0 0, .bool false, .bool false, .string ⟨#[]⟩, .int .i64 0, .int .i64 0, .int .i64 0, .slice none 0 0, .slice none 0 0, .int .i64 0, .slice none 0 0] := by kernel_rfl
theorem ty196 : ty Tryz.prog 196 = some (false, 1) := by kernel_rfl
theorem ty197 : ty Tryz.prog 197 = some (false, 1) := by kernel_rfl
theorem ty198 : ty Tryz.prog 198 = some (false, 1) := by kernel_rfl
theorem zero198 : tzero Tryz.prog 198 = some [.pointer none] := by kernel_rfl
theorem ty200 : ty Tryz.prog 200 = some (false, 1) := by kernel_rfl
theorem ty201 : ty Tryz.prog 201 = some (false, 1) := by kernel_rfl
theorem zero201 : tzero Tryz.prog 201 = some [.pointer none] := by kernel_rfl
theorem ty202 : ty Tryz.prog 202 = some (false, 1) := by kernel_rfl
theorem ty203 : ty Tryz.prog 203 = some (false, 1) := by kernel_rfl
theorem ty204 : ty Tryz.prog 204 = some (false, 1) := by kernel_rfl
theorem ty205 : ty Tryz.prog 205 = some (false, 1) := by kernel_rfl
theorem zero205 : tzero Tryz.prog 205 = some [.pointer none] := by kernel_rfl
theorem ty207 : ty Tryz.prog 207 = some (false, 1) := by kernel_rfl
theorem ty208 : ty Tryz.prog 208 = some (false, 1) := by kernel_rfl
theorem ty209 : ty Tryz.prog 209 = some (false, 1) := by kernel_rfl
theorem zero209 : tzero Tryz.prog 209 = some [.pointer none] := by kernel_rfl
theorem ty210 : ty Tryz.prog 210 = some (false, 1) := by kernel_rfl
theorem ty211 : ty Tryz.prog 211 = some (false, 1) := by kernel_rfl
theorem ty212 : ty Tryz.prog 212 = some (false, 1) := by kernel_rfl
theorem ty213 : ty Tryz.prog 213 = some (false, 1) := by kernel_rfl
theorem ty214 : ty Tryz.prog 214 = some (false, 1) := by kernel_rfl
theorem ty215 : ty Tryz.prog 215 = some (false, 1) := by kernel_rfl
theorem ty216 : ty Tryz.prog 216 = some (false, 1) := by kernel_rfl
theorem ty217 : ty Tryz.prog 217 = some (false, 1) := by kernel_rfl
theorem ty218 : ty Tryz.prog 218 = some (false, 1) := by kernel_rfl
theorem zero218 : tzero Tryz.prog 218 = some [.pointer none] := by kernel_rfl
theorem ty219 : ty Tryz.prog 219 = some (false, 1) := by kernel_rfl
theorem ty220 : ty Tryz.prog 220 = some (false, 1) := by kernel_rfl
theorem ty221 : ty Tryz.prog 221 = some (false, 1) := by kernel_rfl
theorem ty222 : ty Tryz.prog 222 = some (false, 1) := by kernel_rfl
theorem ty223 : ty Tryz.prog 223 = some (false, 1) := by kernel_rfl
theorem zero223 : tzero Tryz.prog 223 = some [.pointer none] := by kernel_rfl
theorem ty224 : ty Tryz.prog 224 = some (true, 2) := by kernel_rfl
theorem fld224_0 : fld Tryz.prog 224 0 = some (0, false, 1) := by kernel_rfl
theorem fld224_1 : fld Tryz.prog 224 1 = some (1, false, 1) := by kernel_rfl
theorem flds224 : flds Tryz.prog 224 = some [(0, 1), (1, 1)] := by kernel_rfl
theorem elt224 : elt Tryz.prog 224 = none := by kernel_rfl
theorem zero224 : tzero Tryz.prog 224 = some [.pointer none, .slice none 0 0] := by kernel_rfl
theorem ty225 : ty Tryz.prog 225 = some (true, 2) := by kernel_rfl
theorem fld225_0 : fld Tryz.prog 225 0 = some (0, false, 1) := by kernel_rfl
theorem fld225_1 : fld Tryz.prog 225 1 = some (1, false, 1) := by kernel_rfl
theorem flds225 : flds Tryz.prog 225 = some [(0, 1), (1, 1)] := by kernel_rfl
theorem elt225 : elt Tryz.prog 225 = none := by kernel_rfl
theorem zero225 : tzero Tryz.prog 225 = some [.pointer none, .slice none 0 0] := by kernel_rfl
theorem ty226 : ty Tryz.prog 226 = some (false, 1) := by kernel_rfl
theorem zero226 : tzero Tryz.prog 226 = some [.nilIface] := by kernel_rfl
theorem ty227 : ty Tryz.prog 227 = some (false, 1) := by kernel_rfl
theorem zero227 : tzero Tryz.prog 227 = some [.nilIface] := by kernel_rfl
theorem ty229 : ty Tryz.prog 229 = some (false, 1) := by kernel_rfl
theorem ty230 : ty Tryz.prog 230 = some (false, 1) := by kernel_rfl
theorem ty231 : ty Tryz.prog 231 = some (true, 5) := by kernel_rfl
theorem fld231_0 : fld Tryz.prog 231 0 = some (0, false, 1) := by kernel_rfl
theorem fld231_1 : fld Tryz.prog 231 1 = some (1, true, 4) := by kernel_rfl
theorem flds231 : flds Tryz.prog 231 = some [(0, 1), (1, 4)] := by kernel_rfl
theorem elt231 : elt Tryz.prog 231 = none := by kernel_rfl
theorem zero231 : tzero Tryz.prog 231 = some [.string ⟨#[]⟩, .bool false, .int .i64 0, .int .i64 0, .int .i64 0] := by kernel_rfl
theorem ty232 : ty Tryz.prog 232 = some (true, 5) := by kernel_rfl
theorem fld232_0 : fld Tryz.prog 232 0 = some (0, false, 1) := by kernel_rfl
theorem fld232_1 : fld Tryz.prog 232 1 = some (1, true, 4) := by kernel_rfl
theorem flds232 : flds Tryz.prog 232 = some [(0, 1), (1, 4)] := by kernel_rfl
theorem elt232 : elt Tryz.prog 232 = none := by kernel_rfl
theorem zero232 : tzero Tryz.prog 232 = some [.string ⟨#[]⟩, .bool false, .int .i64 0, .int .i64 0, .int .i64 0] := by kernel_rfl
theorem ty233 : ty Tryz.prog 233 = some (false, 1) := by kernel_rfl
theorem ty234 : ty Tryz.prog 234 = some (false, 1) := by kernel_rfl
theorem ty235 : ty Tryz.prog 235 = some (false, 1) := by kernel_rfl
theorem ty236 : ty Tryz.prog 236 = some (false, 1) := by kernel_rfl
theorem ty237 : ty Tryz.prog 237 = some (false, 1) := by kernel_rfl
theorem ty238 : ty Tryz.prog 238 = some (false, 1) := by kernel_rfl
theorem ty239 : ty Tryz.prog 239 = some (false, 1) := by kernel_rfl
theorem ty240 : ty Tryz.prog 240 = some (false, 1) := by kernel_rfl
theorem ty241 : ty Tryz.prog 241 = some (false, 1) := by kernel_rfl
theorem ty242 : ty Tryz.prog 242 = some (false, 1) := by kernel_rfl
theorem ty243 : ty Tryz.prog 243 = some (false, 1) := by kernel_rfl
theorem ty244 : ty Tryz.prog 244 = some (false, 1) := by kernel_rfl
theorem ty245 : ty Tryz.prog 245 = some (false, 1) := by kernel_rfl
theorem ty247 : ty Tryz.prog 247 = some (false, 1) := by kernel_rfl
theorem ty248 : ty Tryz.prog 248 = some (false, 1) := by kernel_rfl
theorem ty249 : ty Tryz.prog 249 = some (false, 1) := by kernel_rfl
theorem ty250 : ty Tryz.prog 250 = some (false, 1) := by kernel_rfl
theorem ty251 : ty Tryz.prog 251 = some (false, 1) := by kernel_rfl
theorem ty252 : ty Tryz.prog 252 = some (false, 1) := by kernel_rfl
theorem ty253 : ty Tryz.prog 253 = some (false, 1) := by kernel_rfl
theorem ty255 : ty Tryz.prog 255 = some (false, 1) := by kernel_rfl
theorem ty257 : ty Tryz.prog 257 = some (false, 1) := by kernel_rfl
theorem ty259 : ty Tryz.prog 259 = some (false, 1) := by kernel_rfl
theorem ty260 : ty Tryz.prog 260 = some (false, 1) := by kernel_rfl
theorem ty261 : ty Tryz.prog 261 = some (false, 1) := by kernel_rfl
theorem ty262 : ty Tryz.prog 262 = some (false, 1) := by kernel_rfl
theorem ty263 : ty Tryz.prog 263 = some (false, 1) := by kernel_rfl
theorem zero263 : tzero Tryz.prog 263 = some [.pointer none] := by kernel_rfl
theorem ty265 : ty Tryz.prog 265 = some (false, 1) := by kernel_rfl
theorem ty267 : ty Tryz.prog 267 = some (false, 1) := by kernel_rfl
theorem ty268 : ty Tryz.prog 268 = some (false, 1) := by kernel_rfl
theorem ty270 : ty Tryz.prog 270 = some (false, 1) := by kernel_rfl
theorem ty271 : ty Tryz.prog 271 = some (false, 1) := by kernel_rfl
theorem ty272 : ty Tryz.prog 272 = some (false, 1) := by kernel_rfl
theorem zero272 : tzero Tryz.prog 272 = some [.pointer none] := by kernel_rfl
theorem ty273 : ty Tryz.prog 273 = some (false, 1) := by kernel_rfl
theorem ty275 : ty Tryz.prog 275 = some (false, 1) := by kernel_rfl
theorem ty276 : ty Tryz.prog 276 = some (true, 3) := by kernel_rfl
theorem fld276_0 : fld Tryz.prog 276 0 = some (0, false, 1) := by kernel_rfl
theorem fld276_1 : fld Tryz.prog 276 1 = some (1, false, 1) := by kernel_rfl
theorem fld276_2 : fld Tryz.prog 276 2 = some (2, false, 1) := by kernel_rfl
theorem flds276 : flds Tryz.prog 276 = some [(0, 1), (1, 1), (2, 1)] := by kernel_rfl
theorem elt276 : elt Tryz.prog 276 = none := by kernel_rfl
theorem zero276 : tzero Tryz.prog 276 = some [.string ⟨#[]⟩, .string ⟨#[]⟩, .string ⟨#[]⟩] := by kernel_rfl
theorem ty277 : ty Tryz.prog 277 = some (true, 3) := by kernel_rfl
theorem fld277_0 : fld Tryz.prog 277 0 = some (0, false, 1) := by kernel_rfl
theorem fld277_1 : fld Tryz.prog 277 1 = some (1, false, 1) := by kernel_rfl
theorem fld277_2 : fld Tryz.prog 277 2 = some (2, false, 1) := by kernel_rfl
theorem flds277 : flds Tryz.prog 277 = some [(0, 1), (1, 1), (2, 1)] := by kernel_rfl
theorem elt277 : elt Tryz.prog 277 = none := by kernel_rfl
theorem zero277 : tzero Tryz.prog 277 = some [.string ⟨#[]⟩, .string ⟨#[]⟩, .string ⟨#[]⟩] := by kernel_rfl
theorem ty279 : ty Tryz.prog 279 = some (false, 1) := by kernel_rfl
theorem ty280 : ty Tryz.prog 280 = some (false, 1) := by kernel_rfl
theorem zero280 : tzero Tryz.prog 280 = some [.pointer none] := by kernel_rfl
theorem ty281 : ty Tryz.prog 281 = some (false, 1) := by kernel_rfl
theorem ty282 : ty Tryz.prog 282 = some (false, 1) := by kernel_rfl
theorem ty283 : ty Tryz.prog 283 = some (false, 1) := by kernel_rfl
theorem ty284 : ty Tryz.prog 284 = some (false, 1) := by kernel_rfl
theorem ty285 : ty Tryz.prog 285 = some (false, 1) := by kernel_rfl
theorem zero285 : tzero Tryz.prog 285 = some [.int .u64 0] := by kernel_rfl
theorem ty286 : ty Tryz.prog 286 = some (false, 1) := by kernel_rfl
theorem ty287 : ty Tryz.prog 287 = some (false, 1) := by kernel_rfl
theorem ty288 : ty Tryz.prog 288 = some (false, 1) := by kernel_rfl
theorem ty289 : ty Tryz.prog 289 = some (false, 1) := by kernel_rfl
theorem ty290 : ty Tryz.prog 290 = some (false, 1) := by kernel_rfl
theorem zero290 : tzero Tryz.prog 290 = some [.pointer none] := by kernel_rfl
theorem ty292 : ty Tryz.prog 292 = some (false, 1) := by kernel_rfl
theorem ty293 : ty Tryz.prog 293 = some (false, 1) := by kernel_rfl
theorem zero293 : tzero Tryz.prog 293 = some [.pointer none] := by kernel_rfl
theorem ty294 : ty Tryz.prog 294 = some (false, 1) := by kernel_rfl
theorem ty295 : ty Tryz.prog 295 = some (false, 1) := by kernel_rfl
theorem zero295 : tzero Tryz.prog 295 = some [.pointer none] := by kernel_rfl
theorem ty296 : ty Tryz.prog 296 = some (false, 1) := by kernel_rfl
theorem ty297 : ty Tryz.prog 297 = some (true, 3) := by kernel_rfl
theorem fld297_0 : fld Tryz.prog 297 0 = some (0, false, 1) := by kernel_rfl
theorem fld297_1 : fld Tryz.prog 297 1 = some (1, false, 1) := by kernel_rfl
theorem fld297_2 : fld Tryz.prog 297 2 = some (2, false, 1) := by kernel_rfl
theorem flds297 : flds Tryz.prog 297 = some [(0, 1), (1, 1), (2, 1)] := by kernel_rfl
theorem elt297 : elt Tryz.prog 297 = none := by kernel_rfl
theorem zero297 : tzero Tryz.prog 297 = some [.int .i64 0, .int .u8 0, .int .u8 0] := by kernel_rfl
theorem ty298 : ty Tryz.prog 298 = some (true, 3) := by kernel_rfl
theorem fld298_0 : fld Tryz.prog 298 0 = some (0, false, 1) := by kernel_rfl
theorem fld298_1 : fld Tryz.prog 298 1 = some (1, false, 1) := by kernel_rfl
theorem fld298_2 : fld Tryz.prog 298 2 = some (2, false, 1) := by kernel_rfl
theorem flds298 : flds Tryz.prog 298 = some [(0, 1), (1, 1), (2, 1)] := by kernel_rfl
theorem elt298 : elt Tryz.prog 298 = none := by kernel_rfl
theorem zero298 : tzero Tryz.prog 298 = some [.int .i64 0, .int .u8 0, .int .u8 0] := by kernel_rfl
theorem ty299 : ty Tryz.prog 299 = some (true, 12) := by kernel_rfl
theorem elt299 : elt Tryz.prog 299 = some (some 4, true, 3) := by kernel_rfl
theorem flds299 : flds Tryz.prog 299 = none := by kernel_rfl
theorem zero299 : tzero Tryz.prog 299 = some [.int .i64 0, .int .u8 0, .int .u8 0, .int .i64 0, .int .u8 0, .int .u8 0, .int .i64 0, .int .u8 0, .int .u8 0, .int .i64 0, .int .u8 0, .int .u8 0] := by kernel_rfl
theorem ty300 : ty Tryz.prog 300 = some (false, 1) := by kernel_rfl
theorem ty301 : ty Tryz.prog 301 = some (false, 1) := by kernel_rfl
theorem ty302 : ty Tryz.prog 302 = some (false, 1) := by kernel_rfl
theorem ty304 : ty Tryz.prog 304 = some (false, 1) := by kernel_rfl
theorem ty305 : ty Tryz.prog 305 = some (false, 1) := by kernel_rfl
theorem ty306 : ty Tryz.prog 306 = some (false, 1) := by kernel_rfl
theorem ty308 : ty Tryz.prog 308 = some (false, 1) := by kernel_rfl
theorem ty310 : ty Tryz.prog 310 = some (false, 1) := by kernel_rfl
theorem ty311 : ty Tryz.prog 311 = some (true, 3) := by kernel_rfl
theorem fld311_0 : fld Tryz.prog 311 0 = some (0, false, 1) := by kernel_rfl
theorem fld311_1 : fld Tryz.prog 311 1 = some (1, false, 1) := by kernel_rfl
theorem fld311_2 : fld Tryz.prog 311 2 = some (2, false, 1) := by kernel_rfl
theorem flds311 : flds Tryz.prog 311 = some [(0, 1), (1, 1), (2, 1)] := by kernel_rfl
theorem elt311 : elt Tryz.prog 311 = none := by kernel_rfl
theorem zero311 : tzero Tryz.prog 311 = some [.string ⟨#[]⟩, .string ⟨#[]⟩, .string ⟨#[]⟩] := by kernel_rfl
theorem ty313 : ty Tryz.prog 313 = some (false, 1) := by kernel_rfl
theorem ty314 : ty Tryz.prog 314 = some (false, 1) := by kernel_rfl
theorem ty315 : ty Tryz.prog 315 = some (false, 1) := by kernel_rfl
theorem zero315 : tzero Tryz.prog 315 = some [.pointer none] := by kernel_rfl
theorem ty316 : ty Tryz.prog 316 = some (false, 1) := by kernel_rfl
theorem ty317 : ty Tryz.prog 317 = some (false, 1) := by kernel_rfl
theorem ty318 : ty Tryz.prog 318 = some (true, 3) := by kernel_rfl
theorem elt318 : elt Tryz.prog 318 = some (some 3, false, 1) := by kernel_rfl
theorem flds318 : flds Tryz.prog 318 = none := by kernel_rfl
theorem zero318 : tzero Tryz.prog 318 = some [.int .i64 0, .int .i64 0, .int .i64 0] := by kernel_rfl
theorem ty319 : ty Tryz.prog 319 = some (true, 3) := by kernel_rfl
theorem elt319 : elt Tryz.prog 319 = some (some 3, false, 1) := by kernel_rfl
theorem flds319 : flds Tryz.prog 319 = none := by kernel_rfl
theorem zero319 : tzero Tryz.prog 319 = some [.string ⟨#[]⟩, .string ⟨#[]⟩, .string ⟨#[]⟩] := by kernel_rfl
theorem ty320 : ty Tryz.prog 320 = some (false, 1) := by kernel_rfl
theorem ty321 : ty Tryz.prog 321 = some (false, 1) := by kernel_rfl
theorem ty322 : ty Tryz.prog 322 = some (false, 1) := by kernel_rfl
theorem ty323 : ty Tryz.prog 323 = some (false, 1) := by kernel_rfl
theorem ty324 : ty Tryz.prog 324 = some (false, 1) := by kernel_rfl
theorem zero324 : tzero Tryz.prog 324 = some [.pointer none] := by kernel_rfl
theorem ty325 : ty Tryz.prog 325 = some (false, 1) := by kernel_rfl
theorem ty326 : ty Tryz.prog 326 = some (false, 1) := by kernel_rfl
theorem zero326 : tzero Tryz.prog 326 = some [.pointer none] := by kernel_rfl
theorem ty327 : ty Tryz.prog 327 = some (false, 1) := by kernel_rfl
theorem ty328 : ty Tryz.prog 328 = some (false, 1) := by kernel_rfl
theorem ty329 : ty Tryz.prog 329 = some (false, 1) := by kernel_rfl
theorem ty330 : ty Tryz.prog 330 = some (false, 1) := by kernel_rfl
theorem ty331 : ty Tryz.prog 331 = some (false, 1) := by kernel_rfl
theorem ty332 : ty Tryz.prog 332 = some (false, 1) := by kernel_rfl
theorem ty333 : ty Tryz.prog 333 = some (false, 1) := by kernel_rfl
theorem ty334 : ty Tryz.prog 334 = some (false, 1) := by kernel_rfl
theorem ty336 : ty Tryz.prog 336 = some (false, 1) := by kernel_rfl
theorem ty337 : ty Tryz.prog 337 = some (false, 1) := by kernel_rfl
theorem ty338 : ty Tryz.prog 338 = some (true, 256) := by kernel_rfl
theorem elt338 : elt Tryz.prog 338 = some (some 256, false, 1) := by kernel_rfl
theorem flds338 : flds Tryz.prog 338 = none := by kernel_rfl
theorem zero338 : tzero Tryz.prog 338 = some [.bool false, .bool false, .bool false, .bool false, .bool false, .bool false, .bool false, .bool false, .bool false, .bool false, .bool false, .bool false, .bool false, .bool false, .bool false, .bool false, .bool false, .bool false, .bool false, .bool false, .bool false, .bool false, .bool false, .bool false, .bool false, .bool false, .bool false, .bool false, .bool false, .bool false, .bool false, .bool false, .bool false, .bool false, .bool false, .bool false, .bool false, .bool false, .bool false, .bool false, .bool false, .bool false, .bool false, .bool false, .bool false, .bool false, .bool false, .bool false, .bool false, .bool false, .bool false, .bool false, .bool false, .bool false, .bool false, .bool false, .bool false, .bool false, .bool false, .bool false, .bool false, .bool false, .bool false, .bool false, .bool false, .bool false, .bool false, .bool false, .bool false, .bool false, .bool false, .bool false, .bool false, .bool false, .bool false, .bool false, .bool false, .bool false, .bool false, .bool false, .bool false, .bool false, .bool false, .bool false, .bool false, .bool false, .bool false, .bool false, .bool false, .bool false, .bool false, .bool false, .bool false, .bool false, .bool false, .bool false, .bool false, .bool false, .bool false, .bool false, .bool false, .bool false, .bool false, .bool false, .bool false, .bool false, .bool false, .bool false, .bool false, .bool false, .bool false, .bool false, .bool false, .bool false, .bool false, .bool false, .bool false, .bool false, .bool false, .bool false, .bool false, .bool false, .bool false, .bool false, .bool false, .bool false, .bool false, .bool false, .bool false, .bool false, .bool false, .bool false, .bool false, .bool false, .bool false, .bool false, .bool false, .bool false, .bool false, .bool false, .bool false, .bool false, .bool false, .bool false, .bool false, .bool false, .bool false, .bool false, .bool false, .bool false, .bool false, .bool false, .bool false, .bool false, .bool false, .bool false, .bool false, .bool false, .bool false, .bool false, .bool false, .bool false, .bool false, .bool false, .bool false, .bool false, .bool false, .bool false, .bool false, .bool false, .bool false, .bool false, .bool false, .bool false, .bool false, .bool false, .bool false, .bool false, .bool false, .bool false, .bool false, .bool false, .bool false, .bool false, .bool false, .bool false, .bool false, .bool false, .bool false, .bool false, .bool false, .bool false, .bool false, .bool false, .bool false, .bool false, .bool false, .bool false, .bool false, .bool false, .bool false, .bool false, .bool false, .bool false, .bool false, .bool false, .bool false, .bool false, .bool false, .bool false, .bool false, .bool false, .bool false, .bool false, .bool false, .bool false, .bool false, .bool false, .bool false, .bool false, .bool false, .bool false, .bool false, .bool false, .bool false, .bool false, .bool false, .bool false, .bool false, .bool false, .bool false, .bool false, .bool false, .bool false, .bool false, .bool false, .bool false, .bool false, .bool false, .bool false, .bool false, .bool false, .bool false, .bool false, .bool false, .bool false, .bool false, .bool false, .bool false, .bool false, .bool false, .bool false, .bool false, .bool false, .bool false, .bool false] := by kernel_rfl
theorem ty339 : ty Tryz.prog 339 = some (true, 256) := by kernel_rfl
theorem elt339 : elt Tryz.prog 339 = some (some 256, false, 1) := by kernel_rfl
theorem flds339 : flds Tryz.prog 339 = none := by kernel_rfl
theorem zero339 : tzero Tryz.prog 339 = some [.bool false, .bool false, .bool false, .bool false, .bool false, .bool false, .bool false, .bool false, .bool false, .bool false, .bool false, .bool false, .bool false, .bool false, .bool false, .bool false, .bool false, .bool false, .bool false, .bool false, .bool false, .bool false, .bool false, .bool false, .bool false, .bool false, .bool false, .bool false, .bool false, .bool false, .bool false, .bool false, .bool false, .bool false, .bool false, .bool false, .bool false, .bool false, .bool false, .bool false, .bool false, .bool false, .bool false, .bool false, .bool false, .bool false, .bool false, .bool false, .bool false, .bool false, .bool false, .bool false, .bool false, .bool false, .bool false, .bool false, .bool false, .bool false, .bool false, .bool false, .bool false, .bool false, .bool false, .bool false, .bool false, .bool false, .bool false, .bool false, .bool false, .bool false, .bool false, .bool false, .bool false, .bool false, .bool false, .bool false, .bool false, .bool false, .bool false, .bool false, .bool false, .bool false, .bool false, .bool false, .bool false, .bool false, .bool false, .bool false, .bool false, .bool false, .bool false, .bool false, .bool false, .bool false, .bool false, .bool false, .bool false, .bool false, .bool false, .bool false, .bool false, .bool false, .bool false, .bool false, .bool false, .bool false, .bool false, .bool false, .bool false, .bool false, .bool false, .bool false, .bool false, .bool false, .bool false, .bool false, .bool false, .bool false, .bool false, .bool false, .bool false, .bool false, .bool false, .bool false, .bool false, .bool false, .bool false, .bool false, .bool false, .bool false, .bool false, .bool false, .bool false, .bool false, .bool false, .bool false, .bool false, .bool false, .bool false, .bool false, .bool false, .bool false, .bool false, .bool false, .bool false, .bool false, .bool false, .bool false, .bool false, .bool false, .bool false, .bool false, .bool false, .bool false, .bool false, .bool false, .bool false, .bool false, .bool false, .bool false, .bool false, .bool false, .bool false, .bool false, .bool false, .bool false, .bool false, .bool false, .bool false, .bool false, .bool false, .bool false, .bool false, .bool false, .bool false, .bool false, .bool false, .bool false, .bool false, .bool false, .bool false, .bool false, .bool false, .bool false, .bool false, .bool false, .bool false, .bool false, .bool false, .bool false, .bool false, .bool false, .bool false, .bool false, .bool false, .bool false, .bool false, .bool false, .bool false, .bool false, .bool false, .bool false, .bool false, .bool false, .bool false, .bool false, .bool false, .bool false, .bool false, .bool false, .bool false, .bool false, .bool false, .bool false, .bool false, .bool false, .bool false, .bool false, .bool false, .bool false, .bool false, .bool false, .bool false, .bool false, .bool false, .bool false, .bool false, .bool false, .bool false, .bool false, .bool false, .bool false, .bool false, .bool false, .bool false, .bool false, .bool false, .bool false, .bool false, .bool false, .bool false, .bool false, .bool false, .bool false, .bool false, .bool false, .bool false, .bool false, .bool false, .bool false, .bool false, .bool false, .bool false, .bool false, .bool false, .bool false] := by kernel_rfl
theorem ty341 : ty Tryz.prog 341 = some (false, 1) := by kernel_rfl
theorem ty342 : ty Tryz.prog 342 = some (false, 1) := by kernel_rfl
theorem ty343 : ty Tryz.prog 343 = some (false, 1) := by kernel_rfl
theorem zero343 : tzero Tryz.prog 343 = some [.pointer none] := by kernel_rfl
theorem ty344 : ty Tryz.prog 344 = some (true, 4) := by kernel_rfl
theorem fld344_0 : fld Tryz.prog 344 0 = some (0, false, 1) := by kernel_rfl
theorem fld344_1 : fld Tryz.prog 344 1 = some (1, false, 1) := by kernel_rfl
theorem fld344_2 : fld Tryz.prog 344 2 = some (2, false, 1) := by kernel_rfl
theorem fld344_3 : fld Tryz.prog 344 3 = some (3, false, 1) := by kernel_rfl
theorem flds344 : flds Tryz.prog 344 = some [(0, 1), (1, 1), (2, 1), (3, 1)] := by kernel_rfl
theorem elt344 : elt Tryz.prog 344 = none := by kernel_rfl
theorem zero344 : tzero Tryz.prog 344 = some [.pointer none, .pointer none, .pointer none, .string ⟨#[]⟩] := by kernel_rfl
theorem ty345 : ty Tryz.prog 345 = some (true, 4) := by kernel_rfl
theorem fld345_0 : fld Tryz.prog 345 0 = some (0, false, 1) := by kernel_rfl
theorem fld345_1 : fld Tryz.prog 345 1 = some (1, false, 1) := by kernel_rfl
theorem fld345_2 : fld Tryz.prog 345 2 = some (2, false, 1) := by kernel_rfl
theorem fld345_3 : fld Tryz.prog 345 3 = some (3, false, 1) := by kernel_rfl
theorem flds345 : flds Tryz.prog 345 = some [(0, 1), (1, 1), (2, 1), (3, 1)] := by kernel_rfl
theorem elt345 : elt Tryz.prog 345 = none := by kernel_rfl
theorem zero345 : tzero Tryz.prog 345 = some [.pointer none, .pointer none, .pointer none, .string ⟨#[]⟩] := by kernel_rfl
theorem ty346 : ty Tryz.prog 346 = some (true, 0) := by kernel_rfl
theorem elt346 : elt Tryz.prog 346 = some (some 0, false, 1) := by kernel_rfl
theorem flds346 : flds Tryz.prog 346 = none := by kernel_rfl
theorem zero346 : tzero Tryz.prog 346 = some [] := by kernel_rfl
theorem ty347 : ty Tryz.prog 347 = some (true, 0) := by kernel_rfl
theorem fld347_0 : fld Tryz.prog 347 0 = some (0, true, 0) := by kernel_rfl
theorem flds347 : flds Tryz.prog 347 = some [(0, 0)] := by kernel_rfl
theorem elt347 : elt Tryz.prog 347 = none := by kernel_rfl
theorem zero347 : tzero Tryz.prog 347 = some [] := by kernel_rfl
theorem ty348 : ty Tryz.prog 348 = some (true, 0) := by kernel_rfl
theorem fld348_0 : fld Tryz.prog 348 0 = some (0, true, 0) := by kernel_rfl
theorem flds348 : flds Tryz.prog 348 = some [(0, 0)] := by kernel_rfl
theorem elt348 : elt Tryz.prog 348 = none := by kernel_rfl
theorem zero348 : tzero Tryz.prog 348 = some [] := by kernel_rfl
theorem ty349 : ty Tryz.prog 349 = some (false, 1) := by kernel_rfl
theorem ty350 : ty Tryz.prog 350 = some (false, 1) := by kernel_rfl
theorem zero350 : tzero Tryz.prog 350 = some [.int .u8 0] := by kernel_rfl
theorem ty351 : ty Tryz.prog 351 = some (false, 1) := by kernel_rfl
theorem zero351 : tzero Tryz.prog 351 = some [.int .u8 0] := by kernel_rfl
theorem ty352 : ty Tryz.prog 352 = some (false, 1) := by kernel_rfl
theorem ty353 : ty Tryz.prog 353 = some (false, 1) := by kernel_rfl
theorem zero353 : tzero Tryz.prog 353 = some [.int .i32 0] := by kernel_rfl
theorem ty354 : ty Tryz.prog 354 = some (false, 1) := by kernel_rfl
theorem zero354 : tzero Tryz.prog 354 = some [.int .i32 0] := by kernel_rfl
theorem ty355 : ty Tryz.prog 355 = some (true, 11) := by kernel_rfl
theorem fld355_0 : fld Tryz.prog 355 0 = some (0, false, 1) := by kernel_rfl
theorem fld355_1 : fld Tryz.prog 355 1 = some (1, false, 1) := by kernel_rfl
theorem fld355_2 : fld Tryz.prog 355 2 = some (2, false, 1) := by kernel_rfl
theorem fld355_3 : fld Tryz.prog 355 3 = some (3, false, 1) := by kernel_rfl
theorem fld355_4 : fld Tryz.prog 355 4 = some (4, false, 1) := by kernel_rfl
theorem fld355_5 : fld Tryz.prog 355 5 = some (5, false, 1) := by kernel_rfl
theorem fld355_6 : fld Tryz.prog 355 6 = some (6, false, 1) := by kernel_rfl
theorem fld355_7 : fld Tryz.prog 355 7 = some (7, false, 1) := by kernel_rfl
theorem fld355_8 : fld Tryz.prog 355 8 = some (8, false, 1) := by kernel_rfl
theorem fld355_9 : fld Tryz.prog 355 9 = some (9, false, 1) := by kernel_rfl
theorem fld355_10 : fld Tryz.prog 355 10 = some (10, false, 1) := by kernel_rfl
theorem flds355 : flds Tryz.prog 355 = some [(0, 1), (1, 1), (2, 1), (3, 1), (4, 1), (5, 1), (6, 1), (7, 1), (8, 1), (9, 1), (10, 1)] := by kernel_rfl
theorem elt355 : elt Tryz.prog 355 = none := by kernel_rfl
theorem zero355 : tzero Tryz.prog 355 = some [.int .u64 0, .int .u64 0, .int .u32 0, .int .u8 0, .int .u8 0, .int .u8 0, .int .u8 0, .nilFunc, .pointer none, .int .i32 0, .int .i32 0] := by kernel_rfl
theorem ty356 : ty Tryz.prog 356 = some (true, 11) := by kernel_rfl
theorem fld356_0 : fld Tryz.prog 356 0 = some (0, false, 1) := by kernel_rfl
theorem fld356_1 : fld Tryz.prog 356 1 = some (1, false, 1) := by kernel_rfl
theorem fld356_2 : fld Tryz.prog 356 2 = some (2, false, 1) := by kernel_rfl
theorem fld356_3 : fld Tryz.prog 356 3 = some (3, false, 1) := by kernel_rfl
theorem fld356_4 : fld Tryz.prog 356 4 = some (4, false, 1) := by kernel_rfl
theorem fld356_5 : fld Tryz.prog 356 5 = some (5, false, 1) := by kernel_rfl
theorem fld356_6 : fld Tryz.prog 356 6 = some (6, false, 1) := by kernel_rfl
theorem fld356_7 : fld Tryz.prog 356 7 = some (7, false, 1) := by kernel_rfl
theorem fld356_8 : fld Tryz.prog 356 8 = some (8, false, 1) := by kernel_rfl
theorem fld356_9 : fld Tryz.prog 356 9 = some (9, false, 1) := by kernel_rfl
theorem fld356_10 : fld Tryz.prog 356 10 = some (10, false, 1) := by kernel_rfl
theorem flds356 : flds Tryz.prog 356 = some [(0, 1), (1, 1), (2, 1), (3, 1), (4, 1), (5, 1), (6, 1), (7, 1), (8, 1), (9, 1), (10, 1)] := by kernel_rfl
theorem elt356 : elt Tryz.prog 356 = none := by kernel_rfl
theorem zero356 : tzero Tryz.prog 356 = some [.int .u64 0, .int .u64 0, .int .u32 0, .int .u8 0, .int .u8 0, .int .u8 0, .int .u8 0, .nilFunc, .pointer none, .int .i32 0, .int .i32 0] := by kernel_rfl
end Go.Proofs.YtgkolnknobgcmaaGreat
end
section
namespace Go.Proofs.YtgkolnknobgcmaaGreat
open Go Go.Proofs.YtgkolnknobgcmaaGreatV
set_option maxRecDepth 20000
set_option linter.unusedSimpArgs false
set_option linter.unusedVariables false
set_option maxHeartbeats 4000000
theorem bC020 : type_of% @Tryz.underlying5 ∧ type_of% @ty5 ∧ type_of% @zero5 ∧ type_of% @Tryz.ntmps192 := ⟨@Tryz.underlying5, @ty5, @zero5, @Tryz.ntmps192⟩
theorem bC021 : type_of% @Tryz.underlying3 ∧ type_of% @ty3 ∧ type_of% @zero3 ∧ type_of% @Tryz.ntmps193 := ⟨@Tryz.underlying3, @ty3, @zero3, @Tryz.ntmps193⟩
theorem bC022 : type_of% @Tryz.underlying298 ∧ type_of% @elt298 ∧ type_of% @fld298_0 ∧ type_of% @fld298_1 ∧ type_of% @fld298_2 ∧ type_of% @flds298 ∧ type_of% @ty298 ∧ type_of% @zero298 ∧ type_of% @Tryz.underlying299 ∧ type_of% @elt299 ∧ type_of% @flds299 ∧ type_of% @ty299 ∧ type_of% @zero299 ∧ type_of% @Tryz.ntmps191 := ⟨@Tryz.underlying298, @elt298, @fld298_0, @fld298_1, @fld298_2, @flds298, @ty298, @zero298, @Tryz.underlying299, @elt299, @flds299, @ty299, @zero299, @Tryz.ntmps191⟩
theorem bC023 : type_of% @Tryz.underlying3 ∧ type_of% @ty3 ∧ type_of% @zero3 ∧ type_of% @Tryz.underlying5 ∧ type_of% @ty5 ∧ type_of% @zero5 ∧ type_of% @Tryz.underlying9 ∧ type_of% @ty9 ∧ type_of% @zero9 ∧ type_of% @Tryz.underlying183 ∧ type_of% @einf183 ∧ type_of% @elt183 ∧ type_of% @ty183 ∧ type_of% @zero183 ∧ type_of% @Tryz.underlying298 ∧ type_of% @elt298 ∧ type_of% @fld298_0 ∧ type_of% @fld298_1 ∧ type_of% @fld298_2 ∧ type_of% @flds298 ∧ type_of% @ty298 ∧ type_of% @zero298 ∧ type_of% @Tryz.underlying299 ∧ type_of% @elt299 ∧ type_of% @flds299 ∧ type_of% @ty299 ∧ type_of% @zero299 ∧ type_of% @Tryz.ntmps170 := ⟨@Tryz.underlying3, @ty3, @zero3, @Tryz.underlying5, @ty5, @zero5, @Tryz.underlying9, @ty9, @zero9, @Tryz.underlying183, @einf183, @elt183, @ty183, @zero183, @Tryz.underlying298, @elt298, @fld298_0, @fld298_1, @fld298_2, @flds298, @ty298, @zero298, @Tryz.underlying299, @elt299, @flds299, @ty299, @zero299, @Tryz.ntmps170⟩
variable {H : Mem} {K : Value → Mem → Prop}

def goesB (b : UInt8) : Bool := decide (128 ≤ b.toNat) && decide (b.toNat < 192)
theorem goes_bit : ∀ b : UInt8, (bitI BinOp.andNot IntKind.u8 b.toNat 63 == 128) = goesB b := by
  intro b
  have : ∀ n : Fin 256, (bitI BinOp.andNot IntKind.u8 (n.val : Nat) 63 == 128) = (decide (128 ≤ n.val) && decide (n.val < 192)) := by decide +kernel
  exact this ⟨b.toNat, b.toNat_lt⟩
theorem goes_W {b : UInt8} (h : K (.bool (goesB b)) H) : InvW Tryz.prog 192 #[.int .u8 b.toNat] H K := by
  (refine invW_of_pw Tryz.func192 rfl rfl (by decide +kernel) (by simp [Tryz.f192]) ?_); simp -dsimp -failIfUnchanged (maxSteps := 2000000) (disch := omega) only [VA, if_true_, if_false_, reduceIte, Nat.reduceEqDiff, Nat.reduceAdd, Nat.reduceMul, Nat.reduceSub, Int.reduceToNat, Int.reduceAdd, Int.reduceNeg, Int.reduceSub, Int.reduceMul, Int.reduceBEq, Int.reduceBNe, Int.reduceLT, Int.reduceLE, Int.reduceEq, beq_self_eq_true, Int.reducePow, Nat.reducePow, Int.reduceDiv, Nat.reduceLeDiff, reduceCtorEq, Tryz.f192, Tryz.results192, bC020]
  rw [goes_bit]; exact h
def charB (c : Int) : Bool := decide (0 ≤ c) && decide (c ≤ 1114111) && (decide (c < 55296) || decide (57343 < c))
theorem character_W {c : Int} (h : K (.bool (charB c)) H) : InvW Tryz.prog 193 #[.int .i64 c] H K := by
  unfold charB at h
  cases c1 : decide (0 ≤ c) <;> cases c2 : decide (c ≤ 1114111) <;> cases c3 : decide (c < 55296) <;> cases c4 : decide (57343 < c) <;> rw [c1, c2, c3, c4] at h <;> ((refine invW_of_pw Tryz.func193 rfl rfl (by decide +kernel) (by simp [Tryz.f193]) ?_); simp -dsimp -failIfUnchanged (maxSteps := 2000000) (disch := omega) only [VA, if_true_, if_false_, reduceIte, Nat.reduceEqDiff, Nat.reduceAdd, Nat.reduceMul, Nat.reduceSub, Int.reduceToNat, Int.reduceAdd, Int.reduceNeg, Int.reduceSub, Int.reduceMul, Int.reduceBEq, Int.reduceBNe, Int.reduceLT, Int.reduceLE, Int.reduceEq, beq_self_eq_true, Int.reducePow, Nat.reducePow, Int.reduceDiv, Nat.reduceLeDiff, reduceCtorEq, Tryz.f193, Tryz.results193, bC021, c1, c2, c3, c4]; exact h)
def formsV : Value := .agg #[.int .i64 0, .int .u8 0, .int .u8 127, .int .i64 128, .int .u8 192, .int .u8 31, .int .i64 2048, .int .u8 224, .int .u8 15, .int .i64 65536, .int .u8 240, .int .u8 7]
theorem forms_W (h : K formsV H) : InvW Tryz.prog 191 #[] H K := by
  refine InvW.weak ?_
  (refine invW_of_pw Tryz.func191 rfl rfl (by decide +kernel) (by simp [Tryz.f191]) ?_); simp -dsimp -failIfUnchanged (maxSteps := 2000000) (disch := omega) only [VA, if_true_, if_false_, reduceIte, Nat.reduceEqDiff, Nat.reduceAdd, Nat.reduceMul, Nat.reduceSub, Int.reduceToNat, Int.reduceAdd, Int.reduceNeg, Int.reduceSub, Int.reduceMul, Int.reduceBEq, Int.reduceBNe, Int.reduceLT, Int.reduceLE, Int.reduceEq, beq_self_eq_true, Int.reducePow, Nat.reducePow, Int.reduceDiv, Nat.reduceLeDiff, reduceCtorEq, Tryz.f191, Tryz.results191, bC022]
  intro n hn
  simp -dsimp -failIfUnchanged (maxSteps := 2000000) (disch := omega) only [VA, if_true_, if_false_, reduceIte, Nat.reduceEqDiff, Nat.reduceAdd, Nat.reduceMul, Nat.reduceSub, Int.reduceToNat, Int.reduceAdd, Int.reduceNeg, Int.reduceSub, Int.reduceMul, Int.reduceBEq, Int.reduceBNe, Int.reduceLT, Int.reduceLE, Int.reduceEq, beq_self_eq_true, Int.reducePow, Nat.reducePow, Int.reduceDiv, Nat.reduceLeDiff, reduceCtorEq, Tryz.f191, Tryz.results191, bC022]
  exact ⟨H, Mem.le_upd hn _, h⟩

/-- What a first byte says: how many come behind it. -/
def leadN (b : Nat) : Option Nat :=
  if b < 128 then some 0 else if 192 ≤ b ∧ b < 224 then some 1 else if 224 ≤ b ∧ b < 240 then some 2 else if 240 ≤ b ∧ b < 248 then some 3 else none
def lead (b : UInt8) : Option Nat := leadN b.toNat
theorem all_u8 {p : Nat → Prop} (h : ∀ n : Fin 256, p n.val) (b : UInt8) : p b.toNat := h ⟨b.toNat, b.toNat_lt⟩
theorem lead_bit0 (b : UInt8) : (bitI BinOp.andNot IntKind.u8 b.toNat 127 != 0) = !(lead b == some 0) :=
  all_u8 (p := fun n => (bitI BinOp.andNot IntKind.u8 (n : Int) 127 != 0) = !(leadN n == some 0)) (by decide +kernel) b
theorem and_bit0 (b : UInt8) : bitI BinOp.and IntKind.u8 b.toNat 127 = ((b.toNat % (127 + 1) : Nat) : Int) :=
  all_u8 (p := fun n => bitI BinOp.and IntKind.u8 (n : Int) 127 = ((n % (127 + 1) : Nat) : Int)) (by decide +kernel) b
theorem lead_bit1 (b : UInt8) : (bitI BinOp.andNot IntKind.u8 b.toNat 31 != 192) = !(lead b == some 1) :=
  all_u8 (p := fun n => (bitI BinOp.andNot IntKind.u8 (n : Int) 31 != 192) = !(leadN n == some 1)) (by decide +kernel) b
theorem and_bit1 (b : UInt8) : bitI BinOp.and IntKind.u8 b.toNat 31 = ((b.toNat % (31 + 1) : Nat) : Int) :=
  all_u8 (p := fun n => bitI BinOp.and IntKind.u8 (n : Int) 31 = ((n % (31 + 1) : Nat) : Int)) (by decide +kernel) b
theorem lead_bit2 (b : UInt8) : (bitI BinOp.andNot IntKind.u8 b.toNat 15 != 224) = !(lead b == some 2) :=
  all_u8 (p := fun n => (bitI BinOp.andNot IntKind.u8 (n : Int) 15 != 224) = !(leadN n == some 2)) (by decide +kernel) b
theorem and_bit2 (b : UInt8) : bitI BinOp.and IntKind.u8 b.toNat 15 = ((b.toNat % (15 + 1) : Nat) : Int) :=
  all_u8 (p := fun n => bitI BinOp.and IntKind.u8 (n : Int) 15 = ((n % (15 + 1) : Nat) : Int)) (by decide +kernel) b
theorem lead_bit3 (b : UInt8) : (bitI BinOp.andNot IntKind.u8 b.toNat 7 != 240) = !(lead b == some 3) :=
  all_u8 (p := fun n => (bitI BinOp.andNot IntKind.u8 (n : Int) 7 != 240) = !(leadN n == some 3)) (by decide +kernel) b
theorem and_bit3 (b : UInt8) : bitI BinOp.and IntKind.u8 b.toNat 7 = ((b.toNat % (7 + 1) : Nat) : Int) :=
  all_u8 (p := fun n => bitI BinOp.and IntKind.u8 (n : Int) 7 = ((n % (7 + 1) : Nat) : Int)) (by decide +kernel) b
theorem lead_le {b : UInt8} {j : Nat} (h : lead b = some j) : j ≤ 3 := by
  unfold lead leadN at h
  split at h <;> (try split at h) <;> (try split at h) <;> (try split at h) <;> simp_all <;> omega
theorem and_bit63 (b : UInt8) : bitI BinOp.and IntKind.u8 b.toNat 63 = ((b.toNat % 64 : Nat) : Int) :=
  all_u8 (p := fun n => bitI BinOp.and IntKind.u8 (n : Int) 63 = ((n % 64 : Nat) : Int)) (by decide +kernel) b
def bitsOf : Nat → Nat
  | 0 => 127 | 1 => 31 | 2 => 15 | _ => 7
def fromOf : Nat → Int
  | 0 => 0 | 1 => 128 | 2 => 2048 | _ => 65536
/-- The bytes that go on. -/
def more (c : Int) : List UInt8 → Option Int
  | [] => some c
  | b :: r => if goesB b then more (c * 64 + b.toNat % 64) r else none
def nxt : List UInt8 → Int × Nat
  | [] => (-1, 0)
  | b :: r => match lead b with
    | none => (-1, 1)
    | some n => if r.length < n then (-1, 1) else match more ((b.toNat % (bitsOf n + 1) : Nat) : Int) (r.take n) with
      | none => (-1, 1)
      | some c => if c < fromOf n ∨ charB c = false then (-1, 1) else (c, n + 1)

theorem nxt_none {b : UInt8} {r q : List UInt8} {n : Nat} (hl : lead b = some n) (hr : n ≤ r.length) (hq : r.take n = q) (hm : more ((b.toNat % (bitsOf n + 1) : Nat) : Int) q = none) : nxt (b :: r) = (-1, 1) := by
  unfold nxt; dsimp only; rw [hl]; dsimp only; rw [if_neg (Nat.not_lt.2 hr), hq, hm]
theorem nxt_bad {b : UInt8} {r q : List UInt8} {n : Nat} {c : Int} (hl : lead b = some n) (hr : n ≤ r.length) (hq : r.take n = q) (hm : more ((b.toNat % (bitsOf n + 1) : Nat) : Int) q = some c) (hc : c < fromOf n ∨ charB c = false) : nxt (b :: r) = (-1, 1) := by
  unfold nxt; dsimp only; rw [hl]; dsimp only; rw [if_neg (Nat.not_lt.2 hr), hq, hm]; exact if_pos hc
theorem nxt_good {b : UInt8} {r q : List UInt8} {n : Nat} {c : Int} (hl : lead b = some n) (hr : n ≤ r.length) (hq : r.take n = q) (hm : more ((b.toNat % (bitsOf n + 1) : Nat) : Int) q = some c) (hc : ¬ (c < fromOf n ∨ charB c = false)) : nxt (b :: r) = (c, n + 1) := by
  unfold nxt; dsimp only; rw [hl]; dsimp only; rw [if_neg (Nat.not_lt.2 hr), hq, hm]; exact if_neg hc
theorem pow_mono {m n : Nat} (h : m ≤ n) : (64 : Int) ^ m ≤ 64 ^ n := by
  have := Nat.pow_le_pow_right (show 0 < 64 by decide) h
  exact_mod_cast this
theorem or_add {c : Int} {y : Nat} (h0 : 0 ≤ c) (h1 : c < 33554432) (hy : y < 64) : bitI BinOp.or IntKind.i64 (c * 64) y = c * 64 + y := by
  obtain ⟨n, rfl⟩ := Int.eq_ofNat_of_zero_le h0
  have hb : ((BitVec.ofInt 64 (n * 64 : Int) ||| BitVec.ofInt 64 (y : Int)).toNat) = n * 64 + y := by
    rw [show ((n : Int) * 64) = ((n * 64 : Nat) : Int) from by simp, BitVec.ofInt_natCast, BitVec.ofInt_natCast, BitVec.toNat_or, BitVec.toNat_ofNat, BitVec.toNat_ofNat, Nat.mod_eq_of_lt (by omega), Nat.mod_eq_of_lt (by omega)]
    have := Nat.shiftLeft_add_eq_or_of_lt (b := y) (i := 6) (by omega) n
    rw [Nat.shiftLeft_eq] at this
    exact this.symm
  show IntKind.i64.wrap ((BitVec.ofInt 64 (n * 64 : Int) ||| BitVec.ofInt 64 (y : Int)).toNat : Int) = _
  rw [hb, IntKind.wrap_i64]; omega

theorem next_W {s : List UInt8} (h : K (.tuple #[.int .i64 (nxt s).1, .int .i64 (nxt s).2]) H) : InvW Tryz.prog 170 #[.string (bs s)] H K := by
  refine InvW.weak ?_
  rcases s with _ | ⟨b, r⟩
  · (refine invW_of_pw Tryz.func170 rfl rfl (by decide +kernel) (by simp [Tryz.f170]) ?_); simp -dsimp -failIfUnchanged (maxSteps := 2000000) (disch := omega) only [VA, if_true_, if_false_, reduceIte, Nat.reduceEqDiff, Nat.reduceAdd, Nat.reduceMul, Nat.reduceSub, Int.reduceToNat, Int.reduceAdd, Int.reduceNeg, Int.reduceSub, Int.reduceMul, Int.reduceBEq, Int.reduceBNe, Int.reduceLT, Int.reduceLE, Int.reduceEq, beq_self_eq_true, Int.reducePow, Nat.reducePow, Int.reduceDiv, Nat.reduceLeDiff, reduceCtorEq, Tryz.f170, Tryz.results170, bC023]
    exact ⟨H, Mem.le_refl H, h⟩
  · have hsz : 0 < (bs (b :: r)).size := by simp [bs_size]
    (refine invW_of_pw Tryz.func170 rfl rfl (by decide +kernel) (by simp [Tryz.f170]) ?_); simp -dsimp -failIfUnchanged (maxSteps := 2000000) (disch := omega) only [VA, if_true_, if_false_, reduceIte, Nat.reduceEqDiff, Nat.reduceAdd, Nat.reduceMul, Nat.reduceSub, Int.reduceToNat, Int.reduceAdd, Int.reduceNeg, Int.reduceSub, Int.reduceMul, Int.reduceBEq, Int.reduceBNe, Int.reduceLT, Int.reduceLE, Int.reduceEq, beq_self_eq_true, Int.reducePow, Nat.reducePow, Int.reduceDiv, Nat.reduceLeDiff, reduceCtorEq, Tryz.f170, Tryz.results170, bC023]
    refine forms_W ?_
    simp -dsimp -failIfUnchanged (maxSteps := 2000000) (disch := omega) only [VA, if_true_, if_false_, reduceIte, Nat.reduceEqDiff, Nat.reduceAdd, Nat.reduceMul, Nat.reduceSub, Int.reduceToNat, Int.reduceAdd, Int.reduceNeg, Int.reduceSub, Int.reduceMul, Int.reduceBEq, Int.reduceBNe, Int.reduceLT, Int.reduceLE, Int.reduceEq, beq_self_eq_true, Int.reducePow, Nat.reducePow, Int.reduceDiv, Nat.reduceLeDiff, reduceCtorEq, Tryz.f170, Tryz.results170, bC023, formsV]
    refine loop_enter (loop_ind (by decide +kernel) (fun (i : Nat) e H' => e.ds = [] ∧ e 0 = .string (bs (b :: r)) ∧ e 11 = formsV ∧ e 12 = .int .i64 i ∧ i ≤ 4 ∧ (∀ j, lead b = some j → i ≤ j) ∧ H.le H') (fun i => 4 - i) ?_ 0 _ _ ?_)
    · rintro i e H' ⟨ed, e0, e11, e12, hi, hj, hle⟩ ih
      match i, hi with
      | 0, _ =>
        have e12' : e 12 = .int .i64 0 := e12
        simp -dsimp -failIfUnchanged (maxSteps := 2000000) (disch := omega) only [VA, if_true_, if_false_, reduceIte, Nat.reduceEqDiff, Nat.reduceAdd, Nat.reduceMul, Nat.reduceSub, Int.reduceToNat, Int.reduceAdd, Int.reduceNeg, Int.reduceSub, Int.reduceMul, Int.reduceBEq, Int.reduceBNe, Int.reduceLT, Int.reduceLE, Int.reduceEq, beq_self_eq_true, Int.reducePow, Nat.reducePow, Int.reduceDiv, Nat.reduceLeDiff, reduceCtorEq, Tryz.f170, Tryz.results170, bC023, ed, e0, e11, e12', formsV]
        intro n hn
        simp -dsimp -failIfUnchanged (maxSteps := 2000000) (disch := omega) only [VA, if_true_, if_false_, reduceIte, Nat.reduceEqDiff, Nat.reduceAdd, Nat.reduceMul, Nat.reduceSub, Int.reduceToNat, Int.reduceAdd, Int.reduceNeg, Int.reduceSub, Int.reduceMul, Int.reduceBEq, Int.reduceBNe, Int.reduceLT, Int.reduceLE, Int.reduceEq, beq_self_eq_true, Int.reducePow, Nat.reducePow, Int.reduceDiv, Nat.reduceLeDiff, reduceCtorEq, Tryz.f170, Tryz.results170, bC023, ed, e0, e11, e12', formsV]
        refine draw_quiet (by decide +kernel) (by decide +kernel) (by decide +kernel) ?_
        simp -dsimp -failIfUnchanged (maxSteps := 2000000) (disch := omega) only [VA, if_true_, if_false_, reduceIte, Nat.reduceEqDiff, Nat.reduceAdd, Nat.reduceMul, Nat.reduceSub, Int.reduceToNat, Int.reduceAdd, Int.reduceNeg, Int.reduceSub, Int.reduceMul, Int.reduceBEq, Int.reduceBNe, Int.reduceLT, Int.reduceLE, Int.reduceEq, beq_self_eq_true, Int.reducePow, Nat.reducePow, Int.reduceDiv, Nat.reduceLeDiff, reduceCtorEq, Tryz.f170, Tryz.results170, bC023, ed, e0, e11, e12', formsV, pwQ, pwQ.qOpW, qV, byteAt_bs, List.length_cons, lead_bit0]
        cases hl : (lead b == some 0)
        · simp -dsimp -failIfUnchanged (maxSteps := 2000000) (disch := omega) only [VA, if_true_, if_false_, reduceIte, Nat.reduceEqDiff, Nat.reduceAdd, Nat.reduceMul, Nat.reduceSub, Int.reduceToNat, Int.reduceAdd, Int.reduceNeg, Int.reduceSub, Int.reduceMul, Int.reduceBEq, Int.reduceBNe, Int.reduceLT, Int.reduceLE, Int.reduceEq, beq_self_eq_true, Int.reducePow, Nat.reducePow, Int.reduceDiv, Nat.reduceLeDiff, reduceCtorEq, Tryz.f170, Tryz.results170, bC023, ed, e0, e11, e12', formsV]
          refine ih (0 + 1) _ _ ?_ (by omega)
          simp -dsimp -failIfUnchanged (maxSteps := 2000000) (disch := omega) only [VA, if_true_, if_false_, reduceIte, Nat.reduceEqDiff, Nat.reduceAdd, Nat.reduceMul, Nat.reduceSub, Int.reduceToNat, Int.reduceAdd, Int.reduceNeg, Int.reduceSub, Int.reduceMul, Int.reduceBEq, Int.reduceBNe, Int.reduceLT, Int.reduceLE, Int.reduceEq, beq_self_eq_true, Int.reducePow, Nat.reducePow, Int.reduceDiv, Nat.reduceLeDiff, reduceCtorEq, Tryz.f170, Tryz.results170, bC023, ed, e0, e11, e12', formsV]
          refine ⟨trivial, trivial, trivial, (by trivial), by simp, fun j hj' => ?_, Mem.le_upd' hle hn _⟩
          have := hj j hj'
          rcases Nat.lt_or_ge 0 j with h' | h'
          · exact h'
          · obtain rfl : j = 0 := by omega
            simp [hj'] at hl
        · have hl' : lead b = some 0 := eq_of_beq hl
          simp -dsimp -failIfUnchanged (maxSteps := 2000000) (disch := omega) only [VA, if_true_, if_false_, reduceIte, Nat.reduceEqDiff, Nat.reduceAdd, Nat.reduceMul, Nat.reduceSub, Int.reduceToNat, Int.reduceAdd, Int.reduceNeg, Int.reduceSub, Int.reduceMul, Int.reduceBEq, Int.reduceBNe, Int.reduceLT, Int.reduceLE, Int.reduceEq, beq_self_eq_true, Int.reducePow, Nat.reducePow, Int.reduceDiv, Nat.reduceLeDiff, reduceCtorEq, Tryz.f170, Tryz.results170, bC023, ed, e0, e11, e12', formsV]
          cases c2 : decide ((↑(r.length + 1) : Int) ≤ 0)
          · have hqi : 0 ≤ r.length := by simp at c2; omega
            have hsz2 : 1 ≤ (bs (b :: r)).size := by rw [bs_size, List.length_cons]; omega
            simp -dsimp -failIfUnchanged (maxSteps := 2000000) (disch := omega) only [VA, if_true_, if_false_, reduceIte, Nat.reduceEqDiff, Nat.reduceAdd, Nat.reduceMul, Nat.reduceSub, Int.reduceToNat, Int.reduceAdd, Int.reduceNeg, Int.reduceSub, Int.reduceMul, Int.reduceBEq, Int.reduceBNe, Int.reduceLT, Int.reduceLE, Int.reduceEq, beq_self_eq_true, Int.reducePow, Nat.reducePow, Int.reduceDiv, Nat.reduceLeDiff, reduceCtorEq, Tryz.f170, Tryz.results170, bC023, ed, e0, e11, e12', formsV, c2]
            refine draw_quiet (by decide +kernel) (by decide +kernel) (by decide +kernel) ?_
            simp -dsimp -failIfUnchanged (maxSteps := 2000000) (disch := omega) only [VA, if_true_, if_false_, reduceIte, Nat.reduceEqDiff, Nat.reduceAdd, Nat.reduceMul, Nat.reduceSub, Int.reduceToNat, Int.reduceAdd, Int.reduceNeg, Int.reduceSub, Int.reduceMul, Int.reduceBEq, Int.reduceBNe, Int.reduceLT, Int.reduceLE, Int.reduceEq, beq_self_eq_true, Int.reducePow, Nat.reducePow, Int.reduceDiv, Nat.reduceLeDiff, reduceCtorEq, Tryz.f170, Tryz.results170, bC023, ed, e0, e11, e12', formsV, pwQ, pwQ.qOpW, qV, byteAt_bs, List.length_cons, and_bit0]
            have hql : (r.take 0).length = 0 := by simp only [List.length_take]; omega
            have hq : (bs (b :: r)).extract 1 1 = bs (r.take 0) := by rw [bs_extract]; simp
            generalize hqq : r.take 0 = q at hql hq
            rw [hq]
            refine conv_bytes Tryz.underlying9 Tryz.underlying183 Tryz.underlying5 fun m cap hm hcap => ?_
            rw [hql]
            have hmn : n ≠ m := by rintro rfl; simp [Mem.upd] at hm
            simp -dsimp -failIfUnchanged (maxSteps := 2000000) (disch := omega) only [VA, if_true_, if_false_, reduceIte, Nat.reduceEqDiff, Nat.reduceAdd, Nat.reduceMul, Nat.reduceSub, Int.reduceToNat, Int.reduceAdd, Int.reduceNeg, Int.reduceSub, Int.reduceMul, Int.reduceBEq, Int.reduceBNe, Int.reduceLT, Int.reduceLE, Int.reduceEq, beq_self_eq_true, Int.reducePow, Nat.reducePow, Int.reduceDiv, Nat.reduceLeDiff, reduceCtorEq, Tryz.f170, Tryz.results170, bC023, ed, e0, e11, e12', formsV]
            refine loop_enter (loop_ind (by decide +kernel) (fun (k : Nat) e1 H1 => e1.ds = [] ∧ e1 0 = .string (bs (b :: r)) ∧ e1 4 = .int .i64 0 ∧ e1 5 = .pointer (some ⟨n, 0, none⟩) ∧ e1 11 = formsV ∧ e1 12 = .int .i64 0 ∧
              (∃ c, e1 6 = .int .i64 c ∧ 0 ≤ c ∧ c < 128 * 64 ^ k ∧ more c (q.drop k) = more ((b.toNat % (127 + 1) : Nat) : Int) q) ∧ e1 38 = .slice (some ⟨m, 0, none⟩) 0 cap ∧ e1 39 = .int .i64 0 ∧ e1 40 = .int .i64 k ∧ k ≤ 0 ∧
              H1 = (H'.upd n ⟨true, 3, [.int .i64 0, .int .u8 0, .int .u8 127]⟩).upd m ⟨true, cap, byC q⟩) (fun k => 0 - k) ?_ 0 _ _ ?_)
            · rintro k e1 H1 ⟨d1, d0, d4, d5, d11, d12, ⟨c, d6, hc0, hc1, hc2⟩, d38, d39, d40, hk, rfl⟩ ih1
              by_cases hlt : k < 0
              · have k1 : decide ((k : Int) < 0) = true := decide_eq_true (by omega)
                obtain ⟨x, q2, hx⟩ : ∃ x q2, q.drop k = x :: q2 := by
                  cases hd : q.drop k with
                  | nil => have := congrArg List.length hd; simp at this; omega
                  | cons x q2 => exact ⟨x, q2, rfl⟩
                have hrd : List.take 1 (List.drop ((k : Int).toNat * 1) (byC q)) = [.int .u8 x.toNat] := by
                  have : (byC q).drop k = byC (q.drop k) := by simp only [byC, List.map_drop]
                  simp only [Int.toNat_natCast, Nat.mul_one, this, hx, byC_cons, List.take_succ_cons, List.take_zero]
                have hkb : c < 128 * 64 ^ 3 := Int.lt_of_lt_of_le hc1 (Int.mul_le_mul_of_nonneg_left (pow_mono (by omega)) (by omega))
                rw [show (128 * 64 ^ 3 : Int) = 33554432 from by decide] at hkb
                have hbl : (byC q).length = 0 := by rw [byC_length, hql]
                have hsh : IntKind.i64.wrap (c * 2 ^ (6 : Int).toNat) = c * 64 := by rw [show ((2 : Int) ^ (6 : Int).toNat) = 64 from rfl, IntKind.wrap_i64]; omega
                simp -dsimp -failIfUnchanged (maxSteps := 2000000) (disch := omega) only [VA, if_true_, if_false_, reduceIte, Nat.reduceEqDiff, Nat.reduceAdd, Nat.reduceMul, Nat.reduceSub, Int.reduceToNat, Int.reduceAdd, Int.reduceNeg, Int.reduceSub, Int.reduceMul, Int.reduceBEq, Int.reduceBNe, Int.reduceLT, Int.reduceLE, Int.reduceEq, beq_self_eq_true, Int.reducePow, Nat.reducePow, Int.reduceDiv, Nat.reduceLeDiff, reduceCtorEq, Tryz.f170, Tryz.results170, bC023, d1, d0, d4, d5, d6, d11, d12, d38, d39, d40, k1, hrd]
                refine goes_W ?_
                cases hg : goesB x
                · simp -dsimp -failIfUnchanged (maxSteps := 2000000) (disch := omega) only [VA, if_true_, if_false_, reduceIte, Nat.reduceEqDiff, Nat.reduceAdd, Nat.reduceMul, Nat.reduceSub, Int.reduceToNat, Int.reduceAdd, Int.reduceNeg, Int.reduceSub, Int.reduceMul, Int.reduceBEq, Int.reduceBNe, Int.reduceLT, Int.reduceLE, Int.reduceEq, beq_self_eq_true, Int.reducePow, Nat.reducePow, Int.reduceDiv, Nat.reduceLeDiff, reduceCtorEq, Tryz.f170, Tryz.results170, bC023, d1, d0, d4, d5, d6, d11, d12, d38, d39, d40, k1, hrd]
                  refine ⟨H, Mem.le_upd' (Mem.le_upd' hle hn _) hm _, ?_⟩
                  have hmn : more ((b.toNat % (127 + 1) : Nat) : Int) q = none := by rw [← hc2, hx]; simp only [more, hg]; rfl
                  rw [nxt_none hl' hqi hqq hmn] at h
                  exact h
                · simp -dsimp -failIfUnchanged (maxSteps := 2000000) (disch := omega) only [VA, if_true_, if_false_, reduceIte, Nat.reduceEqDiff, Nat.reduceAdd, Nat.reduceMul, Nat.reduceSub, Int.reduceToNat, Int.reduceAdd, Int.reduceNeg, Int.reduceSub, Int.reduceMul, Int.reduceBEq, Int.reduceBNe, Int.reduceLT, Int.reduceLE, Int.reduceEq, beq_self_eq_true, Int.reducePow, Nat.reducePow, Int.reduceDiv, Nat.reduceLeDiff, reduceCtorEq, Tryz.f170, Tryz.results170, bC023, d1, d0, d4, d5, d6, d11, d12, d38, d39, d40, k1, hrd, and_bit63, hsh, or_add hc0 hkb (Nat.mod_lt x.toNat (show 0 < 64 by decide))]
                  refine ih1 (k + 1) _ _ ?_ (by omega)
                  simp -dsimp -failIfUnchanged (maxSteps := 2000000) (disch := omega) only [VA, if_true_, if_false_, reduceIte, Nat.reduceEqDiff, Nat.reduceAdd, Nat.reduceMul, Nat.reduceSub, Int.reduceToNat, Int.reduceAdd, Int.reduceNeg, Int.reduceSub, Int.reduceMul, Int.reduceBEq, Int.reduceBNe, Int.reduceLT, Int.reduceLE, Int.reduceEq, beq_self_eq_true, Int.reducePow, Nat.reducePow, Int.reduceDiv, Nat.reduceLeDiff, reduceCtorEq, Tryz.f170, Tryz.results170, bC023, d1, d0, d4, d5, d6, d11, d12, d38, d39, d40]
                  refine ⟨trivial, trivial, trivial, trivial, trivial, trivial, ⟨_, rfl, by omega, ?_, ?_⟩, trivial, trivial, by simp, by omega, trivial⟩
                  · rw [Int.pow_succ]; have := Nat.mod_lt x.toNat (show 0 < 64 by decide); omega
                  · rw [← hc2, hx, show q.drop (k + 1) = q2 from by rw [← List.drop_drop, hx, List.drop_one, List.tail_cons]]; simp only [more, hg, if_true]; rfl
              · have k1 : decide ((k : Int) < 0) = false := decide_eq_false (by omega)
                obtain rfl : k = 0 := by omega
                have hcm : more ((b.toNat % (127 + 1) : Nat) : Int) q = some c := by rw [← hc2, show q.drop 0 = [] from by rw [List.drop_eq_nil_iff]; omega]; rfl
                have hH := Mem.le_upd' (Mem.le_upd' hle hn ⟨true, 3, [.int .i64 0, .int .u8 0, .int .u8 127]⟩) hm ⟨true, cap, byC q⟩
                simp -dsimp -failIfUnchanged (maxSteps := 2000000) (disch := omega) only [VA, if_true_, if_false_, reduceIte, Nat.reduceEqDiff, Nat.reduceAdd, Nat.reduceMul, Nat.reduceSub, Int.reduceToNat, Int.reduceAdd, Int.reduceNeg, Int.reduceSub, Int.reduceMul, Int.reduceBEq, Int.reduceBNe, Int.reduceLT, Int.reduceLE, Int.reduceEq, beq_self_eq_true, Int.reducePow, Nat.reducePow, Int.reduceDiv, Nat.reduceLeDiff, reduceCtorEq, Tryz.f170, Tryz.results170, bC023, d1, d0, d4, d5, d6, d11, d12, d38, d39, d40, k1]
                cases c4 : decide (c < 0)
                · simp -dsimp -failIfUnchanged (maxSteps := 2000000) (disch := omega) only [VA, if_true_, if_false_, reduceIte, Nat.reduceEqDiff, Nat.reduceAdd, Nat.reduceMul, Nat.reduceSub, Int.reduceToNat, Int.reduceAdd, Int.reduceNeg, Int.reduceSub, Int.reduceMul, Int.reduceBEq, Int.reduceBNe, Int.reduceLT, Int.reduceLE, Int.reduceEq, beq_self_eq_true, Int.reducePow, Nat.reducePow, Int.reduceDiv, Nat.reduceLeDiff, reduceCtorEq, Tryz.f170, Tryz.results170, bC023, d1, d0, d4, d5, d6, d11, d12, d38, d39, d40, k1, c4]
                  refine character_W ?_
                  cases c5 : charB c
                  · simp -dsimp -failIfUnchanged (maxSteps := 2000000) (disch := omega) only [VA, if_true_, if_false_, reduceIte, Nat.reduceEqDiff, Nat.reduceAdd, Nat.reduceMul, Nat.reduceSub, Int.reduceToNat, Int.reduceAdd, Int.reduceNeg, Int.reduceSub, Int.reduceMul, Int.reduceBEq, Int.reduceBNe, Int.reduceLT, Int.reduceLE, Int.reduceEq, beq_self_eq_true, Int.reducePow, Nat.reducePow, Int.reduceDiv, Nat.reduceLeDiff, reduceCtorEq, Tryz.f170, Tryz.results170, bC023, d1, d0, d4, d5, d6, d11, d12, d38, d39, d40, k1, c4]
                    refine ⟨H, hH, ?_⟩
                    rw [nxt_bad hl' hqi hqq hcm (Or.inr c5)] at h; exact h
                  · simp -dsimp -failIfUnchanged (maxSteps := 2000000) (disch := omega) only [VA, if_true_, if_false_, reduceIte, Nat.reduceEqDiff, Nat.reduceAdd, Nat.reduceMul, Nat.reduceSub, Int.reduceToNat, Int.reduceAdd, Int.reduceNeg, Int.reduceSub, Int.reduceMul, Int.reduceBEq, Int.reduceBNe, Int.reduceLT, Int.reduceLE, Int.reduceEq, beq_self_eq_true, Int.reducePow, Nat.reducePow, Int.reduceDiv, Nat.reduceLeDiff, reduceCtorEq, Tryz.f170, Tryz.results170, bC023, d1, d0, d4, d5, d6, d11, d12, d38, d39, d40, k1, c4]
                    refine ⟨H, hH, ?_⟩
                    have c6 : ¬ (c < fromOf 0 ∨ charB c = false) := by rw [c5]; have := of_decide_eq_false c4; rintro (h' | h'); exact this h'; cases h'
                    rw [nxt_good hl' hqi hqq hcm c6] at h; exact h
                · simp -dsimp -failIfUnchanged (maxSteps := 2000000) (disch := omega) only [VA, if_true_, if_false_, reduceIte, Nat.reduceEqDiff, Nat.reduceAdd, Nat.reduceMul, Nat.reduceSub, Int.reduceToNat, Int.reduceAdd, Int.reduceNeg, Int.reduceSub, Int.reduceMul, Int.reduceBEq, Int.reduceBNe, Int.reduceLT, Int.reduceLE, Int.reduceEq, beq_self_eq_true, Int.reducePow, Nat.reducePow, Int.reduceDiv, Nat.reduceLeDiff, reduceCtorEq, Tryz.f170, Tryz.results170, bC023, d1, d0, d4, d5, d6, d11, d12, d38, d39, d40, k1, c4]
                  refine ⟨H, hH, ?_⟩
                  have c6 : c < fromOf 0 := by simpa [fromOf] using c4
                  rw [nxt_bad hl' hqi hqq hcm (Or.inl c6)] at h; exact h
            · simp -dsimp -failIfUnchanged (maxSteps := 2000000) (disch := omega) only [VA, if_true_, if_false_, reduceIte, Nat.reduceEqDiff, Nat.reduceAdd, Nat.reduceMul, Nat.reduceSub, Int.reduceToNat, Int.reduceAdd, Int.reduceNeg, Int.reduceSub, Int.reduceMul, Int.reduceBEq, Int.reduceBNe, Int.reduceLT, Int.reduceLE, Int.reduceEq, beq_self_eq_true, Int.reducePow, Nat.reducePow, Int.reduceDiv, Nat.reduceLeDiff, reduceCtorEq, Tryz.f170, Tryz.results170, bC023, formsV, ed, e0, e11, e12']
              exact ⟨trivial, trivial, trivial, trivial, trivial, trivial, ⟨_, rfl, by omega, by omega, rfl⟩, trivial, (by trivial), (by trivial), trivial, trivial⟩
          · simp -dsimp -failIfUnchanged (maxSteps := 2000000) (disch := omega) only [VA, if_true_, if_false_, reduceIte, Nat.reduceEqDiff, Nat.reduceAdd, Nat.reduceMul, Nat.reduceSub, Int.reduceToNat, Int.reduceAdd, Int.reduceNeg, Int.reduceSub, Int.reduceMul, Int.reduceBEq, Int.reduceBNe, Int.reduceLT, Int.reduceLE, Int.reduceEq, beq_self_eq_true, Int.reducePow, Nat.reducePow, Int.reduceDiv, Nat.reduceLeDiff, reduceCtorEq, Tryz.f170, Tryz.results170, bC023, ed, e0, e11, e12', formsV, c2]
            refine ⟨H, Mem.le_upd' hle hn _, ?_⟩
            have c3 : r.length < 0 := by simp at c2; omega
            simpa [nxt, hl', c3] using h
      | 1, _ =>
        have e12' : e 12 = .int .i64 1 := e12
        simp -dsimp -failIfUnchanged (maxSteps := 2000000) (disch := omega) only [VA, if_true_, if_false_, reduceIte, Nat.reduceEqDiff, Nat.reduceAdd, Nat.reduceMul, Nat.reduceSub, Int.reduceToNat, Int.reduceAdd, Int.reduceNeg, Int.reduceSub, Int.reduceMul, Int.reduceBEq, Int.reduceBNe, Int.reduceLT, Int.reduceLE, Int.reduceEq, beq_self_eq_true, Int.reducePow, Nat.reducePow, Int.reduceDiv, Nat.reduceLeDiff, reduceCtorEq, Tryz.f170, Tryz.results170, bC023, ed, e0, e11, e12', formsV]
        intro n hn
        simp -dsimp -failIfUnchanged (maxSteps := 2000000) (disch := omega) only [VA, if_true_, if_false_, reduceIte, Nat.reduceEqDiff, Nat.reduceAdd, Nat.reduceMul, Nat.reduceSub, Int.reduceToNat, Int.reduceAdd, Int.reduceNeg, Int.reduceSub, Int.reduceMul, Int.reduceBEq, Int.reduceBNe, Int.reduceLT, Int.reduceLE, Int.reduceEq, beq_self_eq_true, Int.reducePow, Nat.reducePow, Int.reduceDiv, Nat.reduceLeDiff, reduceCtorEq, Tryz.f170, Tryz.results170, bC023, ed, e0, e11, e12', formsV]
        refine draw_quiet (by decide +kernel) (by decide +kernel) (by decide +kernel) ?_
        simp -dsimp -failIfUnchanged (maxSteps := 2000000) (disch := omega) only [VA, if_true_, if_false_, reduceIte, Nat.reduceEqDiff, Nat.reduceAdd, Nat.reduceMul, Nat.reduceSub, Int.reduceToNat, Int.reduceAdd, Int.reduceNeg, Int.reduceSub, Int.reduceMul, Int.reduceBEq, Int.reduceBNe, Int.reduceLT, Int.reduceLE, Int.reduceEq, beq_self_eq_true, Int.reducePow, Nat.reducePow, Int.reduceDiv, Nat.reduceLeDiff, reduceCtorEq, Tryz.f170, Tryz.results170, bC023, ed, e0, e11, e12', formsV, pwQ, pwQ.qOpW, qV, byteAt_bs, List.length_cons, lead_bit1]
        cases hl : (lead b == some 1)
        · simp -dsimp -failIfUnchanged (maxSteps := 2000000) (disch := omega) only [VA, if_true_, if_false_, reduceIte, Nat.reduceEqDiff, Nat.reduceAdd, Nat.reduceMul, Nat.reduceSub, Int.reduceToNat, Int.reduceAdd, Int.reduceNeg, Int.reduceSub, Int.reduceMul, Int.reduceBEq, Int.reduceBNe, Int.reduceLT, Int.reduceLE, Int.reduceEq, beq_self_eq_true, Int.reducePow, Nat.reducePow, Int.reduceDiv, Nat.reduceLeDiff, reduceCtorEq, Tryz.f170, Tryz.results170, bC023, ed, e0, e11, e12', formsV]
          refine ih (1 + 1) _ _ ?_ (by omega)
          simp -dsimp -failIfUnchanged (maxSteps := 2000000) (disch := omega) only [VA, if_true_, if_false_, reduceIte, Nat.reduceEqDiff, Nat.reduceAdd, Nat.reduceMul, Nat.reduceSub, Int.reduceToNat, Int.reduceAdd, Int.reduceNeg, Int.reduceSub, Int.reduceMul, Int.reduceBEq, Int.reduceBNe, Int.reduceLT, Int.reduceLE, Int.reduceEq, beq_self_eq_true, Int.reducePow, Nat.reducePow, Int.reduceDiv, Nat.reduceLeDiff, reduceCtorEq, Tryz.f170, Tryz.results170, bC023, ed, e0, e11, e12', formsV]
          refine ⟨trivial, trivial, trivial, (by trivial), by simp, fun j hj' => ?_, Mem.le_upd' hle hn _⟩
          have := hj j hj'
          rcases Nat.lt_or_ge 1 j with h' | h'
          · exact h'
          · obtain rfl : j = 1 := by omega
            simp [hj'] at hl
        · have hl' : lead b = some 1 := eq_of_beq hl
          simp -dsimp -failIfUnchanged (maxSteps := 2000000) (disch := omega) only [VA, if_true_, if_false_, reduceIte, Nat.reduceEqDiff, Nat.reduceAdd, Nat.reduceMul, Nat.reduceSub, Int.reduceToNat, Int.reduceAdd, Int.reduceNeg, Int.reduceSub, Int.reduceMul, Int.reduceBEq, Int.reduceBNe, Int.reduceLT, Int.reduceLE, Int.reduceEq, beq_self_eq_true, Int.reducePow, Nat.reducePow, Int.reduceDiv, Nat.reduceLeDiff, reduceCtorEq, Tryz.f170, Tryz.results170, bC023, ed, e0, e11, e12', formsV]
          cases c2 : decide ((↑(r.length + 1) : Int) ≤ 1)
          · have hqi : 1 ≤ r.length := by simp at c2; omega
            have hsz2 : 2 ≤ (bs (b :: r)).size := by rw [bs_size, List.length_cons]; omega
            simp -dsimp -failIfUnchanged (maxSteps := 2000000) (disch := omega) only [VA, if_true_, if_false_, reduceIte, Nat.reduceEqDiff, Nat.reduceAdd, Nat.reduceMul, Nat.reduceSub, Int.reduceToNat, Int.reduceAdd, Int.reduceNeg, Int.reduceSub, Int.reduceMul, Int.reduceBEq, Int.reduceBNe, Int.reduceLT, Int.reduceLE, Int.reduceEq, beq_self_eq_true, Int.reducePow, Nat.reducePow, Int.reduceDiv, Nat.reduceLeDiff, reduceCtorEq, Tryz.f170, Tryz.results170, bC023, ed, e0, e11, e12', formsV, c2]
            refine draw_quiet (by decide +kernel) (by decide +kernel) (by decide +kernel) ?_
            simp -dsimp -failIfUnchanged (maxSteps := 2000000) (disch := omega) only [VA, if_true_, if_false_, reduceIte, Nat.reduceEqDiff, Nat.reduceAdd, Nat.reduceMul, Nat.reduceSub, Int.reduceToNat, Int.reduceAdd, Int.reduceNeg, Int.reduceSub, Int.reduceMul, Int.reduceBEq, Int.reduceBNe, Int.reduceLT, Int.reduceLE, Int.reduceEq, beq_self_eq_true, Int.reducePow, Nat.reducePow, Int.reduceDiv, Nat.reduceLeDiff, reduceCtorEq, Tryz.f170, Tryz.results170, bC023, ed, e0, e11, e12', formsV, pwQ, pwQ.qOpW, qV, byteAt_bs, List.length_cons, and_bit1]
            have hql : (r.take 1).length = 1 := by simp only [List.length_take]; omega
            have hq : (bs (b :: r)).extract 1 2 = bs (r.take 1) := by rw [bs_extract]; simp
            generalize hqq : r.take 1 = q at hql hq
            rw [hq]
            refine conv_bytes Tryz.underlying9 Tryz.underlying183 Tryz.underlying5 fun m cap hm hcap => ?_
            rw [hql]
            have hmn : n ≠ m := by rintro rfl; simp [Mem.upd] at hm
            simp -dsimp -failIfUnchanged (maxSteps := 2000000) (disch := omega) only [VA, if_true_, if_false_, reduceIte, Nat.reduceEqDiff, Nat.reduceAdd, Nat.reduceMul, Nat.reduceSub, Int.reduceToNat, Int.reduceAdd, Int.reduceNeg, Int.reduceSub, Int.reduceMul, Int.reduceBEq, Int.reduceBNe, Int.reduceLT, Int.reduceLE, Int.reduceEq, beq_self_eq_true, Int.reducePow, Nat.reducePow, Int.reduceDiv, Nat.reduceLeDiff, reduceCtorEq, Tryz.f170, Tryz.results170, bC023, ed, e0, e11, e12', formsV]
            refine loop_enter (loop_ind (by decide +kernel) (fun (k : Nat) e1 H1 => e1.ds = [] ∧ e1 0 = .string (bs (b :: r)) ∧ e1 4 = .int .i64 1 ∧ e1 5 = .pointer (some ⟨n, 0, none⟩) ∧ e1 11 = formsV ∧ e1 12 = .int .i64 1 ∧
              (∃ c, e1 6 = .int .i64 c ∧ 0 ≤ c ∧ c < 128 * 64 ^ k ∧ more c (q.drop k) = more ((b.toNat % (31 + 1) : Nat) : Int) q) ∧ e1 38 = .slice (some ⟨m, 0, none⟩) 1 cap ∧ e1 39 = .int .i64 1 ∧ e1 40 = .int .i64 k ∧ k ≤ 1 ∧
              H1 = (H'.upd n ⟨true, 3, [.int .i64 128, .int .u8 192, .int .u8 31]⟩).upd m ⟨true, cap, byC q⟩) (fun k => 1 - k) ?_ 0 _ _ ?_)
            · rintro k e1 H1 ⟨d1, d0, d4, d5, d11, d12, ⟨c, d6, hc0, hc1, hc2⟩, d38, d39, d40, hk, rfl⟩ ih1
              by_cases hlt : k < 1
              · have k1 : decide ((k : Int) < 1) = true := decide_eq_true (by omega)
                obtain ⟨x, q2, hx⟩ : ∃ x q2, q.drop k = x :: q2 := by
                  cases hd : q.drop k with
                  | nil => have := congrArg List.length hd; simp at this; omega
                  | cons x q2 => exact ⟨x, q2, rfl⟩
                have hrd : List.take 1 (List.drop ((k : Int).toNat * 1) (byC q)) = [.int .u8 x.toNat] := by
                  have : (byC q).drop k = byC (q.drop k) := by simp only [byC, List.map_drop]
                  simp only [Int.toNat_natCast, Nat.mul_one, this, hx, byC_cons, List.take_succ_cons, List.take_zero]
                have hkb : c < 128 * 64 ^ 3 := Int.lt_of_lt_of_le hc1 (Int.mul_le_mul_of_nonneg_left (pow_mono (by omega)) (by omega))
                rw [show (128 * 64 ^ 3 : Int) = 33554432 from by decide] at hkb
                have hbl : (byC q).length = 1 := by rw [byC_length, hql]
                have hsh : IntKind.i64.wrap (c * 2 ^ (6 : Int).toNat) = c * 64 := by rw [show ((2 : Int) ^ (6 : Int).toNat) = 64 from rfl, IntKind.wrap_i64]; omega
                simp -dsimp -failIfUnchanged (maxSteps := 2000000) (disch := omega) only [VA, if_true_, if_false_, reduceIte, Nat.reduceEqDiff, Nat.reduceAdd, Nat.reduceMul, Nat.reduceSub, Int.reduceToNat, Int.reduceAdd, Int.reduceNeg, Int.reduceSub, Int.reduceMul, Int.reduceBEq, Int.reduceBNe, Int.reduceLT, Int.reduceLE, Int.reduceEq, beq_self_eq_true, Int.reducePow, Nat.reducePow, Int.reduceDiv, Nat.reduceLeDiff, reduceCtorEq, Tryz.f170, Tryz.results170, bC023, d1, d0, d4, d5, d6, d11, d12, d38, d39, d40, k1, hrd]
                refine goes_W ?_
                cases hg : goesB x
                · simp -dsimp -failIfUnchanged (maxSteps := 2000000) (disch := omega) only [VA, if_true_, if_false_, reduceIte, Nat.reduceEqDiff, Nat.reduceAdd, Nat.reduceMul, Nat.reduceSub, Int.reduceToNat, Int.reduceAdd, Int.reduceNeg, Int.reduceSub, Int.reduceMul, Int.reduceBEq, Int.reduceBNe, Int.reduceLT, Int.reduceLE, Int.reduceEq, beq_self_eq_true, Int.reducePow, Nat.reducePow, Int.reduceDiv, Nat.reduceLeDiff, reduceCtorEq, Tryz.f170, Tryz.results170, bC023, d1, d0, d4, d5, d6, d11, d12, d38, d39, d40, k1, hrd]
                  refine ⟨H, Mem.le_upd' (Mem.le_upd' hle hn _) hm _, ?_⟩
                  have hmn : more ((b.toNat % (31 + 1) : Nat) : Int) q = none := by rw [← hc2, hx]; simp only [more, hg]; rfl
                  rw [nxt_none hl' hqi hqq hmn] at h
                  exact h
                · simp -dsimp -failIfUnchanged (maxSteps := 2000000) (disch := omega) only [VA, if_true_, if_false_, reduceIte, Nat.reduceEqDiff, Nat.reduceAdd, Nat.reduceMul, Nat.reduceSub, Int.reduceToNat, Int.reduceAdd, Int.reduceNeg, Int.reduceSub, Int.reduceMul, Int.reduceBEq, Int.reduceBNe, Int.reduceLT, Int.reduceLE, Int.reduceEq, beq_self_eq_true, Int.reducePow, Nat.reducePow, Int.reduceDiv, Nat.reduceLeDiff, reduceCtorEq, Tryz.f170, Tryz.results170, bC023, d1, d0, d4, d5, d6, d11, d12, d38, d39, d40, k1, hrd, and_bit63, hsh, or_add hc0 hkb (Nat.mod_lt x.toNat (show 0 < 64 by decide))]
                  refine ih1 (k + 1) _ _ ?_ (by omega)
                  simp -dsimp -failIfUnchanged (maxSteps := 2000000) (disch := omega) only [VA, if_true_, if_false_, reduceIte, Nat.reduceEqDiff, Nat.reduceAdd, Nat.reduceMul, Nat.reduceSub, Int.reduceToNat, Int.reduceAdd, Int.reduceNeg, Int.reduceSub, Int.reduceMul, Int.reduceBEq, Int.reduceBNe, Int.reduceLT, Int.reduceLE, Int.reduceEq, beq_self_eq_true, Int.reducePow, Nat.reducePow, Int.reduceDiv, Nat.reduceLeDiff, reduceCtorEq, Tryz.f170, Tryz.results170, bC023, d1, d0, d4, d5, d6, d11, d12, d38, d39, d40]
                  refine ⟨trivial, trivial, trivial, trivial, trivial, trivial, ⟨_, rfl, by omega, ?_, ?_⟩, trivial, trivial, by simp, by omega, trivial⟩
                  · rw [Int.pow_succ]; have := Nat.mod_lt x.toNat (show 0 < 64 by decide); omega
                  · rw [← hc2, hx, show q.drop (k + 1) = q2 from by rw [← List.drop_drop, hx, List.drop_one, List.tail_cons]]; simp only [more, hg, if_true]; rfl
              · have k1 : decide ((k : Int) < 1) = false := decide_eq_false (by omega)
                obtain rfl : k = 1 := by omega
                have hcm : more ((b.toNat % (31 + 1) : Nat) : Int) q = some c := by rw [← hc2, show q.drop 1 = [] from by rw [List.drop_eq_nil_iff]; omega]; rfl
                have hH := Mem.le_upd' (Mem.le_upd' hle hn ⟨true, 3, [.int .i64 128, .int .u8 192, .int .u8 31]⟩) hm ⟨true, cap, byC q⟩
                simp -dsimp -failIfUnchanged (maxSteps := 2000000) (disch := omega) only [VA, if_true_, if_false_, reduceIte, Nat.reduceEqDiff, Nat.reduceAdd, Nat.reduceMul, Nat.reduceSub, Int.reduceToNat, Int.reduceAdd, Int.reduceNeg, Int.reduceSub, Int.reduceMul, Int.reduceBEq, Int.reduceBNe, Int.reduceLT, Int.reduceLE, Int.reduceEq, beq_self_eq_true, Int.reducePow, Nat.reducePow, Int.reduceDiv, Nat.reduceLeDiff, reduceCtorEq, Tryz.f170, Tryz.results170, bC023, d1, d0, d4, d5, d6, d11, d12, d38, d39, d40, k1]
                cases c4 : decide (c < 128)
                · simp -dsimp -failIfUnchanged (maxSteps := 2000000) (disch := omega) only [VA, if_true_, if_false_, reduceIte, Nat.reduceEqDiff, Nat.reduceAdd, Nat.reduceMul, Nat.reduceSub, Int.reduceToNat, Int.reduceAdd, Int.reduceNeg, Int.reduceSub, Int.reduceMul, Int.reduceBEq, Int.reduceBNe, Int.reduceLT, Int.reduceLE, Int.reduceEq, beq_self_eq_true, Int.reducePow, Nat.reducePow, Int.reduceDiv, Nat.reduceLeDiff, reduceCtorEq, Tryz.f170, Tryz.results170, bC023, d1, d0, d4, d5, d6, d11, d12, d38, d39, d40, k1, c4]
                  refine character_W ?_
                  cases c5 : charB c
                  · simp -dsimp -failIfUnchanged (maxSteps := 2000000) (disch := omega) only [VA, if_true_, if_false_, reduceIte, Nat.reduceEqDiff, Nat.reduceAdd, Nat.reduceMul, Nat.reduceSub, Int.reduceToNat, Int.reduceAdd, Int.reduceNeg, Int.reduceSub, Int.reduceMul, Int.reduceBEq, Int.reduceBNe, Int.reduceLT, Int.reduceLE, Int.reduceEq, beq_self_eq_true, Int.reducePow, Nat.reducePow, Int.reduceDiv, Nat.reduceLeDiff, reduceCtorEq, Tryz.f170, Tryz.results170, bC023, d1, d0, d4, d5, d6, d11, d12, d38, d39, d40, k1, c4]
                    refine ⟨H, hH, ?_⟩
                    rw [nxt_bad hl' hqi hqq hcm (Or.inr c5)] at h; exact h
                  · simp -dsimp -failIfUnchanged (maxSteps := 2000000) (disch := omega) only [VA, if_true_, if_false_, reduceIte, Nat.reduceEqDiff, Nat.reduceAdd, Nat.reduceMul, Nat.reduceSub, Int.reduceToNat, Int.reduceAdd, Int.reduceNeg, Int.reduceSub, Int.reduceMul, Int.reduceBEq, Int.reduceBNe, Int.reduceLT, Int.reduceLE, Int.reduceEq, beq_self_eq_true, Int.reducePow, Nat.reducePow, Int.reduceDiv, Nat.reduceLeDiff, reduceCtorEq, Tryz.f170, Tryz.results170, bC023, d1, d0, d4, d5, d6, d11, d12, d38, d39, d40, k1, c4]
                    refine ⟨H, hH, ?_⟩
                    have c6 : ¬ (c < fromOf 1 ∨ charB c = false) := by rw [c5]; have := of_decide_eq_false c4; rintro (h' | h'); exact this h'; cases h'
                    rw [nxt_good hl' hqi hqq hcm c6] at h; exact h
                · simp -dsimp -failIfUnchanged (maxSteps := 2000000) (disch := omega) only [VA, if_true_, if_false_, reduceIte, Nat.reduceEqDiff, Nat.reduceAdd, Nat.reduceMul, Nat.reduceSub, Int.reduceToNat, Int.reduceAdd, Int.reduceNeg, Int.reduceSub, Int.reduceMul, Int.reduceBEq, Int.reduceBNe, Int.reduceLT, Int.reduceLE, Int.reduceEq, beq_self_eq_true, Int.reducePow, Nat.reducePow, Int.reduceDiv, Nat.reduceLeDiff, reduceCtorEq, Tryz.f170, Tryz.results170, bC023, d1, d0, d4, d5, d6, d11, d12, d38, d39, d40, k1, c4]
                  refine ⟨H, hH, ?_⟩
                  have c6 : c < fromOf 1 := by simpa [fromOf] using c4
                  rw [nxt_bad hl' hqi hqq hcm (Or.inl c6)] at h; exact h
            · simp -dsimp -failIfUnchanged (maxSteps := 2000000) (disch := omega) only [VA, if_true_, if_false_, reduceIte, Nat.reduceEqDiff, Nat.reduceAdd, Nat.reduceMul, Nat.reduceSub, Int.reduceToNat, Int.reduceAdd, Int.reduceNeg, Int.reduceSub, Int.reduceMul, Int.reduceBEq, Int.reduceBNe, Int.reduceLT, Int.reduceLE, Int.reduceEq, beq_self_eq_true, Int.reducePow, Nat.reducePow, Int.reduceDiv, Nat.reduceLeDiff, reduceCtorEq, Tryz.f170, Tryz.results170, bC023, formsV, ed, e0, e11, e12']
              exact ⟨trivial, trivial, trivial, trivial, trivial, trivial, ⟨_, rfl, by omega, by omega, rfl⟩, trivial, (by trivial), (by trivial), trivial, trivial⟩
          · simp -dsimp -failIfUnchanged (maxSteps := 2000000) (disch := omega) only [VA, if_true_, if_false_, reduceIte, Nat.reduceEqDiff, Nat.reduceAdd, Nat.reduceMul, Nat.reduceSub, Int.reduceToNat, Int.reduceAdd, Int.reduceNeg, Int.reduceSub, Int.reduceMul, Int.reduceBEq, Int.reduceBNe, Int.reduceLT, Int.reduceLE, Int.reduceEq, beq_self_eq_true, Int.reducePow, Nat.reducePow, Int.reduceDiv, Nat.reduceLeDiff, reduceCtorEq, Tryz.f170, Tryz.results170, bC023, ed, e0, e11, e12', formsV, c2]
            refine ⟨H, Mem.le_upd' hle hn _, ?_⟩
            have c3 : r.length < 1 := by simp at c2; omega
            simpa [nxt, hl', c3] using h
      | 2, _ =>
        have e12' : e 12 = .int .i64 2 := e12
        simp -dsimp -failIfUnchanged (maxSteps := 2000000) (disch := omega) only [VA, if_true_, if_false_, reduceIte, Nat.reduceEqDiff, Nat.reduceAdd, Nat.reduceMul, Nat.reduceSub, Int.reduceToNat, Int.reduceAdd, Int.reduceNeg, Int.reduceSub, Int.reduceMul, Int.reduceBEq, Int.reduceBNe, Int.reduceLT, Int.reduceLE, Int.reduceEq, beq_self_eq_true, Int.reducePow, Nat.reducePow, Int.reduceDiv, Nat.reduceLeDiff, reduceCtorEq, Tryz.f170, Tryz.results170, bC023, ed, e0, e11, e12', formsV]
        intro n hn
        simp -dsimp -failIfUnchanged (maxSteps := 2000000) (disch := omega) only [VA, if_true_, if_false_, reduceIte, Nat.reduceEqDiff, Nat.reduceAdd, Nat.reduceMul, Nat.reduceSub, Int.reduceToNat, Int.reduceAdd, Int.reduceNeg, Int.reduceSub, Int.reduceMul, Int.reduceBEq, Int.reduceBNe, Int.reduceLT, Int.reduceLE, Int.reduceEq, beq_self_eq_true, Int.reducePow, Nat.reducePow, Int.reduceDiv, Nat.reduceLeDiff, reduceCtorEq, Tryz.f170, Tryz.results170, bC023, ed, e0, e11, e12', formsV]
        refine draw_quiet (by decide +kernel) (by decide +kernel) (by decide +kernel) ?_
        simp -dsimp -failIfUnchanged (maxSteps := 2000000) (disch := omega) only [VA, if_true_, if_false_, reduceIte, Nat.reduceEqDiff, Nat.reduceAdd, Nat.reduceMul, Nat.reduceSub, Int.reduceToNat, Int.reduceAdd, Int.reduceNeg, Int.reduceSub, Int.reduceMul, Int.reduceBEq, Int.reduceBNe, Int.reduceLT, Int.reduceLE, Int.reduceEq, beq_self_eq_true, Int.reducePow, Nat.reducePow, Int.reduceDiv, Nat.reduceLeDiff, reduceCtorEq, Tryz.f170, Tryz.results170, bC023, ed, e0, e11, e12', formsV, pwQ, pwQ.qOpW, qV, byteAt_bs, List.length_cons, lead_bit2]
        cases hl : (lead b == some 2)
        · simp -dsimp -failIfUnchanged (maxSteps := 2000000) (disch := omega) only [VA, if_true_, if_false_, reduceIte, Nat.reduceEqDiff, Nat.reduceAdd, Nat.reduceMul, Nat.reduceSub, Int.reduceToNat, Int.reduceAdd, Int.reduceNeg, Int.reduceSub, Int.reduceMul, Int.reduceBEq, Int.reduceBNe, Int.reduceLT, Int.reduceLE, Int.reduceEq, beq_self_eq_true, Int.reducePow, Nat.reducePow, Int.reduceDiv, Nat.reduceLeDiff, reduceCtorEq, Tryz.f170, Tryz.results170, bC023, ed, e0, e11, e12', formsV]
          refine ih (2 + 1) _ _ ?_ (by omega)
          simp -dsimp -failIfUnchanged (maxSteps := 2000000) (disch := omega) only [VA, if_true_, if_false_, reduceIte, Nat.reduceEqDiff, Nat.reduceAdd, Nat.reduceMul, Nat.reduceSub, Int.reduceToNat, Int.reduceAdd, Int.reduceNeg, Int.reduceSub, Int.reduceMul, Int.reduceBEq, Int.reduceBNe, Int.reduceLT, Int.reduceLE, Int.reduceEq, beq_self_eq_true, Int.reducePow, Nat.reducePow, Int.reduceDiv, Nat.reduceLeDiff, reduceCtorEq, Tryz.f170, Tryz.results170, bC023, ed, e0, e11, e12', formsV]
          refine ⟨trivial, trivial, trivial, (by trivial), by simp, fun j hj' => ?_, Mem.le_upd' hle hn _⟩
          have := hj j hj'
          rcases Nat.lt_or_ge 2 j with h' | h'
          · exact h'
          · obtain rfl : j = 2 := by omega
            simp [hj'] at hl
        · have hl' : lead b = some 2 := eq_of_beq hl
          simp -dsimp -failIfUnchanged (maxSteps := 2000000) (disch := omega) only [VA, if_true_, if_false_, reduceIte, Nat.reduceEqDiff, Nat.reduceAdd, Nat.reduceMul, Nat.reduceSub, Int.reduceToNat, Int.reduceAdd, Int.reduceNeg, Int.reduceSub, Int.reduceMul, Int.reduceBEq, Int.reduceBNe, Int.reduceLT, Int.reduceLE, Int.reduceEq, beq_self_eq_true, Int.reducePow, Nat.reducePow, Int.reduceDiv, Nat.reduceLeDiff, reduceCtorEq, Tryz.f170, Tryz.results170, bC023, ed, e0, e11, e12', formsV]
          cases c2 : decide ((↑(r.length + 1) : Int) ≤ 2)
          · have hqi : 2 ≤ r.length := by simp at c2; omega
            have hsz2 : 3 ≤ (bs (b :: r)).size := by rw [bs_size, List.length_cons]; omega
            simp -dsimp -failIfUnchanged (maxSteps := 2000000) (disch := omega) only [VA, if_true_, if_false_, reduceIte, Nat.reduceEqDiff, Nat.reduceAdd, Nat.reduceMul, Nat.reduceSub, Int.reduceToNat, Int.reduceAdd, Int.reduceNeg, Int.reduceSub, Int.reduceMul, Int.reduceBEq, Int.reduceBNe, Int.reduceLT, Int.reduceLE, Int.reduceEq, beq_self_eq_true, Int.reducePow, Nat.reducePow, Int.reduceDiv, Nat.reduceLeDiff, reduceCtorEq, Tryz.f170, Tryz.results170, bC023, ed, e0, e11, e12', formsV, c2]
            refine draw_quiet (by decide +kernel) (by decide +kernel) (by decide +kernel) ?_
            simp -dsimp -failIfUnchanged (maxSteps := 2000000) (disch := omega) only [VA, if_true_, if_false_, reduceIte, Nat.reduceEqDiff, Nat.reduceAdd, Nat.reduceMul, Nat.reduceSub, Int.reduceToNat, Int.reduceAdd, Int.reduceNeg, Int.reduceSub, Int.reduceMul, Int.reduceBEq, Int.reduceBNe, Int.reduceLT, Int.reduceLE, Int.reduceEq, beq_self_eq_true, Int.reducePow, Nat.reducePow, Int.reduceDiv, Nat.reduceLeDiff, reduceCtorEq, Tryz.f170, Tryz.results170, bC023, ed, e0, e11, e12', formsV, pwQ, pwQ.qOpW, qV, byteAt_bs, List.length_cons, and_bit2]
            have hql : (r.take 2).length = 2 := by simp only [List.length_take]; omega
            have hq : (bs (b :: r)).extract 1 3 = bs (r.take 2) := by rw [bs_extract]; simp
            generalize hqq : r.take 2 = q at hql hq
            rw [hq]
            refine conv_bytes Tryz.underlying9 Tryz.underlying183 Tryz.underlying5 fun m cap hm hcap => ?_
            rw [hql]
            have hmn : n ≠ m := by rintro rfl; simp [Mem.upd] at hm
            simp -dsimp -failIfUnchanged (maxSteps := 2000000) (disch := omega) only [VA, if_true_, if_false_, reduceIte, Nat.reduceEqDiff, Nat.reduceAdd, Nat.reduceMul, Nat.reduceSub, Int.reduceToNat, Int.reduceAdd, Int.reduceNeg, Int.reduceSub, Int.reduceMul, Int.reduceBEq, Int.reduceBNe, Int.reduceLT, Int.reduceLE, Int.reduceEq, beq_self_eq_true, Int.reducePow, Nat.reducePow, Int.reduceDiv, Nat.reduceLeDiff, reduceCtorEq, Tryz.f170, Tryz.results170, bC023, ed, e0, e11, e12', formsV]
            refine loop_enter (loop_ind (by decide +kernel) (fun (k : Nat) e1 H1 => e1.ds = [] ∧ e1 0 = .string (bs (b :: r)) ∧ e1 4 = .int .i64 2 ∧ e1 5 = .pointer (some ⟨n, 0, none⟩) ∧ e1 11 = formsV ∧ e1 12 = .int .i64 2 ∧
              (∃ c, e1 6 = .int .i64 c ∧ 0 ≤ c ∧ c < 128 * 64 ^ k ∧ more c (q.drop k) = more ((b.toNat % (15 + 1) : Nat) : Int) q) ∧ e1 38 = .slice (some ⟨m, 0, none⟩) 2 cap ∧ e1 39 = .int .i64 2 ∧ e1 40 = .int .i64 k ∧ k ≤ 2 ∧
              H1 = (H'.upd n ⟨true, 3, [.int .i64 2048, .int .u8 224, .int .u8 15]⟩).upd m ⟨true, cap, byC q⟩) (fun k => 2 - k) ?_ 0 _ _ ?_)
            · rintro k e1 H1 ⟨d1, d0, d4, d5, d11, d12, ⟨c, d6, hc0, hc1, hc2⟩, d38, d39, d40, hk, rfl⟩ ih1
              by_cases hlt : k < 2
              · have k1 : decide ((k : Int) < 2) = true := decide_eq_true (by omega)
                obtain ⟨x, q2, hx⟩ : ∃ x q2, q.drop k = x :: q2 := by
                  cases hd : q.drop k with
                  | nil => have := congrArg List.length hd; simp at this; omega
                  | cons x q2 => exact ⟨x, q2, rfl⟩
                have hrd : List.take 1 (List.drop ((k : Int).toNat * 1) (byC q)) = [.int .u8 x.toNat] := by
                  have : (byC q).drop k = byC (q.drop k) := by simp only [byC, List.map_drop]
                  simp only [Int.toNat_natCast, Nat.mul_one, this, hx, byC_cons, List.take_succ_cons, List.take_zero]
                have hkb : c < 128 * 64 ^ 3 := Int.lt_of_lt_of_le hc1 (Int.mul_le_mul_of_nonneg_left (pow_mono (by omega)) (by omega))
                rw [show (128 * 64 ^ 3 : Int) = 33554432 from by decide] at hkb
                have hbl : (byC q).length = 2 := by rw [byC_length, hql]
                have hsh : IntKind.i64.wrap (c * 2 ^ (6 : Int).toNat) = c * 64 := by rw [show ((2 : Int) ^ (6 : Int).toNat) = 64 from rfl, IntKind.wrap_i64]; omega
                simp -dsimp -failIfUnchanged (maxSteps := 2000000) (disch := omega) only [VA, if_true_, if_false_, reduceIte, Nat.reduceEqDiff, Nat.reduceAdd, Nat.reduceMul, Nat.reduceSub, Int.reduceToNat, Int.reduceAdd, Int.reduceNeg, Int.reduceSub, Int.reduceMul, Int.reduceBEq, Int.reduceBNe, Int.reduceLT, Int.reduceLE, Int.reduceEq, beq_self_eq_true, Int.reducePow, Nat.reducePow, Int.reduceDiv, Nat.reduceLeDiff, reduceCtorEq, Tryz.f170, Tryz.results170, bC023, d1, d0, d4, d5, d6, d11, d12, d38, d39, d40, k1, hrd]
                refine goes_W ?_
                cases hg : goesB x
                · simp -dsimp -failIfUnchanged (maxSteps := 2000000) (disch := omega) only [VA, if_true_, if_false_, reduceIte, Nat.reduceEqDiff, Nat.reduceAdd, Nat.reduceMul, Nat.reduceSub, Int.reduceToNat, Int.reduceAdd, Int.reduceNeg, Int.reduceSub, Int.reduceMul, Int.reduceBEq, Int.reduceBNe, Int.reduceLT, Int.reduceLE, Int.reduceEq, beq_self_eq_true, Int.reducePow, Nat.reducePow, Int.reduceDiv, Nat.reduceLeDiff, reduceCtorEq, Tryz.f170, Tryz.results170, bC023, d1, d0, d4, d5, d6, d11, d12, d38, d39, d40, k1, hrd]
                  refine ⟨H, Mem.le_upd' (Mem.le_upd' hle hn _) hm _, ?_⟩
                  have hmn : more ((b.toNat % (15 + 1) : Nat) : Int) q = none := by rw [← hc2, hx]; simp only [more, hg]; rfl
                  rw [nxt_none hl' hqi hqq hmn] at h
                  exact h
                · simp -dsimp -failIfUnchanged (maxSteps := 2000000) (disch := omega) only [VA, if_true_, if_false_, reduceIte, Nat.reduceEqDiff, Nat.reduceAdd, Nat.reduceMul, Nat.reduceSub, Int.reduceToNat, Int.reduceAdd, Int.reduceNeg, Int.reduceSub, Int.reduceMul, Int.reduceBEq, Int.reduceBNe, Int.reduceLT, Int.reduceLE, Int.reduceEq, beq_self_eq_true, Int.reducePow, Nat.reducePow, Int.reduceDiv, Nat.reduceLeDiff, reduceCtorEq, Tryz.f170, Tryz.results170, bC023, d1, d0, d4, d5, d6, d11, d12, d38, d39, d40, k1, hrd, and_bit63, hsh, or_add hc0 hkb (Nat.mod_lt x.toNat (show 0 < 64 by decide))]
                  refine ih1 (k + 1) _ _ ?_ (by omega)
                  simp -dsimp -failIfUnchanged (maxSteps := 2000000) (disch := omega) only [VA, if_true_, if_false_, reduceIte, Nat.reduceEqDiff, Nat.reduceAdd, Nat.reduceMul, Nat.reduceSub, Int.reduceToNat, Int.reduceAdd, Int.reduceNeg, Int.reduceSub, Int.reduceMul, Int.reduceBEq, Int.reduceBNe, Int.reduceLT, Int.reduceLE, Int.reduceEq, beq_self_eq_true, Int.reducePow, Nat.reducePow, Int.reduceDiv, Nat.reduceLeDiff, reduceCtorEq, Tryz.f170, Tryz.results170, bC023, d1, d0, d4, d5, d6, d11, d12, d38, d39, d40]
                  refine ⟨trivial, trivial, trivial, trivial, trivial, trivial, ⟨_, rfl, by omega, ?_, ?_⟩, trivial, trivial, by simp, by omega, trivial⟩
                  · rw [Int.pow_succ]; have := Nat.mod_lt x.toNat (show 0 < 64 by decide); omega
                  · rw [← hc2, hx, show q.drop (k + 1) = q2 from by rw [← List.drop_drop, hx, List.drop_one, List.tail_cons]]; simp only [more, hg, if_true]; rfl
              · have k1 : decide ((k : Int) < 2) = false := decide_eq_false (by omega)
                obtain rfl : k = 2 := by omega
                have hcm : more ((b.toNat % (15 + 1) : Nat) : Int) q = some c := by rw [← hc2, show q.drop 2 = [] from by rw [List.drop_eq_nil_iff]; omega]; rfl
                have hH := Mem.le_upd' (Mem.le_upd' hle hn ⟨true, 3, [.int .i64 2048, .int .u8 224, .int .u8 15]⟩) hm ⟨true, cap, byC q⟩
                simp -dsimp -failIfUnchanged (maxSteps := 2000000) (disch := omega) only [VA, if_true_, if_false_, reduceIte, Nat.reduceEqDiff, Nat.reduceAdd, Nat.reduceMul, Nat.reduceSub, Int.reduceToNat, Int.reduceAdd, Int.reduceNeg, Int.reduceSub, Int.reduceMul, Int.reduceBEq, Int.reduceBNe, Int.reduceLT, Int.reduceLE, Int.reduceEq, beq_self_eq_true, Int.reducePow, Nat.reducePow, Int.reduceDiv, Nat.reduceLeDiff, reduceCtorEq, Tryz.f170, Tryz.results170, bC023, d1, d0, d4, d5, d6, d11, d12, d38, d39, d40, k1]
                cases c4 : decide (c < 2048)
                · simp -dsimp -failIfUnchanged (maxSteps := 2000000) (disch := omega) only [VA, if_true_, if_false_, reduceIte, Nat.reduceEqDiff, Nat.reduceAdd, Nat.reduceMul, Nat.reduceSub, Int.reduceToNat, Int.reduceAdd, Int.reduceNeg, Int.reduceSub, Int.reduceMul, Int.reduceBEq, Int.reduceBNe, Int.reduceLT, Int.reduceLE, Int.reduceEq, beq_self_eq_true, Int.reducePow, Nat.reducePow, Int.reduceDiv, Nat.reduceLeDiff, reduceCtorEq, Tryz.f170, Tryz.results170, bC023, d1, d0, d4, d5, d6, d11, d12, d38, d39, d40, k1, c4]
                  refine character_W ?_
                  cases c5 : charB c
                  · simp -dsimp -failIfUnchanged (maxSteps := 2000000) (disch := omega) only [VA, if_true_, if_false_, reduceIte, Nat.reduceEqDiff, Nat.reduceAdd, Nat.reduceMul, Nat.reduceSub, Int.reduceToNat, Int.reduceAdd, Int.reduceNeg, Int.reduceSub, Int.reduceMul, Int.reduceBEq, Int.reduceBNe, Int.reduceLT, Int.reduceLE, Int.reduceEq, beq_self_eq_true, Int.reducePow, Nat.reducePow, Int.reduceDiv, Nat.reduceLeDiff, reduceCtorEq, Tryz.f170, Tryz.results170, bC023, d1, d0, d4, d5, d6, d11, d12, d38, d39, d40, k1, c4]
                    refine ⟨H, hH, ?_⟩
                    rw [nxt_bad hl' hqi hqq hcm (Or.inr c5)] at h; exact h
                  · simp -dsimp -failIfUnchanged (maxSteps := 2000000) (disch := omega) only [VA, if_true_, if_false_, reduceIte, Nat.reduceEqDiff, Nat.reduceAdd, Nat.reduceMul, Nat.reduceSub, Int.reduceToNat, Int.reduceAdd, Int.reduceNeg, Int.reduceSub, Int.reduceMul, Int.reduceBEq, Int.reduceBNe, Int.reduceLT, Int.reduceLE, Int.reduceEq, beq_self_eq_true, Int.reducePow, Nat.reducePow, Int.reduceDiv, Nat.reduceLeDiff, reduceCtorEq, Tryz.f170, Tryz.results170, bC023, d1, d0, d4, d5, d6, d11, d12, d38, d39, d40, k1, c4]
                    refine ⟨H, hH, ?_⟩
                    have c6 : ¬ (c < fromOf 2 ∨ charB c = false) := by rw [c5]; have := of_decide_eq_false c4; rintro (h' | h'); exact this h'; cases h'
                    rw [nxt_good hl' hqi hqq hcm c6] at h; exact h
                · simp -dsimp -failIfUnchanged (maxSteps := 2000000) (disch := omega) only [VA, if_true_, if_false_, reduceIte, Nat.reduceEqDiff, Nat.reduceAdd, Nat.reduceMul, Nat.reduceSub, Int.reduceToNat, Int.reduceAdd, Int.reduceNeg, Int.reduceSub, Int.reduceMul, Int.reduceBEq, Int.reduceBNe, Int.reduceLT, Int.reduceLE, Int.reduceEq, beq_self_eq_true, Int.reducePow, Nat.reducePow, Int.reduceDiv, Nat.reduceLeDiff, reduceCtorEq, Tryz.f170, Tryz.results170, bC023, d1, d0, d4, d5, d6, d11, d12, d38, d39, d40, k1, c4]
                  refine ⟨H, hH, ?_⟩
                  have c6 : c < fromOf 2 := by simpa [fromOf] using c4
                  rw [nxt_bad hl' hqi hqq hcm (Or.inl c6)] at h; exact h
            · simp -dsimp -failIfUnchanged (maxSteps := 2000000) (disch := omega) only [VA, if_true_, if_false_, reduceIte, Nat.reduceEqDiff, Nat.reduceAdd, Nat.reduceMul, Nat.reduceSub, Int.reduceToNat, Int.reduceAdd, Int.reduceNeg, Int.reduceSub, Int.reduceMul, Int.reduceBEq, Int.reduceBNe, Int.reduceLT, Int.reduceLE, Int.reduceEq, beq_self_eq_true, Int.reducePow, Nat.reducePow, Int.reduceDiv, Nat.reduceLeDiff, reduceCtorEq, Tryz.f170, Tryz.results170, bC023, formsV, ed, e0, e11, e12']
              exact ⟨trivial, trivial, trivial, trivial, trivial, trivial, ⟨_, rfl, by omega, by omega, rfl⟩, trivial, (by trivial), (by trivial), trivial, trivial⟩
          · simp -dsimp -failIfUnchanged (maxSteps := 2000000) (disch := omega) only [VA, if_true_, if_false_, reduceIte, Nat.reduceEqDiff, Nat.reduceAdd, Nat.reduceMul, Nat.reduceSub, Int.reduceToNat, Int.reduceAdd, Int.reduceNeg, Int.reduceSub, Int.reduceMul, Int.reduceBEq, Int.reduceBNe, Int.reduceLT, Int.reduceLE, Int.reduceEq, beq_self_eq_true, Int.reducePow, Nat.reducePow, Int.reduceDiv, Nat.reduceLeDiff, reduceCtorEq, Tryz.f170, Tryz.results170, bC023, ed, e0, e11, e12', formsV, c2]
            refine ⟨H, Mem.le_upd' hle hn _, ?_⟩
            have c3 : r.length < 2 := by simp at c2; omega
            simpa [nxt, hl', c3] using h
      | 3, _ =>
        have e12' : e 12 = .int .i64 3 := e12
        simp -dsimp -failIfUnchanged (maxSteps := 2000000) (disch := omega) only [VA, if_true_, if_false_, reduceIte, Nat.reduceEqDiff, Nat.reduceAdd, Nat.reduceMul, Nat.reduceSub, Int.reduceToNat, Int.reduceAdd, Int.reduceNeg, Int.reduceSub, Int.reduceMul, Int.reduceBEq, Int.reduceBNe, Int.reduceLT, Int.reduceLE, Int.reduceEq, beq_self_eq_true, Int.reducePow, Nat.reducePow, Int.reduceDiv, Nat.reduceLeDiff, reduceCtorEq, Tryz.f170, Tryz.results170, bC023, ed, e0, e11, e12', formsV]
        intro n hn
        simp -dsimp -failIfUnchanged (maxSteps := 2000000) (disch := omega) only [VA, if_true_, if_false_, reduceIte, Nat.reduceEqDiff, Nat.reduceAdd, Nat.reduceMul, Nat.reduceSub, Int.reduceToNat, Int.reduceAdd, Int.reduceNeg, Int.reduceSub, Int.reduceMul, Int.reduceBEq, Int.reduceBNe, Int.reduceLT, Int.reduceLE, Int.reduceEq, beq_self_eq_true, Int.reducePow, Nat.reducePow, Int.reduceDiv, Nat.reduceLeDiff, reduceCtorEq, Tryz.f170, Tryz.results170, bC023, ed, e0, e11, e12', formsV]
        refine draw_quiet (by decide +kernel) (by decide +kernel) (by decide +kernel) ?_
        simp -dsimp -failIfUnchanged (maxSteps := 2000000) (disch := omega) only [VA, if_true_, if_false_, reduceIte, Nat.reduceEqDiff, Nat.reduceAdd, Nat.reduceMul, Nat.reduceSub, Int.reduceToNat, Int.reduceAdd, Int.reduceNeg, Int.reduceSub, Int.reduceMul, Int.reduceBEq, Int.reduceBNe, Int.reduceLT, Int.reduceLE, Int.reduceEq, beq_self_eq_true, Int.reducePow, Nat.reducePow, Int.reduceDiv, Nat.reduceLeDiff, reduceCtorEq, Tryz.f170, Tryz.results170, bC023, ed, e0, e11, e12', formsV, pwQ, pwQ.qOpW, qV, byteAt_bs, List.length_cons, lead_bit3]
        cases hl : (lead b == some 3)
        · simp -dsimp -failIfUnchanged (maxSteps := 2000000) (disch := omega) only [VA, if_true_, if_false_, reduceIte, Nat.reduceEqDiff, Nat.reduceAdd, Nat.reduceMul, Nat.reduceSub, Int.reduceToNat, Int.reduceAdd, Int.reduceNeg, Int.reduceSub, Int.reduceMul, Int.reduceBEq, Int.reduceBNe, Int.reduceLT, Int.reduceLE, Int.reduceEq, beq_self_eq_true, Int.reducePow, Nat.reducePow, Int.reduceDiv, Nat.reduceLeDiff, reduceCtorEq, Tryz.f170, Tryz.results170, bC023, ed, e0, e11, e12', formsV]
          refine ih (3 + 1) _ _ ?_ (by omega)
          simp -dsimp -failIfUnchanged (maxSteps := 2000000) (disch := omega) only [VA, if_true_, if_false_, reduceIte, Nat.reduceEqDiff, Nat.reduceAdd, Nat.reduceMul, Nat.reduceSub, Int.reduceToNat, Int.reduceAdd, Int.reduceNeg, Int.reduceSub, Int.reduceMul, Int.reduceBEq, Int.reduceBNe, Int.reduceLT, Int.reduceLE, Int.reduceEq, beq_self_eq_true, Int.reducePow, Nat.reducePow, Int.reduceDiv, Nat.reduceLeDiff, reduceCtorEq, Tryz.f170, Tryz.results170, bC023, ed, e0, e11, e12', formsV]
          refine ⟨trivial, trivial, trivial, (by trivial), by simp, fun j hj' => ?_, Mem.le_upd' hle hn _⟩
          have := hj j hj'
          rcases Nat.lt_or_ge 3 j with h' | h'
          · exact h'
          · obtain rfl : j = 3 := by omega
            simp [hj'] at hl
        · have hl' : lead b = some 3 := eq_of_beq hl
          simp -dsimp -failIfUnchanged (maxSteps := 2000000) (disch := omega) only [VA, if_true_, if_false_, reduceIte, Nat.reduceEqDiff, Nat.reduceAdd, Nat.reduceMul, Nat.reduceSub, Int.reduceToNat, Int.reduceAdd, Int.reduceNeg, Int.reduceSub, Int.reduceMul, Int.reduceBEq, Int.reduceBNe, Int.reduceLT, Int.reduceLE, Int.reduceEq, beq_self_eq_true, Int.reducePow, Nat.reducePow, Int.reduceDiv, Nat.reduceLeDiff, reduceCtorEq, Tryz.f170, Tryz.results170, bC023, ed, e0, e11, e12', formsV]
          cases c2 : decide ((↑(r.length + 1) : Int) ≤ 3)
          · have hqi : 3 ≤ r.length := by simp at c2; omega
            have hsz2 : 4 ≤ (bs (b :: r)).size := by rw [bs_size, List.length_cons]; omega
            simp -dsimp -failIfUnchanged (maxSteps := 2000000) (disch := omega) only [VA, if_true_, if_false_, reduceIte, Nat.reduceEqDiff, Nat.reduceAdd, Nat.reduceMul, Nat.reduceSub, Int.reduceToNat, Int.reduceAdd, Int.reduceNeg, Int.reduceSub, Int.reduceMul, Int.reduceBEq, Int.reduceBNe, Int.reduceLT, Int.reduceLE, Int.reduceEq, beq_self_eq_true, Int.reducePow, Nat.reducePow, Int.reduceDiv, Nat.reduceLeDiff, reduceCtorEq, Tryz.f170, Tryz.results170, bC023, ed, e0, e11, e12', formsV, c2]
            refine draw_quiet (by decide +kernel) (by decide +kernel) (by decide +kernel) ?_
            simp -dsimp -failIfUnchanged (maxSteps := 2000000) (disch := omega) only [VA, if_true_, if_false_, reduceIte, Nat.reduceEqDiff, Nat.reduceAdd, Nat.reduceMul, Nat.reduceSub, Int.reduceToNat, Int.reduceAdd, Int.reduceNeg, Int.reduceSub, Int.reduceMul, Int.reduceBEq, Int.reduceBNe, Int.reduceLT, Int.reduceLE, Int.reduceEq, beq_self_eq_true, Int.reducePow, Nat.reducePow, Int.reduceDiv, Nat.reduceLeDiff, reduceCtorEq, Tryz.f170, Tryz.results170, bC023, ed, e0, e11, e12', formsV, pwQ, pwQ.qOpW, qV, byteAt_bs, List.length_cons, and_bit3]
            have hql : (r.take 3).length = 3 := by simp only [List.length_take]; omega
            have hq : (bs (b :: r)).extract 1 4 = bs (r.take 3) := by rw [bs_extract]; simp
            generalize hqq : r.take 3 = q at hql hq
            rw [hq]
            refine conv_bytes Tryz.underlying9 Tryz.underlying183 Tryz.underlying5 fun m cap hm hcap => ?_
            rw [hql]
            have hmn : n ≠ m := by rintro rfl; simp [Mem.upd] at hm
            simp -dsimp -failIfUnchanged (maxSteps := 2000000) (disch := omega) only [VA, if_true_, if_false_, reduceIte, Nat.reduceEqDiff, Nat.reduceAdd, Nat.reduceMul, Nat.reduceSub, Int.reduceToNat, Int.reduceAdd, Int.reduceNeg, Int.reduceSub, Int.reduceMul, Int.reduceBEq, Int.reduceBNe, Int.reduceLT, Int.reduceLE, Int.reduceEq, beq_self_eq_true, Int.reducePow, Nat.reducePow, Int.reduceDiv, Nat.reduceLeDiff, reduceCtorEq, Tryz.f170, Tryz.results170, bC023, ed, e0, e11, e12', formsV]
            refine loop_enter (loop_ind (by decide +kernel) (fun (k : Nat) e1 H1 => e1.ds = [] ∧ e1 0 = .string (bs (b :: r)) ∧ e1 4 = .int .i64 3 ∧ e1 5 = .pointer (some ⟨n, 0, none⟩) ∧ e1 11 = formsV ∧ e1 12 = .int .i64 3 ∧
              (∃ c, e1 6 = .int .i64 c ∧ 0 ≤ c ∧ c < 128 * 64 ^ k ∧ more c (q.drop k) = more ((b.toNat % (7 + 1) : Nat) : Int) q) ∧ e1 38 = .slice (some ⟨m, 0, none⟩) 3 cap ∧ e1 39 = .int .i64 3 ∧ e1 40 = .int .i64 k ∧ k ≤ 3 ∧
              H1 = (H'.upd n ⟨true, 3, [.int .i64 65536, .int .u8 240, .int .u8 7]⟩).upd m ⟨true, cap, byC q⟩) (fun k => 3 - k) ?_ 0 _ _ ?_)
            · rintro k e1 H1 ⟨d1, d0, d4, d5, d11, d12, ⟨c, d6, hc0, hc1, hc2⟩, d38, d39, d40, hk, rfl⟩ ih1
              by_cases hlt : k < 3
              · have k1 : decide ((k : Int) < 3) = true := decide_eq_true (by omega)
                obtain ⟨x, q2, hx⟩ : ∃ x q2, q.drop k = x :: q2 := by
                  cases hd : q.drop k with
                  | nil => have := congrArg List.length hd; simp at this; omega
                  | cons x q2 => exact ⟨x, q2, rfl⟩
                have hrd : List.take 1 (List.drop ((k : Int).toNat * 1) (byC q)) = [.int .u8 x.toNat] := by
                  have : (byC q).drop k = byC (q.drop k) := by simp only [byC, List.map_drop]
                  simp only [Int.toNat_natCast, Nat.mul_one, this, hx, byC_cons, List.take_succ_cons, List.take_zero]
                have hkb : c < 128 * 64 ^ 3 := Int.lt_of_lt_of_le hc1 (Int.mul_le_mul_of_nonneg_left (pow_mono (by omega)) (by omega))
                rw [show (128 * 64 ^ 3 : Int) = 33554432 from by decide] at hkb
                have hbl : (byC q).length = 3 := by rw [byC_length, hql]
                have hsh : IntKind.i64.wrap (c * 2 ^ (6 : Int).toNat) = c * 64 := by rw [show ((2 : Int) ^ (6 : Int).toNat) = 64 from rfl, IntKind.wrap_i64]; omega
                simp -dsimp -failIfUnchanged (maxSteps := 2000000) (disch := omega) only [VA, if_true_, if_false_, reduceIte, Nat.reduceEqDiff, Nat.reduceAdd, Nat.reduceMul, Nat.reduceSub, Int.reduceToNat, Int.reduceAdd, Int.reduceNeg, Int.reduceSub, Int.reduceMul, Int.reduceBEq, Int.reduceBNe, Int.reduceLT, Int.reduceLE, Int.reduceEq, beq_self_eq_true, Int.reducePow, Nat.reducePow, Int.reduceDiv, Nat.reduceLeDiff, reduceCtorEq, Tryz.f170, Tryz.results170, bC023, d1, d0, d4, d5, d6, d11, d12, d38, d39, d40, k1, hrd]
                refine goes_W ?_
                cases hg : goesB x
                · simp -dsimp -failIfUnchanged (maxSteps := 2000000) (disch := omega) only [VA, if_true_, if_false_, reduceIte, Nat.reduceEqDiff, Nat.reduceAdd, Nat.reduceMul, Nat.reduceSub, Int.reduceToNat, Int.reduceAdd, Int.reduceNeg, Int.reduceSub, Int.reduceMul, Int.reduceBEq, Int.reduceBNe, Int.reduceLT, Int.reduceLE, Int.reduceEq, beq_self_eq_true, Int.reducePow, Nat.reducePow, Int.reduceDiv, Nat.reduceLeDiff, reduceCtorEq, Tryz.f170, Tryz.results170, bC023, d1, d0, d4, d5, d6, d11, d12, d38, d39, d40, k1, hrd]
                  refine ⟨H, Mem.le_upd' (Mem.le_upd' hle hn _) hm _, ?_⟩
                  have hmn : more ((b.toNat % (7 + 1) : Nat) : Int) q = none := by rw [← hc2, hx]; simp only [more, hg]; rfl
                  rw [nxt_none hl' hqi hqq hmn] at h
                  exact h
                · simp -dsimp -failIfUnchanged (maxSteps := 2000000) (disch := omega) only [VA, if_true_, if_false_, reduceIte, Nat.reduceEqDiff, Nat.reduceAdd, Nat.reduceMul, Nat.reduceSub, Int.reduceToNat, Int.reduceAdd, Int.reduceNeg, Int.reduceSub, Int.reduceMul, Int.reduceBEq, Int.reduceBNe, Int.reduceLT, Int.reduceLE, Int.reduceEq, beq_self_eq_true, Int.reducePow, Nat.reducePow, Int.reduceDiv, Nat.reduceLeDiff, reduceCtorEq, Tryz.f170, Tryz.results170, bC023, d1, d0, d4, d5, d6, d11, d12, d38, d39, d40, k1, hrd, and_bit63, hsh, or_add hc0 hkb (Nat.mod_lt x.toNat (show 0 < 64 by decide))]
                  refine ih1 (k + 1) _ _ ?_ (by omega)
                  simp -dsimp -failIfUnchanged (maxSteps := 2000000) (disch := omega) only [VA, if_true_, if_false_, reduceIte, Nat.reduceEqDiff, Nat.reduceAdd, Nat.reduceMul, Nat.reduceSub, Int.reduceToNat, Int.reduceAdd, Int.reduceNeg, Int.reduceSub, Int.reduceMul, Int.reduceBEq, Int.reduceBNe, Int.reduceLT, Int.reduceLE, Int.reduceEq, beq_self_eq_true, Int.reducePow, Nat.reducePow, Int.reduceDiv, Nat.reduceLeDiff, reduceCtorEq, Tryz.f170, Tryz.results170, bC023, d1, d0, d4, d5, d6, d11, d12, d38, d39, d40]
                  refine ⟨trivial, trivial, trivial, trivial, trivial, trivial, ⟨_, rfl, by omega, ?_, ?_⟩, trivial, trivial, by simp, by omega, trivial⟩
                  · rw [Int.pow_succ]; have := Nat.mod_lt x.toNat (show 0 < 64 by decide); omega
                  · rw [← hc2, hx, show q.drop (k + 1) = q2 from by rw [← List.drop_drop, hx, List.drop_one, List.tail_cons]]; simp only [more, hg, if_true]; rfl
              · have k1 : decide ((k : Int) < 3) = false := decide_eq_false (by omega)
                obtain rfl : k = 3 := by omega
                have hcm : more ((b.toNat % (7 + 1) : Nat) : Int) q = some c := by rw [← hc2, show q.drop 3 = [] from by rw [List.drop_eq_nil_iff]; omega]; rfl
                have hH := Mem.le_upd' (Mem.le_upd' hle hn ⟨true, 3, [.int .i64 65536, .int .u8 240, .int .u8 7]⟩) hm ⟨true, cap, byC q⟩
                simp -dsimp -failIfUnchanged (maxSteps := 2000000) (disch := omega) only [VA, if_true_, if_false_, reduceIte, Nat.reduceEqDiff, Nat.reduceAdd, Nat.reduceMul, Nat.reduceSub, Int.reduceToNat, Int.reduceAdd, Int.reduceNeg, Int.reduceSub, Int.reduceMul, Int.reduceBEq, Int.reduceBNe, Int.reduceLT, Int.reduceLE, Int.reduceEq, beq_self_eq_true, Int.reducePow, Nat.reducePow, Int.reduceDiv, Nat.reduceLeDiff, reduceCtorEq, Tryz.f170, Tryz.results170, bC023, d1, d0, d4, d5, d6, d11, d12, d38, d39, d40, k1]
                cases c4 : decide (c < 65536)
                · simp -dsimp -failIfUnchanged (maxSteps := 2000000) (disch := omega) only [VA, if_true_, if_false_, reduceIte, Nat.reduceEqDiff, Nat.reduceAdd, Nat.reduceMul, Nat.reduceSub, Int.reduceToNat, Int.reduceAdd, Int.reduceNeg, Int.reduceSub, Int.reduceMul, Int.reduceBEq, Int.reduceBNe, Int.reduceLT, Int.reduceLE, Int.reduceEq, beq_self_eq_true, Int.reducePow, Nat.reducePow, Int.reduceDiv, Nat.reduceLeDiff, reduceCtorEq, Tryz.f170, Tryz.results170, bC023, d1, d0, d4, d5, d6, d11, d12, d38, d39, d40, k1, c4]
                  refine character_W ?_
                  cases c5 : charB c
                  · simp -dsimp -failIfUnchanged (maxSteps := 2000000) (disch := omega) only [VA, if_true_, if_false_, reduceIte, Nat.reduceEqDiff, Nat.reduceAdd, Nat.reduceMul, Nat.reduceSub, Int.reduceToNat, Int.reduceAdd, Int.reduceNeg, Int.reduceSub, Int.reduceMul, Int.reduceBEq, Int.reduceBNe, Int.reduceLT, Int.reduceLE, Int.reduceEq, beq_self_eq_true, Int.reducePow, Nat.reducePow, Int.reduceDiv, Nat.reduceLeDiff, reduceCtorEq, Tryz.f170, Tryz.results170, bC023, d1, d0, d4, d5, d6, d11, d12, d38, d39, d40, k1, c4]
                    refine ⟨H, hH, ?_⟩
                    rw [nxt_bad hl' hqi hqq hcm (Or.inr c5)] at h; exact h
                  · simp -dsimp -failIfUnchanged (maxSteps := 2000000) (disch := omega) only [VA, if_true_, if_false_, reduceIte, Nat.reduceEqDiff, Nat.reduceAdd, Nat.reduceMul, Nat.reduceSub, Int.reduceToNat, Int.reduceAdd, Int.reduceNeg, Int.reduceSub, Int.reduceMul, Int.reduceBEq, Int.reduceBNe, Int.reduceLT, Int.reduceLE, Int.reduceEq, beq_self_eq_true, Int.reducePow, Nat.reducePow, Int.reduceDiv, Nat.reduceLeDiff, reduceCtorEq, Tryz.f170, Tryz.results170, bC023, d1, d0, d4, d5, d6, d11, d12, d38, d39, d40, k1, c4]
                    refine ⟨H, hH, ?_⟩
                    have c6 : ¬ (c < fromOf 3 ∨ charB c = false) := by rw [c5]; have := of_decide_eq_false c4; rintro (h' | h'); exact this h'; cases h'
                    rw [nxt_good hl' hqi hqq hcm c6] at h; exact h
                · simp -dsimp -failIfUnchanged (maxSteps := 2000000) (disch := omega) only [VA, if_true_, if_false_, reduceIte, Nat.reduceEqDiff, Nat.reduceAdd, Nat.reduceMul, Nat.reduceSub, Int.reduceToNat, Int.reduceAdd, Int.reduceNeg, Int.reduceSub, Int.reduceMul, Int.reduceBEq, Int.reduceBNe, Int.reduceLT, Int.reduceLE, Int.reduceEq, beq_self_eq_true, Int.reducePow, Nat.reducePow, Int.reduceDiv, Nat.reduceLeDiff, reduceCtorEq, Tryz.f170, Tryz.results170, bC023, d1, d0, d4, d5, d6, d11, d12, d38, d39, d40, k1, c4]
                  refine ⟨H, hH, ?_⟩
                  have c6 : c < fromOf 3 := by simpa [fromOf] using c4
                  rw [nxt_bad hl' hqi hqq hcm (Or.inl c6)] at h; exact h
            · simp -dsimp -failIfUnchanged (maxSteps := 2000000) (disch := omega) only [VA, if_true_, if_false_, reduceIte, Nat.reduceEqDiff, Nat.reduceAdd, Nat.reduceMul, Nat.reduceSub, Int.reduceToNat, Int.reduceAdd, Int.reduceNeg, Int.reduceSub, Int.reduceMul, Int.reduceBEq, Int.reduceBNe, Int.reduceLT, Int.reduceLE, Int.reduceEq, beq_self_eq_true, Int.reducePow, Nat.reducePow, Int.reduceDiv, Nat.reduceLeDiff, reduceCtorEq, Tryz.f170, Tryz.results170, bC023, formsV, ed, e0, e11, e12']
              exact ⟨trivial, trivial, trivial, trivial, trivial, trivial, ⟨_, rfl, by omega, by omega, rfl⟩, trivial, (by trivial), (by trivial), trivial, trivial⟩
          · simp -dsimp -failIfUnchanged (maxSteps := 2000000) (disch := omega) only [VA, if_true_, if_false_, reduceIte, Nat.reduceEqDiff, Nat.reduceAdd, Nat.reduceMul, Nat.reduceSub, Int.reduceToNat, Int.reduceAdd, Int.reduceNeg, Int.reduceSub, Int.reduceMul, Int.reduceBEq, Int.reduceBNe, Int.reduceLT, Int.reduceLE, Int.reduceEq, beq_self_eq_true, Int.reducePow, Nat.reducePow, Int.reduceDiv, Nat.reduceLeDiff, reduceCtorEq, Tryz.f170, Tryz.results170, bC023, ed, e0, e11, e12', formsV, c2]
            refine ⟨H, Mem.le_upd' hle hn _, ?_⟩
            have c3 : r.length < 3 := by simp at c2; omega
            simpa [nxt, hl', c3] using h
      | 4, _ => 
        have e12' : e 12 = .int .i64 4 := e12
        simp -dsimp -failIfUnchanged (maxSteps := 2000000) (disch := omega) only [VA, if_true_, if_false_, reduceIte, Nat.reduceEqDiff, Nat.reduceAdd, Nat.reduceMul, Nat.reduceSub, Int.reduceToNat, Int.reduceAdd, Int.reduceNeg, Int.reduceSub, Int.reduceMul, Int.reduceBEq, Int.reduceBNe, Int.reduceLT, Int.reduceLE, Int.reduceEq, beq_self_eq_true, Int.reducePow, Nat.reducePow, Int.reduceDiv, Nat.reduceLeDiff, reduceCtorEq, Tryz.f170, Tryz.results170, bC023, ed, e0, e11, e12', formsV]
        refine ⟨H, hle, ?_⟩
        have hl : lead b = none := by
          cases hl : lead b with
          | none => rfl
          | some j => have := hj j hl; have : j ≤ 3 := lead_le hl; omega
        simpa [nxt, hl] using h
    · simp -dsimp -failIfUnchanged (maxSteps := 2000000) (disch := omega) only [VA, if_true_, if_false_, reduceIte, Nat.reduceEqDiff, Nat.reduceAdd, Nat.reduceMul, Nat.reduceSub, Int.reduceToNat, Int.reduceAdd, Int.reduceNeg, Int.reduceSub, Int.reduceMul, Int.reduceBEq, Int.reduceBNe, Int.reduceLT, Int.reduceLE, Int.reduceEq, beq_self_eq_true, Int.reducePow, Nat.reducePow, Int.reduceDiv, Nat.reduceLeDiff, reduceCtorEq, Tryz.f170, Tryz.results170, bC023, formsV]
      exact ⟨trivial, trivial, trivial, (by trivial), trivial, fun _ _ => Nat.zero_le _, Mem.le_refl H⟩
end Go.Proofs.YtgkolnknobgcmaaGreat
end
section
namespace Go.Proofs.YtgkolnknobgcmaaGreat
open Go Go.Proofs.YtgkolnknobgcmaaGreatV
set_option maxRecDepth 20000
set_option linter.unusedSimpArgs false
set_option linter.unusedVariables false
set_option maxHeartbeats 4000000
theorem bC030 : type_of% @Tryz.underlying3 ∧ type_of% @ty3 ∧ type_of% @zero3 ∧ type_of% @Tryz.underlying5 ∧ type_of% @ty5 ∧ type_of% @zero5 ∧ type_of% @Tryz.underlying9 ∧ type_of% @ty9 ∧ type_of% @zero9 ∧ type_of% @Tryz.underlying183 ∧ type_of% @einf183 ∧ type_of% @elt183 ∧ type_of% @ty183 ∧ type_of% @zero183 ∧ type_of% @Tryz.ntmps194 := ⟨@Tryz.underlying3, @ty3, @zero3, @Tryz.underlying5, @ty5, @zero5, @Tryz.underlying9, @ty9, @zero9, @Tryz.underlying183, @einf183, @elt183, @ty183, @zero183, @Tryz.ntmps194⟩
variable {H : Mem} {K : Value → Mem → Prop}

def lowB (b : UInt8) : UInt8 := if 65 ≤ b.toNat ∧ b.toNat ≤ 90 then UInt8.ofNat (b.toNat + 32) else b
theorem or32 (b : UInt8) (h : 65 ≤ b.toNat ∧ b.toNat ≤ 90) : bitI BinOp.or IntKind.u8 b.toNat 32 = ((lowB b).toNat : Int) := by
  have : (lowB b).toNat = b.toNat + 32 := by simp only [lowB, h, if_true, and_self]; rw [UInt8.toNat_ofNat_of_lt' (by simp [UInt8.size]; omega)]
  rw [this]
  exact all_u8 (p := fun n => 65 ≤ n ∧ n ≤ 90 → bitI BinOp.or IntKind.u8 (n : Int) 32 = ((n + 32 : Nat) : Int)) (by decide +kernel) b h
theorem byC_splice (s : List UInt8) (k : Nat) (x : UInt8) (h : k < s.length) : splice (byC s) k [.int .u8 x.toNat] = byC (s.set k x) := by
  unfold splice
  rw [List.set_eq_take_append_cons_drop, if_pos h]
  simp [byC, List.map_take, List.map_drop]
theorem byC_at {s q : List UInt8} {k : Nat} {x : UInt8} (h : s.drop k = x :: q) : List.take 1 (List.drop k (byC s)) = [.int .u8 x.toNat] := by
  rw [byC, ← List.map_drop, h]; rfl
/-- What Low leaves behind k rounds. -/
def lowK (s : List UInt8) (k : Nat) : List UInt8 := (s.take k).map lowB ++ s.drop k
theorem lowK_length (s : List UInt8) (k : Nat) : (lowK s k).length = s.length := by simp [lowK]; omega
theorem lowK_succ {s q : List UInt8} {k : Nat} {x : UInt8} (h : s.drop k = x :: q) : lowK s (k + 1) = (lowK s k).set k (lowB x) := by
  have hk : k < s.length := by
    rcases Nat.lt_or_ge k s.length with h' | h'
    · exact h'
    · rw [List.drop_eq_nil_of_le h'] at h; cases h
  have hx : s[k]? = some x := by have := congrArg (·[0]?) h; simpa using this
  have hd : s.drop (k + 1) = q := by rw [← List.drop_drop, h, List.drop_one, List.tail_cons]
  unfold lowK
  rw [List.take_add_one, hx, hd, h]
  simp only [Option.toList_some, List.map_append, List.map_cons, List.map_nil, List.append_assoc, List.cons_append, List.nil_append]
  rw [List.set_append_right _ _ (by simp; omega)]
  have : k - (List.map lowB (List.take k s)).length = 0 := by simp; omega
  rw [this]; rfl
theorem lowK_drop (s : List UInt8) (k : Nat) : (lowK s k).drop k = s.drop k := by
  unfold lowK
  rcases Nat.lt_or_ge k s.length with h | h
  · rw [List.drop_append_of_le_length (by simp; omega), List.drop_eq_nil_of_le (by simp; omega)]; rfl
  · rw [List.drop_eq_nil_of_le h, List.append_nil, List.drop_eq_nil_of_le (by simp; omega)]

theorem low_W {s : List UInt8} (hs : s.length < 4294967281) (h : K (.string (bs (s.map lowB))) H) : InvW Tryz.prog 194 #[.string (bs s)] H K := by
  refine InvW.weak ?_
  (refine invW_of_pw Tryz.func194 rfl rfl (by decide +kernel) (by simp [Tryz.f194]) ?_); simp -dsimp -failIfUnchanged (maxSteps := 2000000) (disch := omega) only [VA, if_true_, if_false_, reduceIte, Nat.reduceEqDiff, Nat.reduceAdd, Nat.reduceMul, Nat.reduceSub, Int.reduceToNat, Int.reduceAdd, Int.reduceNeg, Int.reduceSub, Int.reduceMul, Int.reduceBEq, Int.reduceBNe, Int.reduceLT, Int.reduceLE, Int.reduceEq, beq_self_eq_true, Int.reducePow, Nat.reducePow, Int.reduceDiv, Nat.reduceLeDiff, reduceCtorEq, Tryz.f194, Tryz.results194, bC030]
  refine conv_bytes Tryz.underlying9 Tryz.underlying183 Tryz.underlying5 fun m cap hm hcap => ?_
  simp -dsimp -failIfUnchanged (maxSteps := 2000000) (disch := omega) only [VA, if_true_, if_false_, reduceIte, Nat.reduceEqDiff, Nat.reduceAdd, Nat.reduceMul, Nat.reduceSub, Int.reduceToNat, Int.reduceAdd, Int.reduceNeg, Int.reduceSub, Int.reduceMul, Int.reduceBEq, Int.reduceBNe, Int.reduceLT, Int.reduceLE, Int.reduceEq, beq_self_eq_true, Int.reducePow, Nat.reducePow, Int.reduceDiv, Nat.reduceLeDiff, reduceCtorEq, Tryz.f194, Tryz.results194, bC030]
  refine loop_enter (loop_ind (by decide +kernel) (fun (k : Nat) e1 H1 => e1.ds = [] ∧ e1 3 = .slice (some ⟨m, 0, none⟩) s.length cap ∧ e1 8 = .slice (some ⟨m, 0, none⟩) s.length cap ∧ e1 9 = .int .i64 s.length ∧ e1 10 = .int .i64 k ∧ k ≤ s.length ∧
      H1 = H.upd m ⟨true, cap, byC (lowK s k)⟩) (fun k => s.length - k) ?_ 0 _ _ ?_)
  · rintro k e1 H1 ⟨d1, d3, d8, d9, d10, hk, rfl⟩ ih
    have hbl : (byC (lowK s k)).length = s.length := by rw [byC_length, lowK_length]
    by_cases hlt : k < s.length
    · have k1 : decide ((k : Int) < s.length) = true := decide_eq_true (by omega)
      obtain ⟨x, q, hx⟩ : ∃ x q, s.drop k = x :: q := by
        cases hd : s.drop k with
        | nil => have := congrArg List.length hd; simp at this; omega
        | cons x q => exact ⟨x, q, rfl⟩
      have hrd : List.take 1 (List.drop ((k : Int).toNat * 1) (byC (lowK s k))) = [.int .u8 x.toNat] := by
        rw [Int.toNat_natCast, Nat.mul_one]; exact byC_at (by rw [lowK_drop]; exact hx)
      have hsp : splice (byC (lowK s k)) ((k : Int).toNat * 1) [.int .u8 (lowB x).toNat] = byC (lowK s (k + 1)) := by
        rw [Int.toNat_natCast, Nat.mul_one, byC_splice _ _ _ (by rw [lowK_length]; exact hlt), lowK_succ hx]
      cases a1 : decide (65 ≤ (x.toNat : Int)) <;> cases a2 : decide ((x.toNat : Int) ≤ 90)
      case true.true =>
        have hl : 65 ≤ x.toNat ∧ x.toNat ≤ 90 := by simp at a1 a2; omega
        simp -dsimp -failIfUnchanged (maxSteps := 2000000) (disch := omega) only [VA, if_true_, if_false_, reduceIte, Nat.reduceEqDiff, Nat.reduceAdd, Nat.reduceMul, Nat.reduceSub, Int.reduceToNat, Int.reduceAdd, Int.reduceNeg, Int.reduceSub, Int.reduceMul, Int.reduceBEq, Int.reduceBNe, Int.reduceLT, Int.reduceLE, Int.reduceEq, beq_self_eq_true, Int.reducePow, Nat.reducePow, Int.reduceDiv, Nat.reduceLeDiff, reduceCtorEq, Tryz.f194, Tryz.results194, bC030, d1, d3, d8, d9, d10, k1, hrd, a1, a2, or32 x hl]
        refine ih (k + 1) _ _ ?_ (by omega)
        simp -dsimp -failIfUnchanged (maxSteps := 2000000) (disch := omega) only [VA, if_true_, if_false_, reduceIte, Nat.reduceEqDiff, Nat.reduceAdd, Nat.reduceMul, Nat.reduceSub, Int.reduceToNat, Int.reduceAdd, Int.reduceNeg, Int.reduceSub, Int.reduceMul, Int.reduceBEq, Int.reduceBNe, Int.reduceLT, Int.reduceLE, Int.reduceEq, beq_self_eq_true, Int.reducePow, Nat.reducePow, Int.reduceDiv, Nat.reduceLeDiff, reduceCtorEq, Tryz.f194, Tryz.results194, bC030, d1, d3, d8, d9, d10]
        exact ⟨trivial, trivial, trivial, trivial, by simp, by omega, by rw [← hsp]; rfl⟩
      all_goals
        have hl : lowB x = x := by simp only [lowB]; rw [if_neg]; simp at a1 a2; omega
        simp -dsimp -failIfUnchanged (maxSteps := 2000000) (disch := omega) only [VA, if_true_, if_false_, reduceIte, Nat.reduceEqDiff, Nat.reduceAdd, Nat.reduceMul, Nat.reduceSub, Int.reduceToNat, Int.reduceAdd, Int.reduceNeg, Int.reduceSub, Int.reduceMul, Int.reduceBEq, Int.reduceBNe, Int.reduceLT, Int.reduceLE, Int.reduceEq, beq_self_eq_true, Int.reducePow, Nat.reducePow, Int.reduceDiv, Nat.reduceLeDiff, reduceCtorEq, Tryz.f194, Tryz.results194, bC030, d1, d3, d8, d9, d10, k1, hrd, a1, a2]
        refine ih (k + 1) _ _ ?_ (by omega)
        simp -dsimp -failIfUnchanged (maxSteps := 2000000) (disch := omega) only [VA, if_true_, if_false_, reduceIte, Nat.reduceEqDiff, Nat.reduceAdd, Nat.reduceMul, Nat.reduceSub, Int.reduceToNat, Int.reduceAdd, Int.reduceNeg, Int.reduceSub, Int.reduceMul, Int.reduceBEq, Int.reduceBNe, Int.reduceLT, Int.reduceLE, Int.reduceEq, beq_self_eq_true, Int.reducePow, Nat.reducePow, Int.reduceDiv, Nat.reduceLeDiff, reduceCtorEq, Tryz.f194, Tryz.results194, bC030, d1, d3, d8, d9, d10]
        have hid : lowK s (k + 1) = lowK s k := by
          rw [lowK_succ hx, hl]
          refine List.ext_getElem? fun i => ?_
          rw [List.getElem?_set]
          split
          · rename_i h'; subst h'
            have : (lowK s k)[k]? = some x := by
              have := congrArg (·[0]?) (lowK_drop s k); simp [hx] at this; exact this
            rw [this, lowK_length, if_pos hlt]
          · rfl
        exact ⟨trivial, trivial, trivial, trivial, by simp, by omega, by rw [hid]⟩
    · have k1 : decide ((k : Int) < s.length) = false := decide_eq_false (by omega)
      obtain rfl : k = s.length := by omega
      simp -dsimp -failIfUnchanged (maxSteps := 2000000) (disch := omega) only [VA, if_true_, if_false_, reduceIte, Nat.reduceEqDiff, Nat.reduceAdd, Nat.reduceMul, Nat.reduceSub, Int.reduceToNat, Int.reduceAdd, Int.reduceNeg, Int.reduceSub, Int.reduceMul, Int.reduceBEq, Int.reduceBNe, Int.reduceLT, Int.reduceLE, Int.reduceEq, beq_self_eq_true, Int.reducePow, Nat.reducePow, Int.reduceDiv, Nat.reduceLeDiff, reduceCtorEq, Tryz.f194, Tryz.results194, bC030, d1, d3, d8, d9, d10, k1]
      refine conv_string (l := s.map lowB) Tryz.underlying183 Tryz.underlying5 Tryz.underlying9 (.inr ⟨_, _, rfl, ?_⟩) ?_
      · have : lowK s s.length = s.map lowB := by simp [lowK]
        simp -dsimp -failIfUnchanged (maxSteps := 2000000) (disch := omega) only [VA, if_true_, if_false_, reduceIte, Nat.reduceEqDiff, Nat.reduceAdd, Nat.reduceMul, Nat.reduceSub, Int.reduceToNat, Int.reduceAdd, Int.reduceNeg, Int.reduceSub, Int.reduceMul, Int.reduceBEq, Int.reduceBNe, Int.reduceLT, Int.reduceLE, Int.reduceEq, beq_self_eq_true, Int.reducePow, Nat.reducePow, Int.reduceDiv, Nat.reduceLeDiff, reduceCtorEq, Tryz.f194, Tryz.results194, bC030, this]
        rw [if_pos (by rw [byC_length]; simp), List.take_of_length_le (by rw [byC_length]; simp)]
      · simp -dsimp -failIfUnchanged (maxSteps := 2000000) (disch := omega) only [VA, if_true_, if_false_, reduceIte, Nat.reduceEqDiff, Nat.reduceAdd, Nat.reduceMul, Nat.reduceSub, Int.reduceToNat, Int.reduceAdd, Int.reduceNeg, Int.reduceSub, Int.reduceMul, Int.reduceBEq, Int.reduceBNe, Int.reduceLT, Int.reduceLE, Int.reduceEq, beq_self_eq_true, Int.reducePow, Nat.reducePow, Int.reduceDiv, Nat.reduceLeDiff, reduceCtorEq, Tryz.f194, Tryz.results194, bC030, d1]
        exact ⟨H, Mem.le_upd hm _, h⟩
  · simp -dsimp -failIfUnchanged (maxSteps := 2000000) (disch := omega) only [VA, if_true_, if_false_, reduceIte, Nat.reduceEqDiff, Nat.reduceAdd, Nat.reduceMul, Nat.reduceSub, Int.reduceToNat, Int.reduceAdd, Int.reduceNeg, Int.reduceSub, Int.reduceMul, Int.reduceBEq, Int.reduceBNe, Int.reduceLT, Int.reduceLE, Int.reduceEq, beq_self_eq_true, Int.reducePow, Nat.reducePow, Int.reduceDiv, Nat.reduceLeDiff, reduceCtorEq, Tryz.f194, Tryz.results194, bC030, trivial]
    exact ⟨trivial, trivial, trivial, trivial, (by trivial), Nat.zero_le _, by rw [show lowK s 0 = s from by simp [lowK]]⟩
end Go.Proofs.YtgkolnknobgcmaaGreat
end
section
namespace Go.Proofs.YtgkolnknobgcmaaGreat
open Go Go.Proofs.YtgkolnknobgcmaaGreatV
set_option maxRecDepth 20000
set_option linter.unusedSimpArgs false
set_option linter.unusedVariables false
set_option maxHeartbeats 4000000
theorem bC040 : type_of% @Tryz.underlying3 ∧ type_of% @ty3 ∧ type_of% @zero3 ∧ type_of% @Tryz.underlying9 ∧ type_of% @ty9 ∧ type_of% @zero9 ∧ type_of% @Tryz.ntmps169 := ⟨@Tryz.underlying3, @ty3, @zero3, @Tryz.underlying9, @ty9, @zero9, @Tryz.ntmps169⟩
theorem bC041 : type_of% @Tryz.underlying9 ∧ type_of% @ty9 ∧ type_of% @zero9 ∧ type_of% @Tryz.ntmps115 := ⟨@Tryz.underlying9, @ty9, @zero9, @Tryz.ntmps115⟩
theorem bC042 : type_of% @Tryz.underlying3 ∧ type_of% @ty3 ∧ type_of% @zero3 ∧ type_of% @Tryz.underlying4 ∧ type_of% @ty4 ∧ type_of% @zero4 ∧ type_of% @Tryz.underlying9 ∧ type_of% @ty9 ∧ type_of% @zero9 ∧ type_of% @Tryz.ntmps67 := ⟨@Tryz.underlying3, @ty3, @zero3, @Tryz.underlying4, @ty4, @zero4, @Tryz.underlying9, @ty9, @zero9, @Tryz.ntmps67⟩
variable {H : Mem} {K : Value → Mem → Prop}

theorem nxt_pos {s : List UInt8} (h : s ≠ []) : 1 ≤ (nxt s).2 := by
  rcases s with _ | ⟨b, r⟩
  · exact absurd rfl h
  · unfold nxt; dsimp only; split
    · exact Nat.le_refl _
    · split
      · exact Nat.le_refl _
      · split
        · exact Nat.le_refl _
        · split <;> simp
theorem nxt_le {s : List UInt8} : (nxt s).2 ≤ s.length := by
  rcases s with _ | ⟨b, r⟩
  · exact Nat.le_refl _
  · unfold nxt; dsimp only; split
    · simp
    · split
      · simp
      · split
        · simp
        · split <;> simp <;> omega
def runesF : Nat → List UInt8 → List Int
  | 0, _ => []
  | k + 1, s => if s = [] then [] else (nxt s).1 :: runesF k (s.drop (nxt s).2)
theorem runesF_more : ∀ (k m : Nat) (s : List UInt8), s.length ≤ k → s.length ≤ m → runesF k s = runesF m s
  | 0, 0, _, _, _ => rfl
  | 0, m + 1, s, h, _ => by have : s = [] := List.eq_nil_of_length_eq_zero (by omega); simp [runesF, this]
  | k + 1, 0, s, _, h => by have : s = [] := List.eq_nil_of_length_eq_zero (by omega); simp [runesF, this]
  | k + 1, m + 1, s, h, h' => by
    unfold runesF
    split
    · rfl
    · rename_i hs
      have := nxt_pos hs
      rw [runesF_more k m _ (by rw [List.length_drop]; omega) (by rw [List.length_drop]; omega)]
/-- The characters of a text, -1 where none is. -/
def runes (s : List UInt8) : List Int := runesF s.length s
theorem runes_nil : runes [] = [] := rfl
theorem runes_cons {s : List UInt8} (h : s ≠ []) : runes s = (nxt s).1 :: runes (s.drop (nxt s).2) := by
  have hp := nxt_pos h
  have hl : s.length ≠ 0 := fun e => h (List.eq_nil_of_length_eq_zero e)
  unfold runes
  obtain ⟨k, hk⟩ : ∃ k, s.length = k + 1 := ⟨s.length - 1, by omega⟩
  rw [hk]
  conv => lhs; unfold runesF
  rw [if_neg h, runesF_more k _ _ (by rw [List.length_drop]; omega) (Nat.le_refl _)]
def badC (c : Int) : Bool := decide (c < 32) || c == 127
def plain (s : List UInt8) : Bool := (runes s).all fun c => !badC c

/-- all$1, called with the yield of a range. -/
theorem all1_W {l b1 : Nat} {J : List UInt8 → Mem → Prop} {s : List UInt8} {G : Mem} (hs : s.length < 4294967281) (hJ : J s G)
    (round : ∀ s G, J s G → s ≠ [] → YieldW Tryz.prog l #[.int .i64 (nxt s).1, .int .i64 (nxt s).2] (G.upd b1 ⟨true, 1, [.string (bs s)]⟩)
      (fun v H' => (v = .bool true ∧ ∃ G', H' = G'.upd b1 ⟨true, 1, [.string (bs s)]⟩ ∧ J (s.drop (nxt s).2) G') ∨ (v = .bool false ∧ K (.tuple #[]) H')))
    (done : ∀ G, J [] G → K (.tuple #[]) (G.upd b1 ⟨true, 1, [.string (bs [])]⟩)) :
    InvW Tryz.prog 169 #[.func (.yield l) #[] #[], .pointer (some ⟨b1, 0, none⟩)] (G.upd b1 ⟨true, 1, [.string (bs s)]⟩) K := by
  (refine invW_of_pw Tryz.func169 rfl rfl (by decide +kernel) (by simp [Tryz.f169]) ?_); simp -dsimp -failIfUnchanged (maxSteps := 2000000) (disch := omega) only [VA, if_true_, if_false_, reduceIte, Nat.reduceEqDiff, Nat.reduceAdd, Nat.reduceMul, Nat.reduceSub, Int.reduceToNat, Int.reduceAdd, Int.reduceNeg, Int.reduceSub, Int.reduceMul, Int.reduceBEq, Int.reduceBNe, Int.reduceLT, Int.reduceLE, Int.reduceEq, beq_self_eq_true, Int.reducePow, Nat.reducePow, Int.reduceDiv, Nat.reduceLeDiff, reduceCtorEq, Tryz.f169, Tryz.results169, bC040]
  refine loop_enter (loop_ind (by decide +kernel) (fun (s : List UInt8) e1 H1 => e1.ds = [] ∧ e1 0 = .func (.yield l) #[] #[] ∧ e1 1 = .pointer (some ⟨b1, 0, none⟩) ∧ s.length < 4294967281 ∧ ∃ G, H1 = G.upd b1 ⟨true, 1, [.string (bs s)]⟩ ∧ J s G) (fun s => s.length) ?_ s _ _ ?_)
  · rintro s e1 H1 ⟨d0, d1, d2, hs, G, rfl, hJ⟩ ih
    by_cases hn : s = []
    · subst hn
      simp -dsimp -failIfUnchanged (maxSteps := 2000000) (disch := omega) only [VA, if_true_, if_false_, reduceIte, Nat.reduceEqDiff, Nat.reduceAdd, Nat.reduceMul, Nat.reduceSub, Int.reduceToNat, Int.reduceAdd, Int.reduceNeg, Int.reduceSub, Int.reduceMul, Int.reduceBEq, Int.reduceBNe, Int.reduceLT, Int.reduceLE, Int.reduceEq, beq_self_eq_true, Int.reducePow, Nat.reducePow, Int.reduceDiv, Nat.reduceLeDiff, reduceCtorEq, Tryz.f169, Tryz.results169, bC040, d0, d1, d2]
      exact done G hJ
    · have hp := nxt_pos hn
      have hle := nxt_le (s := s)
      have hsz := bs_size s
      simp -dsimp -failIfUnchanged (maxSteps := 2000000) (disch := omega) only [VA, if_true_, if_false_, reduceIte, Nat.reduceEqDiff, Nat.reduceAdd, Nat.reduceMul, Nat.reduceSub, Int.reduceToNat, Int.reduceAdd, Int.reduceNeg, Int.reduceSub, Int.reduceMul, Int.reduceBEq, Int.reduceBNe, Int.reduceLT, Int.reduceLE, Int.reduceEq, beq_self_eq_true, Int.reducePow, Nat.reducePow, Int.reduceDiv, Nat.reduceLeDiff, reduceCtorEq, Tryz.f169, Tryz.results169, bC040, d0, d1, d2, hn, bne]
      refine next_W ?_
      simp -dsimp -failIfUnchanged (maxSteps := 2000000) (disch := omega) only [VA, if_true_, if_false_, reduceIte, Nat.reduceEqDiff, Nat.reduceAdd, Nat.reduceMul, Nat.reduceSub, Int.reduceToNat, Int.reduceAdd, Int.reduceNeg, Int.reduceSub, Int.reduceMul, Int.reduceBEq, Int.reduceBNe, Int.reduceLT, Int.reduceLE, Int.reduceEq, beq_self_eq_true, Int.reducePow, Nat.reducePow, Int.reduceDiv, Nat.reduceLeDiff, reduceCtorEq, Tryz.f169, Tryz.results169, bC040, d0, d1, d2]
      refine (round s G hJ hn).mono ?_
      rintro v H' (⟨rfl, G', rfl, hJ'⟩ | ⟨rfl, hK⟩)
      · simp -dsimp -failIfUnchanged (maxSteps := 2000000) (disch := omega) only [VA, if_true_, if_false_, reduceIte, Nat.reduceEqDiff, Nat.reduceAdd, Nat.reduceMul, Nat.reduceSub, Int.reduceToNat, Int.reduceAdd, Int.reduceNeg, Int.reduceSub, Int.reduceMul, Int.reduceBEq, Int.reduceBNe, Int.reduceLT, Int.reduceLE, Int.reduceEq, beq_self_eq_true, Int.reducePow, Nat.reducePow, Int.reduceDiv, Nat.reduceLeDiff, reduceCtorEq, Tryz.f169, Tryz.results169, bC040, d0, d1, d2]
        refine ih (s.drop (nxt s).2) _ _ ?_ (by rw [List.length_drop]; have := List.length_pos_iff.2 hn; omega)
        simp -dsimp -failIfUnchanged (maxSteps := 2000000) (disch := omega) only [VA, if_true_, if_false_, reduceIte, Nat.reduceEqDiff, Nat.reduceAdd, Nat.reduceMul, Nat.reduceSub, Int.reduceToNat, Int.reduceAdd, Int.reduceNeg, Int.reduceSub, Int.reduceMul, Int.reduceBEq, Int.reduceBNe, Int.reduceLT, Int.reduceLE, Int.reduceEq, beq_self_eq_true, Int.reducePow, Nat.reducePow, Int.reduceDiv, Nat.reduceLeDiff, reduceCtorEq, Tryz.f169, Tryz.results169, bC040, d0, d1, d2, Int.toNat_natCast, bs_extract]
        refine ⟨trivial, trivial, trivial, by rw [List.length_drop]; omega, G', ?_, hJ'⟩
        rw [List.take_of_length_le (Nat.le_refl _)]
      · simp -dsimp -failIfUnchanged (maxSteps := 2000000) (disch := omega) only [VA, if_true_, if_false_, reduceIte, Nat.reduceEqDiff, Nat.reduceAdd, Nat.reduceMul, Nat.reduceSub, Int.reduceToNat, Int.reduceAdd, Int.reduceNeg, Int.reduceSub, Int.reduceMul, Int.reduceBEq, Int.reduceBNe, Int.reduceLT, Int.reduceLE, Int.reduceEq, beq_self_eq_true, Int.reducePow, Nat.reducePow, Int.reduceDiv, Nat.reduceLeDiff, reduceCtorEq, Tryz.f169, Tryz.results169, bC040, d0, d1, d2]
        exact hK
  · simp -dsimp -failIfUnchanged (maxSteps := 2000000) (disch := omega) only [VA, if_true_, if_false_, reduceIte, Nat.reduceEqDiff, Nat.reduceAdd, Nat.reduceMul, Nat.reduceSub, Int.reduceToNat, Int.reduceAdd, Int.reduceNeg, Int.reduceSub, Int.reduceMul, Int.reduceBEq, Int.reduceBNe, Int.reduceLT, Int.reduceLE, Int.reduceEq, beq_self_eq_true, Int.reducePow, Nat.reducePow, Int.reduceDiv, Nat.reduceLeDiff, reduceCtorEq, Tryz.f169, Tryz.results169, bC040, trivial]
    exact ⟨trivial, trivial, trivial, hs, G, (by trivial), hJ⟩
theorem all_W {s : List UInt8} (h : ∀ b, H b = none → K (.func (.func 169) #[] #[.pointer (some ⟨b, 0, none⟩)]) (H.upd b ⟨true, 1, [.string (bs s)]⟩)) : InvW Tryz.prog 115 #[.string (bs s)] H K := by
  (refine invW_of_pw Tryz.func115 rfl rfl (by decide +kernel) (by simp [Tryz.f115]) ?_); simp -dsimp -failIfUnchanged (maxSteps := 2000000) (disch := omega) only [VA, if_true_, if_false_, reduceIte, Nat.reduceEqDiff, Nat.reduceAdd, Nat.reduceMul, Nat.reduceSub, Int.reduceToNat, Int.reduceAdd, Int.reduceNeg, Int.reduceSub, Int.reduceMul, Int.reduceBEq, Int.reduceBNe, Int.reduceLT, Int.reduceLE, Int.reduceEq, beq_self_eq_true, Int.reducePow, Nat.reducePow, Int.reduceDiv, Nat.reduceLeDiff, reduceCtorEq, Tryz.f115, Tryz.results115, bC041]
  intro n hn
  simp -dsimp -failIfUnchanged (maxSteps := 2000000) (disch := omega) only [VA, if_true_, if_false_, reduceIte, Nat.reduceEqDiff, Nat.reduceAdd, Nat.reduceMul, Nat.reduceSub, Int.reduceToNat, Int.reduceAdd, Int.reduceNeg, Int.reduceSub, Int.reduceMul, Int.reduceBEq, Int.reduceBNe, Int.reduceLT, Int.reduceLE, Int.reduceEq, beq_self_eq_true, Int.reducePow, Nat.reducePow, Int.reduceDiv, Nat.reduceLeDiff, reduceCtorEq, Tryz.f115, Tryz.results115, bC041]
  exact h n hn
theorem plain_W {s : List UInt8} (hs : s.length < 4294967281) (h : K (.bool (plain s)) H) : InvW Tryz.prog 67 #[.string (bs s)] H K := by
  refine InvW.weak ?_
  (refine invW_of_pw Tryz.func67 rfl rfl (by decide +kernel) (by simp [Tryz.f67]) ?_); simp -dsimp -failIfUnchanged (maxSteps := 2000000) (disch := omega) only [VA, if_true_, if_false_, reduceIte, Nat.reduceEqDiff, Nat.reduceAdd, Nat.reduceMul, Nat.reduceSub, Int.reduceToNat, Int.reduceAdd, Int.reduceNeg, Int.reduceSub, Int.reduceMul, Int.reduceBEq, Int.reduceBNe, Int.reduceLT, Int.reduceLE, Int.reduceEq, beq_self_eq_true, Int.reducePow, Nat.reducePow, Int.reduceDiv, Nat.reduceLeDiff, reduceCtorEq, Tryz.f67, Tryz.results67, bC042]
  intro n hn
  simp -dsimp -failIfUnchanged (maxSteps := 2000000) (disch := omega) only [VA, if_true_, if_false_, reduceIte, Nat.reduceEqDiff, Nat.reduceAdd, Nat.reduceMul, Nat.reduceSub, Int.reduceToNat, Int.reduceAdd, Int.reduceNeg, Int.reduceSub, Int.reduceMul, Int.reduceBEq, Int.reduceBNe, Int.reduceLT, Int.reduceLE, Int.reduceEq, beq_self_eq_true, Int.reducePow, Nat.reducePow, Int.reduceDiv, Nat.reduceLeDiff, reduceCtorEq, Tryz.f67, Tryz.results67, bC042]
  refine all_W fun b1 hb1 => ?_
  have hnb : b1 ≠ n := by rintro rfl; simp [Mem.upd] at hb1
  have hb2 : ∀ B, (H.upd n B) b1 = none := fun B => by simpa [Mem.upd, hnb] using hb1
  simp -dsimp -failIfUnchanged (maxSteps := 2000000) (disch := omega) only [VA, if_true_, if_false_, reduceIte, Nat.reduceEqDiff, Nat.reduceAdd, Nat.reduceMul, Nat.reduceSub, Int.reduceToNat, Int.reduceAdd, Int.reduceNeg, Int.reduceSub, Int.reduceMul, Int.reduceBEq, Int.reduceBNe, Int.reduceLT, Int.reduceLE, Int.reduceEq, beq_self_eq_true, Int.reducePow, Nat.reducePow, Int.reduceDiv, Nat.reduceLeDiff, reduceCtorEq, Tryz.f67, Tryz.results67, bC042]
  refine rangeFunc_W (gf := 169) (first := #[]) (cap := #[.pointer (some ⟨b1, 0, none⟩)]) (by rfl) (by simp -dsimp -failIfUnchanged (maxSteps := 2000000) (disch := omega) only [VA, if_true_, if_false_, reduceIte, Nat.reduceEqDiff, Nat.reduceAdd, Nat.reduceMul, Nat.reduceSub, Int.reduceToNat, Int.reduceAdd, Int.reduceNeg, Int.reduceSub, Int.reduceMul, Int.reduceBEq, Int.reduceBNe, Int.reduceLT, Int.reduceLE, Int.reduceEq, beq_self_eq_true, Int.reducePow, Nat.reducePow, Int.reduceDiv, Nat.reduceLeDiff, reduceCtorEq, Tryz.f67, Tryz.results67, bC042]) (by decide +kernel) fun D l fn tmps hD hl hoD hol hDl hrec => ?_
  simp -dsimp -failIfUnchanged (maxSteps := 2000000) (disch := omega) only [VA, if_true_, if_false_, reduceIte, Nat.reduceEqDiff, Nat.reduceAdd, Nat.reduceMul, Nat.reduceSub, Int.reduceToNat, Int.reduceAdd, Int.reduceNeg, Int.reduceSub, Int.reduceMul, Int.reduceBEq, Int.reduceBNe, Int.reduceLT, Int.reduceLE, Int.reduceEq, beq_self_eq_true, Int.reducePow, Nat.reducePow, Int.reduceDiv, Nat.reduceLeDiff, reduceCtorEq, Tryz.f67, Tryz.results67, bC042]
  refine all1_W (G := ((H.upd n ⟨true, 1, [.bool false]⟩).updO D (some (.deferred (some [])))).updO l (some (.loop (rec0 fn tmps _ _ _ D))))
    (J := fun s' G => plain s = plain s' ∧ s'.length ≤ s.length ∧ G = ((H.upd n ⟨true, 1, [.bool false]⟩).updO D (some (.deferred (some [])))).updO l (some (.loop (rec0 fn tmps _ _ _ D)))) hs ⟨rfl, Nat.le_refl _, rfl⟩ ?_ ?_
  · rintro s' G ⟨hp, hs', rfl⟩ hne
    refine yield_W (if_pos rfl) hrec rfl rfl (by decide) (by decide +kernel) (by decide +kernel) ?_
    have hrn := runes_cons hne
    cases a1 : decide ((nxt s').1 < 32) <;> cases a2 : ((nxt s').1 == 127)
    case false.false =>
      have hp' : plain s' = plain (s'.drop (nxt s').2) := by
        unfold plain; rw [hrn, List.all_cons]; simp [badC, a1, a2]
      simp -dsimp -failIfUnchanged (maxSteps := 2000000) (disch := omega) only [VA, if_true_, if_false_, reduceIte, Nat.reduceEqDiff, Nat.reduceAdd, Nat.reduceMul, Nat.reduceSub, Int.reduceToNat, Int.reduceAdd, Int.reduceNeg, Int.reduceSub, Int.reduceMul, Int.reduceBEq, Int.reduceBNe, Int.reduceLT, Int.reduceLE, Int.reduceEq, beq_self_eq_true, Int.reducePow, Nat.reducePow, Int.reduceDiv, Nat.reduceLeDiff, reduceCtorEq, Tryz.f67, Tryz.results67, bC042, setAll, a1, a2, roundQ]
      refine ⟨trivial, trivial, .inl ⟨trivial, _, ?_, hp.trans hp', by rw [List.length_drop]; omega, rfl⟩⟩
      exact updO_idem (if_pos rfl)
    all_goals
      have hp' : plain s = false := by rw [hp]; unfold plain; rw [hrn, List.all_cons]; simp [badC, a1, a2]
      simp -dsimp -failIfUnchanged (maxSteps := 2000000) (disch := omega) only [VA, if_true_, if_false_, reduceIte, Nat.reduceEqDiff, Nat.reduceAdd, Nat.reduceMul, Nat.reduceSub, Int.reduceToNat, Int.reduceAdd, Int.reduceNeg, Int.reduceSub, Int.reduceMul, Int.reduceBEq, Int.reduceBNe, Int.reduceLT, Int.reduceLE, Int.reduceEq, beq_self_eq_true, Int.reducePow, Nat.reducePow, Int.reduceDiv, Nat.reduceLeDiff, reduceCtorEq, Tryz.f67, Tryz.results67, bC042, setAll, a1, a2, roundQ]
      refine ⟨trivial, trivial, .inr ⟨trivial, _, rfl, (by intro h; cases h), .inr ⟨_, rfl, by decide, ?_⟩⟩⟩
      simp -dsimp -failIfUnchanged (maxSteps := 2000000) (disch := omega) only [VA, if_true_, if_false_, reduceIte, Nat.reduceEqDiff, Nat.reduceAdd, Nat.reduceMul, Nat.reduceSub, Int.reduceToNat, Int.reduceAdd, Int.reduceNeg, Int.reduceSub, Int.reduceMul, Int.reduceBEq, Int.reduceBNe, Int.reduceLT, Int.reduceLE, Int.reduceEq, beq_self_eq_true, Int.reducePow, Nat.reducePow, Int.reduceDiv, Nat.reduceLeDiff, reduceCtorEq, Tryz.f67, Tryz.results67, bC042]
      refine ⟨?_, H, Mem.le_updO (Mem.le_updO (Mem.le_upd' (Mem.le_updO (Mem.le_updO (Mem.le_upd hn _) hoD _) hol _) (hb2 _) _) hol _) hoD _, ?_⟩
      · rw [updO_o_ne hDl, upd_o, updO_o_ne hDl, updO_o_same]
      · rw [hp'] at h; exact h
  · rintro G ⟨hp, hs', rfl⟩
    refine ⟨_, if_pos rfl, (by intro h; cases h), .inl ⟨rfl, ?_⟩⟩
    simp -dsimp -failIfUnchanged (maxSteps := 2000000) (disch := omega) only [VA, if_true_, if_false_, reduceIte, Nat.reduceEqDiff, Nat.reduceAdd, Nat.reduceMul, Nat.reduceSub, Int.reduceToNat, Int.reduceAdd, Int.reduceNeg, Int.reduceSub, Int.reduceMul, Int.reduceBEq, Int.reduceBNe, Int.reduceLT, Int.reduceLE, Int.reduceEq, beq_self_eq_true, Int.reducePow, Nat.reducePow, Int.reduceDiv, Nat.reduceLeDiff, reduceCtorEq, Tryz.f67, Tryz.results67, bC042]
    refine ⟨?_, H, Mem.le_updO (Mem.le_updO (Mem.le_upd' (Mem.le_updO (Mem.le_updO (Mem.le_upd hn _) hoD _) hol _) (hb2 _) _) hol _) hoD _, ?_⟩
    · rw [updO_o_ne hDl, upd_o, updO_o_ne hDl, updO_o_same]
    · rw [show plain s = true from hp] at h; exact h
end Go.Proofs.YtgkolnknobgcmaaGreat
end
section
namespace Go.Proofs
open Go.Shelf
def Tryz.lays145_ren : Go.Shelf.Ren := ⟨fun | 145 => 183 | 220 => 202 | 219 => 214 | 217 => 230 | 225 => 231 | 224 => 232 | 267 => 233 | 266 => 247 | 314 => 248 | n => n, fun | 9 => 9 | 4 => 4 | 59 => 291 | 3 => 3 | 5 => 5 | 46 => 285 | 146 => 335 | 51 => 57 | n => n, fun | 1 => 0 | n => n⟩
theorem Tryz.lays145 : Go.Proofs.Lays.n145 Tryz.prog Tryz.lays145_ren := {
  mixed := by kernel_rfl
  f145 := Tryz.func183.trans (congrArg some (by kernel_rfl))
  f217 := Tryz.func230.trans (congrArg some (by kernel_rfl))
  f219 := Tryz.func214.trans (congrArg some (by kernel_rfl))
  f220 := Tryz.func202.trans (congrArg some (by kernel_rfl))
  f224 := Tryz.func232.trans (congrArg some (by kernel_rfl))
  f225 := Tryz.func231.trans (congrArg some (by kernel_rfl))
  f266 := Tryz.func247.trans (congrArg some (by kernel_rfl))
  f267 := Tryz.func233.trans (congrArg some (by kernel_rfl))
  f314 := Tryz.func248.trans (congrArg some (by kernel_rfl))
  t3 := Tryz.underlying3
  a3 := Tryz.isAgg3
  z3 := Tryz.sizeOf3
  v3 := Tryz.zeroValue3
  t4 := Tryz.underlying4
  a4 := Tryz.isAgg4
  z4 := Tryz.sizeOf4
  v4 := Tryz.zeroValue4
  t5 := Tryz.underlying5
  a5 := Tryz.isAgg5
  z5 := Tryz.sizeOf5
  v5 := Tryz.zeroValue5
  t9 := Tryz.underlying9
  a9 := Tryz.isAgg9
  z9 := Tryz.sizeOf9
  v9 := Tryz.zeroValue9
  t46 := Tryz.underlying285
  a46 := Tryz.isAgg285
  z46 := Tryz.sizeOf285
  v46 := Tryz.zeroValue285
  t51 := Tryz.underlying57
  a51 := Tryz.isAgg57
  z51 := Tryz.sizeOf57
  v51 := Tryz.zeroValue57
  t59 := Tryz.underlying291
  a59 := Tryz.isAgg291
  z59 := Tryz.sizeOf291
  v59 := Tryz.zeroValue291
  t146 := Tryz.underlying335
  a146 := Tryz.isAgg335
  z146 := Tryz.sizeOf335
  v146 := Tryz.zeroValue335
  g1 := by kernel_rfl }
def Tryz.lays144_ren : Go.Shelf.Ren := ⟨fun | 144 => 229 | 143 => 246 | 219 => 214 | 217 => 230 | 225 => 231 | 224 => 232 | 267 => 233 | 266 => 247 | 314 => 248 | n => n, fun | 9 => 9 | 4 => 4 | 3 => 3 | 5 => 5 | 46 => 285 | 146 => 335 | 51 => 57 | n => n, fun | 1 => 0 | n => n⟩
theorem Tryz.lays144 : Go.Proofs.Lays.n144 Tryz.prog Tryz.lays144_ren := {
  mixed := by kernel_rfl
  f143 := Tryz.func246.trans (congrArg some (by kernel_rfl))
  f144 := Tryz.func229.trans (congrArg some (by kernel_rfl))
  f217 := Tryz.func230.trans (congrArg some (by kernel_rfl))
  f219 := Tryz.func214.trans (congrArg some (by kernel_rfl))
  f224 := Tryz.func232.trans (congrArg some (by kernel_rfl))
  f225 := Tryz.func231.trans (congrArg some (by kernel_rfl))
  f266 := Tryz.func247.trans (congrArg some (by kernel_rfl))
  f267 := Tryz.func233.trans (congrArg some (by kernel_rfl))
  f314 := Tryz.func248.trans (congrArg some (by kernel_rfl))
  t3 := Tryz.underlying3
  a3 := Tryz.isAgg3
  z3 := Tryz.sizeOf3
  v3 := Tryz.zeroValue3
  t4 := Tryz.underlying4
  a4 := Tryz.isAgg4
  z4 := Tryz.sizeOf4
  v4 := Tryz.zeroValue4
  t5 := Tryz.underlying5
  a5 := Tryz.isAgg5
  z5 := Tryz.sizeOf5
  v5 := Tryz.zeroValue5
  t9 := Tryz.underlying9
  a9 := Tryz.isAgg9
  z9 := Tryz.sizeOf9
  v9 := Tryz.zeroValue9
  t46 := Tryz.underlying285
  a46 := Tryz.isAgg285
  z46 := Tryz.sizeOf285
  v46 := Tryz.zeroValue285
  t51 := Tryz.underlying57
  a51 := Tryz.isAgg57
  z51 := Tryz.sizeOf57
  v51 := Tryz.zeroValue57
  t146 := Tryz.underlying335
  a146 := Tryz.isAgg335
  z146 := Tryz.sizeOf335
  v146 := Tryz.zeroValue335
  g1 := by kernel_rfl }
def Tryz.lays153_ren : Go.Shelf.Ren := ⟨fun | 153 => 245 | 152 => 251 | 226 => 252 | 227 => 253 | 228 => 254 | 137 => 255 | 119 => 256 | 224 => 232 | 225 => 231 | 217 => 230 | 266 => 247 | n => n, fun | 9 => 9 | 3 => 3 | 4 => 4 | 5 => 5 | 21 => 21 | 117 => 340 | 116 => 339 | 0 => 0 | 46 => 285 | 124 => 343 | n => n, fun | n => n⟩
theorem Tryz.lays153 : Go.Proofs.Lays.n153 Tryz.prog Tryz.lays153_ren := {
  mixed := by kernel_rfl
  f119 := Tryz.func256.trans (congrArg some (by kernel_rfl))
  f137 := Tryz.func255.trans (congrArg some (by kernel_rfl))
  f152 := Tryz.func251.trans (congrArg some (by kernel_rfl))
  f153 := Tryz.func245.trans (congrArg some (by kernel_rfl))
  f217 := Tryz.func230.trans (congrArg some (by kernel_rfl))
  f224 := Tryz.func232.trans (congrArg some (by kernel_rfl))
  f225 := Tryz.func231.trans (congrArg some (by kernel_rfl))
  f226 := Tryz.func252.trans (congrArg some (by kernel_rfl))
  f227 := Tryz.func253.trans (congrArg some (by kernel_rfl))
  f228 := Tryz.func254.trans (congrArg some (by kernel_rfl))
  f266 := Tryz.func247.trans (congrArg some (by kernel_rfl))
  t0 := Tryz.underlying0
  a0 := Tryz.isAgg0
  z0 := Tryz.sizeOf0
  v0 := Tryz.zeroValue0
  t3 := Tryz.underlying3
  a3 := Tryz.isAgg3
  z3 := Tryz.sizeOf3
  v3 := Tryz.zeroValue3
  t4 := Tryz.underlying4
  a4 := Tryz.isAgg4
  z4 := Tryz.sizeOf4
  v4 := Tryz.zeroValue4
  t5 := Tryz.underlying5
  a5 := Tryz.isAgg5
  z5 := Tryz.sizeOf5
  v5 := Tryz.zeroValue5
  t9 := Tryz.underlying9
  a9 := Tryz.isAgg9
  z9 := Tryz.sizeOf9
  v9 := Tryz.zeroValue9
  t21 := Tryz.underlying21
  a21 := Tryz.isAgg21
  z21 := Tryz.sizeOf21
  v21 := Tryz.zeroValue21
  t46 := Tryz.underlying285
  a46 := Tryz.isAgg285
  z46 := Tryz.sizeOf285
  v46 := Tryz.zeroValue285
  t116 := Tryz.underlying339
  a116 := Tryz.isAgg339
  z116 := Tryz.sizeOf339
  t117 := Tryz.underlying340
  a117 := Tryz.isAgg340
  z117 := Tryz.sizeOf340
  v117 := Tryz.zeroValue340
  t124 := Tryz.underlying343
  a124 := Tryz.isAgg343
  z124 := Tryz.sizeOf343
  v124 := Tryz.zeroValue343 }
def Tryz.lays152_ren : Go.Shelf.Ren := ⟨fun | 152 => 251 | 137 => 255 | 119 => 256 | 224 => 232 | 225 => 231 | 217 => 230 | 266 => 247 | n => n, fun | 9 => 9 | 21 => 21 | 3 => 3 | 4 => 4 | 5 => 5 | 0 => 0 | 46 => 285 | n => n, fun | n => n⟩
theorem Tryz.lays152 : Go.Proofs.Lays.n152 Tryz.prog Tryz.lays152_ren := {
  mixed := by kernel_rfl
  f119 := Tryz.func256.trans (congrArg some (by kernel_rfl))
  f137 := Tryz.func255.trans (congrArg some (by kernel_rfl))
  f152 := Tryz.func251.trans (congrArg some (by kernel_rfl))
  f217 := Tryz.func230.trans (congrArg some (by kernel_rfl))
  f224 := Tryz.func232.trans (congrArg some (by kernel_rfl))
  f225 := Tryz.func231.trans (congrArg some (by kernel_rfl))
  f266 := Tryz.func247.trans (congrArg some (by kernel_rfl))
  t0 := Tryz.underlying0
  a0 := Tryz.isAgg0
  z0 := Tryz.sizeOf0
  v0 := Tryz.zeroValue0
  t3 := Tryz.underlying3
  a3 := Tryz.isAgg3
  z3 := Tryz.sizeOf3
  v3 := Tryz.zeroValue3
  t4 := Tryz.underlying4
  a4 := Tryz.isAgg4
  z4 := Tryz.sizeOf4
  v4 := Tryz.zeroValue4
  t5 := Tryz.underlying5
  a5 := Tryz.isAgg5
  z5 := Tryz.sizeOf5
  v5 := Tryz.zeroValue5
  t9 := Tryz.underlying9
  a9 := Tryz.isAgg9
  z9 := Tryz.sizeOf9
  v9 := Tryz.zeroValue9
  t21 := Tryz.underlying21
  a21 := Tryz.isAgg21
  z21 := Tryz.sizeOf21
  v21 := Tryz.zeroValue21
  t46 := Tryz.underlying285
  a46 := Tryz.isAgg285
  z46 := Tryz.sizeOf285
  v46 := Tryz.zeroValue285 }
def Tryz.lays137_ren : Go.Shelf.Ren := ⟨fun | 137 => 255 | 217 => 230 | 266 => 247 | n => n, fun | 9 => 9 | 5 => 5 | 3 => 3 | n => n, fun | n => n⟩
theorem Tryz.lays137 : Go.Proofs.Lays.n137 Tryz.prog Tryz.lays137_ren := {
  mixed := by kernel_rfl
  f137 := Tryz.func255.trans (congrArg some (by kernel_rfl))
  f217 := Tryz.func230.trans (congrArg some (by kernel_rfl))
  f266 := Tryz.func247.trans (congrArg some (by kernel_rfl))
  t3 := Tryz.underlying3
  a3 := Tryz.isAgg3
  z3 := Tryz.sizeOf3
  v3 := Tryz.zeroValue3
  t5 := Tryz.underlying5
  a5 := Tryz.isAgg5
  z5 := Tryz.sizeOf5
  v5 := Tryz.zeroValue5
  t9 := Tryz.underlying9
  a9 := Tryz.isAgg9
  z9 := Tryz.sizeOf9
  v9 := Tryz.zeroValue9 }
def Tryz.lays119_ren : Go.Shelf.Ren := ⟨fun | 119 => 256 | n => n, fun | 21 => 21 | 4 => 4 | n => n, fun | n => n⟩
theorem Tryz.lays119 : Go.Proofs.Lays.n119 Tryz.prog Tryz.lays119_ren := {
  mixed := by kernel_rfl
  f119 := Tryz.func256.trans (congrArg some (by kernel_rfl))
  t4 := Tryz.underlying4
  a4 := Tryz.isAgg4
  z4 := Tryz.sizeOf4
  v4 := Tryz.zeroValue4
  t21 := Tryz.underlying21
  a21 := Tryz.isAgg21
  z21 := Tryz.sizeOf21
  v21 := Tryz.zeroValue21 }
end Go.Proofs
end
section
namespace Go.Proofs.YtgkolnknobgcmaaGreat
open Go Go.Proofs.YtgkolnknobgcmaaGreatV Go.Shelf
set_option maxRecDepth 20000
set_option linter.unusedSimpArgs false
set_option linter.unusedVariables false
set_option maxHeartbeats 4000000
variable {H : Mem} {K : Value → Mem → Prop}

/-- The package's variable bytealg.MaxLen is there. -/
def Base (H : Mem) : Prop := ∃ B m, H 0 = some B ∧ B.cs[0]? = some (.int .i64 m)
theorem Base.le {H H' : Mem} (h : Base H) (hl : H.le H') : Base H' := by
  obtain ⟨B, m, h1, h2⟩ := h
  obtain ⟨B', h3, h4, _, _⟩ := hl.1 _ _ h1
  refine ⟨B', m, h3, ?_⟩
  obtain ⟨t, ht⟩ := h4
  rw [← ht, List.getElem?_append_left (by have := (List.getElem?_eq_some_iff.1 h2).1; exact this)]; exact h2

theorem cut_W {s sep : List UInt8} (hB : Base H) (hs : s.length < 4294967281) (h : K (.tuple #[.string (bs (Lib.cut s sep).1), .string (bs (Lib.cut s sep).2.1), .bool (Lib.cut s sep).2.2]) H) :
    InvW Tryz.prog 183 #[.string (bs s), .string (bs sep)] H K := by
  refine invW_of_calls (by decide +kernel) fun w hw => ?_
  obtain ⟨B, m, h1, h2⟩ := hB
  have := Any.strings_Cut Tryz.lays145 (bs s) (bs sep) m w (by rw [bs_size]; exact hs) (hw.cell h1 h2)
  refine Calls.mono this ?_
  rintro x w' ⟨rfl, n, rfl⟩
  refine ⟨_, H, rfl, hw.drewN' n, ?_⟩
  simp only [bs_data]; exact h
theorem contains_W {s sub : List UInt8} (hB : Base H) (hs : s.length < 4294967281) (h : K (.bool (Lib.contains s sub)) H) :
    InvW Tryz.prog 229 #[.string (bs s), .string (bs sub)] H K := by
  refine invW_of_calls (by decide +kernel) fun w hw => ?_
  obtain ⟨B, m, h1, h2⟩ := hB
  have := Any.strings_Contains Tryz.lays144 (bs s) (bs sub) m w (by rw [bs_size]; exact hs) (hw.cell h1 h2)
  refine Calls.mono this ?_
  rintro x w' ⟨rfl, rfl⟩
  refine ⟨_, H, rfl, hw, ?_⟩
  simp only [bs_data]; exact h
theorem indexByte_W {s : List UInt8} {c : Int} (h : K (.int .i64 (Lib.indexByte s c.toNat.toUInt8)) H) : InvW Tryz.prog 255 #[.string (bs s), .int .u8 c] H K := by
  refine invW_of_calls (by decide +kernel) fun w hw => ?_
  refine Calls.mono (Any.strings_IndexByte Tryz.lays137 (bs s) c w) ?_
  rintro x w' ⟨rfl, rfl⟩
  refine ⟨_, H, rfl, hw, ?_⟩
  simp only [bs_data]; exact h
theorem validRune_W {r : Int} (h : K (.bool (Lib.validRune r)) H) : InvW Tryz.prog 256 #[.int .i32 r] H K := by
  refine invW_of_calls (by decide +kernel) fun w hw => ?_
  refine Calls.mono (Any.utf8_ValidRune Tryz.lays119 r w) ?_
  rintro x w' ⟨rfl, rfl⟩
  exact ⟨_, H, rfl, hw, h⟩
theorem indexRune_low {s : List UInt8} {r : Int} (h0 : 0 ≤ r) (h1 : r < 128) (h : K (.int .i64 (Lib.indexByte s r.toNat.toUInt8)) H) : InvW Tryz.prog 251 #[.string (bs s), .int .i32 r] H K := by
  refine invW_of_calls (by decide +kernel) fun w hw => ?_
  refine Calls.mono (Any.strings_IndexRune_ascii Tryz.lays152 (bs s) r w h0 h1) ?_
  rintro x w' ⟨rfl, rfl⟩
  refine ⟨_, H, rfl, hw, ?_⟩
  simp only [bs_data]; exact h
theorem Tryz.set153 : (Tryz.prog.info? (Tryz.lays153_ren.t 116)).map (fun i => (i.zero, i.size)) = some (some (.agg (Array.replicate 256 (.bool false))), 256) := by kernel_rfl
theorem indexAny_long {s chars : List UInt8} (h2 : 2 ≤ chars.length) (h8 : 8 < s.length) (hs : s.length < 4294967281) (hcs : chars.length < 4294967281) (hc : ∀ (j : Nat) b, chars[j]? = some b → b.toNat < 128)
    (h : K (.int .i64 (Lib.indexAny s chars)) H) : InvW Tryz.prog 245 #[.string (bs s), .string (bs chars)] H K := by
  refine invW_of_calls (by decide +kernel) fun w hw => ?_
  refine Calls.mono (Any.strings_IndexAny_long Tryz.lays153 (zero_of_info Tryz.set153).1 (zero_of_info Tryz.set153).2 (bs s) (bs chars) w (by rw [bs_size]; exact h2) (by rw [bs_size]; exact h8) (by rw [bs_size]; exact hs) (by rw [bs_size]; exact hcs) (by simpa only [bs_data] using hc)) ?_
  rintro x w' ⟨rfl, rfl⟩
  refine ⟨_, H, rfl, ?_, by simp only [bs_data]; exact h⟩
  have f1 := hw.alloc (Lib.setCells (bs chars).data.toList) (Tryz.lays153_ren.t 116)
  have f2 := (f1.mono (Mem.le_upd hw.fresh _)).alloc (Lib.setCells (bs chars).data.toList) (Tryz.lays153_ren.t 116)
  exact f2.mono (Mem.le_upd ((f1.mono (Mem.le_upd hw.fresh _)).fresh) _)
end Go.Proofs.YtgkolnknobgcmaaGreat
end
section
namespace Go.Proofs.YtgkolnknobgcmaaGreat
open Go Go.Proofs.YtgkolnknobgcmaaGreatV Go.Shelf
set_option maxRecDepth 20000
set_option linter.unusedSimpArgs false
set_option linter.unusedVariables false
set_option maxHeartbeats 4000000
theorem bC060 : type_of% @Tryz.underlying3 ∧ type_of% @ty3 ∧ type_of% @zero3 ∧ type_of% @Tryz.underlying5 ∧ type_of% @ty5 ∧ type_of% @zero5 ∧ type_of% @Tryz.underlying9 ∧ type_of% @ty9 ∧ type_of% @zero9 ∧ type_of% @Tryz.underlying21 ∧ type_of% @ty21 ∧ type_of% @zero21 ∧ type_of% @Tryz.ntmps251 := ⟨@Tryz.underlying3, @ty3, @zero3, @Tryz.underlying5, @ty5, @zero5, @Tryz.underlying9, @ty9, @zero9, @Tryz.underlying21, @ty21, @zero21, @Tryz.ntmps251⟩
variable {H : Mem} {K : Value → Mem → Prop}

theorem conv_rune {P : Program} {T1 T2 : TypeId} {k : IntKind} {n : Int} (hs : (P.underlying T1).isSome = true) (hd : P.underlying T2 = some .string) (h : K (.string (Utf8.encode n)) H) : ValW P (convert T1 T2 (.int k n)) H K :=
  fun w hw => ⟨_, w, H, run_convert_int_string w T1 T2 k n hs hd, hw, h⟩
theorem enc_far {r : Int} (h0 : 128 ≤ r) (hv : Lib.validRune r = true) : ∃ t, Utf8.encode r = bs t ∧ ((∃ x y, t = [x, y]) ∨ (∃ x y z, t = [x, y, z]) ∨ ∃ x y z u, t = [x, y, z, u]) ∧ ∀ x, t.getLast? = some x → 128 ≤ x.toNat := by
  have hv' : Utf8.valid r = true := by
    have := of_decide_eq_true hv
    unfold Utf8.valid
    rcases this with h | h
    · rw [decide_eq_true h.1, decide_eq_true h.2]; rfl
    · rw [decide_eq_true (show (0xE000 : Int) ≤ r from by omega), decide_eq_true h.2, Bool.and_true, Bool.or_true]
  obtain ⟨h1, h2, h3⟩ := encode_facts r hv' h0
  have h4 := h3 (by omega)
  refine ⟨(Utf8.encode r).data.toList, (bs_of _).symm, ?_, ?_⟩
  · have hl : (Utf8.encode r).data.toList.length = (Utf8.encode r).size := Array.length_toList
    rcases ht : (Utf8.encode r).data.toList with _ | ⟨a, _ | ⟨b, _ | ⟨c, _ | ⟨d, _ | ⟨e, l⟩⟩⟩⟩⟩ <;> rw [ht] at hl <;> simp at hl
    · omega
    · omega
    · exact .inl ⟨a, b, rfl⟩
    · exact .inr (.inl ⟨a, b, c, rfl⟩)
    · exact .inr (.inr ⟨a, b, c, d, rfl⟩)
    · omega
  · intro x hx
    have hsz : (Utf8.encode r).data.size = (Utf8.encode r).size := rfl
    rw [List.getLast?_eq_getElem?, Array.length_toList, Array.getElem?_toList, hsz] at hx
    have hb : (Utf8.encode r).size - 1 < (Utf8.encode r).size := by omega
    have : (Utf8.encode r).data[(Utf8.encode r).size - 1]? = some ((Utf8.encode r)[(Utf8.encode r).size - 1]'hb) := Array.getElem?_eq_getElem hb
    rw [this] at hx
    cases hx; exact h4

theorem noByte : ∀ {l : List UInt8} {y : UInt8}, l.all (fun b => decide (b.toNat < 128)) = true → 128 ≤ y.toNat → Lib.indexByte l (y.toNat : Int).toNat.toUInt8 = -1
  | [], _, _, _ => rfl
  | b :: l, y, h, hy => by
    simp only [List.all_cons, Bool.and_eq_true, decide_eq_true_eq] at h
    have hb : (b == (y.toNat : Int).toNat.toUInt8) = false := by
      rw [beq_eq_false_iff_ne]
      rintro rfl
      have : ((y.toNat : Int).toNat.toUInt8).toNat = y.toNat := by simp
      omega
    have ih := noByte h.2 hy
    simp only [Lib.indexByte, hb, ih]; rfl

theorem indexRune_far {r : Int} (h0 : 128 ≤ r) (h1 : r ≤ 2147483647) (h : K (.int .i64 (-1)) H) : InvW Tryz.prog 251 #[.string (bs [32, 64, 47]), .int .i32 r] H K := by
  have a1 : decide (0 ≤ r) = true := decide_eq_true (by omega)
  have a2 : decide (r < 128) = false := decide_eq_false (by omega)
  refine InvW.weak ?_
  cases a3 : (r == 65533)
  · (refine invW_of_pw Tryz.func251 rfl rfl (by decide +kernel) (by simp [Tryz.f251]) ?_); simp -dsimp -failIfUnchanged (maxSteps := 2000000) (disch := omega) only [VA, if_true_, if_false_, reduceIte, Nat.reduceEqDiff, Nat.reduceAdd, Nat.reduceMul, Nat.reduceSub, Int.reduceToNat, Int.reduceAdd, Int.reduceNeg, Int.reduceSub, Int.reduceMul, Int.reduceBEq, Int.reduceBNe, Int.reduceLT, Int.reduceLE, Int.reduceEq, beq_self_eq_true, Int.reducePow, Nat.reducePow, Int.reduceDiv, Nat.reduceLeDiff, reduceCtorEq, Tryz.f251, Tryz.results251, bC060, a1, a2, a3]
    refine validRune_W ?_
    cases a4 : Lib.validRune r
    · simp -dsimp -failIfUnchanged (maxSteps := 2000000) (disch := omega) only [VA, if_true_, if_false_, reduceIte, Nat.reduceEqDiff, Nat.reduceAdd, Nat.reduceMul, Nat.reduceSub, Int.reduceToNat, Int.reduceAdd, Int.reduceNeg, Int.reduceSub, Int.reduceMul, Int.reduceBEq, Int.reduceBNe, Int.reduceLT, Int.reduceLE, Int.reduceEq, beq_self_eq_true, Int.reducePow, Nat.reducePow, Int.reduceDiv, Nat.reduceLeDiff, reduceCtorEq, Tryz.f251, Tryz.results251, bC060, a1, a2, a3]
      exact ⟨H, Mem.le_refl H, h⟩
    · simp -dsimp -failIfUnchanged (maxSteps := 2000000) (disch := omega) only [VA, if_true_, if_false_, reduceIte, Nat.reduceEqDiff, Nat.reduceAdd, Nat.reduceMul, Nat.reduceSub, Int.reduceToNat, Int.reduceAdd, Int.reduceNeg, Int.reduceSub, Int.reduceMul, Int.reduceBEq, Int.reduceBNe, Int.reduceLT, Int.reduceLE, Int.reduceEq, beq_self_eq_true, Int.reducePow, Nat.reducePow, Int.reduceDiv, Nat.reduceLeDiff, reduceCtorEq, Tryz.f251, Tryz.results251, bC060, a1, a2, a3]
      refine scope_W ?_ ?_
      · decide +kernel
      simp -dsimp -failIfUnchanged (maxSteps := 2000000) (disch := omega) only [VA, if_true_, if_false_, reduceIte, Nat.reduceEqDiff, Nat.reduceAdd, Nat.reduceMul, Nat.reduceSub, Int.reduceToNat, Int.reduceAdd, Int.reduceNeg, Int.reduceSub, Int.reduceMul, Int.reduceBEq, Int.reduceBNe, Int.reduceLT, Int.reduceLE, Int.reduceEq, beq_self_eq_true, Int.reducePow, Nat.reducePow, Int.reduceDiv, Nat.reduceLeDiff, reduceCtorEq, Tryz.f251, Tryz.results251, bC060, a1, a2, a3, noG]
      show ValW Tryz.prog (convert 21 9 (.int .i32 r)) H _
      refine conv_rune rfl Tryz.underlying9 ?_
      obtain ⟨t, ht, hl, hx⟩ := enc_far h0 a4
      rw [ht]
      rcases hl with ⟨x, y, rfl⟩ | ⟨x, y, z, rfl⟩ | ⟨x, y, z, u, rfl⟩
      · have hy : 128 ≤ UInt8.toNat y := hx y rfl
        have z1 : (bs [32, 64, 47]).size = 3 := rfl
        have z2 : (bs [x,y]).size = 2 := rfl
        have b1 : (((UInt8.toNat 64 : Nat) : Int) != ((UInt8.toNat y : Nat) : Int)) = true := by rw [bne_iff_ne, show UInt8.toNat 64 = 64 from rfl]; omega
        simp -dsimp -failIfUnchanged (maxSteps := 2000000) (disch := omega) only [VA, if_true_, if_false_, reduceIte, Nat.reduceEqDiff, Nat.reduceAdd, Nat.reduceMul, Nat.reduceSub, Int.reduceToNat, Int.reduceAdd, Int.reduceNeg, Int.reduceSub, Int.reduceMul, Int.reduceBEq, Int.reduceBNe, Int.reduceLT, Int.reduceLE, Int.reduceEq, beq_self_eq_true, Int.reducePow, Nat.reducePow, Int.reduceDiv, Nat.reduceLeDiff, reduceCtorEq, Tryz.f251, Tryz.results251, bC060, a1, a2, a3, noG]
        refine loop_enter (loop_round ?_ ?_)
        · decide +kernel
        simp -dsimp -failIfUnchanged (maxSteps := 2000000) (disch := omega) only [VA, if_true_, if_false_, reduceIte, Nat.reduceEqDiff, Nat.reduceAdd, Nat.reduceMul, Nat.reduceSub, Int.reduceToNat, Int.reduceAdd, Int.reduceNeg, Int.reduceSub, Int.reduceMul, Int.reduceBEq, Int.reduceBNe, Int.reduceLT, Int.reduceLE, Int.reduceEq, beq_self_eq_true, Int.reducePow, Nat.reducePow, Int.reduceDiv, Nat.reduceLeDiff, reduceCtorEq, Tryz.f251, Tryz.results251, bC060, a1, a2, a3, noG]
        refine scope_W ?_ ?_
        · decide +kernel
        simp -dsimp -failIfUnchanged (maxSteps := 2000000) (disch := omega) only [VA, if_true_, if_false_, reduceIte, Nat.reduceEqDiff, Nat.reduceAdd, Nat.reduceMul, Nat.reduceSub, Int.reduceToNat, Int.reduceAdd, Int.reduceNeg, Int.reduceSub, Int.reduceMul, Int.reduceBEq, Int.reduceBNe, Int.reduceLT, Int.reduceLE, Int.reduceEq, beq_self_eq_true, Int.reducePow, Nat.reducePow, Int.reduceDiv, Nat.reduceLeDiff, reduceCtorEq, Tryz.f251, Tryz.results251, bC060, a1, a2, a3, noG]
        refine draw_quiet ?_ ?_ ?_ ?_
        · decide +kernel
        · decide +kernel
        · decide +kernel
        simp -dsimp -failIfUnchanged (maxSteps := 2000000) (disch := omega) only [VA, if_true_, if_false_, reduceIte, Nat.reduceEqDiff, Nat.reduceAdd, Nat.reduceMul, Nat.reduceSub, Int.reduceToNat, Int.reduceAdd, Int.reduceNeg, Int.reduceSub, Int.reduceMul, Int.reduceBEq, Int.reduceBNe, Int.reduceLT, Int.reduceLE, Int.reduceEq, beq_self_eq_true, Int.reducePow, Nat.reducePow, Int.reduceDiv, Nat.reduceLeDiff, reduceCtorEq, Tryz.f251, Tryz.results251, bC060, a1, a2, a3, noG, pwQ, pwQ.qOpW, qV, byteAt_bs, b1]
        refine draw_quiet ?_ ?_ ?_ ?_
        · decide +kernel
        · decide +kernel
        · decide +kernel
        simp -dsimp -failIfUnchanged (maxSteps := 2000000) (disch := omega) only [VA, if_true_, if_false_, reduceIte, Nat.reduceEqDiff, Nat.reduceAdd, Nat.reduceMul, Nat.reduceSub, Int.reduceToNat, Int.reduceAdd, Int.reduceNeg, Int.reduceSub, Int.reduceMul, Int.reduceBEq, Int.reduceBNe, Int.reduceLT, Int.reduceLE, Int.reduceEq, beq_self_eq_true, Int.reducePow, Nat.reducePow, Int.reduceDiv, Nat.reduceLeDiff, reduceCtorEq, Tryz.f251, Tryz.results251, bC060, a1, a2, a3, noG, pwQ, pwQ.qOpW, qV, byteAt_bs, b1]
        refine ⟨by decide +kernel, .int .i64 (-1), ?_, ?_⟩
        · rw [show (bs [32, 64, 47]).extract 2 3 = bs [47] from (bs_extract _ _ _).trans rfl]
          exact indexByte_W ⟨by rw [noByte (l := [47]) (by decide) hy], rfl⟩
        · simp -dsimp -failIfUnchanged (maxSteps := 2000000) (disch := omega) only [VA, if_true_, if_false_, reduceIte, Nat.reduceEqDiff, Nat.reduceAdd, Nat.reduceMul, Nat.reduceSub, Int.reduceToNat, Int.reduceAdd, Int.reduceNeg, Int.reduceSub, Int.reduceMul, Int.reduceBEq, Int.reduceBNe, Int.reduceLT, Int.reduceLE, Int.reduceEq, beq_self_eq_true, Int.reducePow, Nat.reducePow, Int.reduceDiv, Nat.reduceLeDiff, reduceCtorEq, Tryz.f251, Tryz.results251, bC060, a1, a2, a3, noG]
          exact ⟨H, Mem.le_refl H, h⟩
      · have hy : 128 ≤ UInt8.toNat z := hx z rfl
        have z1 : (bs [32, 64, 47]).size = 3 := rfl
        have z2 : (bs [x,y,z]).size = 3 := rfl
        have b1 : (((UInt8.toNat 47 : Nat) : Int) != ((UInt8.toNat z : Nat) : Int)) = true := by rw [bne_iff_ne, show UInt8.toNat 47 = 47 from rfl]; omega
        simp -dsimp -failIfUnchanged (maxSteps := 2000000) (disch := omega) only [VA, if_true_, if_false_, reduceIte, Nat.reduceEqDiff, Nat.reduceAdd, Nat.reduceMul, Nat.reduceSub, Int.reduceToNat, Int.reduceAdd, Int.reduceNeg, Int.reduceSub, Int.reduceMul, Int.reduceBEq, Int.reduceBNe, Int.reduceLT, Int.reduceLE, Int.reduceEq, beq_self_eq_true, Int.reducePow, Nat.reducePow, Int.reduceDiv, Nat.reduceLeDiff, reduceCtorEq, Tryz.f251, Tryz.results251, bC060, a1, a2, a3, noG]
        refine loop_enter (loop_round ?_ ?_)
        · decide +kernel
        simp -dsimp -failIfUnchanged (maxSteps := 2000000) (disch := omega) only [VA, if_true_, if_false_, reduceIte, Nat.reduceEqDiff, Nat.reduceAdd, Nat.reduceMul, Nat.reduceSub, Int.reduceToNat, Int.reduceAdd, Int.reduceNeg, Int.reduceSub, Int.reduceMul, Int.reduceBEq, Int.reduceBNe, Int.reduceLT, Int.reduceLE, Int.reduceEq, beq_self_eq_true, Int.reducePow, Nat.reducePow, Int.reduceDiv, Nat.reduceLeDiff, reduceCtorEq, Tryz.f251, Tryz.results251, bC060, a1, a2, a3, noG]
        refine scope_W ?_ ?_
        · decide +kernel
        simp -dsimp -failIfUnchanged (maxSteps := 2000000) (disch := omega) only [VA, if_true_, if_false_, reduceIte, Nat.reduceEqDiff, Nat.reduceAdd, Nat.reduceMul, Nat.reduceSub, Int.reduceToNat, Int.reduceAdd, Int.reduceNeg, Int.reduceSub, Int.reduceMul, Int.reduceBEq, Int.reduceBNe, Int.reduceLT, Int.reduceLE, Int.reduceEq, beq_self_eq_true, Int.reducePow, Nat.reducePow, Int.reduceDiv, Nat.reduceLeDiff, reduceCtorEq, Tryz.f251, Tryz.results251, bC060, a1, a2, a3, noG]
        refine draw_quiet ?_ ?_ ?_ ?_
        · decide +kernel
        · decide +kernel
        · decide +kernel
        simp -dsimp -failIfUnchanged (maxSteps := 2000000) (disch := omega) only [VA, if_true_, if_false_, reduceIte, Nat.reduceEqDiff, Nat.reduceAdd, Nat.reduceMul, Nat.reduceSub, Int.reduceToNat, Int.reduceAdd, Int.reduceNeg, Int.reduceSub, Int.reduceMul, Int.reduceBEq, Int.reduceBNe, Int.reduceLT, Int.reduceLE, Int.reduceEq, beq_self_eq_true, Int.reducePow, Nat.reducePow, Int.reduceDiv, Nat.reduceLeDiff, reduceCtorEq, Tryz.f251, Tryz.results251, bC060, a1, a2, a3, noG, pwQ, pwQ.qOpW, qV, byteAt_bs, b1]
        refine draw_quiet ?_ ?_ ?_ ?_
        · decide +kernel
        · decide +kernel
        · decide +kernel
        simp -dsimp -failIfUnchanged (maxSteps := 2000000) (disch := omega) only [VA, if_true_, if_false_, reduceIte, Nat.reduceEqDiff, Nat.reduceAdd, Nat.reduceMul, Nat.reduceSub, Int.reduceToNat, Int.reduceAdd, Int.reduceNeg, Int.reduceSub, Int.reduceMul, Int.reduceBEq, Int.reduceBNe, Int.reduceLT, Int.reduceLE, Int.reduceEq, beq_self_eq_true, Int.reducePow, Nat.reducePow, Int.reduceDiv, Nat.reduceLeDiff, reduceCtorEq, Tryz.f251, Tryz.results251, bC060, a1, a2, a3, noG, pwQ, pwQ.qOpW, qV, byteAt_bs, b1]
        refine ⟨by decide +kernel, .int .i64 (-1), ?_, ?_⟩
        · rw [show (bs [32, 64, 47]).extract 3 3 = bs [] from (bs_extract _ _ _).trans rfl]
          exact indexByte_W ⟨by rw [noByte (l := []) (by decide) hy], rfl⟩
        · simp -dsimp -failIfUnchanged (maxSteps := 2000000) (disch := omega) only [VA, if_true_, if_false_, reduceIte, Nat.reduceEqDiff, Nat.reduceAdd, Nat.reduceMul, Nat.reduceSub, Int.reduceToNat, Int.reduceAdd, Int.reduceNeg, Int.reduceSub, Int.reduceMul, Int.reduceBEq, Int.reduceBNe, Int.reduceLT, Int.reduceLE, Int.reduceEq, beq_self_eq_true, Int.reducePow, Nat.reducePow, Int.reduceDiv, Nat.reduceLeDiff, reduceCtorEq, Tryz.f251, Tryz.results251, bC060, a1, a2, a3, noG]
          exact ⟨H, Mem.le_refl H, h⟩
      · simp -dsimp -failIfUnchanged (maxSteps := 2000000) (disch := omega) only [VA, if_true_, if_false_, reduceIte, Nat.reduceEqDiff, Nat.reduceAdd, Nat.reduceMul, Nat.reduceSub, Int.reduceToNat, Int.reduceAdd, Int.reduceNeg, Int.reduceSub, Int.reduceMul, Int.reduceBEq, Int.reduceBNe, Int.reduceLT, Int.reduceLE, Int.reduceEq, beq_self_eq_true, Int.reducePow, Nat.reducePow, Int.reduceDiv, Nat.reduceLeDiff, reduceCtorEq, Tryz.f251, Tryz.results251, bC060, a1, a2, a3, noG]
        refine loop_enter (loop_round ?_ ?_)
        · decide +kernel
        simp -dsimp -failIfUnchanged (maxSteps := 2000000) (disch := omega) only [VA, if_true_, if_false_, reduceIte, Nat.reduceEqDiff, Nat.reduceAdd, Nat.reduceMul, Nat.reduceSub, Int.reduceToNat, Int.reduceAdd, Int.reduceNeg, Int.reduceSub, Int.reduceMul, Int.reduceBEq, Int.reduceBNe, Int.reduceLT, Int.reduceLE, Int.reduceEq, beq_self_eq_true, Int.reducePow, Nat.reducePow, Int.reduceDiv, Nat.reduceLeDiff, reduceCtorEq, Tryz.f251, Tryz.results251, bC060, a1, a2, a3, noG]
        exact ⟨H, Mem.le_refl H, h⟩
  · (refine invW_of_pw Tryz.func251 rfl rfl (by decide +kernel) (by simp [Tryz.f251]) ?_); simp -dsimp -failIfUnchanged (maxSteps := 2000000) (disch := omega) only [VA, if_true_, if_false_, reduceIte, Nat.reduceEqDiff, Nat.reduceAdd, Nat.reduceMul, Nat.reduceSub, Int.reduceToNat, Int.reduceAdd, Int.reduceNeg, Int.reduceSub, Int.reduceMul, Int.reduceBEq, Int.reduceBNe, Int.reduceLT, Int.reduceLE, Int.reduceEq, beq_self_eq_true, Int.reducePow, Nat.reducePow, Int.reduceDiv, Nat.reduceLeDiff, reduceCtorEq, Tryz.f251, Tryz.results251, bC060, a1, a2, a3]
    refine semW_range (s := bs [32, 64, 47]) (by simp -dsimp -failIfUnchanged (maxSteps := 2000000) (disch := omega) only [VA, if_true_, if_false_, reduceIte, Nat.reduceEqDiff, Nat.reduceAdd, Nat.reduceMul, Nat.reduceSub, Int.reduceToNat, Int.reduceAdd, Int.reduceNeg, Int.reduceSub, Int.reduceMul, Int.reduceBEq, Int.reduceBNe, Int.reduceLT, Int.reduceLE, Int.reduceEq, beq_self_eq_true, Int.reducePow, Nat.reducePow, Int.reduceDiv, Nat.reduceLeDiff, reduceCtorEq, Tryz.f251, Tryz.results251, bC060]) Tryz.underlying9 fun l hl hol => ?_
    simp -dsimp -failIfUnchanged (maxSteps := 2000000) (disch := omega) only [VA, if_true_, if_false_, reduceIte, Nat.reduceEqDiff, Nat.reduceAdd, Nat.reduceMul, Nat.reduceSub, Int.reduceToNat, Int.reduceAdd, Int.reduceNeg, Int.reduceSub, Int.reduceMul, Int.reduceBEq, Int.reduceBNe, Int.reduceLT, Int.reduceLE, Int.reduceEq, beq_self_eq_true, Int.reducePow, Nat.reducePow, Int.reduceDiv, Nat.reduceLeDiff, reduceCtorEq, Tryz.f251, Tryz.results251, bC060]
    refine loop_enter ?_
    refine loop_round ?_ ?_
    · decide +kernel
    simp -dsimp -failIfUnchanged (maxSteps := 2000000) (disch := omega) only [VA, if_true_, if_false_, reduceIte, Nat.reduceEqDiff, Nat.reduceAdd, Nat.reduceMul, Nat.reduceSub, Int.reduceToNat, Int.reduceAdd, Int.reduceNeg, Int.reduceSub, Int.reduceMul, Int.reduceBEq, Int.reduceBNe, Int.reduceLT, Int.reduceLE, Int.reduceEq, beq_self_eq_true, Int.reducePow, Nat.reducePow, Int.reduceDiv, Nat.reduceLeDiff, reduceCtorEq, Tryz.f251, Tryz.results251, bC060, a1, a2, a3]
    refine semW_next (l := l) (s := bs [32, 64, 47]) (pos := 0) (by simp -dsimp -failIfUnchanged (maxSteps := 2000000) (disch := omega) only [VA, if_true_, if_false_, reduceIte, Nat.reduceEqDiff, Nat.reduceAdd, Nat.reduceMul, Nat.reduceSub, Int.reduceToNat, Int.reduceAdd, Int.reduceNeg, Int.reduceSub, Int.reduceMul, Int.reduceBEq, Int.reduceBNe, Int.reduceLT, Int.reduceLE, Int.reduceEq, beq_self_eq_true, Int.reducePow, Nat.reducePow, Int.reduceDiv, Nat.reduceLeDiff, reduceCtorEq, Tryz.f251, Tryz.results251, bC060]) updO_o_same (by decide) ?_
    rw [show Utf8.decode (bs [32, 64, 47]) 0 = (32, 1) from by decide]
    simp -dsimp -failIfUnchanged (maxSteps := 2000000) (disch := omega) only [VA, if_true_, if_false_, reduceIte, Nat.reduceEqDiff, Nat.reduceAdd, Nat.reduceMul, Nat.reduceSub, Int.reduceToNat, Int.reduceAdd, Int.reduceNeg, Int.reduceSub, Int.reduceMul, Int.reduceBEq, Int.reduceBNe, Int.reduceLT, Int.reduceLE, Int.reduceEq, beq_self_eq_true, Int.reducePow, Nat.reducePow, Int.reduceDiv, Nat.reduceLeDiff, reduceCtorEq, Tryz.f251, Tryz.results251, bC060, a1, a2, a3]
    refine loop_round ?_ ?_
    · decide +kernel
    simp -dsimp -failIfUnchanged (maxSteps := 2000000) (disch := omega) only [VA, if_true_, if_false_, reduceIte, Nat.reduceEqDiff, Nat.reduceAdd, Nat.reduceMul, Nat.reduceSub, Int.reduceToNat, Int.reduceAdd, Int.reduceNeg, Int.reduceSub, Int.reduceMul, Int.reduceBEq, Int.reduceBNe, Int.reduceLT, Int.reduceLE, Int.reduceEq, beq_self_eq_true, Int.reducePow, Nat.reducePow, Int.reduceDiv, Nat.reduceLeDiff, reduceCtorEq, Tryz.f251, Tryz.results251, bC060, a1, a2, a3]
    refine semW_next (l := l) (s := bs [32, 64, 47]) (pos := 1) (by simp -dsimp -failIfUnchanged (maxSteps := 2000000) (disch := omega) only [VA, if_true_, if_false_, reduceIte, Nat.reduceEqDiff, Nat.reduceAdd, Nat.reduceMul, Nat.reduceSub, Int.reduceToNat, Int.reduceAdd, Int.reduceNeg, Int.reduceSub, Int.reduceMul, Int.reduceBEq, Int.reduceBNe, Int.reduceLT, Int.reduceLE, Int.reduceEq, beq_self_eq_true, Int.reducePow, Nat.reducePow, Int.reduceDiv, Nat.reduceLeDiff, reduceCtorEq, Tryz.f251, Tryz.results251, bC060]) updO_o_same (by decide) ?_
    rw [show Utf8.decode (bs [32, 64, 47]) 1 = (64, 1) from by decide]
    simp -dsimp -failIfUnchanged (maxSteps := 2000000) (disch := omega) only [VA, if_true_, if_false_, reduceIte, Nat.reduceEqDiff, Nat.reduceAdd, Nat.reduceMul, Nat.reduceSub, Int.reduceToNat, Int.reduceAdd, Int.reduceNeg, Int.reduceSub, Int.reduceMul, Int.reduceBEq, Int.reduceBNe, Int.reduceLT, Int.reduceLE, Int.reduceEq, beq_self_eq_true, Int.reducePow, Nat.reducePow, Int.reduceDiv, Nat.reduceLeDiff, reduceCtorEq, Tryz.f251, Tryz.results251, bC060, a1, a2, a3]
    refine loop_round ?_ ?_
    · decide +kernel
    simp -dsimp -failIfUnchanged (maxSteps := 2000000) (disch := omega) only [VA, if_true_, if_false_, reduceIte, Nat.reduceEqDiff, Nat.reduceAdd, Nat.reduceMul, Nat.reduceSub, Int.reduceToNat, Int.reduceAdd, Int.reduceNeg, Int.reduceSub, Int.reduceMul, Int.reduceBEq, Int.reduceBNe, Int.reduceLT, Int.reduceLE, Int.reduceEq, beq_self_eq_true, Int.reducePow, Nat.reducePow, Int.reduceDiv, Nat.reduceLeDiff, reduceCtorEq, Tryz.f251, Tryz.results251, bC060, a1, a2, a3]
    refine semW_next (l := l) (s := bs [32, 64, 47]) (pos := 2) (by simp -dsimp -failIfUnchanged (maxSteps := 2000000) (disch := omega) only [VA, if_true_, if_false_, reduceIte, Nat.reduceEqDiff, Nat.reduceAdd, Nat.reduceMul, Nat.reduceSub, Int.reduceToNat, Int.reduceAdd, Int.reduceNeg, Int.reduceSub, Int.reduceMul, Int.reduceBEq, Int.reduceBNe, Int.reduceLT, Int.reduceLE, Int.reduceEq, beq_self_eq_true, Int.reducePow, Nat.reducePow, Int.reduceDiv, Nat.reduceLeDiff, reduceCtorEq, Tryz.f251, Tryz.results251, bC060]) updO_o_same (by decide) ?_
    rw [show Utf8.decode (bs [32, 64, 47]) 2 = (47, 1) from by decide]
    simp -dsimp -failIfUnchanged (maxSteps := 2000000) (disch := omega) only [VA, if_true_, if_false_, reduceIte, Nat.reduceEqDiff, Nat.reduceAdd, Nat.reduceMul, Nat.reduceSub, Int.reduceToNat, Int.reduceAdd, Int.reduceNeg, Int.reduceSub, Int.reduceMul, Int.reduceBEq, Int.reduceBNe, Int.reduceLT, Int.reduceLE, Int.reduceEq, beq_self_eq_true, Int.reducePow, Nat.reducePow, Int.reduceDiv, Nat.reduceLeDiff, reduceCtorEq, Tryz.f251, Tryz.results251, bC060, a1, a2, a3]
    refine loop_round ?_ ?_
    · decide +kernel
    simp -dsimp -failIfUnchanged (maxSteps := 2000000) (disch := omega) only [VA, if_true_, if_false_, reduceIte, Nat.reduceEqDiff, Nat.reduceAdd, Nat.reduceMul, Nat.reduceSub, Int.reduceToNat, Int.reduceAdd, Int.reduceNeg, Int.reduceSub, Int.reduceMul, Int.reduceBEq, Int.reduceBNe, Int.reduceLT, Int.reduceLE, Int.reduceEq, beq_self_eq_true, Int.reducePow, Nat.reducePow, Int.reduceDiv, Nat.reduceLeDiff, reduceCtorEq, Tryz.f251, Tryz.results251, bC060, a1, a2, a3]
    refine semW_next_end (l := l) (s := bs [32, 64, 47]) (pos := 3) (by simp -dsimp -failIfUnchanged (maxSteps := 2000000) (disch := omega) only [VA, if_true_, if_false_, reduceIte, Nat.reduceEqDiff, Nat.reduceAdd, Nat.reduceMul, Nat.reduceSub, Int.reduceToNat, Int.reduceAdd, Int.reduceNeg, Int.reduceSub, Int.reduceMul, Int.reduceBEq, Int.reduceBNe, Int.reduceLT, Int.reduceLE, Int.reduceEq, beq_self_eq_true, Int.reducePow, Nat.reducePow, Int.reduceDiv, Nat.reduceLeDiff, reduceCtorEq, Tryz.f251, Tryz.results251, bC060]) updO_o_same (by decide) ?_
    simp -dsimp -failIfUnchanged (maxSteps := 2000000) (disch := omega) only [VA, if_true_, if_false_, reduceIte, Nat.reduceEqDiff, Nat.reduceAdd, Nat.reduceMul, Nat.reduceSub, Int.reduceToNat, Int.reduceAdd, Int.reduceNeg, Int.reduceSub, Int.reduceMul, Int.reduceBEq, Int.reduceBNe, Int.reduceLT, Int.reduceLE, Int.reduceEq, beq_self_eq_true, Int.reducePow, Nat.reducePow, Int.reduceDiv, Nat.reduceLeDiff, reduceCtorEq, Tryz.f251, Tryz.results251, bC060, a1, a2, a3]
    exact ⟨H, Mem.le_updO (Mem.le_refl H) hol _, h⟩
end Go.Proofs.YtgkolnknobgcmaaGreat
end
section
namespace Go.Proofs.YtgkolnknobgcmaaGreat
open Go Go.Proofs.YtgkolnknobgcmaaGreatV Go.Shelf
set_option maxRecDepth 20000
set_option linter.unusedSimpArgs false
set_option linter.unusedVariables false
set_option maxHeartbeats 4000000
theorem bC070 : type_of% @Tryz.underlying3 ∧ type_of% @ty3 ∧ type_of% @zero3 ∧ type_of% @Tryz.ntmps252 := ⟨@Tryz.underlying3, @ty3, @zero3, @Tryz.ntmps252⟩
theorem bC071 : type_of% @Tryz.underlying3 ∧ type_of% @ty3 ∧ type_of% @zero3 ∧ type_of% @Tryz.underlying5 ∧ type_of% @ty5 ∧ type_of% @zero5 ∧ type_of% @Tryz.underlying9 ∧ type_of% @ty9 ∧ type_of% @zero9 ∧ type_of% @Tryz.underlying21 ∧ type_of% @ty21 ∧ type_of% @zero21 ∧ type_of% @Tryz.underlying339 ∧ type_of% @elt339 ∧ type_of% @flds339 ∧ type_of% @ty339 ∧ type_of% @zero339 ∧ type_of% @Tryz.ntmps245 := ⟨@Tryz.underlying3, @ty3, @zero3, @Tryz.underlying5, @ty5, @zero5, @Tryz.underlying9, @ty9, @zero9, @Tryz.underlying21, @ty21, @zero21, @Tryz.underlying339, @elt339, @flds339, @ty339, @zero339, @Tryz.ntmps245⟩
variable {H : Mem} {K : Value → Mem → Prop}

def setB (b : UInt8) : Bool := [32, 64, 47].contains b
theorem get_bs (s : List UInt8) (i : Nat) (h : i < s.length) : (bs s).get! i = s[i] := by
  have h' : i < (bs s).size := by rw [bs_size]; exact h
  have : (bs s).get! i = (bs s)[i]'h' := by
    simp [ByteArray.get!, getElem!_pos, h']; rfl
  rw [this]; rfl
theorem decode_more (s : List UInt8) (i : Nat) (h : i < s.length) (hb : 128 ≤ s[i].toNat) :
    i + (Utf8.decode (bs s) i).2 ≤ s.length ∧ ∀ k, 0 < k → k < (Utf8.decode (bs s) i).2 → ∀ hk : i + k < s.length, 128 ≤ (s[i + k]).toNat := by
  have key : ∀ k, (decide (i + k < (bs s).size) && ((bs s).get! (i + k)).toNat / 64 == 2) = true → i + k < s.length ∧ ∀ hk : i + k < s.length, 128 ≤ (s[i + k]).toNat := by
    intro k hk
    simp only [Bool.and_eq_true, decide_eq_true_eq, bs_size, beq_iff_eq] at hk
    refine ⟨hk.1, fun h' => ?_⟩
    have := hk.2; rw [get_bs s _ hk.1] at this; omega
  have h0 : ((bs s).get! (i + 0)).toNat = s[i].toNat := by rw [get_bs s _ (by omega)]; rfl
  unfold Utf8.decode
  simp only [h0]
  have hn : ¬ s[i].toNat < 128 := by omega
  rw [if_neg hn]
  have k1 := key 1; have k2 := key 2; have k3 := key 3
  generalize (decide (i + 1 < (bs s).size) && ((bs s).get! (i + 1)).toNat / 64 == 2) = c1 at k1 ⊢
  generalize (decide (i + 2 < (bs s).size) && ((bs s).get! (i + 2)).toNat / 64 == 2) = c2 at k2 ⊢
  generalize (decide (i + 3 < (bs s).size) && ((bs s).get! (i + 3)).toNat / 64 == 2) = c3 at k3 ⊢
  have one : ∀ c : Nat, i + (c, 1).2 ≤ s.length ∧ ∀ k, 0 < k → k < (c, 1).2 → ∀ hk : i + k < s.length, 128 ≤ (s[i + k]).toNat := fun c => ⟨by show i + 1 ≤ _; omega, fun k h1 h2 => by have : k < 1 := h2; omega⟩
  split
  · rename_i hc
    simp only [Bool.and_eq_true] at hc
    split
    · obtain ⟨l1, g1⟩ := k1 hc.2
      refine ⟨by show i + 2 ≤ _; omega, fun k h1 h2 hk => ?_⟩
      have : k < 2 := h2
      obtain rfl : k = 1 := by omega
      exact g1 hk
    · exact one _
  · split
    · rename_i hc
      simp only [Bool.and_eq_true] at hc
      split
      · obtain ⟨l1, g1⟩ := k1 hc.1.2
        obtain ⟨l2, g2⟩ := k2 hc.2
        refine ⟨by show i + 3 ≤ _; omega, fun k h1 h2 hk => ?_⟩
        have : k < 3 := h2
        rcases (by omega : k = 1 ∨ k = 2) with rfl | rfl
        · exact g1 hk
        · exact g2 hk
      · exact one _
    · split
      · rename_i hc
        simp only [Bool.and_eq_true] at hc
        split
        · obtain ⟨l1, g1⟩ := k1 hc.1.1.2
          obtain ⟨l2, g2⟩ := k2 hc.1.2
          obtain ⟨l3, g3⟩ := k3 hc.2
          refine ⟨by show i + 4 ≤ _; omega, fun k h1 h2 hk => ?_⟩
          have : k < 4 := h2
          rcases (by omega : k = 1 ∨ k = 2 ∨ k = 3) with rfl | rfl | rfl
          · exact g1 hk
          · exact g2 hk
          · exact g3 hk
        · exact one _
      · exact one _

theorem indexAny_iff (chars : List UInt8) : ∀ l : List UInt8, 0 ≤ Lib.indexAny l chars ↔ l.any (fun b => chars.contains b) = true
  | [] => by simp [Lib.indexAny]
  | b :: l => by
    have ih := indexAny_iff chars l
    have hg := Lib.indexAny_ge chars l
    rw [List.any_cons, Bool.or_eq_true, ← ih]
    rw [show Lib.indexAny (b :: l) chars = if chars.contains b then 0 else if Lib.indexAny l chars == -1 then -1 else Lib.indexAny l chars + 1 from rfl]
    split
    · rename_i h; exact ⟨fun _ => .inl h, fun _ => Int.le_refl _⟩
    · rename_i h
      split
      · rename_i h'; have := eq_of_beq h'; exact ⟨fun h0 => by omega, fun h0 => h0.elim (fun x => absurd x h) fun x => by omega⟩
      · rename_i h'
        have : Lib.indexAny l chars ≠ -1 := fun e => h' (by rw [e]; rfl)
        exact ⟨fun _ => .inr (by omega), fun _ => by omega⟩
theorem indexAny_any (chars : List UInt8) (l : List UInt8) : decide (0 ≤ Lib.indexAny l chars) = l.any (fun b => chars.contains b) := by
  rw [Bool.eq_iff_iff, decide_eq_true_eq]; exact indexAny_iff chars l

theorem useSet_W {n : Int} (h : K (.bool (decide (8 < n))) H) : InvW Tryz.prog 252 #[.int .i64 n] H K := by
  (refine invW_of_pw Tryz.func252 rfl rfl (by decide +kernel) (by simp [Tryz.f252]) ?_); simp -dsimp -failIfUnchanged (maxSteps := 2000000) (disch := omega) only [VA, if_true_, if_false_, reduceIte, Nat.reduceEqDiff, Nat.reduceAdd, Nat.reduceMul, Nat.reduceSub, Int.reduceToNat, Int.reduceAdd, Int.reduceNeg, Int.reduceSub, Int.reduceMul, Int.reduceBEq, Int.reduceBNe, Int.reduceLT, Int.reduceLE, Int.reduceEq, beq_self_eq_true, Int.reducePow, Nat.reducePow, Int.reduceDiv, Nat.reduceLeDiff, reduceCtorEq, Tryz.f252, Tryz.results252, bC070]
  exact h
theorem indexByte_set (b : UInt8) : decide (0 ≤ Lib.indexByte [32, 64, 47] b) = setB b := by
  have : ∀ n : Fin 256, decide (0 ≤ Lib.indexByte [32, 64, 47] (UInt8.ofNat n.val)) = setB (UInt8.ofNat n.val) := by decide +kernel
  have h := this ⟨b.toNat, b.toNat_lt⟩
  simpa using h
theorem set_far {b : UInt8} (h : 128 ≤ b.toNat) : setB b = false := by
  have : ∀ n : Fin 256, 128 ≤ n.val → setB (UInt8.ofNat n.val) = false := by decide +kernel
  have := this ⟨b.toNat, b.toNat_lt⟩ h
  simpa using this
theorem indexAny_W {s : List UInt8} (hs : s.length < 4294967281) (h : ∀ v : Int, decide (0 ≤ v) = s.any setB → K (.int .i64 v) H) : InvW Tryz.prog 245 #[.string (bs s), .string (bs [32, 64, 47])] H K := by
  by_cases h8 : 8 < s.length
  · exact indexAny_long (by decide) h8 hs (by decide) (by intro j b hb; match j, hb with | 0, hb => cases hb; decide | 1, hb => cases hb; decide | 2, hb => cases hb; decide | j + 3, hb => simp at hb) (h _ (indexAny_any _ s))
  · refine InvW.weak ?_
    have z1 : (bs [32, 64, 47]).size = 3 := rfl
    have c1 : decide ((8 : Int) < s.length) = false := decide_eq_false (by omega)
    (refine invW_of_pw Tryz.func245 rfl rfl (by decide +kernel) (by simp [Tryz.f245]) ?_); simp -dsimp -failIfUnchanged (maxSteps := 2000000) (disch := omega) only [VA, if_true_, if_false_, reduceIte, Nat.reduceEqDiff, Nat.reduceAdd, Nat.reduceMul, Nat.reduceSub, Int.reduceToNat, Int.reduceAdd, Int.reduceNeg, Int.reduceSub, Int.reduceMul, Int.reduceBEq, Int.reduceBNe, Int.reduceLT, Int.reduceLE, Int.reduceEq, beq_self_eq_true, Int.reducePow, Nat.reducePow, Int.reduceDiv, Nat.reduceLeDiff, reduceCtorEq, Tryz.f245, Tryz.results245, bC071, bne]
    refine useSet_W ?_
    simp -dsimp -failIfUnchanged (maxSteps := 2000000) (disch := omega) only [VA, if_true_, if_false_, reduceIte, Nat.reduceEqDiff, Nat.reduceAdd, Nat.reduceMul, Nat.reduceSub, Int.reduceToNat, Int.reduceAdd, Int.reduceNeg, Int.reduceSub, Int.reduceMul, Int.reduceBEq, Int.reduceBNe, Int.reduceLT, Int.reduceLE, Int.reduceEq, beq_self_eq_true, Int.reducePow, Nat.reducePow, Int.reduceDiv, Nat.reduceLeDiff, reduceCtorEq, Tryz.f245, Tryz.results245, bC071, c1]
    refine semW_range (s := bs s) (by simp -dsimp -failIfUnchanged (maxSteps := 2000000) (disch := omega) only [VA, if_true_, if_false_, reduceIte, Nat.reduceEqDiff, Nat.reduceAdd, Nat.reduceMul, Nat.reduceSub, Int.reduceToNat, Int.reduceAdd, Int.reduceNeg, Int.reduceSub, Int.reduceMul, Int.reduceBEq, Int.reduceBNe, Int.reduceLT, Int.reduceLE, Int.reduceEq, beq_self_eq_true, Int.reducePow, Nat.reducePow, Int.reduceDiv, Nat.reduceLeDiff, reduceCtorEq, Tryz.f245, Tryz.results245, bC071]) Tryz.underlying9 fun l hl hol => ?_
    simp -dsimp -failIfUnchanged (maxSteps := 2000000) (disch := omega) only [VA, if_true_, if_false_, reduceIte, Nat.reduceEqDiff, Nat.reduceAdd, Nat.reduceMul, Nat.reduceSub, Int.reduceToNat, Int.reduceAdd, Int.reduceNeg, Int.reduceSub, Int.reduceMul, Int.reduceBEq, Int.reduceBNe, Int.reduceLT, Int.reduceLE, Int.reduceEq, beq_self_eq_true, Int.reducePow, Nat.reducePow, Int.reduceDiv, Nat.reduceLeDiff, reduceCtorEq, Tryz.f245, Tryz.results245, bC071, c1]
    refine loop_enter (loop_ind ?_ (fun (i : Nat) e1 H1 => e1.ds = [] ∧ e1 0 = .string (bs s) ∧ e1 1 = .string (bs [32, 64, 47]) ∧ e1 45 = .pointer (some ⟨l, 0, none⟩) ∧ i ≤ s.length ∧ (s.take i).any setB = false ∧ H1 = H.updO l (some (.stringIter (bs s) i))) (fun i => s.length - i) ?_ 0 _ _ ?_)
    · decide +kernel
    · rintro i e1 H1 ⟨d0, d1, d2, d3, hi, ha, rfl⟩ ih
      by_cases hlt : i < s.length
      · obtain ⟨b, hb⟩ : ∃ b, s[i]'hlt = b := ⟨_, rfl⟩
        have hsz : i < (bs s).size := by rw [bs_size]; exact hlt
        simp -dsimp -failIfUnchanged (maxSteps := 2000000) (disch := omega) only [VA, if_true_, if_false_, reduceIte, Nat.reduceEqDiff, Nat.reduceAdd, Nat.reduceMul, Nat.reduceSub, Int.reduceToNat, Int.reduceAdd, Int.reduceNeg, Int.reduceSub, Int.reduceMul, Int.reduceBEq, Int.reduceBNe, Int.reduceLT, Int.reduceLE, Int.reduceEq, beq_self_eq_true, Int.reducePow, Nat.reducePow, Int.reduceDiv, Nat.reduceLeDiff, reduceCtorEq, Tryz.f245, Tryz.results245, bC071, d0, d1, d2, d3]
        refine semW_next (l := l) (s := bs s) (pos := i) (by simp -dsimp -failIfUnchanged (maxSteps := 2000000) (disch := omega) only [VA, if_true_, if_false_, reduceIte, Nat.reduceEqDiff, Nat.reduceAdd, Nat.reduceMul, Nat.reduceSub, Int.reduceToNat, Int.reduceAdd, Int.reduceNeg, Int.reduceSub, Int.reduceMul, Int.reduceBEq, Int.reduceBNe, Int.reduceLT, Int.reduceLE, Int.reduceEq, beq_self_eq_true, Int.reducePow, Nat.reducePow, Int.reduceDiv, Nat.reduceLeDiff, reduceCtorEq, Tryz.f245, Tryz.results245, bC071, d3]) updO_o_same hsz ?_
        simp -dsimp -failIfUnchanged (maxSteps := 2000000) (disch := omega) only [VA, if_true_, if_false_, reduceIte, Nat.reduceEqDiff, Nat.reduceAdd, Nat.reduceMul, Nat.reduceSub, Int.reduceToNat, Int.reduceAdd, Int.reduceNeg, Int.reduceSub, Int.reduceMul, Int.reduceBEq, Int.reduceBNe, Int.reduceLT, Int.reduceLE, Int.reduceEq, beq_self_eq_true, Int.reducePow, Nat.reducePow, Int.reduceDiv, Nat.reduceLeDiff, reduceCtorEq, Tryz.f245, Tryz.results245, bC071, d0, d1, d2, d3]
        have hi32 : (i : Int) + 1 ≤ 9223372036854775807 := by omega
        rcases Nat.lt_or_ge b.toNat 128 with hb1 | hb1
        · have hdec : Utf8.decode (bs s) i = (b.toNat, 1) := by
            have := decode_ascii (bs s) i hsz (by show (s[i]'hlt).toNat < 128; rw [hb]; exact hb1)
            rw [this]; show ((s[i]'hlt).toNat, 1) = _; rw [hb]
          rw [hdec]
          refine indexRune_low (by omega) (by omega) ?_
          rw [show ((b.toNat : Nat) : Int).toNat.toUInt8 = b from by simp]
          have hset := indexByte_set b
          cases hsb : setB b
          · rw [hsb] at hset
            simp -dsimp -failIfUnchanged (maxSteps := 2000000) (disch := omega) only [VA, if_true_, if_false_, reduceIte, Nat.reduceEqDiff, Nat.reduceAdd, Nat.reduceMul, Nat.reduceSub, Int.reduceToNat, Int.reduceAdd, Int.reduceNeg, Int.reduceSub, Int.reduceMul, Int.reduceBEq, Int.reduceBNe, Int.reduceLT, Int.reduceLE, Int.reduceEq, beq_self_eq_true, Int.reducePow, Nat.reducePow, Int.reduceDiv, Nat.reduceLeDiff, reduceCtorEq, Tryz.f245, Tryz.results245, bC071, d0, d1, d2, d3, hset]
            refine ih (i + 1) _ _ ?_ (by omega)
            simp -dsimp -failIfUnchanged (maxSteps := 2000000) (disch := omega) only [VA, if_true_, if_false_, reduceIte, Nat.reduceEqDiff, Nat.reduceAdd, Nat.reduceMul, Nat.reduceSub, Int.reduceToNat, Int.reduceAdd, Int.reduceNeg, Int.reduceSub, Int.reduceMul, Int.reduceBEq, Int.reduceBNe, Int.reduceLT, Int.reduceLE, Int.reduceEq, beq_self_eq_true, Int.reducePow, Nat.reducePow, Int.reduceDiv, Nat.reduceLeDiff, reduceCtorEq, Tryz.f245, Tryz.results245, bC071, d0, d1, d2, d3]
            refine ⟨trivial, trivial, trivial, trivial, by omega, ?_, trivial⟩
            rw [List.take_add_one, List.getElem?_eq_getElem hlt, hb, List.any_append, ha]; simp [hsb]
          · rw [hsb] at hset
            simp -dsimp -failIfUnchanged (maxSteps := 2000000) (disch := omega) only [VA, if_true_, if_false_, reduceIte, Nat.reduceEqDiff, Nat.reduceAdd, Nat.reduceMul, Nat.reduceSub, Int.reduceToNat, Int.reduceAdd, Int.reduceNeg, Int.reduceSub, Int.reduceMul, Int.reduceBEq, Int.reduceBNe, Int.reduceLT, Int.reduceLE, Int.reduceEq, beq_self_eq_true, Int.reducePow, Nat.reducePow, Int.reduceDiv, Nat.reduceLeDiff, reduceCtorEq, Tryz.f245, Tryz.results245, bC071, d0, d1, d2, d3, hset]
            refine ⟨H, Mem.le_updO (Mem.le_refl H) hol _, h _ ?_⟩
            have : s.any setB = true := List.any_eq_true.2 ⟨b, hb ▸ List.getElem_mem hlt, hsb⟩
            rw [this]; exact decide_eq_true (by omega)
        · have hdh := decode_high (bs s) i hsz (by show 128 ≤ (s[i]'hlt).toNat; rw [hb]; exact hb1)
          have hdl := decode_le (bs s) i
          have hdm := decode_more s i hlt (by rw [hb]; exact hb1)
          generalize Utf8.decode (bs s) i = cw at hdh hdl hdm
          obtain ⟨c, w⟩ := cw
          simp only at hdh hdl hdm
          refine indexRune_far (by omega) (by omega) ?_
          simp -dsimp -failIfUnchanged (maxSteps := 2000000) (disch := omega) only [VA, if_true_, if_false_, reduceIte, Nat.reduceEqDiff, Nat.reduceAdd, Nat.reduceMul, Nat.reduceSub, Int.reduceToNat, Int.reduceAdd, Int.reduceNeg, Int.reduceSub, Int.reduceMul, Int.reduceBEq, Int.reduceBNe, Int.reduceLT, Int.reduceLE, Int.reduceEq, beq_self_eq_true, Int.reducePow, Nat.reducePow, Int.reduceDiv, Nat.reduceLeDiff, reduceCtorEq, Tryz.f245, Tryz.results245, bC071, d0, d1, d2, d3]
          refine ih (i + w) _ _ ?_ (by omega)
          simp -dsimp -failIfUnchanged (maxSteps := 2000000) (disch := omega) only [VA, if_true_, if_false_, reduceIte, Nat.reduceEqDiff, Nat.reduceAdd, Nat.reduceMul, Nat.reduceSub, Int.reduceToNat, Int.reduceAdd, Int.reduceNeg, Int.reduceSub, Int.reduceMul, Int.reduceBEq, Int.reduceBNe, Int.reduceLT, Int.reduceLE, Int.reduceEq, beq_self_eq_true, Int.reducePow, Nat.reducePow, Int.reduceDiv, Nat.reduceLeDiff, reduceCtorEq, Tryz.f245, Tryz.results245, bC071, d0, d1, d2, d3]
          refine ⟨trivial, trivial, trivial, trivial, by omega, ?_, trivial⟩
          rw [List.any_eq_false]
          intro x hx
          obtain ⟨j, hj, rfl⟩ := List.mem_iff_getElem.1 hx
          rw [List.getElem_take]
          have hjl : j < i + w ∧ j < s.length := by rw [List.length_take] at hj; omega
          rcases Nat.lt_or_ge j i with hj1 | hj1
          · have := List.any_eq_false.1 ha ((s.take i)[j]'(by rw [List.length_take]; omega)) (List.getElem_mem _)
            rwa [List.getElem_take] at this
          · rcases Nat.eq_or_lt_of_le hj1 with rfl | hj2
            · rw [hb, set_far hb1]; exact Bool.false_ne_true
            · obtain ⟨k, rfl⟩ : ∃ k, j = i + k := ⟨j - i, by omega⟩
              rw [set_far (hdm.2 k (by omega) (by omega) hjl.2)]; exact Bool.false_ne_true
      · simp -dsimp -failIfUnchanged (maxSteps := 2000000) (disch := omega) only [VA, if_true_, if_false_, reduceIte, Nat.reduceEqDiff, Nat.reduceAdd, Nat.reduceMul, Nat.reduceSub, Int.reduceToNat, Int.reduceAdd, Int.reduceNeg, Int.reduceSub, Int.reduceMul, Int.reduceBEq, Int.reduceBNe, Int.reduceLT, Int.reduceLE, Int.reduceEq, beq_self_eq_true, Int.reducePow, Nat.reducePow, Int.reduceDiv, Nat.reduceLeDiff, reduceCtorEq, Tryz.f245, Tryz.results245, bC071, d0, d1, d2, d3]
        refine semW_next_end (l := l) (s := bs s) (pos := i) (by simp -dsimp -failIfUnchanged (maxSteps := 2000000) (disch := omega) only [VA, if_true_, if_false_, reduceIte, Nat.reduceEqDiff, Nat.reduceAdd, Nat.reduceMul, Nat.reduceSub, Int.reduceToNat, Int.reduceAdd, Int.reduceNeg, Int.reduceSub, Int.reduceMul, Int.reduceBEq, Int.reduceBNe, Int.reduceLT, Int.reduceLE, Int.reduceEq, beq_self_eq_true, Int.reducePow, Nat.reducePow, Int.reduceDiv, Nat.reduceLeDiff, reduceCtorEq, Tryz.f245, Tryz.results245, bC071, d3]) updO_o_same (by rw [bs_size]; exact hlt) ?_
        simp -dsimp -failIfUnchanged (maxSteps := 2000000) (disch := omega) only [VA, if_true_, if_false_, reduceIte, Nat.reduceEqDiff, Nat.reduceAdd, Nat.reduceMul, Nat.reduceSub, Int.reduceToNat, Int.reduceAdd, Int.reduceNeg, Int.reduceSub, Int.reduceMul, Int.reduceBEq, Int.reduceBNe, Int.reduceLT, Int.reduceLE, Int.reduceEq, beq_self_eq_true, Int.reducePow, Nat.reducePow, Int.reduceDiv, Nat.reduceLeDiff, reduceCtorEq, Tryz.f245, Tryz.results245, bC071, d0, d1, d2, d3]
        obtain rfl : i = s.length := by omega
        refine ⟨H, Mem.le_updO (Mem.le_refl H) hol _, h _ ?_⟩
        rw [List.take_length] at ha; rw [ha]; rfl
    · simp -dsimp -failIfUnchanged (maxSteps := 2000000) (disch := omega) only [VA, if_true_, if_false_, reduceIte, Nat.reduceEqDiff, Nat.reduceAdd, Nat.reduceMul, Nat.reduceSub, Int.reduceToNat, Int.reduceAdd, Int.reduceNeg, Int.reduceSub, Int.reduceMul, Int.reduceBEq, Int.reduceBNe, Int.reduceLT, Int.reduceLE, Int.reduceEq, beq_self_eq_true, Int.reducePow, Nat.reducePow, Int.reduceDiv, Nat.reduceLeDiff, reduceCtorEq, Tryz.f245, Tryz.results245, bC071, trivial]
      exact ⟨trivial, trivial, trivial, trivial, Nat.zero_le _, (by trivial), trivial⟩
end Go.Proofs.YtgkolnknobgcmaaGreat
end
section
namespace Go.Proofs.YtgkolnknobgcmaaGreat
open Go Go.Proofs.YtgkolnknobgcmaaGreatV Go.Shelf
set_option maxRecDepth 20000
set_option linter.unusedSimpArgs false
set_option linter.unusedVariables false
set_option maxHeartbeats 4000000
theorem bC080 : type_of% @Tryz.underlying3 ∧ type_of% @ty3 ∧ type_of% @zero3 ∧ type_of% @Tryz.underlying9 ∧ type_of% @ty9 ∧ type_of% @zero9 ∧ type_of% @Tryz.ntmps227 := ⟨@Tryz.underlying3, @ty3, @zero3, @Tryz.underlying9, @ty9, @zero9, @Tryz.ntmps227⟩
theorem bC081 : type_of% @Tryz.underlying5 ∧ type_of% @ty5 ∧ type_of% @zero5 ∧ type_of% @Tryz.ntmps228 := ⟨@Tryz.underlying5, @ty5, @zero5, @Tryz.ntmps228⟩
theorem bC082 : type_of% @Tryz.underlying9 ∧ type_of% @ty9 ∧ type_of% @zero9 ∧ type_of% @Tryz.ntmps211 := ⟨@Tryz.underlying9, @ty9, @zero9, @Tryz.ntmps211⟩
theorem bC083 : type_of% @Tryz.underlying3 ∧ type_of% @ty3 ∧ type_of% @zero3 ∧ type_of% @Tryz.underlying5 ∧ type_of% @ty5 ∧ type_of% @zero5 ∧ type_of% @Tryz.underlying9 ∧ type_of% @ty9 ∧ type_of% @zero9 ∧ type_of% @Tryz.underlying183 ∧ type_of% @einf183 ∧ type_of% @elt183 ∧ type_of% @ty183 ∧ type_of% @zero183 ∧ type_of% @Tryz.ntmps212 := ⟨@Tryz.underlying3, @ty3, @zero3, @Tryz.underlying5, @ty5, @zero5, @Tryz.underlying9, @ty9, @zero9, @Tryz.underlying183, @einf183, @elt183, @ty183, @zero183, @Tryz.ntmps212⟩
variable {H : Mem} {K : Value → Mem → Prop}

theorem containsAny_W {s : List UInt8} (hs : s.length < 4294967281) (h : K (.bool (s.any setB)) H) : InvW Tryz.prog 227 #[.string (bs s), .string (bs [32, 64, 47])] H K := by
  (refine invW_of_pw Tryz.func227 rfl rfl (by decide +kernel) (by simp [Tryz.f227]) ?_); simp -dsimp -failIfUnchanged (maxSteps := 2000000) (disch := omega) only [VA, if_true_, if_false_, reduceIte, Nat.reduceEqDiff, Nat.reduceAdd, Nat.reduceMul, Nat.reduceSub, Int.reduceToNat, Int.reduceAdd, Int.reduceNeg, Int.reduceSub, Int.reduceMul, Int.reduceBEq, Int.reduceBNe, Int.reduceLT, Int.reduceLE, Int.reduceEq, beq_self_eq_true, Int.reducePow, Nat.reducePow, Int.reduceDiv, Nat.reduceLeDiff, reduceCtorEq, Tryz.f227, Tryz.results227, bC080]
  refine indexAny_W hs fun v hv => ?_
  simp -dsimp -failIfUnchanged (maxSteps := 2000000) (disch := omega) only [VA, if_true_, if_false_, reduceIte, Nat.reduceEqDiff, Nat.reduceAdd, Nat.reduceMul, Nat.reduceSub, Int.reduceToNat, Int.reduceAdd, Int.reduceNeg, Int.reduceSub, Int.reduceMul, Int.reduceBEq, Int.reduceBNe, Int.reduceLT, Int.reduceLE, Int.reduceEq, beq_self_eq_true, Int.reducePow, Nat.reducePow, Int.reduceDiv, Nat.reduceLeDiff, reduceCtorEq, Tryz.f227, Tryz.results227, bC080, hv]
  exact h
def letB (b : UInt8) : Bool := decide (97 ≤ b.toNat) && decide (b.toNat ≤ 122) || decide (48 ≤ b.toNat) && decide (b.toNat ≤ 57)
theorem letter_W {b : UInt8} (h : K (.bool (letB b)) H) : InvW Tryz.prog 228 #[.int .u8 b.toNat] H K := by
  have e1 : decide (97 ≤ b.toNat) = decide ((97 : Int) ≤ b.toNat) := decide_eq_decide.2 (by omega)
  have e2 : decide (b.toNat ≤ 122) = decide ((b.toNat : Int) ≤ 122) := decide_eq_decide.2 (by omega)
  have e3 : decide (48 ≤ b.toNat) = decide ((48 : Int) ≤ b.toNat) := decide_eq_decide.2 (by omega)
  have e4 : decide (b.toNat ≤ 57) = decide ((b.toNat : Int) ≤ 57) := decide_eq_decide.2 (by omega)
  unfold letB at h
  rw [e1, e2, e3, e4] at h
  cases c1 : decide ((97 : Int) ≤ b.toNat) <;> cases c2 : decide ((b.toNat : Int) ≤ 122) <;> cases c3 : decide ((48 : Int) ≤ b.toNat) <;> cases c4 : decide ((b.toNat : Int) ≤ 57) <;> rw [c1, c2, c3, c4] at h <;> ((refine invW_of_pw Tryz.func228 rfl rfl (by decide +kernel) (by simp [Tryz.f228]) ?_); simp -dsimp -failIfUnchanged (maxSteps := 2000000) (disch := omega) only [VA, if_true_, if_false_, reduceIte, Nat.reduceEqDiff, Nat.reduceAdd, Nat.reduceMul, Nat.reduceSub, Int.reduceToNat, Int.reduceAdd, Int.reduceNeg, Int.reduceSub, Int.reduceMul, Int.reduceBEq, Int.reduceBNe, Int.reduceLT, Int.reduceLE, Int.reduceEq, beq_self_eq_true, Int.reducePow, Nat.reducePow, Int.reduceDiv, Nat.reduceLeDiff, reduceCtorEq, Tryz.f228, Tryz.results228, bC081, c1, c2, c3, c4]; exact h)
def nameB (s : List UInt8) : Bool := plain s && !(s.any setB) && decide (s.map lowB = s)
theorem name_W {s : List UInt8} (hs : s.length < 4294967281) (h : K (.bool (nameB s)) H) : InvW Tryz.prog 211 #[.string (bs s)] H K := by
  unfold nameB at h
  (refine invW_of_pw Tryz.func211 rfl rfl (by decide +kernel) (by simp [Tryz.f211]) ?_); simp -dsimp -failIfUnchanged (maxSteps := 2000000) (disch := omega) only [VA, if_true_, if_false_, reduceIte, Nat.reduceEqDiff, Nat.reduceAdd, Nat.reduceMul, Nat.reduceSub, Int.reduceToNat, Int.reduceAdd, Int.reduceNeg, Int.reduceSub, Int.reduceMul, Int.reduceBEq, Int.reduceBNe, Int.reduceLT, Int.reduceLE, Int.reduceEq, beq_self_eq_true, Int.reducePow, Nat.reducePow, Int.reduceDiv, Nat.reduceLeDiff, reduceCtorEq, Tryz.f211, Tryz.results211, bC082]
  refine plain_W hs ?_
  cases c1 : plain s
  · simp -dsimp -failIfUnchanged (maxSteps := 2000000) (disch := omega) only [VA, if_true_, if_false_, reduceIte, Nat.reduceEqDiff, Nat.reduceAdd, Nat.reduceMul, Nat.reduceSub, Int.reduceToNat, Int.reduceAdd, Int.reduceNeg, Int.reduceSub, Int.reduceMul, Int.reduceBEq, Int.reduceBNe, Int.reduceLT, Int.reduceLE, Int.reduceEq, beq_self_eq_true, Int.reducePow, Nat.reducePow, Int.reduceDiv, Nat.reduceLeDiff, reduceCtorEq, Tryz.f211, Tryz.results211, bC082]
    simpa [c1] using h
  · simp -dsimp -failIfUnchanged (maxSteps := 2000000) (disch := omega) only [VA, if_true_, if_false_, reduceIte, Nat.reduceEqDiff, Nat.reduceAdd, Nat.reduceMul, Nat.reduceSub, Int.reduceToNat, Int.reduceAdd, Int.reduceNeg, Int.reduceSub, Int.reduceMul, Int.reduceBEq, Int.reduceBNe, Int.reduceLT, Int.reduceLE, Int.reduceEq, beq_self_eq_true, Int.reducePow, Nat.reducePow, Int.reduceDiv, Nat.reduceLeDiff, reduceCtorEq, Tryz.f211, Tryz.results211, bC082]
    refine containsAny_W hs ?_
    cases c2 : s.any setB
    · simp -dsimp -failIfUnchanged (maxSteps := 2000000) (disch := omega) only [VA, if_true_, if_false_, reduceIte, Nat.reduceEqDiff, Nat.reduceAdd, Nat.reduceMul, Nat.reduceSub, Int.reduceToNat, Int.reduceAdd, Int.reduceNeg, Int.reduceSub, Int.reduceMul, Int.reduceBEq, Int.reduceBNe, Int.reduceLT, Int.reduceLE, Int.reduceEq, beq_self_eq_true, Int.reducePow, Nat.reducePow, Int.reduceDiv, Nat.reduceLeDiff, reduceCtorEq, Tryz.f211, Tryz.results211, bC082]
      refine low_W hs ?_
      simp -dsimp -failIfUnchanged (maxSteps := 2000000) (disch := omega) only [VA, if_true_, if_false_, reduceIte, Nat.reduceEqDiff, Nat.reduceAdd, Nat.reduceMul, Nat.reduceSub, Int.reduceToNat, Int.reduceAdd, Int.reduceNeg, Int.reduceSub, Int.reduceMul, Int.reduceBEq, Int.reduceBNe, Int.reduceLT, Int.reduceLE, Int.reduceEq, beq_self_eq_true, Int.reducePow, Nat.reducePow, Int.reduceDiv, Nat.reduceLeDiff, reduceCtorEq, Tryz.f211, Tryz.results211, bC082]
      simpa [c1, c2] using h
    · simp -dsimp -failIfUnchanged (maxSteps := 2000000) (disch := omega) only [VA, if_true_, if_false_, reduceIte, Nat.reduceEqDiff, Nat.reduceAdd, Nat.reduceMul, Nat.reduceSub, Int.reduceToNat, Int.reduceAdd, Int.reduceNeg, Int.reduceSub, Int.reduceMul, Int.reduceBEq, Int.reduceBNe, Int.reduceLT, Int.reduceLE, Int.reduceEq, beq_self_eq_true, Int.reducePow, Nat.reducePow, Int.reduceDiv, Nat.reduceLeDiff, reduceCtorEq, Tryz.f211, Tryz.results211, bC082]
      simpa [c1, c2] using h
theorem u8_beq (x y : UInt8) : (x == y) = ((x.toNat : Int) == (y.toNat : Int)) := by
  rw [Bool.eq_iff_iff, beq_iff_eq, beq_iff_eq]
  exact ⟨fun h => by rw [h], fun h => UInt8.toNat_inj.1 (by omega)⟩
def hostB (s : List UInt8) : Bool := match s with
  | [] => false
  | b :: r => letB b && letB ((b :: r)[r.length]?.getD 0) && !(Lib.contains (b :: r) [46, 46]) && (b :: r).all fun c => letB c || c == 46 || c == 45
theorem host_W {s : List UInt8} (hB : Base H) (hs : s.length < 4294967281) (h : K (.bool (hostB s)) H) : InvW Tryz.prog 212 #[.string (bs s)] H K := by
  refine InvW.weak ?_
  rcases s with _ | ⟨b, r⟩
  · (refine invW_of_pw Tryz.func212 rfl rfl (by decide +kernel) (by simp [Tryz.f212]) ?_); simp -dsimp -failIfUnchanged (maxSteps := 2000000) (disch := omega) only [VA, if_true_, if_false_, reduceIte, Nat.reduceEqDiff, Nat.reduceAdd, Nat.reduceMul, Nat.reduceSub, Int.reduceToNat, Int.reduceAdd, Int.reduceNeg, Int.reduceSub, Int.reduceMul, Int.reduceBEq, Int.reduceBNe, Int.reduceLT, Int.reduceLE, Int.reduceEq, beq_self_eq_true, Int.reducePow, Nat.reducePow, Int.reduceDiv, Nat.reduceLeDiff, reduceCtorEq, Tryz.f212, Tryz.results212, bC083]
    exact ⟨H, Mem.le_refl H, h⟩
  · have hz := bs_size (b :: r)
    have hl : (b :: r).length = r.length + 1 := rfl
    have hi1 : (((b :: r).length : Int) - 1).toNat = r.length := by omega
    have hi2 : (((r.length + 1 : Nat) : Int) - 1).toNat = r.length := by omega
    simp only [hostB] at h
    (refine invW_of_pw Tryz.func212 rfl rfl (by decide +kernel) (by simp [Tryz.f212]) ?_); simp -dsimp -failIfUnchanged (maxSteps := 2000000) (disch := omega) only [VA, if_true_, if_false_, reduceIte, Nat.reduceEqDiff, Nat.reduceAdd, Nat.reduceMul, Nat.reduceSub, Int.reduceToNat, Int.reduceAdd, Int.reduceNeg, Int.reduceSub, Int.reduceMul, Int.reduceBEq, Int.reduceBNe, Int.reduceLT, Int.reduceLE, Int.reduceEq, beq_self_eq_true, Int.reducePow, Nat.reducePow, Int.reduceDiv, Nat.reduceLeDiff, reduceCtorEq, Tryz.f212, Tryz.results212, bC083, byteAt_bs]
    refine letter_W ?_
    cases c1 : letB b
    · simp -dsimp -failIfUnchanged (maxSteps := 2000000) (disch := omega) only [VA, if_true_, if_false_, reduceIte, Nat.reduceEqDiff, Nat.reduceAdd, Nat.reduceMul, Nat.reduceSub, Int.reduceToNat, Int.reduceAdd, Int.reduceNeg, Int.reduceSub, Int.reduceMul, Int.reduceBEq, Int.reduceBNe, Int.reduceLT, Int.reduceLE, Int.reduceEq, beq_self_eq_true, Int.reducePow, Nat.reducePow, Int.reduceDiv, Nat.reduceLeDiff, reduceCtorEq, Tryz.f212, Tryz.results212, bC083]
      refine ⟨H, Mem.le_refl H, ?_⟩
      rw [c1] at h; exact h
    simp -dsimp -failIfUnchanged (maxSteps := 2000000) (disch := omega) only [VA, if_true_, if_false_, reduceIte, Nat.reduceEqDiff, Nat.reduceAdd, Nat.reduceMul, Nat.reduceSub, Int.reduceToNat, Int.reduceAdd, Int.reduceNeg, Int.reduceSub, Int.reduceMul, Int.reduceBEq, Int.reduceBNe, Int.reduceLT, Int.reduceLE, Int.reduceEq, beq_self_eq_true, Int.reducePow, Nat.reducePow, Int.reduceDiv, Nat.reduceLeDiff, reduceCtorEq, Tryz.f212, Tryz.results212, bC083, byteAt_bs, hi1, hi2]
    refine letter_W ?_
    cases c2 : letB ((b :: r)[r.length]?.getD 0)
    · simp -dsimp -failIfUnchanged (maxSteps := 2000000) (disch := omega) only [VA, if_true_, if_false_, reduceIte, Nat.reduceEqDiff, Nat.reduceAdd, Nat.reduceMul, Nat.reduceSub, Int.reduceToNat, Int.reduceAdd, Int.reduceNeg, Int.reduceSub, Int.reduceMul, Int.reduceBEq, Int.reduceBNe, Int.reduceLT, Int.reduceLE, Int.reduceEq, beq_self_eq_true, Int.reducePow, Nat.reducePow, Int.reduceDiv, Nat.reduceLeDiff, reduceCtorEq, Tryz.f212, Tryz.results212, bC083]
      refine ⟨H, Mem.le_refl H, ?_⟩
      rw [c1, c2] at h; exact h
    simp -dsimp -failIfUnchanged (maxSteps := 2000000) (disch := omega) only [VA, if_true_, if_false_, reduceIte, Nat.reduceEqDiff, Nat.reduceAdd, Nat.reduceMul, Nat.reduceSub, Int.reduceToNat, Int.reduceAdd, Int.reduceNeg, Int.reduceSub, Int.reduceMul, Int.reduceBEq, Int.reduceBNe, Int.reduceLT, Int.reduceLE, Int.reduceEq, beq_self_eq_true, Int.reducePow, Nat.reducePow, Int.reduceDiv, Nat.reduceLeDiff, reduceCtorEq, Tryz.f212, Tryz.results212, bC083]
    refine contains_W hB hs ?_
    cases c3 : Lib.contains (b :: r) [46, 46]
    rotate_left
    · simp -dsimp -failIfUnchanged (maxSteps := 2000000) (disch := omega) only [VA, if_true_, if_false_, reduceIte, Nat.reduceEqDiff, Nat.reduceAdd, Nat.reduceMul, Nat.reduceSub, Int.reduceToNat, Int.reduceAdd, Int.reduceNeg, Int.reduceSub, Int.reduceMul, Int.reduceBEq, Int.reduceBNe, Int.reduceLT, Int.reduceLE, Int.reduceEq, beq_self_eq_true, Int.reducePow, Nat.reducePow, Int.reduceDiv, Nat.reduceLeDiff, reduceCtorEq, Tryz.f212, Tryz.results212, bC083]
      refine ⟨H, Mem.le_refl H, ?_⟩
      rw [c1, c2, c3] at h; exact h
    simp -dsimp -failIfUnchanged (maxSteps := 2000000) (disch := omega) only [VA, if_true_, if_false_, reduceIte, Nat.reduceEqDiff, Nat.reduceAdd, Nat.reduceMul, Nat.reduceSub, Int.reduceToNat, Int.reduceAdd, Int.reduceNeg, Int.reduceSub, Int.reduceMul, Int.reduceBEq, Int.reduceBNe, Int.reduceLT, Int.reduceLE, Int.reduceEq, beq_self_eq_true, Int.reducePow, Nat.reducePow, Int.reduceDiv, Nat.reduceLeDiff, reduceCtorEq, Tryz.f212, Tryz.results212, bC083]
    rw [c1, c2, c3] at h
    refine conv_bytes Tryz.underlying9 Tryz.underlying183 Tryz.underlying5 fun m cap hm hcap => ?_
    have hk : K (.bool ((b :: r).all fun c => letB c || c == 46 || c == 45)) H := h
    clear h hi1 hi2
    generalize b :: r = s at hs hz hk hcap
    simp -dsimp -failIfUnchanged (maxSteps := 2000000) (disch := omega) only [VA, if_true_, if_false_, reduceIte, Nat.reduceEqDiff, Nat.reduceAdd, Nat.reduceMul, Nat.reduceSub, Int.reduceToNat, Int.reduceAdd, Int.reduceNeg, Int.reduceSub, Int.reduceMul, Int.reduceBEq, Int.reduceBNe, Int.reduceLT, Int.reduceLE, Int.reduceEq, beq_self_eq_true, Int.reducePow, Nat.reducePow, Int.reduceDiv, Nat.reduceLeDiff, reduceCtorEq, Tryz.f212, Tryz.results212, bC083]
    refine loop_enter (loop_ind ?_ (fun (k : Nat) e1 H1 => e1.ds = [] ∧ e1 27 = .slice (some ⟨m, 0, none⟩) s.length cap ∧ e1 28 = .int .i64 s.length ∧ e1 29 = .int .i64 k ∧ k ≤ s.length ∧ ((s.take k).all fun c => letB c || c == 46 || c == 45) = true ∧
        H1 = H.upd m ⟨true, cap, byC s⟩) (fun k => s.length - k) ?_ 0 _ _ ?_)
    · decide +kernel
    · rintro k e1 H1 ⟨d0, d1, d2, d3, hkl, ha, rfl⟩ ih
      have hbl : (byC s).length = s.length := byC_length s
      by_cases hlt : k < s.length
      · have k1 : decide ((k : Int) < s.length) = true := decide_eq_true (by omega)
        obtain ⟨x, q, hx⟩ : ∃ x q, s.drop k = x :: q := by
          cases hd : s.drop k with
          | nil => have := congrArg List.length hd; simp at this; omega
          | cons x q => exact ⟨x, q, rfl⟩
        have hrd : List.take 1 (List.drop ((k : Int).toNat * 1) (byC s)) = [.int .u8 x.toNat] := by
          rw [Int.toNat_natCast, Nat.mul_one]; exact byC_at hx
        have e1' : (x == 46) = ((x.toNat : Int) == 46) := u8_beq x 46
        have e2' : (x == 45) = ((x.toNat : Int) == 45) := u8_beq x 45
        have hxs : s[k]? = some x := by have := congrArg (·[0]?) hx; simpa using this
        have hgo : (letB x || x == 46 || x == 45) = true → ((s.take (k + 1)).all fun c => letB c || c == 46 || c == 45) = true := by
          intro h; rw [List.take_add_one, hxs, List.all_append, ha]; simpa using h
        have hno : (letB x || x == 46 || x == 45) = false → (s.all fun c => letB c || c == 46 || c == 45) = false := by
          intro h; rw [List.all_eq_false]; exact ⟨x, List.mem_of_getElem? hxs, by rw [h]; exact Bool.false_ne_true⟩
        rw [e1', e2'] at hgo hno
        simp -dsimp -failIfUnchanged (maxSteps := 2000000) (disch := omega) only [VA, if_true_, if_false_, reduceIte, Nat.reduceEqDiff, Nat.reduceAdd, Nat.reduceMul, Nat.reduceSub, Int.reduceToNat, Int.reduceAdd, Int.reduceNeg, Int.reduceSub, Int.reduceMul, Int.reduceBEq, Int.reduceBNe, Int.reduceLT, Int.reduceLE, Int.reduceEq, beq_self_eq_true, Int.reducePow, Nat.reducePow, Int.reduceDiv, Nat.reduceLeDiff, reduceCtorEq, Tryz.f212, Tryz.results212, bC083, d0, d1, d2, d3, k1, hrd]
        refine letter_W ?_
        cases c1 : letB x
        · cases c2 : ((x.toNat : Int) == 46)
          · cases c3 : ((x.toNat : Int) == 45)
            · rw [hno (by rw [c1, c2, c3]; rfl)] at hk
              simp -dsimp -failIfUnchanged (maxSteps := 2000000) (disch := omega) only [VA, if_true_, if_false_, reduceIte, Nat.reduceEqDiff, Nat.reduceAdd, Nat.reduceMul, Nat.reduceSub, Int.reduceToNat, Int.reduceAdd, Int.reduceNeg, Int.reduceSub, Int.reduceMul, Int.reduceBEq, Int.reduceBNe, Int.reduceLT, Int.reduceLE, Int.reduceEq, beq_self_eq_true, Int.reducePow, Nat.reducePow, Int.reduceDiv, Nat.reduceLeDiff, reduceCtorEq, Tryz.f212, Tryz.results212, bC083, d0, d1, d2, d3, k1, hrd, c2, c3, _root_.bne]
              exact ⟨H, Mem.le_upd hm _, hk⟩
            · simp -dsimp -failIfUnchanged (maxSteps := 2000000) (disch := omega) only [VA, if_true_, if_false_, reduceIte, Nat.reduceEqDiff, Nat.reduceAdd, Nat.reduceMul, Nat.reduceSub, Int.reduceToNat, Int.reduceAdd, Int.reduceNeg, Int.reduceSub, Int.reduceMul, Int.reduceBEq, Int.reduceBNe, Int.reduceLT, Int.reduceLE, Int.reduceEq, beq_self_eq_true, Int.reducePow, Nat.reducePow, Int.reduceDiv, Nat.reduceLeDiff, reduceCtorEq, Tryz.f212, Tryz.results212, bC083, d0, d1, d2, d3, k1, hrd, c2, c3, _root_.bne]
              refine ih (k + 1) _ _ ?_ (by omega)
              simp -dsimp -failIfUnchanged (maxSteps := 2000000) (disch := omega) only [VA, if_true_, if_false_, reduceIte, Nat.reduceEqDiff, Nat.reduceAdd, Nat.reduceMul, Nat.reduceSub, Int.reduceToNat, Int.reduceAdd, Int.reduceNeg, Int.reduceSub, Int.reduceMul, Int.reduceBEq, Int.reduceBNe, Int.reduceLT, Int.reduceLE, Int.reduceEq, beq_self_eq_true, Int.reducePow, Nat.reducePow, Int.reduceDiv, Nat.reduceLeDiff, reduceCtorEq, Tryz.f212, Tryz.results212, bC083, d0, d1, d2, d3]
              exact ⟨trivial, trivial, trivial, by simp, by omega, hgo (by rw [c1, c2, c3]; rfl), trivial⟩
          · simp -dsimp -failIfUnchanged (maxSteps := 2000000) (disch := omega) only [VA, if_true_, if_false_, reduceIte, Nat.reduceEqDiff, Nat.reduceAdd, Nat.reduceMul, Nat.reduceSub, Int.reduceToNat, Int.reduceAdd, Int.reduceNeg, Int.reduceSub, Int.reduceMul, Int.reduceBEq, Int.reduceBNe, Int.reduceLT, Int.reduceLE, Int.reduceEq, beq_self_eq_true, Int.reducePow, Nat.reducePow, Int.reduceDiv, Nat.reduceLeDiff, reduceCtorEq, Tryz.f212, Tryz.results212, bC083, d0, d1, d2, d3, k1, hrd, c2, _root_.bne]
            refine ih (k + 1) _ _ ?_ (by omega)
            simp -dsimp -failIfUnchanged (maxSteps := 2000000) (disch := omega) only [VA, if_true_, if_false_, reduceIte, Nat.reduceEqDiff, Nat.reduceAdd, Nat.reduceMul, Nat.reduceSub, Int.reduceToNat, Int.reduceAdd, Int.reduceNeg, Int.reduceSub, Int.reduceMul, Int.reduceBEq, Int.reduceBNe, Int.reduceLT, Int.reduceLE, Int.reduceEq, beq_self_eq_true, Int.reducePow, Nat.reducePow, Int.reduceDiv, Nat.reduceLeDiff, reduceCtorEq, Tryz.f212, Tryz.results212, bC083, d0, d1, d2, d3]
            exact ⟨trivial, trivial, trivial, by simp, by omega, hgo (by rw [c1, c2]; rfl), trivial⟩
        · simp -dsimp -failIfUnchanged (maxSteps := 2000000) (disch := omega) only [VA, if_true_, if_false_, reduceIte, Nat.reduceEqDiff, Nat.reduceAdd, Nat.reduceMul, Nat.reduceSub, Int.reduceToNat, Int.reduceAdd, Int.reduceNeg, Int.reduceSub, Int.reduceMul, Int.reduceBEq, Int.reduceBNe, Int.reduceLT, Int.reduceLE, Int.reduceEq, beq_self_eq_true, Int.reducePow, Nat.reducePow, Int.reduceDiv, Nat.reduceLeDiff, reduceCtorEq, Tryz.f212, Tryz.results212, bC083, d0, d1, d2, d3, k1, hrd, _root_.bne]
          refine ih (k + 1) _ _ ?_ (by omega)
          simp -dsimp -failIfUnchanged (maxSteps := 2000000) (disch := omega) only [VA, if_true_, if_false_, reduceIte, Nat.reduceEqDiff, Nat.reduceAdd, Nat.reduceMul, Nat.reduceSub, Int.reduceToNat, Int.reduceAdd, Int.reduceNeg, Int.reduceSub, Int.reduceMul, Int.reduceBEq, Int.reduceBNe, Int.reduceLT, Int.reduceLE, Int.reduceEq, beq_self_eq_true, Int.reducePow, Nat.reducePow, Int.reduceDiv, Nat.reduceLeDiff, reduceCtorEq, Tryz.f212, Tryz.results212, bC083, d0, d1, d2, d3]
          exact ⟨trivial, trivial, trivial, by simp, by omega, hgo (by rw [c1]; rfl), trivial⟩
      · have k1 : decide ((k : Int) < s.length) = false := decide_eq_false (by omega)
        obtain rfl : k = s.length := by omega
        rw [List.take_length] at ha
        rw [ha] at hk
        simp -dsimp -failIfUnchanged (maxSteps := 2000000) (disch := omega) only [VA, if_true_, if_false_, reduceIte, Nat.reduceEqDiff, Nat.reduceAdd, Nat.reduceMul, Nat.reduceSub, Int.reduceToNat, Int.reduceAdd, Int.reduceNeg, Int.reduceSub, Int.reduceMul, Int.reduceBEq, Int.reduceBNe, Int.reduceLT, Int.reduceLE, Int.reduceEq, beq_self_eq_true, Int.reducePow, Nat.reducePow, Int.reduceDiv, Nat.reduceLeDiff, reduceCtorEq, Tryz.f212, Tryz.results212, bC083, d0, d1, d2, d3, k1]
        exact ⟨H, Mem.le_upd hm _, hk⟩
    · simp -dsimp -failIfUnchanged (maxSteps := 2000000) (disch := omega) only [VA, if_true_, if_false_, reduceIte, Nat.reduceEqDiff, Nat.reduceAdd, Nat.reduceMul, Nat.reduceSub, Int.reduceToNat, Int.reduceAdd, Int.reduceNeg, Int.reduceSub, Int.reduceMul, Int.reduceBEq, Int.reduceBNe, Int.reduceLT, Int.reduceLE, Int.reduceEq, beq_self_eq_true, Int.reducePow, Nat.reducePow, Int.reduceDiv, Nat.reduceLeDiff, reduceCtorEq, Tryz.f212, Tryz.results212, bC083]
      refine ⟨trivial, trivial, ?_, ?_, Nat.zero_le _, ?_, trivial⟩ <;> first | trivial | rfl
end Go.Proofs.YtgkolnknobgcmaaGreat
end
