/- The table of the program's types, and that it is right. Printed by the session's own program. -/
import Derived.Test.YtmpglmcjoelciaaGreatDoorDLVc
import Derived.Test.YtmpglmcjoelciaaGreatDoorProg
import Derived.KernelRfl
import Derived.Shelf.Strings.Builder1
import Derived.Shelf.Strings.Builder2
import Derived.Shelf.Strings.Trim
import Derived.Shelf.Small.Utf8
import Derived.Shelf.Small.Strs
import Derived.Shelf.Strings.BuilderF
import Derived.Shelf.Strconv.Atoi
import Derived.Shelf.Strconv.Itoa0
import Derived.Shelf.Strconv.Itoa1
import Derived.Shelf.LaysM
import Derived.Shelf.Strconv.Itoa2
import Derived.Shelf.Strconv.Itoa3
import Derived.Shelf.Strconv.AtoiErrFast
import Derived.Shelf.Strconv.ParseIntEmpty
import Derived.Shelf.Strconv.AtoiFail
import Derived.Shelf.Strconv.Clone
import Derived.Shelf.Strconv.SyntaxError
import Derived.Shelf.LaysC
import Derived.Shelf.Strconv.ToError
import Derived.Shelf.Strconv.Lower
import Derived.Shelf.Strconv.ParseUint10
import Derived.Shelf.Strconv.ParseUint10Empty
import Derived.Shelf.Strconv.ParseUint10Any
import Derived.Shelf.Strconv.ParseInt10
import Derived.Shelf.Strconv.AtoiLong
import Derived.Shelf.Strconv.AtoiInnerAll
import Derived.Shelf.Strconv.RangeError
import Derived.Shelf.Strconv.ToErrorRange
import Derived.Shelf.Strconv.AtoiAll
import Derived.Shelf.Strconv.ErrVarAll
import Derived.Shelf.Strings.Search1
import Derived.Shelf.Strings.Search2
import Derived.Shelf.Strings.Search3
import Derived.Shelf.Strings.Cut
import Derived.Shelf.Strings.Count
import Derived.Shelf.Strings.Shaped
import Derived.Shelf.Strings.Split
import Derived.Shelf.Strings.Replace
import Derived.Shelf.Strings.SplitShaped
import Derived.Shelf.Strings.Runes
import Derived.Shelf.Strings.AsciiSet
import Derived.Shelf.Unicode.DecodeSlow
import Derived.Shelf.Strings.SlTrimAscii

namespace Go.Proofs.YtmpglmcjoelciaaGreatDoor.Ev
open Go Go.Proofs Go.Proofs.Ev
set_option linter.unusedVariables false
set_option maxRecDepth 100000
noncomputable def tabL : List (Option TI) := [
  none,
  Option.some ⟨.other, 1, 8, false, [.any], [.nilFunc], 1⟩,
  Option.some ⟨.int .i64, 1, 8, false, [(.int .i64)], [.int .i64 0], 2⟩,
  Option.some ⟨.int .i64, 1, 8, false, [(.int .i64)], [.int .i64 0], 3⟩,
  Option.some ⟨.bool, 1, 1, false, [.bool], [.bool false], 4⟩,
  Option.some ⟨.int .u8, 1, 1, false, [(.int .u8)], [.int .u8 0], 5⟩,
  none,
  none,
  none,
  Option.some ⟨.string, 1, 16, false, [.str], [.string ⟨#[]⟩], 9⟩,
  none,
  none,
  Option.some ⟨.int .u64, 1, 8, false, [(.int .u64)], [.int .u64 0], 12⟩,
  none,
  none,
  Option.some ⟨.ptr 258, 1, 8, false, [.any], [.pointer none], 15⟩,
  Option.some ⟨.ptr 261, 1, 8, false, [.any], [.pointer none], 16⟩,
  Option.some ⟨.ptr 269, 1, 8, false, [.any], [.pointer none], 17⟩,
  none,
  none,
  Option.some ⟨.iface, 1, 16, false, [.any], [.nilIface], 20⟩,
  Option.some ⟨.int .i32, 1, 4, false, [(.int .i32)], [.int .i32 0], 21⟩,
  Option.some ⟨.other, 1, 8, false, [.any], [.nilFunc], 22⟩,
  Option.some ⟨.slice 9, 1, 24, false, [(.slice ⟨true, 9⟩ 1)], [.slice none 0 0], 23⟩,
  Option.some ⟨.int .i64, 1, 8, false, [(.int .i64)], [.int .i64 0], 24⟩,
  none,
  Option.some ⟨.other, 1, 8, false, [.any], [.nilFunc], 26⟩,
  none,
  Option.some ⟨.other, 1, 8, false, [.any], [.nilFunc], 28⟩,
  Option.some ⟨.other, 1, 8, false, [.any], [.nilFunc], 29⟩,
  Option.some ⟨.other, 1, 8, false, [.any], [.nilFunc], 30⟩,
  Option.some ⟨.slice 95, 1, 24, false, [(.slice ⟨true, 95⟩ 3)], [.slice none 0 0], 31⟩,
  Option.some ⟨.slice 97, 1, 24, false, [(.slice ⟨true, 97⟩ 4)], [.slice none 0 0], 32⟩,
  Option.some ⟨.slice 111, 1, 24, false, [(.slice ⟨true, 111⟩ 2)], [.slice none 0 0], 33⟩,
  Option.some ⟨.slice 100, 1, 24, false, [(.slice ⟨false, 100⟩ 2)], [.slice none 0 0], 34⟩,
  Option.some ⟨.struct [(9, 0), (9, 1), (23, 2), (31, 3), (32, 4), (33, 5), (4, 6), (34, 7)], 8, 160, true, [.str, .str, (.slice ⟨true, 9⟩ 1), (.slice ⟨true, 95⟩ 3), (.slice ⟨true, 97⟩ 4), (.slice ⟨true, 111⟩ 2), .bool, (.slice ⟨false, 100⟩ 2)], [.string ⟨#[]⟩, .string ⟨#[]⟩, .slice none 0 0, .slice none 0 0, .slice none 0 0, .slice none 0 0, .bool false, .slice none 0 0], 35⟩,
  Option.some ⟨.struct [(9, 0), (9, 1), (23, 2), (31, 3), (32, 4), (33, 5), (4, 6), (34, 7)], 8, 160, true, [.str, .str, (.slice ⟨true, 9⟩ 1), (.slice ⟨true, 95⟩ 3), (.slice ⟨true, 97⟩ 4), (.slice ⟨true, 111⟩ 2), .bool, (.slice ⟨false, 100⟩ 2)], [.string ⟨#[]⟩, .string ⟨#[]⟩, .slice none 0 0, .slice none 0 0, .slice none 0 0, .slice none 0 0, .bool false, .slice none 0 0], 36⟩,
  Option.some ⟨.other, 1, 8, false, [.any], [.nilFunc], 37⟩,
  none,
  Option.some ⟨.other, 1, 8, false, [.any], [.nilFunc], 39⟩,
  Option.some ⟨.other, 1, 8, false, [.any], [.nilFunc], 40⟩,
  none,
  Option.some ⟨.other, 1, 8, false, [.any], [.nilFunc], 42⟩,
  Option.some ⟨.other, 1, 8, false, [.any], [.nilFunc], 43⟩,
  Option.some ⟨.slice 125, 1, 24, false, [(.slice ⟨true, 125⟩ 4)], [.slice none 0 0], 44⟩,
  Option.some ⟨.struct [(9, 0), (44, 1)], 2, 40, true, [.str, (.slice ⟨true, 125⟩ 4)], [.string ⟨#[]⟩, .slice none 0 0], 45⟩,
  Option.some ⟨.struct [(9, 0), (44, 1)], 2, 40, true, [.str, (.slice ⟨true, 125⟩ 4)], [.string ⟨#[]⟩, .slice none 0 0], 46⟩,
  Option.some ⟨.struct [(9, 0), (46, 1), (33, 3), (4, 4)], 5, 88, true, [.str, .str, (.slice ⟨true, 125⟩ 4), (.slice ⟨true, 111⟩ 2), .bool], [.string ⟨#[]⟩, .string ⟨#[]⟩, .slice none 0 0, .slice none 0 0, .bool false], 47⟩,
  Option.some ⟨.struct [(9, 0), (46, 1), (33, 3), (4, 4)], 5, 88, true, [.str, .str, (.slice ⟨true, 125⟩ 4), (.slice ⟨true, 111⟩ 2), .bool], [.string ⟨#[]⟩, .string ⟨#[]⟩, .slice none 0 0, .slice none 0 0, .bool false], 48⟩,
  Option.some ⟨.struct [(4, 0), (48, 1), (36, 6)], 14, 256, true, [.bool, .str, .str, (.slice ⟨true, 125⟩ 4), (.slice ⟨true, 111⟩ 2), .bool, .str, .str, (.slice ⟨true, 9⟩ 1), (.slice ⟨true, 95⟩ 3), (.slice ⟨true, 97⟩ 4), (.slice ⟨true, 111⟩ 2), .bool, (.slice ⟨false, 100⟩ 2)], [.bool false, .string ⟨#[]⟩, .string ⟨#[]⟩, .slice none 0 0, .slice none 0 0, .bool false, .string ⟨#[]⟩, .string ⟨#[]⟩, .slice none 0 0, .slice none 0 0, .slice none 0 0, .slice none 0 0, .bool false, .slice none 0 0], 49⟩,
  Option.some ⟨.struct [(4, 0), (48, 1), (36, 6)], 14, 256, true, [.bool, .str, .str, (.slice ⟨true, 125⟩ 4), (.slice ⟨true, 111⟩ 2), .bool, .str, .str, (.slice ⟨true, 9⟩ 1), (.slice ⟨true, 95⟩ 3), (.slice ⟨true, 97⟩ 4), (.slice ⟨true, 111⟩ 2), .bool, (.slice ⟨false, 100⟩ 2)], [.bool false, .string ⟨#[]⟩, .string ⟨#[]⟩, .slice none 0 0, .slice none 0 0, .bool false, .string ⟨#[]⟩, .string ⟨#[]⟩, .slice none 0 0, .slice none 0 0, .slice none 0 0, .slice none 0 0, .bool false, .slice none 0 0], 50⟩,
  none,
  Option.some ⟨.other, 1, 8, false, [.any], [.nilFunc], 52⟩,
  Option.some ⟨.other, 1, 8, false, [.any], [.nilFunc], 53⟩,
  none,
  Option.some ⟨.other, 1, 8, false, [.any], [.nilFunc], 55⟩,
  Option.some ⟨.other, 1, 8, false, [.any], [.nilFunc], 56⟩,
  Option.some ⟨.other, 1, 8, false, [.any], [.nilFunc], 57⟩,
  Option.some ⟨.other, 1, 8, false, [.any], [.nilFunc], 58⟩,
  Option.some ⟨.other, 1, 8, false, [.any], [.nilFunc], 59⟩,
  Option.some ⟨.other, 1, 8, false, [.any], [.nilFunc], 60⟩,
  Option.some ⟨.other, 1, 8, false, [.any], [.nilFunc], 61⟩,
  Option.some ⟨.struct [(3, 0), (3, 1), (3, 2)], 3, 24, true, [(.int .i64), (.int .i64), (.int .i64)], [.int .i64 0, .int .i64 0, .int .i64 0], 62⟩,
  Option.some ⟨.struct [(3, 0), (3, 1), (3, 2)], 3, 24, true, [(.int .i64), (.int .i64), (.int .i64)], [.int .i64 0, .int .i64 0, .int .i64 0], 63⟩,
  none,
  Option.some ⟨.other, 1, 8, false, [.any], [.nilFunc], 65⟩,
  none,
  Option.some ⟨.other, 1, 8, false, [.any], [.nilFunc], 67⟩,
  Option.some ⟨.other, 1, 8, false, [.any], [.nilFunc], 68⟩,
  none,
  Option.some ⟨.other, 1, 8, false, [.any], [.nilFunc], 70⟩,
  Option.some ⟨.other, 1, 8, false, [.any], [.nilFunc], 71⟩,
  Option.some ⟨.other, 1, 8, false, [.any], [.nilFunc], 72⟩,
  Option.some ⟨.other, 1, 8, false, [.any], [.nilFunc], 73⟩,
  Option.some ⟨.slice 48, 1, 24, false, [(.slice ⟨false, 48⟩ 5)], [.slice none 0 0], 74⟩,
  Option.some ⟨.other, 1, 8, false, [.any], [.nilFunc], 75⟩,
  none,
  Option.some ⟨.other, 1, 8, false, [.any], [.nilFunc], 77⟩,
  Option.some ⟨.other, 1, 8, false, [.any], [.nilFunc], 78⟩,
  Option.some ⟨.other, 1, 8, false, [.any], [.nilFunc], 79⟩,
  Option.some ⟨.other, 1, 8, false, [.any], [.nilFunc], 80⟩,
  Option.some ⟨.other, 1, 8, false, [.any], [.nilFunc], 81⟩,
  Option.some ⟨.other, 1, 8, false, [.any], [.nilFunc], 82⟩,
  Option.some ⟨.other, 1, 8, false, [.any], [.nilFunc], 83⟩,
  Option.some ⟨.other, 1, 8, false, [.any], [.nilFunc], 84⟩,
  Option.some ⟨.other, 1, 8, false, [.any], [.nilFunc], 85⟩,
  Option.some ⟨.other, 1, 8, false, [.any], [.nilFunc], 86⟩,
  Option.some ⟨.other, 1, 8, false, [.any], [.nilFunc], 87⟩,
  Option.some ⟨.other, 1, 8, false, [.any], [.nilFunc], 88⟩,
  Option.some ⟨.other, 1, 8, false, [.any], [.nilFunc], 89⟩,
  Option.some ⟨.other, 1, 8, false, [.any], [.nilFunc], 90⟩,
  none,
  Option.some ⟨.other, 1, 8, false, [.any], [.nilFunc], 92⟩,
  Option.some ⟨.other, 1, 8, false, [.any], [.nilFunc], 93⟩,
  Option.some ⟨.struct [(9, 0), (3, 1), (9, 2)], 3, 40, true, [.str, (.int .i64), .str], [.string ⟨#[]⟩, .int .i64 0, .string ⟨#[]⟩], 94⟩,
  Option.some ⟨.struct [(9, 0), (3, 1), (9, 2)], 3, 40, true, [.str, (.int .i64), .str], [.string ⟨#[]⟩, .int .i64 0, .string ⟨#[]⟩], 95⟩,
  Option.some ⟨.struct [(3, 0), (9, 1), (3, 2), (9, 3)], 4, 48, true, [(.int .i64), .str, (.int .i64), .str], [.int .i64 0, .string ⟨#[]⟩, .int .i64 0, .string ⟨#[]⟩], 96⟩,
  Option.some ⟨.struct [(3, 0), (9, 1), (3, 2), (9, 3)], 4, 48, true, [(.int .i64), .str, (.int .i64), .str], [.int .i64 0, .string ⟨#[]⟩, .int .i64 0, .string ⟨#[]⟩], 97⟩,
  Option.some ⟨.slice 104, 1, 24, false, [(.slice ⟨true, 104⟩ 4)], [.slice none 0 0], 98⟩,
  Option.some ⟨.struct [(4, 0), (98, 1)], 2, 32, true, [.bool, (.slice ⟨true, 104⟩ 4)], [.bool false, .slice none 0 0], 99⟩,
  Option.some ⟨.struct [(4, 0), (98, 1)], 2, 32, true, [.bool, (.slice ⟨true, 104⟩ 4)], [.bool false, .slice none 0 0], 100⟩,
  Option.some ⟨.struct [(3, 0), (9, 1)], 2, 24, true, [(.int .i64), .str], [.int .i64 0, .string ⟨#[]⟩], 101⟩,
  Option.some ⟨.struct [(3, 0), (9, 1)], 2, 24, true, [(.int .i64), .str], [.int .i64 0, .string ⟨#[]⟩], 102⟩,
  Option.some ⟨.struct [(9, 0), (3, 1), (102, 2)], 4, 48, true, [.str, (.int .i64), (.int .i64), .str], [.string ⟨#[]⟩, .int .i64 0, .int .i64 0, .string ⟨#[]⟩], 103⟩,
  Option.some ⟨.struct [(9, 0), (3, 1), (102, 2)], 4, 48, true, [.str, (.int .i64), (.int .i64), .str], [.string ⟨#[]⟩, .int .i64 0, .int .i64 0, .string ⟨#[]⟩], 104⟩,
  Option.some ⟨.other, 1, 8, false, [.any], [.nilFunc], 105⟩,
  Option.some ⟨.other, 1, 8, false, [.any], [.nilFunc], 106⟩,
  Option.some ⟨.slice 39, 1, 24, false, [(.slice ⟨false, 39⟩ 1)], [.slice none 0 0], 107⟩,
  Option.some ⟨.other, 1, 8, false, [.any], [.nilFunc], 108⟩,
  Option.some ⟨.other, 1, 8, false, [.any], [.nilFunc], 109⟩,
  Option.some ⟨.struct [(9, 0), (4, 1)], 2, 24, true, [.str, .bool], [.string ⟨#[]⟩, .bool false], 110⟩,
  Option.some ⟨.struct [(9, 0), (4, 1)], 2, 24, true, [.str, .bool], [.string ⟨#[]⟩, .bool false], 111⟩,
  Option.some ⟨.other, 1, 8, false, [.any], [.nilFunc], 112⟩,
  Option.some ⟨.ptr 115, 1, 8, false, [.any], [.pointer none], 113⟩,
  Option.some ⟨.struct [(50, 0), (3, 14)], 15, 264, true, [.bool, .str, .str, (.slice ⟨true, 125⟩ 4), (.slice ⟨true, 111⟩ 2), .bool, .str, .str, (.slice ⟨true, 9⟩ 1), (.slice ⟨true, 95⟩ 3), (.slice ⟨true, 97⟩ 4), (.slice ⟨true, 111⟩ 2), .bool, (.slice ⟨false, 100⟩ 2), (.int .i64)], [.bool false, .string ⟨#[]⟩, .string ⟨#[]⟩, .slice none 0 0, .slice none 0 0, .bool false, .string ⟨#[]⟩, .string ⟨#[]⟩, .slice none 0 0, .slice none 0 0, .slice none 0 0, .slice none 0 0, .bool false, .slice none 0 0, .int .i64 0], 114⟩,
  Option.some ⟨.struct [(50, 0), (3, 14)], 15, 264, true, [.bool, .str, .str, (.slice ⟨true, 125⟩ 4), (.slice ⟨true, 111⟩ 2), .bool, .str, .str, (.slice ⟨true, 9⟩ 1), (.slice ⟨true, 95⟩ 3), (.slice ⟨true, 97⟩ 4), (.slice ⟨true, 111⟩ 2), .bool, (.slice ⟨false, 100⟩ 2), (.int .i64)], [.bool false, .string ⟨#[]⟩, .string ⟨#[]⟩, .slice none 0 0, .slice none 0 0, .bool false, .string ⟨#[]⟩, .string ⟨#[]⟩, .slice none 0 0, .slice none 0 0, .slice none 0 0, .slice none 0 0, .bool false, .slice none 0 0, .int .i64 0], 115⟩,
  Option.some ⟨.other, 1, 8, false, [.any], [.nilFunc], 116⟩,
  Option.some ⟨.other, 1, 8, false, [.any], [.nilFunc], 117⟩,
  Option.some ⟨.ptr 50, 1, 8, false, [.any], [.pointer none], 118⟩,
  Option.some ⟨.other, 1, 8, false, [.any], [.nilFunc], 119⟩,
  Option.some ⟨.other, 1, 8, false, [.any], [.nilFunc], 120⟩,
  Option.some ⟨.other, 1, 8, false, [.any], [.nilFunc], 121⟩,
  Option.some ⟨.other, 1, 8, false, [.any], [.nilFunc], 122⟩,
  Option.some ⟨.other, 1, 8, false, [.any], [.nilFunc], 123⟩,
  Option.some ⟨.struct [(9, 0), (63, 1)], 4, 40, true, [.str, (.int .i64), (.int .i64), (.int .i64)], [.string ⟨#[]⟩, .int .i64 0, .int .i64 0, .int .i64 0], 124⟩,
  Option.some ⟨.struct [(9, 0), (63, 1)], 4, 40, true, [.str, (.int .i64), (.int .i64), (.int .i64)], [.string ⟨#[]⟩, .int .i64 0, .int .i64 0, .int .i64 0], 125⟩,
  Option.some ⟨.other, 1, 8, false, [.any], [.nilFunc], 126⟩,
  Option.some ⟨.other, 1, 8, false, [.any], [.nilFunc], 127⟩,
  none,
  Option.some ⟨.other, 1, 8, false, [.any], [.nilFunc], 129⟩,
  Option.some ⟨.other, 1, 8, false, [.any], [.nilFunc], 130⟩,
  Option.some ⟨.other, 1, 8, false, [.any], [.nilFunc], 131⟩,
  Option.some ⟨.other, 1, 8, false, [.any], [.nilFunc], 132⟩,
  Option.some ⟨.slice 3, 1, 24, false, [(.slice ⟨true, 3⟩ 1)], [.slice none 0 0], 133⟩,
  Option.some ⟨.other, 1, 8, false, [.any], [.nilFunc], 134⟩,
  Option.some ⟨.other, 1, 8, false, [.any], [.nilFunc], 135⟩,
  Option.some ⟨.other, 1, 8, false, [.any], [.nilFunc], 136⟩,
  none,
  Option.some ⟨.other, 1, 8, false, [.any], [.nilFunc], 138⟩,
  Option.some ⟨.other, 1, 8, false, [.any], [.nilFunc], 139⟩,
  Option.some ⟨.other, 1, 8, false, [.any], [.nilFunc], 140⟩,
  Option.some ⟨.other, 1, 8, false, [.any], [.nilFunc], 141⟩,
  Option.some ⟨.other, 1, 8, false, [.any], [.nilFunc], 142⟩,
  Option.some ⟨.other, 1, 8, false, [.any], [.nilFunc], 143⟩,
  Option.some ⟨.slice 24, 1, 24, false, [(.slice ⟨true, 24⟩ 1)], [.slice none 0 0], 144⟩,
  Option.some ⟨.slice 5, 1, 24, false, [(.slice ⟨true, 5⟩ 1)], [.slice none 0 0], 145⟩,
  Option.some ⟨.other, 1, 8, false, [.any], [.nilFunc], 146⟩,
  Option.some ⟨.other, 1, 8, false, [.any], [.nilFunc], 147⟩,
  Option.some ⟨.other, 1, 8, false, [.any], [.nilFunc], 148⟩,
  Option.some ⟨.slice 4, 1, 24, false, [(.slice ⟨true, 4⟩ 1)], [.slice none 0 0], 149⟩,
  Option.some ⟨.other, 1, 8, false, [.any], [.nilFunc], 150⟩,
  Option.some ⟨.other, 1, 8, false, [.any], [.nilFunc], 151⟩,
  Option.some ⟨.other, 1, 8, false, [.any], [.nilFunc], 152⟩,
  Option.some ⟨.other, 1, 8, false, [.any], [.nilFunc], 153⟩,
  Option.some ⟨.other, 1, 8, false, [.any], [.nilFunc], 154⟩,
  Option.some ⟨.slice 43, 1, 24, false, [(.slice ⟨false, 43⟩ 1)], [.slice none 0 0], 155⟩,
  Option.some ⟨.other, 1, 8, false, [.any], [.nilFunc], 156⟩,
  Option.some ⟨.other, 1, 8, false, [.any], [.nilFunc], 157⟩,
  Option.some ⟨.other, 1, 8, false, [.any], [.nilFunc], 158⟩,
  Option.some ⟨.other, 1, 8, false, [.any], [.nilFunc], 159⟩,
  Option.some ⟨.other, 1, 8, false, [.any], [.nilFunc], 160⟩,
  Option.some ⟨.other, 1, 8, false, [.any], [.nilFunc], 161⟩,
  Option.some ⟨.other, 1, 8, false, [.any], [.nilFunc], 162⟩,
  Option.some ⟨.other, 1, 8, false, [.any], [.nilFunc], 163⟩,
  none,
  Option.some ⟨.other, 1, 8, false, [.any], [.nilFunc], 165⟩,
  Option.some ⟨.other, 1, 8, false, [.any], [.nilFunc], 166⟩,
  Option.some ⟨.other, 1, 8, false, [.any], [.nilFunc], 167⟩,
  Option.some ⟨.other, 1, 8, false, [.any], [.nilFunc], 168⟩,
  Option.some ⟨.other, 1, 8, false, [.any], [.nilFunc], 169⟩,
  Option.some ⟨.other, 1, 8, false, [.any], [.nilFunc], 170⟩,
  Option.some ⟨.other, 1, 8, false, [.any], [.nilFunc], 171⟩,
  Option.some ⟨.other, 1, 8, false, [.any], [.nilFunc], 172⟩,
  Option.some ⟨.other, 1, 8, false, [.any], [.nilFunc], 173⟩,
  Option.some ⟨.other, 1, 8, false, [.any], [.nilFunc], 174⟩,
  none,
  Option.some ⟨.other, 1, 8, false, [.any], [.nilFunc], 176⟩,
  Option.some ⟨.other, 1, 8, false, [.any], [.nilFunc], 177⟩,
  Option.some ⟨.other, 1, 8, false, [.any], [.nilFunc], 178⟩,
  Option.some ⟨.iface, 1, 16, false, [.any], [.nilIface], 179⟩,
  Option.some ⟨.iface, 1, 16, false, [.any], [.nilIface], 180⟩,
  none,
  Option.some ⟨.other, 1, 8, false, [.any], [.nilFunc], 182⟩,
  Option.some ⟨.other, 1, 8, false, [.any], [.nilFunc], 183⟩,
  Option.some ⟨.other, 1, 8, false, [.any], [.nilFunc], 184⟩,
  Option.some ⟨.other, 1, 8, false, [.any], [.nilFunc], 185⟩,
  Option.some ⟨.other, 1, 8, false, [.any], [.nilFunc], 186⟩,
  Option.some ⟨.other, 1, 8, false, [.any], [.nilFunc], 187⟩,
  Option.some ⟨.other, 1, 8, false, [.any], [.nilFunc], 188⟩,
  Option.some ⟨.int .u64, 1, 8, false, [(.int .u64)], [.int .u64 0], 189⟩,
  Option.some ⟨.struct [(3, 0), (3, 1)], 2, 16, true, [(.int .i64), (.int .i64)], [.int .i64 0, .int .i64 0], 190⟩,
  Option.some ⟨.struct [(3, 0), (3, 1)], 2, 16, true, [(.int .i64), (.int .i64)], [.int .i64 0, .int .i64 0], 191⟩,
  none,
  Option.some ⟨.other, 1, 8, false, [.any], [.nilFunc], 193⟩,
  Option.some ⟨.arr 24 5, 24, 24, true, [(.int .u8), (.int .u8), (.int .u8), (.int .u8), (.int .u8), (.int .u8), (.int .u8), (.int .u8), (.int .u8), (.int .u8), (.int .u8), (.int .u8), (.int .u8), (.int .u8), (.int .u8), (.int .u8), (.int .u8), (.int .u8), (.int .u8), (.int .u8), (.int .u8), (.int .u8), (.int .u8), (.int .u8)], [.int .u8 0, .int .u8 0, .int .u8 0, .int .u8 0, .int .u8 0, .int .u8 0, .int .u8 0, .int .u8 0, .int .u8 0, .int .u8 0, .int .u8 0, .int .u8 0, .int .u8 0, .int .u8 0, .int .u8 0, .int .u8 0, .int .u8 0, .int .u8 0, .int .u8 0, .int .u8 0, .int .u8 0, .int .u8 0, .int .u8 0, .int .u8 0], 194⟩,
  Option.some ⟨.int .u64, 1, 8, false, [(.int .u64)], [.int .u64 0], 195⟩,
  Option.some ⟨.other, 1, 8, false, [.any], [.nilFunc], 196⟩,
  Option.some ⟨.other, 1, 8, false, [.any], [.nilFunc], 197⟩,
  none,
  Option.some ⟨.other, 1, 8, false, [.any], [.nilFunc], 199⟩,
  Option.some ⟨.ptr 202, 1, 8, false, [.any], [.pointer none], 200⟩,
  Option.some ⟨.struct [(200, 0), (145, 1)], 2, 32, true, [.any, (.slice ⟨true, 5⟩ 1)], [.pointer none, .slice none 0 0], 201⟩,
  Option.some ⟨.struct [(200, 0), (145, 1)], 2, 32, true, [.any, (.slice ⟨true, 5⟩ 1)], [.pointer none, .slice none 0 0], 202⟩,
  Option.some ⟨.other, 1, 8, false, [.any], [.nilFunc], 203⟩,
  none,
  Option.some ⟨.other, 1, 8, false, [.any], [.nilFunc], 205⟩,
  Option.some ⟨.other, 1, 8, false, [.any], [.nilFunc], 206⟩,
  Option.some ⟨.other, 1, 8, false, [.any], [.nilFunc], 207⟩,
  Option.some ⟨.int .u32, 1, 4, false, [(.int .u32)], [.int .u32 0], 208⟩,
  none,
  Option.some ⟨.other, 1, 8, false, [.any], [.nilFunc], 210⟩,
  none,
  Option.some ⟨.other, 1, 8, false, [.any], [.nilFunc], 212⟩,
  none,
  Option.some ⟨.other, 1, 8, false, [.any], [.nilFunc], 214⟩,
  Option.some ⟨.other, 1, 8, false, [.any], [.nilFunc], 215⟩,
  Option.some ⟨.arr 20 195, 20, 160, true, [(.int .u64), (.int .u64), (.int .u64), (.int .u64), (.int .u64), (.int .u64), (.int .u64), (.int .u64), (.int .u64), (.int .u64), (.int .u64), (.int .u64), (.int .u64), (.int .u64), (.int .u64), (.int .u64), (.int .u64), (.int .u64), (.int .u64), (.int .u64)], [.int .u64 0, .int .u64 0, .int .u64 0, .int .u64 0, .int .u64 0, .int .u64 0, .int .u64 0, .int .u64 0, .int .u64 0, .int .u64 0, .int .u64 0, .int .u64 0, .int .u64 0, .int .u64 0, .int .u64 0, .int .u64 0, .int .u64 0, .int .u64 0, .int .u64 0, .int .u64 0], 216⟩,
  Option.some ⟨.arr 65 5, 65, 65, true, [(.int .u8), (.int .u8), (.int .u8), (.int .u8), (.int .u8), (.int .u8), (.int .u8), (.int .u8), (.int .u8), (.int .u8), (.int .u8), (.int .u8), (.int .u8), (.int .u8), (.int .u8), (.int .u8), (.int .u8), (.int .u8), (.int .u8), (.int .u8), (.int .u8), (.int .u8), (.int .u8), (.int .u8), (.int .u8), (.int .u8), (.int .u8), (.int .u8), (.int .u8), (.int .u8), (.int .u8), (.int .u8), (.int .u8), (.int .u8), (.int .u8), (.int .u8), (.int .u8), (.int .u8), (.int .u8), (.int .u8), (.int .u8), (.int .u8), (.int .u8), (.int .u8), (.int .u8), (.int .u8), (.int .u8), (.int .u8), (.int .u8), (.int .u8), (.int .u8), (.int .u8), (.int .u8), (.int .u8), (.int .u8), (.int .u8), (.int .u8), (.int .u8), (.int .u8), (.int .u8), (.int .u8), (.int .u8), (.int .u8), (.int .u8), (.int .u8)], [.int .u8 0, .int .u8 0, .int .u8 0, .int .u8 0, .int .u8 0, .int .u8 0, .int .u8 0, .int .u8 0, .int .u8 0, .int .u8 0, .int .u8 0, .int .u8 0, .int .u8 0, .int .u8 0, .int .u8 0, .int .u8 0, .int .u8 0, .int .u8 0, .int .u8 0, .int .u8 0, .int .u8 0, .int .u8 0, .int .u8 0, .int .u8 0, .int .u8 0, .int .u8 0, .int .u8 0, .int .u8 0, .int .u8 0, .int .u8 0, .int .u8 0, .int .u8 0, .int .u8 0, .int .u8 0, .int .u8 0, .int .u8 0, .int .u8 0, .int .u8 0, .int .u8 0, .int .u8 0, .int .u8 0, .int .u8 0, .int .u8 0, .int .u8 0, .int .u8 0, .int .u8 0, .int .u8 0, .int .u8 0, .int .u8 0, .int .u8 0, .int .u8 0, .int .u8 0, .int .u8 0, .int .u8 0, .int .u8 0, .int .u8 0, .int .u8 0, .int .u8 0, .int .u8 0, .int .u8 0, .int .u8 0, .int .u8 0, .int .u8 0, .int .u8 0, .int .u8 0], 217⟩,
  Option.some ⟨.other, 1, 8, false, [.any], [.nilFunc], 218⟩,
  Option.some ⟨.ptr 5, 1, 8, false, [.any], [.pointer none], 219⟩,
  none,
  none,
  Option.some ⟨.other, 1, 8, false, [.any], [.nilFunc], 222⟩,
  Option.some ⟨.ptr 245, 1, 8, false, [.any], [.pointer none], 223⟩,
  Option.some ⟨.other, 1, 8, false, [.any], [.nilFunc], 224⟩,
  Option.some ⟨.other, 1, 8, false, [.any], [.nilFunc], 225⟩,
  Option.some ⟨.other, 1, 8, false, [.any], [.nilFunc], 226⟩,
  Option.some ⟨.other, 1, 8, false, [.any], [.nilFunc], 227⟩,
  Option.some ⟨.arr 256 4, 256, 256, true, [.bool, .bool, .bool, .bool, .bool, .bool, .bool, .bool, .bool, .bool, .bool, .bool, .bool, .bool, .bool, .bool, .bool, .bool, .bool, .bool, .bool, .bool, .bool, .bool, .bool, .bool, .bool, .bool, .bool, .bool, .bool, .bool, .bool, .bool, .bool, .bool, .bool, .bool, .bool, .bool, .bool, .bool, .bool, .bool, .bool, .bool, .bool, .bool, .bool, .bool, .bool, .bool, .bool, .bool, .bool, .bool, .bool, .bool, .bool, .bool, .bool, .bool, .bool, .bool, .bool, .bool, .bool, .bool, .bool, .bool, .bool, .bool, .bool, .bool, .bool, .bool, .bool, .bool, .bool, .bool, .bool, .bool, .bool, .bool, .bool, .bool, .bool, .bool, .bool, .bool, .bool, .bool, .bool, .bool, .bool, .bool, .bool, .bool, .bool, .bool, .bool, .bool, .bool, .bool, .bool, .bool, .bool, .bool, .bool, .bool, .bool, .bool, .bool, .bool, .bool, .bool, .bool, .bool, .bool, .bool, .bool, .bool, .bool, .bool, .bool, .bool, .bool, .bool, .bool, .bool, .bool, .bool, .bool, .bool, .bool, .bool, .bool, .bool, .bool, .bool, .bool, .bool, .bool, .bool, .bool, .bool, .bool, .bool, .bool, .bool, .bool, .bool, .bool, .bool, .bool, .bool, .bool, .bool, .bool, .bool, .bool, .bool, .bool, .bool, .bool, .bool, .bool, .bool, .bool, .bool, .bool, .bool, .bool, .bool, .bool, .bool, .bool, .bool, .bool, .bool, .bool, .bool, .bool, .bool, .bool, .bool, .bool, .bool, .bool, .bool, .bool, .bool, .bool, .bool, .bool, .bool, .bool, .bool, .bool, .bool, .bool, .bool, .bool, .bool, .bool, .bool, .bool, .bool, .bool, .bool, .bool, .bool, .bool, .bool, .bool, .bool, .bool, .bool, .bool, .bool, .bool, .bool, .bool, .bool, .bool, .bool, .bool, .bool, .bool, .bool, .bool, .bool, .bool, .bool, .bool, .bool, .bool, .bool, .bool, .bool, .bool, .bool, .bool, .bool, .bool, .bool, .bool, .bool, .bool, .bool, .bool, .bool, .bool, .bool, .bool, .bool], [.bool false, .bool false, .bool false, .bool false, .bool false, .bool false, .bool false, .bool false, .bool false, .bool false, .bool false, .bool false, .bool false, .bool false, .bool false, .bool false, .bool false, .bool false, .bool false, .bool false, .bool false, .bool false, .bool false, .bool false, .bool false, .bool false, .bool false, .bool false, .bool false, .bool false, .bool false, .bool false, .bool false, .bool false, .bool false, .bool false, .bool false, .bool false, .bool false, .bool false, .bool false, .bool false, .bool false, .bool false, .bool false, .bool false, .bool false, .bool false, .bool false, .bool false, .bool false, .bool false, .bool false, .bool false, .bool false, .bool false, .bool false, .bool false, .bool false, .bool false, .bool false, .bool false, .bool false, .bool false, .bool false, .bool false, .bool false, .bool false, .bool false, .bool false, .bool false, .bool false, .bool false, .bool false, .bool false, .bool false, .bool false, .bool false, .bool false, .bool false, .bool false, .bool false, .bool false, .bool false, .bool false, .bool false, .bool false, .bool false, .bool false, .bool false, .bool false, .bool false, .bool false, .bool false, .bool false, .bool false, .bool false, .bool false, .bool false, .bool false, .bool false, .bool false, .bool false, .bool false, .bool false, .bool false, .bool false, .bool false, .bool false, .bool false, .bool false, .bool false, .bool false, .bool false, .bool false, .bool false, .bool false, .bool false, .bool false, .bool false, .bool false, .bool false, .bool false, .bool false, .bool false, .bool false, .bool false, .bool false, .bool false, .bool false, .bool false, .bool false, .bool false, .bool false, .bool false, .bool false, .bool false, .bool false, .bool false, .bool false, .bool false, .bool false, .bool false, .bool false, .bool false, .bool false, .bool false, .bool false, .bool false, .bool false, .bool false, .bool false, .bool false, .bool false, .bool false, .bool false, .bool false, .bool false, .bool false, .bool false, .bool false, .bool false, .bool false, .bool false, .bool false, .bool false, .bool false, .bool false, .bool false, .bool false, .bool false, .bool false, .bool false, .bool false, .bool false, .bool false, .bool false, .bool false, .bool false, .bool false, .bool false, .bool false, .bool false, .bool false, .bool false, .bool false, .bool false, .bool false, .bool false, .bool false, .bool false, .bool false, .bool false, .bool false, .bool false, .bool false, .bool false, .bool false, .bool false, .bool false, .bool false, .bool false, .bool false, .bool false, .bool false, .bool false, .bool false, .bool false, .bool false, .bool false, .bool false, .bool false, .bool false, .bool false, .bool false, .bool false, .bool false, .bool false, .bool false, .bool false, .bool false, .bool false, .bool false, .bool false, .bool false, .bool false, .bool false, .bool false, .bool false, .bool false, .bool false, .bool false, .bool false, .bool false, .bool false, .bool false, .bool false, .bool false, .bool false, .bool false, .bool false, .bool false, .bool false, .bool false, .bool false, .bool false, .bool false, .bool false, .bool false, .bool false, .bool false, .bool false, .bool false, .bool false, .bool false, .bool false], 228⟩,
  Option.some ⟨.arr 256 4, 256, 256, true, [.bool, .bool, .bool, .bool, .bool, .bool, .bool, .bool, .bool, .bool, .bool, .bool, .bool, .bool, .bool, .bool, .bool, .bool, .bool, .bool, .bool, .bool, .bool, .bool, .bool, .bool, .bool, .bool, .bool, .bool, .bool, .bool, .bool, .bool, .bool, .bool, .bool, .bool, .bool, .bool, .bool, .bool, .bool, .bool, .bool, .bool, .bool, .bool, .bool, .bool, .bool, .bool, .bool, .bool, .bool, .bool, .bool, .bool, .bool, .bool, .bool, .bool, .bool, .bool, .bool, .bool, .bool, .bool, .bool, .bool, .bool, .bool, .bool, .bool, .bool, .bool, .bool, .bool, .bool, .bool, .bool, .bool, .bool, .bool, .bool, .bool, .bool, .bool, .bool, .bool, .bool, .bool, .bool, .bool, .bool, .bool, .bool, .bool, .bool, .bool, .bool, .bool, .bool, .bool, .bool, .bool, .bool, .bool, .bool, .bool, .bool, .bool, .bool, .bool, .bool, .bool, .bool, .bool, .bool, .bool, .bool, .bool, .bool, .bool, .bool, .bool, .bool, .bool, .bool, .bool, .bool, .bool, .bool, .bool, .bool, .bool, .bool, .bool, .bool, .bool, .bool, .bool, .bool, .bool, .bool, .bool, .bool, .bool, .bool, .bool, .bool, .bool, .bool, .bool, .bool, .bool, .bool, .bool, .bool, .bool, .bool, .bool, .bool, .bool, .bool, .bool, .bool, .bool, .bool, .bool, .bool, .bool, .bool, .bool, .bool, .bool, .bool, .bool, .bool, .bool, .bool, .bool, .bool, .bool, .bool, .bool, .bool, .bool, .bool, .bool, .bool, .bool, .bool, .bool, .bool, .bool, .bool, .bool, .bool, .bool, .bool, .bool, .bool, .bool, .bool, .bool, .bool, .bool, .bool, .bool, .bool, .bool, .bool, .bool, .bool, .bool, .bool, .bool, .bool, .bool, .bool, .bool, .bool, .bool, .bool, .bool, .bool, .bool, .bool, .bool, .bool, .bool, .bool, .bool, .bool, .bool, .bool, .bool, .bool, .bool, .bool, .bool, .bool, .bool, .bool, .bool, .bool, .bool, .bool, .bool, .bool, .bool, .bool, .bool, .bool, .bool], [.bool false, .bool false, .bool false, .bool false, .bool false, .bool false, .bool false, .bool false, .bool false, .bool false, .bool false, .bool false, .bool false, .bool false, .bool false, .bool false, .bool false, .bool false, .bool false, .bool false, .bool false, .bool false, .bool false, .bool false, .bool false, .bool false, .bool false, .bool false, .bool false, .bool false, .bool false, .bool false, .bool false, .bool false, .bool false, .bool false, .bool false, .bool false, .bool false, .bool false, .bool false, .bool false, .bool false, .bool false, .bool false, .bool false, .bool false, .bool false, .bool false, .bool false, .bool false, .bool false, .bool false, .bool false, .bool false, .bool false, .bool false, .bool false, .bool false, .bool false, .bool false, .bool false, .bool false, .bool false, .bool false, .bool false, .bool false, .bool false, .bool false, .bool false, .bool false, .bool false, .bool false, .bool false, .bool false, .bool false, .bool false, .bool false, .bool false, .bool false, .bool false, .bool false, .bool false, .bool false, .bool false, .bool false, .bool false, .bool false, .bool false, .bool false, .bool false, .bool false, .bool false, .bool false, .bool false, .bool false, .bool false, .bool false, .bool false, .bool false, .bool false, .bool false, .bool false, .bool false, .bool false, .bool false, .bool false, .bool false, .bool false, .bool false, .bool false, .bool false, .bool false, .bool false, .bool false, .bool false, .bool false, .bool false, .bool false, .bool false, .bool false, .bool false, .bool false, .bool false, .bool false, .bool false, .bool false, .bool false, .bool false, .bool false, .bool false, .bool false, .bool false, .bool false, .bool false, .bool false, .bool false, .bool false, .bool false, .bool false, .bool false, .bool false, .bool false, .bool false, .bool false, .bool false, .bool false, .bool false, .bool false, .bool false, .bool false, .bool false, .bool false, .bool false, .bool false, .bool false, .bool false, .bool false, .bool false, .bool false, .bool false, .bool false, .bool false, .bool false, .bool false, .bool false, .bool false, .bool false, .bool false, .bool false, .bool false, .bool false, .bool false, .bool false, .bool false, .bool false, .bool false, .bool false, .bool false, .bool false, .bool false, .bool false, .bool false, .bool false, .bool false, .bool false, .bool false, .bool false, .bool false, .bool false, .bool false, .bool false, .bool false, .bool false, .bool false, .bool false, .bool false, .bool false, .bool false, .bool false, .bool false, .bool false, .bool false, .bool false, .bool false, .bool false, .bool false, .bool false, .bool false, .bool false, .bool false, .bool false, .bool false, .bool false, .bool false, .bool false, .bool false, .bool false, .bool false, .bool false, .bool false, .bool false, .bool false, .bool false, .bool false, .bool false, .bool false, .bool false, .bool false, .bool false, .bool false, .bool false, .bool false, .bool false, .bool false, .bool false, .bool false, .bool false, .bool false, .bool false, .bool false, .bool false, .bool false, .bool false, .bool false, .bool false, .bool false, .bool false, .bool false, .bool false, .bool false, .bool false, .bool false, .bool false, .bool false, .bool false], 229⟩,
  none,
  Option.some ⟨.other, 1, 8, false, [.any], [.nilFunc], 231⟩,
  Option.some ⟨.other, 1, 8, false, [.any], [.nilFunc], 232⟩,
  Option.some ⟨.ptr 229, 1, 8, false, [.any], [.pointer none], 233⟩,
  Option.some ⟨.other, 1, 8, false, [.any], [.nilFunc], 234⟩,
  none,
  Option.some ⟨.other, 1, 8, false, [.any], [.nilFunc], 236⟩,
  Option.some ⟨.other, 1, 8, false, [.any], [.nilFunc], 237⟩,
  Option.some ⟨.arr 256 5, 256, 256, true, [(.int .u8), (.int .u8), (.int .u8), (.int .u8), (.int .u8), (.int .u8), (.int .u8), (.int .u8), (.int .u8), (.int .u8), (.int .u8), (.int .u8), (.int .u8), (.int .u8), (.int .u8), (.int .u8), (.int .u8), (.int .u8), (.int .u8), (.int .u8), (.int .u8), (.int .u8), (.int .u8), (.int .u8), (.int .u8), (.int .u8), (.int .u8), (.int .u8), (.int .u8), (.int .u8), (.int .u8), (.int .u8), (.int .u8), (.int .u8), (.int .u8), (.int .u8), (.int .u8), (.int .u8), (.int .u8), (.int .u8), (.int .u8), (.int .u8), (.int .u8), (.int .u8), (.int .u8), (.int .u8), (.int .u8), (.int .u8), (.int .u8), (.int .u8), (.int .u8), (.int .u8), (.int .u8), (.int .u8), (.int .u8), (.int .u8), (.int .u8), (.int .u8), (.int .u8), (.int .u8), (.int .u8), (.int .u8), (.int .u8), (.int .u8), (.int .u8), (.int .u8), (.int .u8), (.int .u8), (.int .u8), (.int .u8), (.int .u8), (.int .u8), (.int .u8), (.int .u8), (.int .u8), (.int .u8), (.int .u8), (.int .u8), (.int .u8), (.int .u8), (.int .u8), (.int .u8), (.int .u8), (.int .u8), (.int .u8), (.int .u8), (.int .u8), (.int .u8), (.int .u8), (.int .u8), (.int .u8), (.int .u8), (.int .u8), (.int .u8), (.int .u8), (.int .u8), (.int .u8), (.int .u8), (.int .u8), (.int .u8), (.int .u8), (.int .u8), (.int .u8), (.int .u8), (.int .u8), (.int .u8), (.int .u8), (.int .u8), (.int .u8), (.int .u8), (.int .u8), (.int .u8), (.int .u8), (.int .u8), (.int .u8), (.int .u8), (.int .u8), (.int .u8), (.int .u8), (.int .u8), (.int .u8), (.int .u8), (.int .u8), (.int .u8), (.int .u8), (.int .u8), (.int .u8), (.int .u8), (.int .u8), (.int .u8), (.int .u8), (.int .u8), (.int .u8), (.int .u8), (.int .u8), (.int .u8), (.int .u8), (.int .u8), (.int .u8), (.int .u8), (.int .u8), (.int .u8), (.int .u8), (.int .u8), (.int .u8), (.int .u8), (.int .u8), (.int .u8), (.int .u8), (.int .u8), (.int .u8), (.int .u8), (.int .u8), (.int .u8), (.int .u8), (.int .u8), (.int .u8), (.int .u8), (.int .u8), (.int .u8), (.int .u8), (.int .u8), (.int .u8), (.int .u8), (.int .u8), (.int .u8), (.int .u8), (.int .u8), (.int .u8), (.int .u8), (.int .u8), (.int .u8), (.int .u8), (.int .u8), (.int .u8), (.int .u8), (.int .u8), (.int .u8), (.int .u8), (.int .u8), (.int .u8), (.int .u8), (.int .u8), (.int .u8), (.int .u8), (.int .u8), (.int .u8), (.int .u8), (.int .u8), (.int .u8), (.int .u8), (.int .u8), (.int .u8), (.int .u8), (.int .u8), (.int .u8), (.int .u8), (.int .u8), (.int .u8), (.int .u8), (.int .u8), (.int .u8), (.int .u8), (.int .u8), (.int .u8), (.int .u8), (.int .u8), (.int .u8), (.int .u8), (.int .u8), (.int .u8), (.int .u8), (.int .u8), (.int .u8), (.int .u8), (.int .u8), (.int .u8), (.int .u8), (.int .u8), (.int .u8), (.int .u8), (.int .u8), (.int .u8), (.int .u8), (.int .u8), (.int .u8), (.int .u8), (.int .u8), (.int .u8), (.int .u8), (.int .u8), (.int .u8), (.int .u8), (.int .u8), (.int .u8), (.int .u8), (.int .u8), (.int .u8), (.int .u8), (.int .u8), (.int .u8), (.int .u8), (.int .u8), (.int .u8), (.int .u8), (.int .u8), (.int .u8), (.int .u8), (.int .u8), (.int .u8), (.int .u8), (.int .u8), (.int .u8), (.int .u8), (.int .u8), (.int .u8)], [.int .u8 0, .int .u8 0, .int .u8 0, .int .u8 0, .int .u8 0, .int .u8 0, .int .u8 0, .int .u8 0, .int .u8 0, .int .u8 0, .int .u8 0, .int .u8 0, .int .u8 0, .int .u8 0, .int .u8 0, .int .u8 0, .int .u8 0, .int .u8 0, .int .u8 0, .int .u8 0, .int .u8 0, .int .u8 0, .int .u8 0, .int .u8 0, .int .u8 0, .int .u8 0, .int .u8 0, .int .u8 0, .int .u8 0, .int .u8 0, .int .u8 0, .int .u8 0, .int .u8 0, .int .u8 0, .int .u8 0, .int .u8 0, .int .u8 0, .int .u8 0, .int .u8 0, .int .u8 0, .int .u8 0, .int .u8 0, .int .u8 0, .int .u8 0, .int .u8 0, .int .u8 0, .int .u8 0, .int .u8 0, .int .u8 0, .int .u8 0, .int .u8 0, .int .u8 0, .int .u8 0, .int .u8 0, .int .u8 0, .int .u8 0, .int .u8 0, .int .u8 0, .int .u8 0, .int .u8 0, .int .u8 0, .int .u8 0, .int .u8 0, .int .u8 0, .int .u8 0, .int .u8 0, .int .u8 0, .int .u8 0, .int .u8 0, .int .u8 0, .int .u8 0, .int .u8 0, .int .u8 0, .int .u8 0, .int .u8 0, .int .u8 0, .int .u8 0, .int .u8 0, .int .u8 0, .int .u8 0, .int .u8 0, .int .u8 0, .int .u8 0, .int .u8 0, .int .u8 0, .int .u8 0, .int .u8 0, .int .u8 0, .int .u8 0, .int .u8 0, .int .u8 0, .int .u8 0, .int .u8 0, .int .u8 0, .int .u8 0, .int .u8 0, .int .u8 0, .int .u8 0, .int .u8 0, .int .u8 0, .int .u8 0, .int .u8 0, .int .u8 0, .int .u8 0, .int .u8 0, .int .u8 0, .int .u8 0, .int .u8 0, .int .u8 0, .int .u8 0, .int .u8 0, .int .u8 0, .int .u8 0, .int .u8 0, .int .u8 0, .int .u8 0, .int .u8 0, .int .u8 0, .int .u8 0, .int .u8 0, .int .u8 0, .int .u8 0, .int .u8 0, .int .u8 0, .int .u8 0, .int .u8 0, .int .u8 0, .int .u8 0, .int .u8 0, .int .u8 0, .int .u8 0, .int .u8 0, .int .u8 0, .int .u8 0, .int .u8 0, .int .u8 0, .int .u8 0, .int .u8 0, .int .u8 0, .int .u8 0, .int .u8 0, .int .u8 0, .int .u8 0, .int .u8 0, .int .u8 0, .int .u8 0, .int .u8 0, .int .u8 0, .int .u8 0, .int .u8 0, .int .u8 0, .int .u8 0, .int .u8 0, .int .u8 0, .int .u8 0, .int .u8 0, .int .u8 0, .int .u8 0, .int .u8 0, .int .u8 0, .int .u8 0, .int .u8 0, .int .u8 0, .int .u8 0, .int .u8 0, .int .u8 0, .int .u8 0, .int .u8 0, .int .u8 0, .int .u8 0, .int .u8 0, .int .u8 0, .int .u8 0, .int .u8 0, .int .u8 0, .int .u8 0, .int .u8 0, .int .u8 0, .int .u8 0, .int .u8 0, .int .u8 0, .int .u8 0, .int .u8 0, .int .u8 0, .int .u8 0, .int .u8 0, .int .u8 0, .int .u8 0, .int .u8 0, .int .u8 0, .int .u8 0, .int .u8 0, .int .u8 0, .int .u8 0, .int .u8 0, .int .u8 0, .int .u8 0, .int .u8 0, .int .u8 0, .int .u8 0, .int .u8 0, .int .u8 0, .int .u8 0, .int .u8 0, .int .u8 0, .int .u8 0, .int .u8 0, .int .u8 0, .int .u8 0, .int .u8 0, .int .u8 0, .int .u8 0, .int .u8 0, .int .u8 0, .int .u8 0, .int .u8 0, .int .u8 0, .int .u8 0, .int .u8 0, .int .u8 0, .int .u8 0, .int .u8 0, .int .u8 0, .int .u8 0, .int .u8 0, .int .u8 0, .int .u8 0, .int .u8 0, .int .u8 0, .int .u8 0, .int .u8 0, .int .u8 0, .int .u8 0, .int .u8 0, .int .u8 0, .int .u8 0, .int .u8 0, .int .u8 0, .int .u8 0, .int .u8 0, .int .u8 0, .int .u8 0, .int .u8 0, .int .u8 0, .int .u8 0, .int .u8 0, .int .u8 0, .int .u8 0, .int .u8 0, .int .u8 0, .int .u8 0, .int .u8 0, .int .u8 0, .int .u8 0, .int .u8 0, .int .u8 0], 238⟩,
  Option.some ⟨.struct [(5, 0), (5, 1)], 2, 2, true, [(.int .u8), (.int .u8)], [.int .u8 0, .int .u8 0], 239⟩,
  Option.some ⟨.struct [(5, 0), (5, 1)], 2, 2, true, [(.int .u8), (.int .u8)], [.int .u8 0, .int .u8 0], 240⟩,
  Option.some ⟨.arr 16 240, 32, 32, true, [(.int .u8), (.int .u8), (.int .u8), (.int .u8), (.int .u8), (.int .u8), (.int .u8), (.int .u8), (.int .u8), (.int .u8), (.int .u8), (.int .u8), (.int .u8), (.int .u8), (.int .u8), (.int .u8), (.int .u8), (.int .u8), (.int .u8), (.int .u8), (.int .u8), (.int .u8), (.int .u8), (.int .u8), (.int .u8), (.int .u8), (.int .u8), (.int .u8), (.int .u8), (.int .u8), (.int .u8), (.int .u8)], [.int .u8 0, .int .u8 0, .int .u8 0, .int .u8 0, .int .u8 0, .int .u8 0, .int .u8 0, .int .u8 0, .int .u8 0, .int .u8 0, .int .u8 0, .int .u8 0, .int .u8 0, .int .u8 0, .int .u8 0, .int .u8 0, .int .u8 0, .int .u8 0, .int .u8 0, .int .u8 0, .int .u8 0, .int .u8 0, .int .u8 0, .int .u8 0, .int .u8 0, .int .u8 0, .int .u8 0, .int .u8 0, .int .u8 0, .int .u8 0, .int .u8 0, .int .u8 0], 241⟩,
  none,
  Option.some ⟨.other, 1, 8, false, [.any], [.nilFunc], 243⟩,
  Option.some ⟨.struct [(9, 0), (9, 1), (180, 2)], 3, 48, true, [.str, .str, .any], [.string ⟨#[]⟩, .string ⟨#[]⟩, .nilIface], 244⟩,
  Option.some ⟨.struct [(9, 0), (9, 1), (180, 2)], 3, 48, true, [.str, .str, .any], [.string ⟨#[]⟩, .string ⟨#[]⟩, .nilIface], 245⟩,
  Option.some ⟨.other, 1, 8, false, [.any], [.nilFunc], 246⟩,
  Option.some ⟨.other, 1, 8, false, [.any], [.nilFunc], 247⟩,
  Option.some ⟨.other, 1, 8, false, [.any], [.nilFunc], 248⟩,
  Option.some ⟨.arr 32 5, 32, 32, true, [(.int .u8), (.int .u8), (.int .u8), (.int .u8), (.int .u8), (.int .u8), (.int .u8), (.int .u8), (.int .u8), (.int .u8), (.int .u8), (.int .u8), (.int .u8), (.int .u8), (.int .u8), (.int .u8), (.int .u8), (.int .u8), (.int .u8), (.int .u8), (.int .u8), (.int .u8), (.int .u8), (.int .u8), (.int .u8), (.int .u8), (.int .u8), (.int .u8), (.int .u8), (.int .u8), (.int .u8), (.int .u8)], [.int .u8 0, .int .u8 0, .int .u8 0, .int .u8 0, .int .u8 0, .int .u8 0, .int .u8 0, .int .u8 0, .int .u8 0, .int .u8 0, .int .u8 0, .int .u8 0, .int .u8 0, .int .u8 0, .int .u8 0, .int .u8 0, .int .u8 0, .int .u8 0, .int .u8 0, .int .u8 0, .int .u8 0, .int .u8 0, .int .u8 0, .int .u8 0, .int .u8 0, .int .u8 0, .int .u8 0, .int .u8 0, .int .u8 0, .int .u8 0, .int .u8 0, .int .u8 0], 249⟩,
  Option.some ⟨.arr 64 5, 64, 64, true, [(.int .u8), (.int .u8), (.int .u8), (.int .u8), (.int .u8), (.int .u8), (.int .u8), (.int .u8), (.int .u8), (.int .u8), (.int .u8), (.int .u8), (.int .u8), (.int .u8), (.int .u8), (.int .u8), (.int .u8), (.int .u8), (.int .u8), (.int .u8), (.int .u8), (.int .u8), (.int .u8), (.int .u8), (.int .u8), (.int .u8), (.int .u8), (.int .u8), (.int .u8), (.int .u8), (.int .u8), (.int .u8), (.int .u8), (.int .u8), (.int .u8), (.int .u8), (.int .u8), (.int .u8), (.int .u8), (.int .u8), (.int .u8), (.int .u8), (.int .u8), (.int .u8), (.int .u8), (.int .u8), (.int .u8), (.int .u8), (.int .u8), (.int .u8), (.int .u8), (.int .u8), (.int .u8), (.int .u8), (.int .u8), (.int .u8), (.int .u8), (.int .u8), (.int .u8), (.int .u8), (.int .u8), (.int .u8), (.int .u8), (.int .u8)], [.int .u8 0, .int .u8 0, .int .u8 0, .int .u8 0, .int .u8 0, .int .u8 0, .int .u8 0, .int .u8 0, .int .u8 0, .int .u8 0, .int .u8 0, .int .u8 0, .int .u8 0, .int .u8 0, .int .u8 0, .int .u8 0, .int .u8 0, .int .u8 0, .int .u8 0, .int .u8 0, .int .u8 0, .int .u8 0, .int .u8 0, .int .u8 0, .int .u8 0, .int .u8 0, .int .u8 0, .int .u8 0, .int .u8 0, .int .u8 0, .int .u8 0, .int .u8 0, .int .u8 0, .int .u8 0, .int .u8 0, .int .u8 0, .int .u8 0, .int .u8 0, .int .u8 0, .int .u8 0, .int .u8 0, .int .u8 0, .int .u8 0, .int .u8 0, .int .u8 0, .int .u8 0, .int .u8 0, .int .u8 0, .int .u8 0, .int .u8 0, .int .u8 0, .int .u8 0, .int .u8 0, .int .u8 0, .int .u8 0, .int .u8 0, .int .u8 0, .int .u8 0, .int .u8 0, .int .u8 0, .int .u8 0, .int .u8 0, .int .u8 0, .int .u8 0], 250⟩,
  Option.some ⟨.other, 1, 8, false, [.any], [.nilFunc], 251⟩,
  Option.some ⟨.ptr 254, 1, 8, false, [.any], [.pointer none], 252⟩,
  Option.some ⟨.struct [(9, 0)], 1, 16, true, [.str], [.string ⟨#[]⟩], 253⟩,
  Option.some ⟨.struct [(9, 0)], 1, 16, true, [.str], [.string ⟨#[]⟩], 254⟩,
  Option.some ⟨.other, 1, 8, false, [.any], [.nilFunc], 255⟩,
  Option.some ⟨.other, 1, 8, false, [.any], [.nilFunc], 256⟩,
  none,
  none,
  Option.some ⟨.arr 0 16, 0, 0, true, [], [], 259⟩,
  none,
  none,
  Option.some ⟨.other, 1, 8, false, [.any], [.nilFunc], 262⟩,
  none,
  none,
  Option.some ⟨.other, 1, 8, false, [.any], [.nilFunc], 265⟩,
  none,
  none,
  none,
  none]
noncomputable def params (f : FuncId) : List TypeId := match f with | 0 => [] | 1 => [] | 2 => [] | 3 => [9] | 4 => [36] | 5 => [23] | 6 => [50] | 7 => [50, 23] | 8 => [9, 63] | 9 => [63, 63, 9] | 10 => [36, 74, 23] | 11 => [36, 74] | 12 => [] | 13 => [9] | 14 => [9] | 15 => [23, 23] | 16 => [36] | 17 => [36] | 18 => [36] | 19 => [36] | 20 => [23] | 21 => [23] | 22 => [23] | 23 => [23] | 24 => [50, 50] | 25 => [50] | 26 => [50] | 27 => [50] | 28 => [50] | 29 => [50] | 30 => [9] | 31 => [9] | 32 => [63] | 33 => [63] | 34 => [63] | 35 => [74] | 36 => [36, 74] | 37 => [74] | 38 => [48] | 39 => [36, 74] | 40 => [36, 74] | 41 => [46, 46] | 42 => [36, 74] | 43 => [] | 44 => [144] | 45 => [4, 24] | 46 => [9] | 47 => [9] | 48 => [3, 3, 3] | 49 => [9] | 50 => [33] | 51 => [9] | 52 => [36] | 53 => [36] | 54 => [36] | 55 => [36] | 56 => [33, 23] | 57 => [36] | 58 => [36] | 59 => [9] | 60 => [23, 9] | 61 => [36, 9] | 62 => [36] | 63 => [36, 100] | 64 => [113, 23] | 65 => [113, 23] | 66 => [50] | 67 => [118, 23, 3] | 68 => [50] | 69 => [48, 48] | 70 => [36, 36] | 71 => [48] | 72 => [50] | 73 => [9, 9, 9, 4] | 74 => [63] | 75 => [33] | 76 => [3] | 77 => [100] | 78 => [23, 30] | 79 => [9] | 80 => [48] | 81 => [3] | 82 => [100] | 83 => [9] | 84 => [63] | 85 => [] | 86 => [9] | 87 => [3] | 88 => [4] | 89 => [36, 74] | 90 => [48] | 91 => [48] | 92 => [74, 9] | 93 => [36, 74, 3, 9] | 94 => [63, 102] | 95 => [46] | 96 => [9, 5] | 97 => [9] | 98 => [9, 9] | 99 => [9, 23] | 100 => [3, 3, 3] | 101 => [149, 4] | 102 => [23, 9] | 103 => [104, 23] | 104 => [5] | 105 => [5] | 106 => [9, 9] | 107 => [113, 23] | 108 => [113, 23] | 109 => [113, 23] | 110 => [113, 23] | 111 => [113, 23] | 112 => [113, 23] | 113 => [23] | 114 => [36] | 115 => [48] | 116 => [9] | 117 => [9] | 118 => [118, 23] | 119 => [118, 23] | 120 => [33, 33] | 121 => [3] | 122 => [9, 9, 9] | 123 => [23, 30] | 124 => [] | 125 => [9] | 126 => [9] | 127 => [3, 3, 3] | 128 => [144] | 129 => [4, 24] | 130 => [9] | 131 => [74] | 132 => [74, 122] | 133 => [48] | 134 => [48, 9] | 135 => [97, 74] | 136 => [102, 63] | 137 => [44] | 138 => [46] | 139 => [48] | 140 => [46, 9] | 141 => [63, 102] | 142 => [63] | 143 => [9, 5] | 144 => [149, 4] | 145 => [23, 9] | 146 => [9, 9] | 147 => [9] | 148 => [9] | 149 => [9] | 150 => [9] | 151 => [2, 3] | 152 => [9, 9, 9, 3] | 153 => [9] | 154 => [74, 122] | 155 => [48] | 156 => [44, 185] | 157 => [125] | 158 => [63, 102] | 159 => [63] | 160 => [46] | 161 => [63] | 162 => [9, 5] | 163 => [9, 9] | 164 => [3] | 165 => [9, 9] | 166 => [9] | 167 => [9] | 168 => [3] | 169 => [195] | 170 => [145, 195] | 171 => [145, 195, 3, 4, 4] | 172 => [9, 9] | 173 => [200, 3] | 174 => [200, 9] | 175 => [9] | 176 => [200] | 177 => [9] | 178 => [9, 9, 3, 3, 180] | 179 => [3] | 180 => [63] | 181 => [3] | 182 => [9] | 183 => [9] | 184 => [9, 9] | 185 => [9, 9] | 186 => [3] | 187 => [195] | 188 => [4] | 189 => [3] | 190 => [189] | 191 => [9] | 192 => [9, 5] | 193 => [200] | 194 => [200, 3] | 195 => [9] | 196 => [9, 3, 3] | 197 => [9, 9] | 198 => [9, 9] | 199 => [9, 9, 3] | 200 => [9, 9, 3] | 201 => [9, 3] | 202 => [9, 9] | 203 => [9, 5] | 204 => [9] | 205 => [9, 233] | 206 => [9, 9] | 207 => [208] | 208 => [195] | 210 => [3] | 211 => [9, 3, 3] | 212 => [9] | 213 => [9] | 214 => [9, 3] | 215 => [233, 5] | 216 => [9, 21] | 217 => [5] | 218 => [9] | 219 => [9, 21] | 220 => [21] | 221 => [8] | 222 => [8] | 223 => [10] | 224 => [10] | 225 => [11] | 226 => [11] | 227 => [14] | 228 => [14] | 229 => [15] | 230 => [15] | 231 => [16] | 232 => [16] | 233 => [17] | 234 => [19] | 235 => [19] | 236 => [200] | 237 => [220] | 238 => [223] | 239 => [252] | 240 => [264] | 241 => [] | 242 => [] | 243 => [] | 244 => [] | 245 => [] | 246 => [] | 247 => [] | 248 => [] | 249 => [] | 250 => [] | 251 => [] | 252 => [] | _ => []
def gr0 : List AV := [vs (⟨#[69, 81]⟩ : ByteArray), vs (⟨#[78, 69]⟩ : ByteArray), vs (⟨#[76, 84]⟩ : ByteArray), vs (⟨#[76, 69]⟩ : ByteArray), vs (⟨#[71, 84]⟩ : ByteArray), vs (⟨#[71, 69]⟩ : ByteArray)]
def glist : List (Nat × List AV) := [(0, [.sl ⟨true, 9⟩ 1 gr0])]
noncomputable def G : Cfg := ⟨fun t => (tabL[t]?).join, globL glist, params, 0⟩
theorem mixed : Tryz.prog.follows .mixedOrders = true := by kernel_rfl
/-- The variables that hold errors, those that hold tables, and what others hold, when a law is entered. -/
instance rooted : Rooted Tryz.prog := gents Tryz.prog ["strconv.ErrSyntax", "strconv.ErrRange"] [("internal/strconv.uint64pow10", .u64, Lib.pow10Tab)] glist
theorem globs (R0 : World) (hQ : Rooted.Q Tryz.prog R0) : Globs G R0 := by
  have h : Sents Tryz.prog _ R0 ∧ Tabs Tryz.prog _ R0 ∧ GlobsL glist R0 := hQ
  exact h.2.2.globs rfl
theorem tabL_len : tabL.length = 270 := by kernel_rfl
theorem tabG : G.tab = fun t => (tabL[t]?).join := rfl
theorem cfg : CfgOk Tryz.prog G := by
  refine cfgOk_of (n := 270) (fun t ht => ?_) (by kernel_rfl)
  have h : tabL[t]? = none := List.getElem?_eq_none (by rw [tabL_len]; exact ht)
  rw [tabG]
  simp only [h]
  rfl
end Go.Proofs.YtmpglmcjoelciaaGreatDoor.Ev

/-
  DERIVED: THE SHELF's CONTRACTS AT THIS DUMP, IN PLAIN WORDS (tools/lay-plain.mjs out of 'YtmpglmcjoelciaaGreatDoorS.lean', which tools/lay-shelf.mjs wrote): THE SAME DECLARATIONS UNDER THE SAME NAMES: 'import', 'namespace', 'open', 'def', 'theorem' AND NOTHING ELSE: no command of the shelf's: FOR A HAND-IN. Each laying: the table of numbers ('.._ren') and one theorem, a field a fact of the dump's own or the kernel's comparison; each contract: ONE APPLICATION.
-/
namespace Go.Proofs
open Go.Shelf
def Tryz.lays137_ren : Go.Shelf.Ren := ⟨fun | 137 => 96 | 217 => 143 | 266 => 162 | n => n, fun | 9 => 9 | 5 => 5 | 3 => 3 | n => n, fun | n => n⟩
theorem Tryz.lays137 : Go.Proofs.Lays.n137 Tryz.prog Tryz.lays137_ren := {
  mixed := by kernel_rfl
  f137 := Tryz.func96.trans (congrArg some (by kernel_rfl))
  f217 := Tryz.func143.trans (congrArg some (by kernel_rfl))
  f266 := Tryz.func162.trans (congrArg some (by kernel_rfl))
  t3 := Tryz.underlying3
  a3 := Tryz.isAgg3
  z3 := Tryz.sizeOf3
  v3 := Tryz.zeroValue3
  t5 := Tryz.underlying5
  a5 := Tryz.isAgg5
  z5 := Tryz.sizeOf5
  v5 := Tryz.zeroValue5
  t9 := Tryz.underlying9
  a9 := Tryz.isAgg9
  z9 := Tryz.sizeOf9
  v9 := Tryz.zeroValue9 }
open Go.RowKit in
theorem Tryz.strings_IndexByte (s : ByteArray) (c : Int) (w : World) :
    Calls Tryz.prog 96 #[.string s, .int .u8 c] w fun e w' => e = .returned (.int .i64 (Lib.indexByte s.data.toList c.toNat.toUInt8)) ∧ w' = w := Any.strings_IndexByte Tryz.lays137 s c w
def Tryz.laysM171_ren : Go.Shelf.Ren := ⟨fun | 171 => 76 | 243 => 121 | 246 => 151 | 283 => 168 | 284 => 169 | 285 => 170 | 286 => 171 | 129 => 187 | 317 => 186 | 318 => 188 | 319 => 189 | 320 => 190 | 337 => 207 | 338 => 208 | n => n, fun | 3 => 3 | 9 => 9 | 2 => 2 | 4 => 4 | 171 => 194 | 0 => 0 | 53 => 195 | 37 => 145 | 5 => 5 | 173 => 198 | 212 => 216 | 51 => 208 | 20 => 20 | 213 => 217 | 46 => 189 | 232 => 249 | 233 => 250 | n => n, fun | 17 => 2 | 18 => 7 | 19 => 8 | n => n⟩
theorem Tryz.laysM171 : Go.Proofs.LaysM.n171 Tryz.prog Tryz.laysM171_ren := {
  mixed := by kernel_rfl
  f129 := Tryz.func187.trans (congrArg some (by kernel_rfl))
  f171 := Tryz.func76.trans (congrArg some (by kernel_rfl))
  f243 := Tryz.func121.trans (congrArg some (by kernel_rfl))
  f246 := Tryz.func151.trans (congrArg some (by kernel_rfl))
  f283 := Tryz.func168.trans (congrArg some (by kernel_rfl))
  f284 := Tryz.func169.trans (congrArg some (by kernel_rfl))
  f285 := Tryz.func170.trans (congrArg some (by kernel_rfl))
  f286 := Tryz.func171.trans (congrArg some (by kernel_rfl))
  f317 := Tryz.func186.trans (congrArg some (by kernel_rfl))
  f318 := Tryz.func188.trans (congrArg some (by kernel_rfl))
  f319 := Tryz.func189.trans (congrArg some (by kernel_rfl))
  f320 := Tryz.func190.trans (congrArg some (by kernel_rfl))
  f337 := Tryz.func207.trans (congrArg some (by kernel_rfl))
  f338 := Tryz.func208.trans (congrArg some (by kernel_rfl))
  t0 := Tryz.underlying0
  a0 := Tryz.isAgg0
  z0 := Tryz.sizeOf0
  v0 := Tryz.zeroValue0
  t2 := Tryz.underlying2
  a2 := Tryz.isAgg2
  z2 := Tryz.sizeOf2
  v2 := Tryz.zeroValue2
  t3 := Tryz.underlying3
  a3 := Tryz.isAgg3
  z3 := Tryz.sizeOf3
  v3 := Tryz.zeroValue3
  t4 := Tryz.underlying4
  a4 := Tryz.isAgg4
  z4 := Tryz.sizeOf4
  v4 := Tryz.zeroValue4
  t5 := Tryz.underlying5
  a5 := Tryz.isAgg5
  z5 := Tryz.sizeOf5
  v5 := Tryz.zeroValue5
  t9 := Tryz.underlying9
  a9 := Tryz.isAgg9
  z9 := Tryz.sizeOf9
  v9 := Tryz.zeroValue9
  t20 := Tryz.underlying20
  a20 := Tryz.isAgg20
  z20 := Tryz.sizeOf20
  v20 := Tryz.zeroValue20
  t37 := Tryz.underlying145
  a37 := Tryz.isAgg145
  z37 := Tryz.sizeOf145
  v37 := Tryz.zeroValue145
  t46 := Tryz.underlying189
  a46 := Tryz.isAgg189
  z46 := Tryz.sizeOf189
  v46 := Tryz.zeroValue189
  t51 := Tryz.underlying208
  a51 := Tryz.isAgg208
  z51 := Tryz.sizeOf208
  v51 := Tryz.zeroValue208
  t53 := Tryz.underlying195
  a53 := Tryz.isAgg195
  z53 := Tryz.sizeOf195
  v53 := Tryz.zeroValue195
  t171 := Tryz.underlying194
  a171 := Tryz.isAgg194
  z171 := Tryz.sizeOf194
  v171 := Tryz.zeroValue194
  t173 := Tryz.underlying198
  a173 := Tryz.isAgg198
  z173 := Tryz.sizeOf198
  v173 := Tryz.zeroValue198
  t212 := Tryz.underlying216
  a212 := Tryz.isAgg216
  z212 := Tryz.sizeOf216
  v212 := Tryz.zeroValue216
  t213 := Tryz.underlying217
  a213 := Tryz.isAgg217
  z213 := Tryz.sizeOf217
  t232 := Tryz.underlying249
  a232 := Tryz.isAgg249
  z232 := Tryz.sizeOf249
  v232 := Tryz.zeroValue249
  t233 := Tryz.underlying250
  a233 := Tryz.isAgg250
  z233 := Tryz.sizeOf250
  v233 := Tryz.zeroValue250
  g17 := by kernel_rfl
  g18 := by kernel_rfl
  g19 := by kernel_rfl
  i0 := by kernel_rfl
  i2 := by kernel_rfl
  i3 := by kernel_rfl
  i4 := by kernel_rfl
  i5 := by kernel_rfl
  i9 := by kernel_rfl
  i20 := by kernel_rfl
  i37 := by kernel_rfl
  i46 := by kernel_rfl
  i51 := by kernel_rfl
  i53 := by kernel_rfl
  i171 := by kernel_rfl
  i173 := by kernel_rfl
  i212 := by kernel_rfl
  i232 := by kernel_rfl
  i233 := by kernel_rfl
  m17 := by kernel_rfl
  m18 := by kernel_rfl
  m19 := by kernel_rfl }
open Go.RowKit Go.Sort Go.Lib in
theorem Tryz.strconv_Itoa (n : Int) (h0 : -9223372036854775808 ≤ n) (h1 : n ≤ 9223372036854775807) (w : World) (htab : Lib.TabIs Tryz.prog w "internal/strconv.uint64pow10" .u64 Lib.pow10Tab) :
    Calls Tryz.prog 76 #[.int .i64 n] w fun e w' => e = .returned (.string ⟨(Lib.itoa n).toArray⟩) ∧ ∃ k os, w' = grow (w.drewN k) os := Any.strconv_Itoa Tryz.laysM171 n h0 h1 w htab
def Tryz.laysM145_ren : Go.Shelf.Ren := ⟨fun | 145 => 184 | 220 => 202 | 219 => 146 | 217 => 143 | 225 => 163 | 224 => 164 | 267 => 165 | 266 => 162 | 314 => 182 | n => n, fun | 9 => 9 | 4 => 4 | 59 => 213 | 3 => 3 | 5 => 5 | 46 => 189 | 146 => 209 | 51 => 208 | n => n, fun | 1 => 1 | n => n⟩
theorem Tryz.laysM145 : Go.Proofs.LaysM.n145 Tryz.prog Tryz.laysM145_ren := {
  mixed := by kernel_rfl
  f145 := Tryz.func184.trans (congrArg some (by kernel_rfl))
  f217 := Tryz.func143.trans (congrArg some (by kernel_rfl))
  f219 := Tryz.func146.trans (congrArg some (by kernel_rfl))
  f220 := Tryz.func202.trans (congrArg some (by kernel_rfl))
  f224 := Tryz.func164.trans (congrArg some (by kernel_rfl))
  f225 := Tryz.func163.trans (congrArg some (by kernel_rfl))
  f266 := Tryz.func162.trans (congrArg some (by kernel_rfl))
  f267 := Tryz.func165.trans (congrArg some (by kernel_rfl))
  f314 := Tryz.func182.trans (congrArg some (by kernel_rfl))
  t3 := Tryz.underlying3
  a3 := Tryz.isAgg3
  z3 := Tryz.sizeOf3
  v3 := Tryz.zeroValue3
  t4 := Tryz.underlying4
  a4 := Tryz.isAgg4
  z4 := Tryz.sizeOf4
  v4 := Tryz.zeroValue4
  t5 := Tryz.underlying5
  a5 := Tryz.isAgg5
  z5 := Tryz.sizeOf5
  v5 := Tryz.zeroValue5
  t9 := Tryz.underlying9
  a9 := Tryz.isAgg9
  z9 := Tryz.sizeOf9
  v9 := Tryz.zeroValue9
  t46 := Tryz.underlying189
  a46 := Tryz.isAgg189
  z46 := Tryz.sizeOf189
  v46 := Tryz.zeroValue189
  t51 := Tryz.underlying208
  a51 := Tryz.isAgg208
  z51 := Tryz.sizeOf208
  v51 := Tryz.zeroValue208
  t59 := Tryz.underlying213
  a59 := Tryz.isAgg213
  z59 := Tryz.sizeOf213
  v59 := Tryz.zeroValue213
  t146 := Tryz.underlying209
  a146 := Tryz.isAgg209
  z146 := Tryz.sizeOf209
  v146 := Tryz.zeroValue209
  g1 := by kernel_rfl
  i3 := by kernel_rfl
  i4 := by kernel_rfl
  i5 := by kernel_rfl
  i9 := by kernel_rfl
  i46 := by kernel_rfl
  i51 := by kernel_rfl
  i59 := by kernel_rfl
  i146 := by kernel_rfl
  m1 := by kernel_rfl
  s1_3 := fun w h => Go.Proofs.cell_of_shapedOpen_int (zero := #[.int .i64 0]) (t := 3) h (of_decide_eq_true (by kernel_rfl)) (by kernel_rfl) rfl (by kernel_rfl) (by kernel_rfl) Tryz.underlying3 }
open Go.RowKit Go.Lib in
theorem Tryz.strings_Cut_shaped (s sep : ByteArray) (w : World) (h : w.ShapedOpen Tryz.prog) (hs : s.size < 4294967281) :
    Calls Tryz.prog 184 #[.string s, .string sep] w fun e w' => e = .returned (.tuple #[.string ⟨(Lib.cut s.data.toList sep.data.toList).1.toArray⟩, .string ⟨(Lib.cut s.data.toList sep.data.toList).2.1.toArray⟩, .bool (Lib.cut s.data.toList sep.data.toList).2.2]) ∧ ∃ n, w' = w.drewN n := Any.strings_Cut_shaped Tryz.laysM145 s sep w h hs
def Tryz.laysM143_ren : Go.Shelf.Ren := ⟨fun | 143 => 106 | 219 => 146 | 217 => 143 | 225 => 163 | 224 => 164 | 267 => 165 | 266 => 162 | 314 => 182 | n => n, fun | 9 => 9 | 3 => 3 | 4 => 4 | 5 => 5 | 46 => 189 | 146 => 209 | 51 => 208 | n => n, fun | 1 => 1 | n => n⟩
theorem Tryz.laysM143 : Go.Proofs.LaysM.n143 Tryz.prog Tryz.laysM143_ren := {
  mixed := by kernel_rfl
  f143 := Tryz.func106.trans (congrArg some (by kernel_rfl))
  f217 := Tryz.func143.trans (congrArg some (by kernel_rfl))
  f219 := Tryz.func146.trans (congrArg some (by kernel_rfl))
  f224 := Tryz.func164.trans (congrArg some (by kernel_rfl))
  f225 := Tryz.func163.trans (congrArg some (by kernel_rfl))
  f266 := Tryz.func162.trans (congrArg some (by kernel_rfl))
  f267 := Tryz.func165.trans (congrArg some (by kernel_rfl))
  f314 := Tryz.func182.trans (congrArg some (by kernel_rfl))
  t3 := Tryz.underlying3
  a3 := Tryz.isAgg3
  z3 := Tryz.sizeOf3
  v3 := Tryz.zeroValue3
  t4 := Tryz.underlying4
  a4 := Tryz.isAgg4
  z4 := Tryz.sizeOf4
  v4 := Tryz.zeroValue4
  t5 := Tryz.underlying5
  a5 := Tryz.isAgg5
  z5 := Tryz.sizeOf5
  v5 := Tryz.zeroValue5
  t9 := Tryz.underlying9
  a9 := Tryz.isAgg9
  z9 := Tryz.sizeOf9
  v9 := Tryz.zeroValue9
  t46 := Tryz.underlying189
  a46 := Tryz.isAgg189
  z46 := Tryz.sizeOf189
  v46 := Tryz.zeroValue189
  t51 := Tryz.underlying208
  a51 := Tryz.isAgg208
  z51 := Tryz.sizeOf208
  v51 := Tryz.zeroValue208
  t146 := Tryz.underlying209
  a146 := Tryz.isAgg209
  z146 := Tryz.sizeOf209
  v146 := Tryz.zeroValue209
  g1 := by kernel_rfl
  i3 := by kernel_rfl
  i4 := by kernel_rfl
  i5 := by kernel_rfl
  i9 := by kernel_rfl
  i46 := by kernel_rfl
  i51 := by kernel_rfl
  i146 := by kernel_rfl
  m1 := by kernel_rfl
  s1_3 := fun w h => Go.Proofs.cell_of_shapedOpen_int (zero := #[.int .i64 0]) (t := 3) h (of_decide_eq_true (by kernel_rfl)) (by kernel_rfl) rfl (by kernel_rfl) (by kernel_rfl) Tryz.underlying3 }
open Go.RowKit Go.Lib in
theorem Tryz.strings_Index_shaped (s sub : ByteArray) (w : World) (h : w.ShapedOpen Tryz.prog) (hs : s.size < 4294967281) :
    Calls Tryz.prog 106 #[.string s, .string sub] w fun e w' => e = .returned (.int .i64 (Lib.index s.data.toList sub.data.toList)) ∧ w' = w := Any.strings_Index_shaped Tryz.laysM143 s sub w h hs
def Tryz.lays161_ren : Go.Shelf.Ren := ⟨fun | 161 => 185 | 231 => 203 | 227 => 204 | 233 => 205 | 235 => 206 | 228 => 215 | 197 => 175 | 151 => 216 | 260 => 195 | 152 => 219 | 137 => 96 | 119 => 220 | 224 => 164 | 225 => 163 | 217 => 143 | 266 => 162 | n => n, fun | 9 => 9 | 4 => 4 | 3 => 3 | 5 => 5 | 117 => 230 | 116 => 229 | 0 => 0 | 124 => 233 | 105 => 204 | 21 => 21 | 119 => 238 | 46 => 189 | 139 => 241 | 138 => 240 | n => n, fun | 3 => 3 | 4 => 4 | n => n⟩
theorem Tryz.lays161 : Go.Proofs.Lays.n161 Tryz.prog Tryz.lays161_ren := {
  mixed := by kernel_rfl
  f119 := Tryz.func220.trans (congrArg some (by kernel_rfl))
  f137 := Tryz.func96.trans (congrArg some (by kernel_rfl))
  f151 := Tryz.func216.trans (congrArg some (by kernel_rfl))
  f152 := Tryz.func219.trans (congrArg some (by kernel_rfl))
  f161 := Tryz.func185.trans (congrArg some (by kernel_rfl))
  f197 := Tryz.func175.trans (congrArg some (by kernel_rfl))
  f217 := Tryz.func143.trans (congrArg some (by kernel_rfl))
  f224 := Tryz.func164.trans (congrArg some (by kernel_rfl))
  f225 := Tryz.func163.trans (congrArg some (by kernel_rfl))
  f227 := Tryz.func204.trans (congrArg some (by kernel_rfl))
  f228 := Tryz.func215.trans (congrArg some (by kernel_rfl))
  f231 := Tryz.func203.trans (congrArg some (by kernel_rfl))
  f233 := Tryz.func205.trans (congrArg some (by kernel_rfl))
  f235 := Tryz.func206.trans (congrArg some (by kernel_rfl))
  f260 := Tryz.func195.trans (congrArg some (by kernel_rfl))
  f266 := Tryz.func162.trans (congrArg some (by kernel_rfl))
  t0 := Tryz.underlying0
  a0 := Tryz.isAgg0
  z0 := Tryz.sizeOf0
  v0 := Tryz.zeroValue0
  t3 := Tryz.underlying3
  a3 := Tryz.isAgg3
  z3 := Tryz.sizeOf3
  v3 := Tryz.zeroValue3
  t4 := Tryz.underlying4
  a4 := Tryz.isAgg4
  z4 := Tryz.sizeOf4
  v4 := Tryz.zeroValue4
  t5 := Tryz.underlying5
  a5 := Tryz.isAgg5
  z5 := Tryz.sizeOf5
  v5 := Tryz.zeroValue5
  t9 := Tryz.underlying9
  a9 := Tryz.isAgg9
  z9 := Tryz.sizeOf9
  v9 := Tryz.zeroValue9
  t21 := Tryz.underlying21
  a21 := Tryz.isAgg21
  z21 := Tryz.sizeOf21
  v21 := Tryz.zeroValue21
  t46 := Tryz.underlying189
  a46 := Tryz.isAgg189
  z46 := Tryz.sizeOf189
  v46 := Tryz.zeroValue189
  t105 := Tryz.underlying204
  a105 := Tryz.isAgg204
  z105 := Tryz.sizeOf204
  v105 := Tryz.zeroValue204
  t116 := Tryz.underlying229
  a116 := Tryz.isAgg229
  z116 := Tryz.sizeOf229
  t117 := Tryz.underlying230
  a117 := Tryz.isAgg230
  z117 := Tryz.sizeOf230
  v117 := Tryz.zeroValue230
  t119 := Tryz.underlying238
  a119 := Tryz.isAgg238
  z119 := Tryz.sizeOf238
  t124 := Tryz.underlying233
  a124 := Tryz.isAgg233
  z124 := Tryz.sizeOf233
  v124 := Tryz.zeroValue233
  t138 := Tryz.underlying240
  a138 := Tryz.isAgg240
  z138 := Tryz.sizeOf240
  v138 := Tryz.zeroValue240
  t139 := Tryz.underlying241
  a139 := Tryz.isAgg241
  z139 := Tryz.sizeOf241
  v139 := Tryz.zeroValue241
  g3 := by kernel_rfl
  g4 := by kernel_rfl }
open Go.RowKit in
theorem Tryz.strings_TrimLeft_one (s : ByteArray) (c : UInt8) (hc : c.toNat < 128) (w : World) :
    Calls Tryz.prog 185 #[.string s, .string ⟨#[c]⟩] w fun e w' => e = .returned (.string ⟨(Lib.trimLeftB s.data.toList c).toArray⟩) ∧ w' = w := Any.strings_TrimLeft_one Tryz.lays161 s c hc w
def Tryz.laysM155_ren : Go.Shelf.Ren := ⟨fun | 155 => 122 | 154 => 152 | 138 => 172 | 165 => 173 | 143 => 106 | 166 => 174 | 197 => 175 | 169 => 176 | 195 => 191 | 218 => 192 | 240 => 193 | 241 => 194 | 219 => 146 | 260 => 195 | 276 => 209 | 277 => 210 | 217 => 143 | 225 => 163 | 224 => 164 | 267 => 165 | 266 => 162 | 314 => 182 | n => n, fun | 9 => 9 | 3 => 3 | 4 => 4 | 72 => 202 | 0 => 0 | 76 => 181 | 105 => 204 | 21 => 21 | 5 => 5 | 70 => 200 | 20 => 20 | 37 => 145 | 75 => 180 | 127 => 219 | 164 => 235 | 46 => 189 | 119 => 238 | 139 => 241 | 138 => 240 | 146 => 209 | 51 => 208 | 80 => 206 | n => n, fun | 1 => 1 | 3 => 3 | 4 => 4 | n => n⟩
theorem Tryz.laysM155 : Go.Proofs.LaysM.n155 Tryz.prog Tryz.laysM155_ren := {
  mixed := by kernel_rfl
  f138 := Tryz.func172.trans (congrArg some (by kernel_rfl))
  f143 := Tryz.func106.trans (congrArg some (by kernel_rfl))
  f154 := Tryz.func152.trans (congrArg some (by kernel_rfl))
  f155 := Tryz.func122.trans (congrArg some (by kernel_rfl))
  f165 := Tryz.func173.trans (congrArg some (by kernel_rfl))
  f166 := Tryz.func174.trans (congrArg some (by kernel_rfl))
  f169 := Tryz.func176.trans (congrArg some (by kernel_rfl))
  f195 := Tryz.func191.trans (congrArg some (by kernel_rfl))
  f197 := Tryz.func175.trans (congrArg some (by kernel_rfl))
  f217 := Tryz.func143.trans (congrArg some (by kernel_rfl))
  f218 := Tryz.func192.trans (congrArg some (by kernel_rfl))
  f219 := Tryz.func146.trans (congrArg some (by kernel_rfl))
  f224 := Tryz.func164.trans (congrArg some (by kernel_rfl))
  f225 := Tryz.func163.trans (congrArg some (by kernel_rfl))
  f240 := Tryz.func193.trans (congrArg some (by kernel_rfl))
  f241 := Tryz.func194.trans (congrArg some (by kernel_rfl))
  f260 := Tryz.func195.trans (congrArg some (by kernel_rfl))
  f266 := Tryz.func162.trans (congrArg some (by kernel_rfl))
  f267 := Tryz.func165.trans (congrArg some (by kernel_rfl))
  f276 := Tryz.func209.trans (congrArg some (by kernel_rfl))
  f277 := Tryz.func210.trans (congrArg some (by kernel_rfl))
  f314 := Tryz.func182.trans (congrArg some (by kernel_rfl))
  t0 := Tryz.underlying0
  a0 := Tryz.isAgg0
  z0 := Tryz.sizeOf0
  v0 := Tryz.zeroValue0
  t3 := Tryz.underlying3
  a3 := Tryz.isAgg3
  z3 := Tryz.sizeOf3
  v3 := Tryz.zeroValue3
  t4 := Tryz.underlying4
  a4 := Tryz.isAgg4
  z4 := Tryz.sizeOf4
  v4 := Tryz.zeroValue4
  t5 := Tryz.underlying5
  a5 := Tryz.isAgg5
  z5 := Tryz.sizeOf5
  v5 := Tryz.zeroValue5
  t9 := Tryz.underlying9
  a9 := Tryz.isAgg9
  z9 := Tryz.sizeOf9
  v9 := Tryz.zeroValue9
  t20 := Tryz.underlying20
  a20 := Tryz.isAgg20
  z20 := Tryz.sizeOf20
  v20 := Tryz.zeroValue20
  t21 := Tryz.underlying21
  a21 := Tryz.isAgg21
  z21 := Tryz.sizeOf21
  v21 := Tryz.zeroValue21
  t37 := Tryz.underlying145
  a37 := Tryz.isAgg145
  z37 := Tryz.sizeOf145
  v37 := Tryz.zeroValue145
  t46 := Tryz.underlying189
  a46 := Tryz.isAgg189
  z46 := Tryz.sizeOf189
  v46 := Tryz.zeroValue189
  t51 := Tryz.underlying208
  a51 := Tryz.isAgg208
  z51 := Tryz.sizeOf208
  v51 := Tryz.zeroValue208
  t70 := Tryz.underlying200
  a70 := Tryz.isAgg200
  z70 := Tryz.sizeOf200
  v70 := Tryz.zeroValue200
  t72 := Tryz.underlying202
  a72 := Tryz.isAgg202
  z72 := Tryz.sizeOf202
  v72 := Tryz.zeroValue202
  t75 := Tryz.underlying180
  a75 := Tryz.isAgg180
  z75 := Tryz.sizeOf180
  v75 := Tryz.zeroValue180
  t76 := Tryz.underlying181
  a76 := Tryz.isAgg181
  z76 := Tryz.sizeOf181
  v76 := Tryz.zeroValue181
  t105 := Tryz.underlying204
  a105 := Tryz.isAgg204
  z105 := Tryz.sizeOf204
  v105 := Tryz.zeroValue204
  t119 := Tryz.underlying238
  a119 := Tryz.isAgg238
  z119 := Tryz.sizeOf238
  t127 := Tryz.underlying219
  a127 := Tryz.isAgg219
  z127 := Tryz.sizeOf219
  v127 := Tryz.zeroValue219
  t138 := Tryz.underlying240
  a138 := Tryz.isAgg240
  z138 := Tryz.sizeOf240
  v138 := Tryz.zeroValue240
  t139 := Tryz.underlying241
  a139 := Tryz.isAgg241
  z139 := Tryz.sizeOf241
  v139 := Tryz.zeroValue241
  t146 := Tryz.underlying209
  a146 := Tryz.isAgg209
  z146 := Tryz.sizeOf209
  v146 := Tryz.zeroValue209
  t164 := Tryz.underlying235
  a164 := Tryz.isAgg235
  z164 := Tryz.sizeOf235
  v164 := Tryz.zeroValue235
  g1 := by kernel_rfl
  g3 := by kernel_rfl
  g4 := by kernel_rfl
  t80 := Tryz.underlying206
  a80 := Tryz.isAgg206
  z80 := Tryz.sizeOf206
  v80 := Tryz.zeroValue206
  i0 := by kernel_rfl
  i3 := by kernel_rfl
  i4 := by kernel_rfl
  i5 := by kernel_rfl
  i9 := by kernel_rfl
  i20 := by kernel_rfl
  i21 := by kernel_rfl
  i37 := by kernel_rfl
  i46 := by kernel_rfl
  i51 := by kernel_rfl
  i70 := by kernel_rfl
  i72 := by kernel_rfl
  i75 := by kernel_rfl
  i76 := by kernel_rfl
  i80 := by kernel_rfl
  i105 := by kernel_rfl
  i127 := by kernel_rfl
  i138 := by kernel_rfl
  i139 := by kernel_rfl
  i146 := by kernel_rfl
  i164 := by kernel_rfl
  m1 := by kernel_rfl
  s1_3 := fun w h => Go.Proofs.cell_of_shapedOpen_int (zero := #[.int .i64 0]) (t := 3) h (of_decide_eq_true (by kernel_rfl)) (by kernel_rfl) rfl (by kernel_rfl) (by kernel_rfl) Tryz.underlying3
  m3 := by kernel_rfl
  m4 := by kernel_rfl }
theorem Tryz.Builder_Extra_M155 : Builder.Extra Tryz.prog Tryz.laysM155_ren := {
  sizeBuilder := by kernel_rfl
  liesBuilder := by kernel_rfl
  t5 := Tryz.underlying5
  a5 := Tryz.isAgg5
  z5 := Tryz.sizeOf5
  v5 := Tryz.zeroValue5
  infoByte := by kernel_rfl
  cellsByte := by kernel_rfl
  sizeByte := by kernel_rfl
  neB5 := by decide }
open Go.RowKit Go.Lib in
theorem Tryz.strings_ReplaceAll_shaped (s old new : ByteArray) (w : World) (h : w.ShapedOpen Tryz.prog) (hs : s.size < 4294967281) (h1 : 1 ≤ old.size) (hlen : s.size + Lib.countB s old * new.size ≤ 140737488355328) :
    Calls Tryz.prog 122 #[.string s, .string old, .string new] w fun e w' =>
      e = .returned (.string ⟨(Lib.replaceAll s.data.toList old.data.toList new.data.toList).toArray⟩) ∧ Below w.heap.size w w' := Any.strings_ReplaceAll_shaped Tryz.laysM155 Tryz.Builder_Extra_M155 s old new w h hs h1 hlen
def Tryz.laysC172_ren : Go.Shelf.Ren := ⟨fun | 172 => 153 | 244 => 177 | 245 => 178 | 247 => 196 | 279 => 197 | 280 => 198 | 281 => 199 | 282 => 200 | 287 => 211 | 316 => 212 | 171 => 76 | 205 => 213 | 321 => 217 | 322 => 218 | 243 => 121 | 246 => 151 | 283 => 168 | 284 => 169 | 285 => 170 | 286 => 171 | 129 => 187 | 317 => 186 | 318 => 188 | 319 => 189 | 320 => 190 | 337 => 207 | 338 => 208 | n => n, fun | 9 => 9 | 3 => 3 | 75 => 180 | 76 => 181 | 4 => 4 | 5 => 5 | 167 => 220 | 37 => 145 | 0 => 0 | 85 => 221 | 2 => 2 | 168 => 223 | 53 => 195 | 175 => 242 | 46 => 189 | 210 => 245 | 127 => 219 | 145 => 254 | 143 => 252 | 21 => 21 | 171 => 194 | 173 => 198 | 212 => 216 | 51 => 208 | 20 => 20 | 213 => 217 | 232 => 249 | 233 => 250 | 80 => 206 | n => n, fun | 15 => 5 | 16 => 6 | 17 => 2 | 18 => 7 | 19 => 8 | n => n⟩
theorem Tryz.laysC172 : Go.Proofs.LaysC.n172 Tryz.prog Tryz.laysC172_ren := {
  mixed := by kernel_rfl
  f129 := Tryz.func187.trans (congrArg some (by kernel_rfl))
  f171 := Tryz.func76.trans (congrArg some (by kernel_rfl))
  f172 := Tryz.func153.trans (congrArg some (by kernel_rfl))
  f205 := Tryz.func213.trans (congrArg some (by kernel_rfl))
  f243 := Tryz.func121.trans (congrArg some (by kernel_rfl))
  f244 := Tryz.func177.trans (congrArg some (by kernel_rfl))
  f245 := Tryz.func178.trans (congrArg some (by kernel_rfl))
  f246 := Tryz.func151.trans (congrArg some (by kernel_rfl))
  f247 := Tryz.func196.trans (congrArg some (by kernel_rfl))
  f279 := Tryz.func197.trans (congrArg some (by kernel_rfl))
  f280 := Tryz.func198.trans (congrArg some (by kernel_rfl))
  f281 := Tryz.func199.trans (congrArg some (by kernel_rfl))
  f282 := Tryz.func200.trans (congrArg some (by kernel_rfl))
  f283 := Tryz.func168.trans (congrArg some (by kernel_rfl))
  f284 := Tryz.func169.trans (congrArg some (by kernel_rfl))
  f285 := Tryz.func170.trans (congrArg some (by kernel_rfl))
  f286 := Tryz.func171.trans (congrArg some (by kernel_rfl))
  f287 := Tryz.func211.trans (congrArg some (by kernel_rfl))
  f316 := Tryz.func212.trans (congrArg some (by kernel_rfl))
  f317 := Tryz.func186.trans (congrArg some (by kernel_rfl))
  f318 := Tryz.func188.trans (congrArg some (by kernel_rfl))
  f319 := Tryz.func189.trans (congrArg some (by kernel_rfl))
  f320 := Tryz.func190.trans (congrArg some (by kernel_rfl))
  f321 := Tryz.func217.trans (congrArg some (by kernel_rfl))
  f322 := Tryz.func218.trans (congrArg some (by kernel_rfl))
  f337 := Tryz.func207.trans (congrArg some (by kernel_rfl))
  f338 := Tryz.func208.trans (congrArg some (by kernel_rfl))
  t0 := Tryz.underlying0
  a0 := Tryz.isAgg0
  z0 := Tryz.sizeOf0
  v0 := Tryz.zeroValue0
  t2 := Tryz.underlying2
  a2 := Tryz.isAgg2
  z2 := Tryz.sizeOf2
  v2 := Tryz.zeroValue2
  t3 := Tryz.underlying3
  a3 := Tryz.isAgg3
  z3 := Tryz.sizeOf3
  v3 := Tryz.zeroValue3
  t4 := Tryz.underlying4
  a4 := Tryz.isAgg4
  z4 := Tryz.sizeOf4
  v4 := Tryz.zeroValue4
  t5 := Tryz.underlying5
  a5 := Tryz.isAgg5
  z5 := Tryz.sizeOf5
  v5 := Tryz.zeroValue5
  t9 := Tryz.underlying9
  a9 := Tryz.isAgg9
  z9 := Tryz.sizeOf9
  v9 := Tryz.zeroValue9
  t20 := Tryz.underlying20
  a20 := Tryz.isAgg20
  z20 := Tryz.sizeOf20
  v20 := Tryz.zeroValue20
  t21 := Tryz.underlying21
  a21 := Tryz.isAgg21
  z21 := Tryz.sizeOf21
  v21 := Tryz.zeroValue21
  t37 := Tryz.underlying145
  a37 := Tryz.isAgg145
  z37 := Tryz.sizeOf145
  v37 := Tryz.zeroValue145
  t46 := Tryz.underlying189
  a46 := Tryz.isAgg189
  z46 := Tryz.sizeOf189
  v46 := Tryz.zeroValue189
  t51 := Tryz.underlying208
  a51 := Tryz.isAgg208
  z51 := Tryz.sizeOf208
  v51 := Tryz.zeroValue208
  t53 := Tryz.underlying195
  a53 := Tryz.isAgg195
  z53 := Tryz.sizeOf195
  v53 := Tryz.zeroValue195
  t75 := Tryz.underlying180
  a75 := Tryz.isAgg180
  z75 := Tryz.sizeOf180
  v75 := Tryz.zeroValue180
  t76 := Tryz.underlying181
  a76 := Tryz.isAgg181
  z76 := Tryz.sizeOf181
  v76 := Tryz.zeroValue181
  t85 := Tryz.underlying221
  a85 := Tryz.isAgg221
  z85 := Tryz.sizeOf221
  v85 := Tryz.zeroValue221
  t127 := Tryz.underlying219
  a127 := Tryz.isAgg219
  z127 := Tryz.sizeOf219
  v127 := Tryz.zeroValue219
  t143 := Tryz.underlying252
  a143 := Tryz.isAgg252
  z143 := Tryz.sizeOf252
  v143 := Tryz.zeroValue252
  t145 := Tryz.underlying254
  a145 := Tryz.isAgg254
  z145 := Tryz.sizeOf254
  v145 := Tryz.zeroValue254
  t167 := Tryz.underlying220
  a167 := Tryz.isAgg220
  z167 := Tryz.sizeOf220
  v167 := Tryz.zeroValue220
  t168 := Tryz.underlying223
  a168 := Tryz.isAgg223
  z168 := Tryz.sizeOf223
  v168 := Tryz.zeroValue223
  t171 := Tryz.underlying194
  a171 := Tryz.isAgg194
  z171 := Tryz.sizeOf194
  v171 := Tryz.zeroValue194
  t173 := Tryz.underlying198
  a173 := Tryz.isAgg198
  z173 := Tryz.sizeOf198
  v173 := Tryz.zeroValue198
  t175 := Tryz.underlying242
  a175 := Tryz.isAgg242
  z175 := Tryz.sizeOf242
  v175 := Tryz.zeroValue242
  t210 := Tryz.underlying245
  a210 := Tryz.isAgg245
  z210 := Tryz.sizeOf245
  v210 := Tryz.zeroValue245
  t212 := Tryz.underlying216
  a212 := Tryz.isAgg216
  z212 := Tryz.sizeOf216
  v212 := Tryz.zeroValue216
  t213 := Tryz.underlying217
  a213 := Tryz.isAgg217
  z213 := Tryz.sizeOf217
  t232 := Tryz.underlying249
  a232 := Tryz.isAgg249
  z232 := Tryz.sizeOf249
  v232 := Tryz.zeroValue249
  t233 := Tryz.underlying250
  a233 := Tryz.isAgg250
  z233 := Tryz.sizeOf250
  v233 := Tryz.zeroValue250
  g15 := by kernel_rfl
  g16 := by kernel_rfl
  g17 := by kernel_rfl
  g18 := by kernel_rfl
  g19 := by kernel_rfl
  t80 := Tryz.underlying206
  a80 := Tryz.isAgg206
  z80 := Tryz.sizeOf206
  v80 := Tryz.zeroValue206
  i0 := by kernel_rfl
  i2 := by kernel_rfl
  i3 := by kernel_rfl
  i4 := by kernel_rfl
  i5 := by kernel_rfl
  i9 := by kernel_rfl
  i20 := by kernel_rfl
  i21 := by kernel_rfl
  i37 := by kernel_rfl
  i46 := by kernel_rfl
  i51 := by kernel_rfl
  i53 := by kernel_rfl
  i75 := by kernel_rfl
  i76 := by kernel_rfl
  i80 := by kernel_rfl
  i85 := by kernel_rfl
  i127 := by kernel_rfl
  i143 := by kernel_rfl
  i145 := by kernel_rfl
  i167 := by kernel_rfl
  i168 := by kernel_rfl
  i171 := by kernel_rfl
  i173 := by kernel_rfl
  i175 := by kernel_rfl
  i210 := by kernel_rfl
  i212 := by kernel_rfl
  i232 := by kernel_rfl
  i233 := by kernel_rfl
  m15 := by kernel_rfl
  m16 := by kernel_rfl
  m17 := by kernel_rfl
  m18 := by kernel_rfl
  m19 := by kernel_rfl
  c0 := by kernel_rfl
  c2 := by kernel_rfl
  c3 := by kernel_rfl
  c4 := by kernel_rfl
  c5 := by kernel_rfl
  c9 := by kernel_rfl
  c20 := by kernel_rfl
  c21 := by kernel_rfl
  c37 := by kernel_rfl
  c46 := by kernel_rfl
  c51 := by kernel_rfl
  c53 := by kernel_rfl
  c75 := by kernel_rfl
  c76 := by kernel_rfl
  c80 := by kernel_rfl
  c85 := by kernel_rfl
  c127 := by kernel_rfl
  c143 := by kernel_rfl
  c145 := by kernel_rfl
  c167 := by kernel_rfl
  c168 := by kernel_rfl
  c171 := by kernel_rfl
  c173 := by kernel_rfl
  c175 := by kernel_rfl
  c210 := by kernel_rfl
  c212 := by kernel_rfl
  c213 := by kernel_rfl
  c232 := by kernel_rfl
  c233 := by kernel_rfl }
end Go.Proofs

/- strconv.Itoa, out of the library's contract. Printed by the session's own program. -/
namespace Go.Proofs.YtmpglmcjoelciaaGreatDoor.Ev
open Go Go.Proofs Go.Proofs.Ev
set_option linter.unusedVariables false
set_option maxRecDepth 100000
noncomputable def strconv_Itoa.F (n : Nat) (c : Int) : Option (ByteArray) := bif decide (-9223372036854775808 ≤ c) && decide (c ≤ 9223372036854775807) then Option.some (⟨(Lib.itoa c).toArray⟩) else none
theorem strconv_Itoa.hands (n : Nat) (c : Int) {p : ByteArray} (h : strconv_Itoa.F n c = some p) : HandsIn Tryz.prog 76 [.v (.int .i64 c)] (.v (.string p)) := by
  unfold strconv_Itoa.F at h
  cases hc : (decide (-9223372036854775808 ≤ c) && decide (c ≤ 9223372036854775807)) with
  | false => rw [hc] at h; cases h
  | true =>
    rw [hc] at h
    cases h
    refine hands_calls (fn := Tryz.f76) Tryz.func76 (by kernel_rfl) (by kernel_rfl) fun w F vals hQ hF hl hr => ?_
    obtain ⟨u0, rfl, h0⟩ := vals1 hl hr
    obtain rfl := rel_v h0
    rw [Bool.and_eq_true] at hc
    refine (Tryz.strconv_Itoa c (of_decide_eq_true hc.1) (of_decide_eq_true hc.2) w (hQ.2.1 _ (List.mem_cons_self ..))).mono ?_
    rintro e w' ⟨rfl, k, os, rfl⟩
    exact ⟨F, fun _ => none, Came.of_below hF (below_grew w k os), .v _ rfl⟩
noncomputable def strconv_Itoa.via {R : Type} (n : Nat) (ys : List AV) : (AV → Option R) → Option R := match ys with | [.v (.int .i64 c)] => fun K => (strconv_Itoa.F n c).bind fun p => K (.v (.string p)) | _ => fun _ => none
theorem strconv_Itoa.tells1 {R : Type} (n : Nat) (ys : List AV) : Tells1 (R := R) Tryz.prog 76 ys (strconv_Itoa.via n ys) := by
  unfold strconv_Itoa.via
  split
  · exact Tells1.of (fun p hp => (strconv_Itoa.hands n _ hp).hands rfl)
  · exact Tells1.none
end Go.Proofs.YtmpglmcjoelciaaGreatDoor.Ev

/- strings.IndexByte, out of the library's contract. Printed by the session's own program. -/
namespace Go.Proofs.YtmpglmcjoelciaaGreatDoor.Ev
open Go Go.Proofs Go.Proofs.Ev
set_option linter.unusedVariables false
set_option maxRecDepth 100000
noncomputable def strings_IndexByte.F (n : Nat) (s : ByteArray) (c : Int) : Option (Int) := bif true then Option.some (Lib.indexByte s.data.toList c.toNat.toUInt8) else none
theorem strings_IndexByte.hands (n : Nat) (s : ByteArray) (c : Int) {p : Int} (h : strings_IndexByte.F n s c = some p) : HandsIn Tryz.prog 96 [.v (.string s), .v (.int .u8 c)] (.v (.int .i64 p)) := by
  unfold strings_IndexByte.F at h
  cases hc : (true) with
  | false => rw [hc] at h; cases h
  | true =>
    rw [hc] at h
    cases h
    refine hands_calls (fn := Tryz.f96) Tryz.func96 (by kernel_rfl) (by kernel_rfl) fun w F vals hQ hF hl hr => ?_
    obtain ⟨u0, u1, rfl, h0, h1⟩ := vals2 hl hr
    obtain rfl := rel_v h0
    obtain rfl := rel_v h1
    refine (Tryz.strings_IndexByte s c w).mono ?_
    rintro e w' ⟨rfl, rfl⟩
    exact ⟨F, fun _ => none, Came.same hF, .v _ rfl⟩
noncomputable def strings_IndexByte.via {R : Type} (n : Nat) (ys : List AV) : (AV → Option R) → Option R := match ys with | [.v (.string s), .v (.int .u8 c)] => fun K => (strings_IndexByte.F n s c).bind fun p => K (.v (.int .i64 p)) | _ => fun _ => none
theorem strings_IndexByte.tells1 {R : Type} (n : Nat) (ys : List AV) : Tells1 (R := R) Tryz.prog 96 ys (strings_IndexByte.via n ys) := by
  unfold strings_IndexByte.via
  split
  · exact Tells1.of (fun p hp => (strings_IndexByte.hands n _ _ hp).hands rfl)
  · exact Tells1.none
end Go.Proofs.YtmpglmcjoelciaaGreatDoor.Ev

/- strings.Index, out of the library's contract. Printed by the session's own program. -/
namespace Go.Proofs.YtmpglmcjoelciaaGreatDoor.Ev
open Go Go.Proofs Go.Proofs.Ev
set_option linter.unusedVariables false
set_option maxRecDepth 100000
noncomputable def strings_Index.F (n : Nat) (s : ByteArray) (t : ByteArray) : Option (Int) := bif decide (s.size < 4294967281) then Option.some (Lib.index s.data.toList t.data.toList) else none
theorem strings_Index.hands (n : Nat) (s : ByteArray) (t : ByteArray) {p : Int} (h : strings_Index.F n s t = some p) : HandsIn Tryz.prog 106 [vs s, vs t] (.v (.int .i64 p)) := by
  unfold strings_Index.F at h
  cases hc : (decide (s.size < 4294967281)) with
  | false => rw [hc] at h; cases h
  | true =>
    rw [hc] at h
    cases h
    refine hands_calls (fn := Tryz.f106) Tryz.func106 (by kernel_rfl) (by kernel_rfl) fun w F vals hQ hF hl hr => ?_
    obtain ⟨u, v, rfl, hu, hv⟩ := vals2 hl hr
    obtain rfl := rel_v hu
    obtain rfl := rel_v hv
    refine (Tryz.strings_Index_shaped s t w (Rooted.opened _ hQ) (of_decide_eq_true hc)).mono ?_
    rintro e w' ⟨rfl, rfl⟩
    exact ⟨F, fun _ => none, Came.same hF, .v _ rfl⟩
noncomputable def strings_Index.via {R : Type} (n : Nat) (ys : List AV) : (AV → Option R) → Option R := match ys with | [.v (.string s), .v (.string t)] => fun K => (strings_Index.F n s t).bind fun p => K (.v (.int .i64 p)) | _ => fun _ => none
theorem strings_Index.tells1 {R : Type} (n : Nat) (ys : List AV) : Tells1 (R := R) Tryz.prog 106 ys (strings_Index.via n ys) := by
  unfold strings_Index.via
  split
  · exact Tells1.of (fun p hp => (strings_Index.hands n _ _ hp).hands rfl)
  · exact Tells1.none
end Go.Proofs.YtmpglmcjoelciaaGreatDoor.Ev

/- strings.ReplaceAll, out of the library's contract. Printed by the session's own program. -/
namespace Go.Proofs.YtmpglmcjoelciaaGreatDoor.Ev
open Go Go.Proofs Go.Proofs.Ev
set_option linter.unusedVariables false
set_option maxRecDepth 100000
noncomputable def strings_ReplaceAll.F (n : Nat) (s : ByteArray) (t : ByteArray) (u : ByteArray) : Option (ByteArray) := bif (decide (s.size < 4294967281) && decide (1 ≤ t.size)) && decide (s.size + Lib.countB s t * u.size ≤ 140737488355328) then Option.some (⟨(Lib.replaceAll s.data.toList t.data.toList u.data.toList).toArray⟩) else none
theorem strings_ReplaceAll.hands (n : Nat) (s : ByteArray) (t : ByteArray) (u : ByteArray) {p : ByteArray} (h : strings_ReplaceAll.F n s t u = some p) : HandsIn Tryz.prog 122 [.v (.string s), .v (.string t), .v (.string u)] (.v (.string p)) := by
  unfold strings_ReplaceAll.F at h
  cases hc : ((decide (s.size < 4294967281) && decide (1 ≤ t.size)) && decide (s.size + Lib.countB s t * u.size ≤ 140737488355328)) with
  | false => rw [hc] at h; cases h
  | true =>
    rw [hc] at h
    cases h
    refine hands_calls (fn := Tryz.f122) Tryz.func122 (by kernel_rfl) (by kernel_rfl) fun w F vals hQ hF hl hr => ?_
    obtain ⟨u0, u1, u2, rfl, h0, h1, h2⟩ := vals3 hl hr
    obtain rfl := rel_v h0
    obtain rfl := rel_v h1
    obtain rfl := rel_v h2
    rw [Bool.and_eq_true, Bool.and_eq_true] at hc
    refine (Tryz.strings_ReplaceAll_shaped s t u w (Rooted.opened _ hQ) (of_decide_eq_true hc.1.1) (of_decide_eq_true hc.1.2) (of_decide_eq_true hc.2)).mono ?_
    rintro e w' ⟨rfl, hB⟩
    exact ⟨F, fun _ => none, Came.of_below hF hB, .v _ rfl⟩
noncomputable def strings_ReplaceAll.via {R : Type} (n : Nat) (ys : List AV) : (AV → Option R) → Option R := match ys with | [.v (.string s), .v (.string t), .v (.string u)] => fun K => (strings_ReplaceAll.F n s t u).bind fun p => K (.v (.string p)) | _ => fun _ => none
theorem strings_ReplaceAll.tells1 {R : Type} (n : Nat) (ys : List AV) : Tells1 (R := R) Tryz.prog 122 ys (strings_ReplaceAll.via n ys) := by
  unfold strings_ReplaceAll.via
  split
  · exact Tells1.of (fun p hp => (strings_ReplaceAll.hands n _ _ _ hp).hands rfl)
  · exact Tells1.none
end Go.Proofs.YtmpglmcjoelciaaGreatDoor.Ev

/- strconv.Atoi, out of the library's contract. Printed by the session's own program. -/
namespace Go.Proofs.YtmpglmcjoelciaaGreatDoor.Ev
open Go Go.Proofs Go.Proofs.Ev
set_option linter.unusedVariables false
set_option maxRecDepth 100000
noncomputable def strconv_Atoi.F (n : Nat) (s : ByteArray) : Option (Int × Bool) := bif decide (s.size ≤ 281474976710656) then Option.some (atoiR s.data.toList) else none
theorem strconv_Atoi.hands (n : Nat) (s : ByteArray) {p : Int × Bool} (h : strconv_Atoi.F n s = some p) : HandsIn Tryz.prog 153 [.v (.string s)] (.tup [.v (.int .i64 p.1), .err p.2]) := by
  unfold strconv_Atoi.F at h
  cases hc : (decide (s.size ≤ 281474976710656)) with
  | false => rw [hc] at h; cases h
  | true =>
    rw [hc] at h
    cases h
    refine hands_calls (fn := Tryz.f153) Tryz.func153 (by kernel_rfl) (by kernel_rfl) fun w F vals hQ hF hl hr => ?_
    obtain ⟨u0, rfl, h0⟩ := vals1 hl hr
    obtain rfl := rel_v h0
    exact atoi_calls Tryz.laysC172 hF s (of_decide_eq_true hc) (Sents.at hQ.1 rfl) (Sents.at hQ.1 rfl)
noncomputable def strconv_Atoi.via {R : Type} (n : Nat) (ys : List AV) : (AV → Option R) → Option R := match ys with | [.v (.string s)] => fun K => (strconv_Atoi.F n s).bind fun p => K (.tup [.v (.int .i64 p.1), .err p.2]) | _ => fun _ => none
theorem strconv_Atoi.tells1 {R : Type} (n : Nat) (ys : List AV) : Tells1 (R := R) Tryz.prog 153 ys (strconv_Atoi.via n ys) := by
  unfold strconv_Atoi.via
  split
  · exact Tells1.of (fun p hp => (strconv_Atoi.hands n _ hp).hands rfl)
  · exact Tells1.none
end Go.Proofs.YtmpglmcjoelciaaGreatDoor.Ev

/- strings.Cut, out of the library's contract. Printed by the session's own program. -/
namespace Go.Proofs.YtmpglmcjoelciaaGreatDoor.Ev
open Go Go.Proofs Go.Proofs.Ev
set_option linter.unusedVariables false
set_option maxRecDepth 100000
noncomputable def strings_Cut.F (n : Nat) (s : ByteArray) (t : ByteArray) : Option (ByteArray × ByteArray × Bool) := bif decide (s.size < 4294967281) then Option.some ((⟨(Lib.cut s.data.toList t.data.toList).1.toArray⟩, ⟨(Lib.cut s.data.toList t.data.toList).2.1.toArray⟩, (Lib.cut s.data.toList t.data.toList).2.2)) else none
theorem strings_Cut.hands (n : Nat) (s : ByteArray) (t : ByteArray) {p : ByteArray × ByteArray × Bool} (h : strings_Cut.F n s t = some p) : HandsIn Tryz.prog 184 [.v (.string s), .v (.string t)] (.tup [.v (.string p.1), .v (.string p.2.1), .v (.bool p.2.2)]) := by
  unfold strings_Cut.F at h
  cases hc : (decide (s.size < 4294967281)) with
  | false => rw [hc] at h; cases h
  | true =>
    rw [hc] at h
    cases h
    refine hands_calls (fn := Tryz.f184) Tryz.func184 (by kernel_rfl) (by kernel_rfl) fun w F vals hQ hF hl hr => ?_
    obtain ⟨u0, u1, rfl, h0, h1⟩ := vals2 hl hr
    obtain rfl := rel_v h0
    obtain rfl := rel_v h1
    refine (Tryz.strings_Cut_shaped s t w (Rooted.opened _ hQ) (of_decide_eq_true hc)).mono ?_
    rintro e w' ⟨rfl, n, rfl⟩
    exact ⟨F, fun _ => none, Came.of_below hF ⟨rfl, rfl, rfl, Nat.le_refl _, fun _ _ => rfl⟩, #[_, _, _], rfl, rfl, .v _ rfl, .v _ rfl, .v _ rfl, trivial⟩
noncomputable def strings_Cut.via {R : Type} (n : Nat) (ys : List AV) : (AV → Option R) → Option R := match ys with | [.v (.string s), .v (.string t)] => fun K => (strings_Cut.F n s t).bind fun p => K (.tup [.v (.string p.1), .v (.string p.2.1), .v (.bool p.2.2)]) | _ => fun _ => none
theorem strings_Cut.tells1 {R : Type} (n : Nat) (ys : List AV) : Tells1 (R := R) Tryz.prog 184 ys (strings_Cut.via n ys) := by
  unfold strings_Cut.via
  split
  · exact Tells1.of (fun p hp => (strings_Cut.hands n _ _ hp).hands rfl)
  · exact Tells1.none
end Go.Proofs.YtmpglmcjoelciaaGreatDoor.Ev

/- strings.TrimLeft, out of the library's contract. Printed by the session's own program. -/
namespace Go.Proofs.YtmpglmcjoelciaaGreatDoor.Ev
open Go Go.Proofs Go.Proofs.Ev
set_option linter.unusedVariables false
set_option maxRecDepth 100000
noncomputable def strings_TrimLeft.F (n : Nat) (s : ByteArray) (t : ByteArray) : Option (ByteArray) := bif Nat.beq t.data.toList.length 1 && decide ((t.data.toList.headD 0).toNat < 128) then Option.some (⟨(Lib.trimLeftB s.data.toList (t.data.toList.headD 0)).toArray⟩) else none
theorem strings_TrimLeft.hands (n : Nat) (s : ByteArray) (t : ByteArray) {p : ByteArray} (h : strings_TrimLeft.F n s t = some p) : HandsIn Tryz.prog 185 [.v (.string s), .v (.string t)] (.v (.string p)) := by
  unfold strings_TrimLeft.F at h
  cases hc : (Nat.beq t.data.toList.length 1 && decide ((t.data.toList.headD 0).toNat < 128)) with
  | false => rw [hc] at h; cases h
  | true =>
    rw [hc] at h
    cases h
    refine hands_calls (fn := Tryz.f185) Tryz.func185 (by kernel_rfl) (by kernel_rfl) fun w F vals hQ hF hl hr => ?_
    obtain ⟨u0, u1, rfl, h0, h1⟩ := vals2 hl hr
    obtain rfl := rel_v h0
    obtain rfl := rel_v h1
    rw [Bool.and_eq_true] at hc
    have ht := one_byte (Nat.eq_of_beq_eq_true hc.1)
    have := Tryz.strings_TrimLeft_one s (t.data.toList.headD 0) (of_decide_eq_true hc.2) w
    rw [← ht] at this
    refine this.mono ?_
    rintro e w' ⟨rfl, rfl⟩
    exact ⟨F, fun _ => none, Came.same hF, .v _ rfl⟩
noncomputable def strings_TrimLeft.via {R : Type} (n : Nat) (ys : List AV) : (AV → Option R) → Option R := match ys with | [.v (.string s), .v (.string t)] => fun K => (strings_TrimLeft.F n s t).bind fun p => K (.v (.string p)) | _ => fun _ => none
theorem strings_TrimLeft.tells1 {R : Type} (n : Nat) (ys : List AV) : Tells1 (R := R) Tryz.prog 185 ys (strings_TrimLeft.via n ys) := by
  unfold strings_TrimLeft.via
  split
  · exact Tells1.of (fun p hp => (strings_TrimLeft.hands n _ _ hp).hands rfl)
  · exact Tells1.none
end Go.Proofs.YtmpglmcjoelciaaGreatDoor.Ev

/- midrange/midrangelaw25.awake, by evaluation. Printed by the session's own program. -/
namespace Go.Proofs.YtmpglmcjoelciaaGreatDoor.Ev
open Go Go.Proofs Go.Proofs.Ev
set_option linter.unusedVariables false
set_option maxRecDepth 100000
noncomputable def midrangelaw25_awake.own (f : FuncId) : Bool := Nat.beq f 76 || Nat.beq f 96 || Nat.beq f 106 || Nat.beq f 122 || Nat.beq f 153 || Nat.beq f 184 || Nat.beq f 185
noncomputable def midrangelaw25_awake.C0 {R : Type} (f : FuncId) (xs : List AV) : (AV → Option R) → Option R := bif Nat.beq f 76 then strconv_Itoa.via 0 xs else bif Nat.beq f 96 then strings_IndexByte.via 0 xs else bif Nat.beq f 106 then strings_Index.via 0 xs else bif Nat.beq f 122 then strings_ReplaceAll.via 0 xs else bif Nat.beq f 153 then strconv_Atoi.via 0 xs else bif Nat.beq f 184 then strings_Cut.via 0 xs else bif Nat.beq f 185 then strings_TrimLeft.via 0 xs else fun _ => none
theorem midrangelaw25_awake.tells0 {R : Type} : Tells (R := R) Tryz.prog midrangelaw25_awake.C0 := fun _ xs => tells_at (strconv_Itoa.tells1 0 xs) (tells_at (strings_IndexByte.tells1 0 xs) (tells_at (strings_Index.tells1 0 xs) (tells_at (strings_ReplaceAll.tells1 0 xs) (tells_at (strconv_Atoi.tells1 0 xs) (tells_at (strings_Cut.tells1 0 xs) (tells_at (strings_TrimLeft.tells1 0 xs) (Tells1.none)))))))
noncomputable def midrangelaw25_awake.F (n : Nat) : Option Bool := Option.some true
theorem midrangelaw25_awake.run : interp Tryz.prog G midrangelaw25_awake.own midrangelaw25_awake.C0 (fun _ _ => none) 1000 100 12 [] = Option.some (vb true) := by kernel_rfl
noncomputable def midrangelaw25_awake.via {R : Type} (n : Nat) (ys : List AV) : (AV → Option R) → Option R := match ys with | [] => fun K => (midrangelaw25_awake.F n).bind fun p => K (.v (.bool p)) | _ => fun _ => none
theorem midrangelaw25_awake.tells1 {R : Type} (n : Nat) (ys : List AV) : Tells1 (R := R) Tryz.prog 12 ys (midrangelaw25_awake.via n ys) := by
  unfold midrangelaw25_awake.via
  split
  · exact Tells1.of (fun p hp => by cases hp; exact interp_tells cfg mixed globs rfl midrangelaw25_awake.tells0 100 _ _ _ midrangelaw25_awake.run)
  · exact Tells1.none
end Go.Proofs.YtmpglmcjoelciaaGreatDoor.Ev

/- midrange/midrangelaw25.fewKeys, out of its evaluation. Printed by the session's own program. -/
namespace Go.Proofs.YtmpglmcjoelciaaGreatDoor.Ev
open Go Go.Proofs Go.Proofs.Ev
set_option linter.unusedVariables false
set_option maxRecDepth 100000
/-! midrange/midrangelaw25.fewKeys: function 50 -/
noncomputable def midrangelaw25_fewKeys.r2 {R : Type} (n : Nat) (c2 : List AV → Int → Option R) (k : Bool → Option R) (z1 : List AV) (z2 : Int) : Option R :=
  let y1 : Bool := decide (z2 < ((z1.length : Nat) : Int))
  bif y1 then (bif decide ((0 : Int) ≤ z2) && decide (z2 < ((z1.length : Nat) : Int)) then (withCons ((z1.getD ((z2).toNat) .undef).cells) fun h2 r3 =>
  withStr h2 fun s4 =>
  let y5 : Bool := decide (((s4.size : Nat) : Int) > 100)
  bif y5 then (k false) else (c2 z1 (IntKind.i64.wrap (z2 + 1)))) else none) else (k true)
noncomputable def midrangelaw25_fewKeys.e {R : Type} (n : Nat) (c2 : List AV → Int → Option R) (k : Bool → Option R) (a0 : List AV) : Option R :=
  c2 a0 0
noncomputable def midrangelaw25_fewKeys.C {R : Type} (n : Nat) (f : FuncId) (xs : List AV) : (AV → Option R) → Option R :=
  fun _ => none
theorem midrangelaw25_fewKeys.tells {R : Type} (n : Nat) : Tells (R := R) Tryz.prog (midrangelaw25_fewKeys.C n) := fun _ xs => Tells1.none
noncomputable def midrangelaw25_fewKeys.cut (r : Nat) : Option Keep := match r with | 2 => Option.some ⟨[0, 3], []⟩ | _ => none
noncomputable def midrangelaw25_fewKeys.t2 : List Item := (todoOf 2 1000 [.code (Tryz.f50.body.getD .skip)]).getD []
noncomputable def midrangelaw25_fewKeys.s2 (z1 : List AV) (z2 : Int) : St := ⟨[.sl ⟨true, 111⟩ 2 z1, .undef, .undef, vi z2, .undef, .undef, .undef, .undef, .undef, .undef, .undef, .undef, .undef, .undef, .undef, .undef, .undef], Mem.ofList [], 0⟩
theorem midrangelaw25_fewKeys.e_eq {R : Type} (n : Nat) (rec : List Item → St → Option R) (K : AV → Option R) (a0 : List AV) :
    goK G (midrangelaw25_fewKeys.C n) midrangelaw25_fewKeys.cut (fun S => finK G Tryz.f50.resultTypes.toList Tryz.f50.results.toList S K) rec 1000 [.code (Tryz.f50.body.getD .skip)] (Ev.start Tryz.f50 [.sl ⟨true, 111⟩ 2 a0]) = midrangelaw25_fewKeys.e n (fun z1 z2 => rec midrangelaw25_fewKeys.t2 (midrangelaw25_fewKeys.s2 z1 z2)) (fun p => K (vb p)) a0 := by kernel_rfl
theorem midrangelaw25_fewKeys.r2_eq {R : Type} (n : Nat) (rec : List Item → St → Option R) (K : AV → Option R) (z1 : List AV) (z2 : Int) :
    atK G (midrangelaw25_fewKeys.C n) midrangelaw25_fewKeys.cut (fun S => finK G Tryz.f50.resultTypes.toList Tryz.f50.results.toList S K) rec midrangelaw25_fewKeys.t2 (midrangelaw25_fewKeys.s2 z1 z2) = midrangelaw25_fewKeys.r2 n (fun z1 z2 => rec midrangelaw25_fewKeys.t2 (midrangelaw25_fewKeys.s2 z1 z2)) (fun p => K (vb p)) z1 z2 := by kernel_rfl
noncomputable def midrangelaw25_fewKeys.l (n : Nat) : Nat → (List AV → Int → Option (Bool))
  | 0 => (fun _ _ => none)
  | m + 1 => midrangelaw25_fewKeys.r2 n (midrangelaw25_fewKeys.l n m) Option.some
noncomputable def midrangelaw25_fewKeys.F (n : Nat) (a0 : List AV) : Option (Bool) := midrangelaw25_fewKeys.e n (midrangelaw25_fewKeys.l n n) Option.some a0
noncomputable def midrangelaw25_fewKeys.dec (x : AV) : Option (Bool) := match x with | .v (.bool p0) => Option.some p0 | _ => none
theorem midrangelaw25_fewKeys.dec_inv {p : Bool} (y : AV) (h : midrangelaw25_fewKeys.dec y = some p) : y = vb p := by
  unfold midrangelaw25_fewKeys.dec at h
  split at h
  · cases h; rfl
  · cases h
theorem midrangelaw25_fewKeys.l_eq (n m : Nat) : (∀ (z1 : List AV) (z2 : Int), runK G (midrangelaw25_fewKeys.C n) midrangelaw25_fewKeys.cut (fun S => finK G Tryz.f50.resultTypes.toList Tryz.f50.results.toList S midrangelaw25_fewKeys.dec) m midrangelaw25_fewKeys.t2 (midrangelaw25_fewKeys.s2 z1 z2) = (midrangelaw25_fewKeys.l n m) z1 z2) := by
  induction m with
  | zero => exact fun z1 z2 => rfl
  | succ m ih =>
    have h2 := ih
    have e2 : (fun (z1 : List AV) (z2 : Int) => runK G (midrangelaw25_fewKeys.C n) midrangelaw25_fewKeys.cut (fun S => finK G Tryz.f50.resultTypes.toList Tryz.f50.results.toList S midrangelaw25_fewKeys.dec) m midrangelaw25_fewKeys.t2 (midrangelaw25_fewKeys.s2 z1 z2)) = (midrangelaw25_fewKeys.l n m) := by funext z1 z2; exact h2 z1 z2
    have q2 : ∀ (z1 : List AV) (z2 : Int), runK G (midrangelaw25_fewKeys.C n) midrangelaw25_fewKeys.cut (fun S => finK G Tryz.f50.resultTypes.toList Tryz.f50.results.toList S midrangelaw25_fewKeys.dec) (m + 1) midrangelaw25_fewKeys.t2 (midrangelaw25_fewKeys.s2 z1 z2) = (midrangelaw25_fewKeys.l n (m + 1)) z1 z2 := by
      intro z1 z2
      rw [runK_succ]
      refine (midrangelaw25_fewKeys.r2_eq n _ midrangelaw25_fewKeys.dec z1 z2).trans ?_
      rw [e2]
      rfl
    exact q2
theorem midrangelaw25_fewKeys.hands (n : Nat) (a0 : List AV) {p : Bool} (h : midrangelaw25_fewKeys.F n a0 = some p) : HandsIn Tryz.prog 50 [.sl ⟨true, 111⟩ 2 a0] (vb p) := by
  refine hands_of cfg mixed globs rfl (midrangelaw25_fewKeys.tells n) (fn := Tryz.f50) Tryz.func50 (by kernel_rfl) (by kernel_rfl) (cut := midrangelaw25_fewKeys.cut) (K := midrangelaw25_fewKeys.dec) (r := p) (n := n) midrangelaw25_fewKeys.dec_inv ?_
  rw [funK_getD (by kernel_rfl)]
  have h1 := midrangelaw25_fewKeys.e_eq n (runK G (midrangelaw25_fewKeys.C n) midrangelaw25_fewKeys.cut (fun S => finK G Tryz.f50.resultTypes.toList Tryz.f50.results.toList S midrangelaw25_fewKeys.dec) n) midrangelaw25_fewKeys.dec a0
  have hl := midrangelaw25_fewKeys.l_eq n n
  simp only [hl] at h1
  exact h1.trans h
noncomputable def midrangelaw25_fewKeys.via {R : Type} (n : Nat) (xs : List AV) : (AV → Option R) → Option R := match xs with | [.sl ⟨true, 111⟩ 2 a0] => fun K => (midrangelaw25_fewKeys.F n a0).bind fun p => K (vb p) | _ => fun _ => none
theorem midrangelaw25_fewKeys.tells1 {R : Type} (n : Nat) (xs : List AV) : Tells1 (R := R) Tryz.prog 50 xs (midrangelaw25_fewKeys.via n xs) := by
  unfold midrangelaw25_fewKeys.via
  split
  · exact Tells1.of (fun p hp => (midrangelaw25_fewKeys.hands n _ hp).hands rfl)
  · exact Tells1.none
end Go.Proofs.YtmpglmcjoelciaaGreatDoor.Ev

/- midrange/midrangelaw25.FewLogical, out of its evaluation. Printed by the session's own program. -/
namespace Go.Proofs.YtmpglmcjoelciaaGreatDoor.Ev
open Go Go.Proofs Go.Proofs.Ev
set_option linter.unusedVariables false
set_option maxRecDepth 100000
/-! midrange/midrangelaw25.FewLogical: function 16 -/
noncomputable def midrangelaw25_FewLogical.r2 {R : Type} (n : Nat) (c2 : Unit → Option R) (c4 : Int → ByteArray → ByteArray → List AV → List AV → List AV → List AV → Bool → List AV → Option R) (c9 : Int → ByteArray → ByteArray → List AV → List AV → List AV → List AV → Bool → List AV → Option R) (c14 : Int → ByteArray → ByteArray → List AV → List AV → List AV → List AV → Bool → List AV → Option R) (c19 : Int → ByteArray → ByteArray → List AV → List AV → List AV → List AV → Bool → List AV → Option R) (c24 : Int → Int → ByteArray → ByteArray → List AV → List AV → List AV → List AV → Bool → List AV → Option R) (k : Bool → Option R) (_ : Unit) : Option R :=
  k false
noncomputable def midrangelaw25_FewLogical.r4 {R : Type} (n : Nat) (c2 : Unit → Option R) (c4 : Int → ByteArray → ByteArray → List AV → List AV → List AV → List AV → Bool → List AV → Option R) (c9 : Int → ByteArray → ByteArray → List AV → List AV → List AV → List AV → Bool → List AV → Option R) (c14 : Int → ByteArray → ByteArray → List AV → List AV → List AV → List AV → Bool → List AV → Option R) (c19 : Int → ByteArray → ByteArray → List AV → List AV → List AV → List AV → Bool → List AV → Option R) (c24 : Int → Int → ByteArray → ByteArray → List AV → List AV → List AV → List AV → Bool → List AV → Option R) (k : Bool → Option R) (z1 : Int) (z2 : ByteArray) (z3 : ByteArray) (z4 : List AV) (z5 : List AV) (z6 : List AV) (z7 : List AV) (z8 : Bool) (z9 : List AV) : Option R :=
  let y9 : Bool := decide (z1 < ((z4.length : Nat) : Int))
  bif y9 then (bif decide ((0 : Int) ≤ z1) && decide (z1 < ((z4.length : Nat) : Int)) then (withCons ((z4.getD ((z1).toNat) .undef).cells) fun h10 r11 =>
  withStr h10 fun s12 =>
  let y13 : Bool := decide (((s12.size : Nat) : Int) > 100)
  bif y13 then (k false) else (c4 (IntKind.i64.wrap (z1 + 1)) z2 z3 z4 z5 z6 z7 z8 z9)) else none) else (c9 0 z2 z3 z4 z5 z6 z7 z8 z9)
noncomputable def midrangelaw25_FewLogical.r9 {R : Type} (n : Nat) (c2 : Unit → Option R) (c4 : Int → ByteArray → ByteArray → List AV → List AV → List AV → List AV → Bool → List AV → Option R) (c9 : Int → ByteArray → ByteArray → List AV → List AV → List AV → List AV → Bool → List AV → Option R) (c14 : Int → ByteArray → ByteArray → List AV → List AV → List AV → List AV → Bool → List AV → Option R) (c19 : Int → ByteArray → ByteArray → List AV → List AV → List AV → List AV → Bool → List AV → Option R) (c24 : Int → Int → ByteArray → ByteArray → List AV → List AV → List AV → List AV → Bool → List AV → Option R) (k : Bool → Option R) (z1 : Int) (z2 : ByteArray) (z3 : ByteArray) (z4 : List AV) (z5 : List AV) (z6 : List AV) (z7 : List AV) (z8 : Bool) (z9 : List AV) : Option R :=
  let y14 : Bool := decide (z1 < ((z5.length : Nat) : Int))
  bif y14 then (bif decide ((0 : Int) ≤ z1) && decide (z1 < ((z5.length : Nat) : Int)) then (withCons ((z5.getD ((z1).toNat) .undef).cells) fun h15 r16 =>
  withStr h15 fun s17 =>
  let y18 : Bool := decide (((s17.size : Nat) : Int) > 100)
  bif y18 then (k false) else (bif decide ((0 : Int) ≤ z1) && decide (z1 < ((z5.length : Nat) : Int)) then (withCons (((z5.getD ((z1).toNat) .undef).cells).drop 2) fun h19 r20 =>
  withStr h19 fun s21 =>
  let y22 : Bool := decide (((s21.size : Nat) : Int) > 100)
  bif y22 then (k false) else (c9 (IntKind.i64.wrap (z1 + 1)) z2 z3 z4 z5 z6 z7 z8 z9)) else none)) else none) else (c14 0 z2 z3 z4 z5 z6 z7 z8 z9)
noncomputable def midrangelaw25_FewLogical.r14 {R : Type} (n : Nat) (c2 : Unit → Option R) (c4 : Int → ByteArray → ByteArray → List AV → List AV → List AV → List AV → Bool → List AV → Option R) (c9 : Int → ByteArray → ByteArray → List AV → List AV → List AV → List AV → Bool → List AV → Option R) (c14 : Int → ByteArray → ByteArray → List AV → List AV → List AV → List AV → Bool → List AV → Option R) (c19 : Int → ByteArray → ByteArray → List AV → List AV → List AV → List AV → Bool → List AV → Option R) (c24 : Int → Int → ByteArray → ByteArray → List AV → List AV → List AV → List AV → Bool → List AV → Option R) (k : Bool → Option R) (z1 : Int) (z2 : ByteArray) (z3 : ByteArray) (z4 : List AV) (z5 : List AV) (z6 : List AV) (z7 : List AV) (z8 : Bool) (z9 : List AV) : Option R :=
  let y23 : Bool := decide (z1 < ((z6.length : Nat) : Int))
  bif y23 then (bif decide ((0 : Int) ≤ z1) && decide (z1 < ((z6.length : Nat) : Int)) then (withCons (((z6.getD ((z1).toNat) .undef).cells).drop 1) fun h24 r25 =>
  withStr h24 fun s26 =>
  let y27 : Bool := decide (((s26.size : Nat) : Int) > 100)
  bif y27 then (k false) else (bif decide ((0 : Int) ≤ z1) && decide (z1 < ((z6.length : Nat) : Int)) then (withCons (((z6.getD ((z1).toNat) .undef).cells).drop 3) fun h28 r29 =>
  withStr h28 fun s30 =>
  let y31 : Bool := decide (((s30.size : Nat) : Int) > 100)
  bif y31 then (k false) else (c14 (IntKind.i64.wrap (z1 + 1)) z2 z3 z4 z5 z6 z7 z8 z9)) else none)) else none) else (c19 0 z2 z3 z4 z5 z6 z7 z8 z9)
noncomputable def midrangelaw25_FewLogical.r19 {R : Type} (n : Nat) (c2 : Unit → Option R) (c4 : Int → ByteArray → ByteArray → List AV → List AV → List AV → List AV → Bool → List AV → Option R) (c9 : Int → ByteArray → ByteArray → List AV → List AV → List AV → List AV → Bool → List AV → Option R) (c14 : Int → ByteArray → ByteArray → List AV → List AV → List AV → List AV → Bool → List AV → Option R) (c19 : Int → ByteArray → ByteArray → List AV → List AV → List AV → List AV → Bool → List AV → Option R) (c24 : Int → Int → ByteArray → ByteArray → List AV → List AV → List AV → List AV → Bool → List AV → Option R) (k : Bool → Option R) (z1 : Int) (z2 : ByteArray) (z3 : ByteArray) (z4 : List AV) (z5 : List AV) (z6 : List AV) (z7 : List AV) (z8 : Bool) (z9 : List AV) : Option R :=
  let y32 : Bool := decide (z1 < ((z9.length : Nat) : Int))
  bif y32 then (bif decide ((0 : Int) ≤ z1) && decide (z1 < ((z9.length : Nat) : Int)) then (withCons (((z9.getD ((z1).toNat) .undef).cells).drop 1) fun h33 r34 =>
  withSl ⟨true, 104⟩ 4 h33 fun xs35 =>
  let y36 : Bool := decide (((xs35.length : Nat) : Int) > 8)
  bif y36 then (k false) else (c24 z1 0 z2 z3 z4 z5 z6 z7 z8 z9)) else none) else (k true)
noncomputable def midrangelaw25_FewLogical.r24 {R : Type} (n : Nat) (c2 : Unit → Option R) (c4 : Int → ByteArray → ByteArray → List AV → List AV → List AV → List AV → Bool → List AV → Option R) (c9 : Int → ByteArray → ByteArray → List AV → List AV → List AV → List AV → Bool → List AV → Option R) (c14 : Int → ByteArray → ByteArray → List AV → List AV → List AV → List AV → Bool → List AV → Option R) (c19 : Int → ByteArray → ByteArray → List AV → List AV → List AV → List AV → Bool → List AV → Option R) (c24 : Int → Int → ByteArray → ByteArray → List AV → List AV → List AV → List AV → Bool → List AV → Option R) (k : Bool → Option R) (z1 : Int) (z2 : Int) (z3 : ByteArray) (z4 : ByteArray) (z5 : List AV) (z6 : List AV) (z7 : List AV) (z8 : List AV) (z9 : Bool) (z10 : List AV) : Option R :=
  bif decide ((0 : Int) ≤ z1) && decide (z1 < ((z10.length : Nat) : Int)) then (withCons (((z10.getD ((z1).toNat) .undef).cells).drop 1) fun h37 r38 =>
  withSl ⟨true, 104⟩ 4 h37 fun xs39 =>
  let y40 : Bool := decide (z2 < ((xs39.length : Nat) : Int))
  bif y40 then (bif decide ((0 : Int) ≤ z1) && decide (z1 < ((z10.length : Nat) : Int)) then (withCons (((z10.getD ((z1).toNat) .undef).cells).drop 1) fun h41 r42 =>
  withSl ⟨true, 104⟩ 4 h41 fun xs43 =>
  bif decide ((0 : Int) ≤ z2) && decide (z2 < ((xs43.length : Nat) : Int)) then (withCons ((xs43.getD ((z2).toNat) .undef).cells) fun h44 r45 =>
  withStr h44 fun s46 =>
  withCons r45 fun h47 r48 =>
  withInt .i64 h47 fun x49 =>
  withCons r48 fun h50 r51 =>
  withInt .i64 h50 fun x52 =>
  withCons r51 fun h53 r54 =>
  withStr h53 fun s55 =>
  let y56 : Bool := decide (((s46.size : Nat) : Int) > 100)
  bif y56 then (k false) else (let y57 : Bool := decide (((s55.size : Nat) : Int) > 400)
  bif y57 then (k false) else (c24 z1 (IntKind.i64.wrap (z2 + 1)) z3 z4 z5 z6 z7 z8 z9 z10))) else none) else none) else (c19 (IntKind.i64.wrap (z1 + 1)) z3 z4 z5 z6 z7 z8 z9 z10)) else none
noncomputable def midrangelaw25_FewLogical.e {R : Type} (n : Nat) (c2 : Unit → Option R) (c4 : Int → ByteArray → ByteArray → List AV → List AV → List AV → List AV → Bool → List AV → Option R) (c9 : Int → ByteArray → ByteArray → List AV → List AV → List AV → List AV → Bool → List AV → Option R) (c14 : Int → ByteArray → ByteArray → List AV → List AV → List AV → List AV → Bool → List AV → Option R) (c19 : Int → ByteArray → ByteArray → List AV → List AV → List AV → List AV → Bool → List AV → Option R) (c24 : Int → Int → ByteArray → ByteArray → List AV → List AV → List AV → List AV → Bool → List AV → Option R) (k : Bool → Option R) (a0 : ByteArray) (a1 : ByteArray) (a2 : List AV) (a3 : List AV) (a4 : List AV) (a5 : List AV) (a6 : Bool) (a7 : List AV) : Option R :=
  let y1 : Bool := decide (((a0.size : Nat) : Int) > 100)
  bif y1 then (c2 ()) else (let y2 : Bool := decide (((a1.size : Nat) : Int) > 100)
  bif y2 then (c2 ()) else (let y3 : Bool := decide (((a2.length : Nat) : Int) > 8)
  bif y3 then (c2 ()) else (let y4 : Bool := decide (((a3.length : Nat) : Int) > 40)
  bif y4 then (c2 ()) else (let y5 : Bool := decide (((a4.length : Nat) : Int) > 40)
  bif y5 then (c2 ()) else (let y6 : Bool := decide (((a5.length : Nat) : Int) > 40)
  bif y6 then (c2 ()) else (let y7 : Bool := decide (((a7.length : Nat) : Int) > 12)
  bif y7 then (c2 ()) else ((midrangelaw25_fewKeys.F n a5).bind fun p8 =>
  bif !p8 then (c2 ()) else (c4 0 a0 a1 a2 a3 a4 a5 a6 a7))))))))
noncomputable def midrangelaw25_FewLogical.C {R : Type} (n : Nat) (f : FuncId) (xs : List AV) : (AV → Option R) → Option R :=
  bif Nat.beq f 50 then midrangelaw25_fewKeys.via n xs else fun _ => none
theorem midrangelaw25_FewLogical.tells {R : Type} (n : Nat) : Tells (R := R) Tryz.prog (midrangelaw25_FewLogical.C n) := fun _ xs => tells_at (midrangelaw25_fewKeys.tells1 n xs) (Tells1.none)
noncomputable def midrangelaw25_FewLogical.cut (r : Nat) : Option Keep := match r with | 2 => Option.some ⟨[], []⟩ | 4 => Option.some ⟨[1, 3], []⟩ | 9 => Option.some ⟨[1, 4], []⟩ | 14 => Option.some ⟨[1, 5], []⟩ | 19 => Option.some ⟨[1, 6], []⟩ | 24 => Option.some ⟨[1, 6, 7], []⟩ | _ => none
noncomputable def midrangelaw25_FewLogical.t2 : List Item := (todoOf 2 1000 [.code (Tryz.f16.body.getD .skip)]).getD []
noncomputable def midrangelaw25_FewLogical.s2 (_ : Unit) : St := ⟨[.undef, .undef, .undef, .undef, .undef, .undef, .undef, .undef, .undef, .undef, .undef, .undef, .undef, .undef, .undef, .undef, .undef, .undef, .undef, .undef, .undef, .undef, .undef, .undef, .undef, .undef, .undef, .undef, .undef, .undef, .undef, .undef, .undef, .undef, .undef, .undef, .undef, .undef, .undef, .undef, .undef, .undef, .undef, .undef, .undef, .undef, .undef, .undef, .undef, .undef, .undef, .undef, .undef, .undef, .undef, .undef, .undef, .undef, .undef, .undef, .undef, .undef, .undef, .undef, .undef, .undef, .undef, .undef, .undef, .undef, .undef, .undef, .undef, .undef, .undef, .undef, .undef, .undef, .undef, .undef, .undef, .undef, .undef, .undef, .undef, .undef, .undef, .undef, .undef, .undef, .undef, .undef, .undef, .undef, .undef, .undef, .undef, .undef, .undef, .undef, .undef, .undef, .undef, .undef, .undef, .undef, .undef, .undef, .undef, .undef, .undef, .undef, .undef, .undef, .undef, .undef, .undef, .undef, .undef, .undef, .undef, .undef, .undef, .undef, .undef, .undef, .undef, .undef, .undef, .undef, .undef, .undef, .undef, .undef, .undef, .undef, .undef, .undef, .undef, .undef, .undef, .undef, .undef, .undef, .undef, .undef, .undef, .undef, .undef, .undef, .undef, .undef, .undef, .undef, .undef, .undef, .undef, .undef, .undef, .undef, .undef, .undef, .undef, .undef, .undef], Mem.ofList [], 0⟩
noncomputable def midrangelaw25_FewLogical.t4 : List Item := (todoOf 4 1000 [.code (Tryz.f16.body.getD .skip)]).getD []
noncomputable def midrangelaw25_FewLogical.s4 (z1 : Int) (z2 : ByteArray) (z3 : ByteArray) (z4 : List AV) (z5 : List AV) (z6 : List AV) (z7 : List AV) (z8 : Bool) (z9 : List AV) : St := ⟨[.undef, .ptr 0 0, .undef, vi z1, .undef, .undef, .undef, .undef, .undef, .undef, .undef, .undef, .undef, .undef, .undef, .undef, .undef, .undef, .undef, .undef, .undef, .undef, .undef, .undef, .undef, .undef, .undef, .undef, .undef, .undef, .undef, .undef, .undef, .undef, .undef, .undef, .undef, .undef, .undef, .undef, .undef, .undef, .undef, .undef, .undef, .undef, .undef, .undef, .undef, .undef, .undef, .undef, .undef, .undef, .undef, .undef, .undef, .undef, .undef, .undef, .undef, .undef, .undef, .undef, .undef, .undef, .undef, .undef, .undef, .undef, .undef, .undef, .undef, .undef, .undef, .undef, .undef, .undef, .undef, .undef, .undef, .undef, .undef, .undef, .undef, .undef, .undef, .undef, .undef, .undef, .undef, .undef, .undef, .undef, .undef, .undef, .undef, .undef, .undef, .undef, .undef, .undef, .undef, .undef, .undef, .undef, .undef, .undef, .undef, .undef, .undef, .undef, .undef, .undef, .undef, .undef, .undef, .undef, .undef, .undef, .undef, .undef, .undef, .undef, .undef, .undef, .undef, .undef, .undef, .undef, .undef, .undef, .undef, .undef, .undef, .undef, .undef, .undef, .undef, .undef, .undef, .undef, .undef, .undef, .undef, .undef, .undef, .undef, .undef, .undef, .undef, .undef, .undef, .undef, .undef, .undef, .undef, .undef, .undef, .undef, .undef, .undef, .undef, .undef, .undef], Mem.ofList [.box 36 [vs z2, vs z3, .sl ⟨true, 9⟩ 1 z4, .sl ⟨true, 95⟩ 3 z5, .sl ⟨true, 97⟩ 4 z6, .sl ⟨true, 111⟩ 2 z7, vb z8, .sl ⟨false, 100⟩ 2 z9]], 1⟩
noncomputable def midrangelaw25_FewLogical.t9 : List Item := (todoOf 9 1000 [.code (Tryz.f16.body.getD .skip)]).getD []
noncomputable def midrangelaw25_FewLogical.s9 (z1 : Int) (z2 : ByteArray) (z3 : ByteArray) (z4 : List AV) (z5 : List AV) (z6 : List AV) (z7 : List AV) (z8 : Bool) (z9 : List AV) : St := ⟨[.undef, .ptr 0 0, .undef, .undef, vi z1, .undef, .undef, .undef, .undef, .undef, .undef, .undef, .undef, .undef, .undef, .undef, .undef, .undef, .undef, .undef, .undef, .undef, .undef, .undef, .undef, .undef, .undef, .undef, .undef, .undef, .undef, .undef, .undef, .undef, .undef, .undef, .undef, .undef, .undef, .undef, .undef, .undef, .undef, .undef, .undef, .undef, .undef, .undef, .undef, .undef, .undef, .undef, .undef, .undef, .undef, .undef, .undef, .undef, .undef, .undef, .undef, .undef, .undef, .undef, .undef, .undef, .undef, .undef, .undef, .undef, .undef, .undef, .undef, .undef, .undef, .undef, .undef, .undef, .undef, .undef, .undef, .undef, .undef, .undef, .undef, .undef, .undef, .undef, .undef, .undef, .undef, .undef, .undef, .undef, .undef, .undef, .undef, .undef, .undef, .undef, .undef, .undef, .undef, .undef, .undef, .undef, .undef, .undef, .undef, .undef, .undef, .undef, .undef, .undef, .undef, .undef, .undef, .undef, .undef, .undef, .undef, .undef, .undef, .undef, .undef, .undef, .undef, .undef, .undef, .undef, .undef, .undef, .undef, .undef, .undef, .undef, .undef, .undef, .undef, .undef, .undef, .undef, .undef, .undef, .undef, .undef, .undef, .undef, .undef, .undef, .undef, .undef, .undef, .undef, .undef, .undef, .undef, .undef, .undef, .undef, .undef, .undef, .undef, .undef, .undef], Mem.ofList [.box 36 [vs z2, vs z3, .sl ⟨true, 9⟩ 1 z4, .sl ⟨true, 95⟩ 3 z5, .sl ⟨true, 97⟩ 4 z6, .sl ⟨true, 111⟩ 2 z7, vb z8, .sl ⟨false, 100⟩ 2 z9]], 1⟩
noncomputable def midrangelaw25_FewLogical.t14 : List Item := (todoOf 14 1000 [.code (Tryz.f16.body.getD .skip)]).getD []
noncomputable def midrangelaw25_FewLogical.s14 (z1 : Int) (z2 : ByteArray) (z3 : ByteArray) (z4 : List AV) (z5 : List AV) (z6 : List AV) (z7 : List AV) (z8 : Bool) (z9 : List AV) : St := ⟨[.undef, .ptr 0 0, .undef, .undef, .undef, vi z1, .undef, .undef, .undef, .undef, .undef, .undef, .undef, .undef, .undef, .undef, .undef, .undef, .undef, .undef, .undef, .undef, .undef, .undef, .undef, .undef, .undef, .undef, .undef, .undef, .undef, .undef, .undef, .undef, .undef, .undef, .undef, .undef, .undef, .undef, .undef, .undef, .undef, .undef, .undef, .undef, .undef, .undef, .undef, .undef, .undef, .undef, .undef, .undef, .undef, .undef, .undef, .undef, .undef, .undef, .undef, .undef, .undef, .undef, .undef, .undef, .undef, .undef, .undef, .undef, .undef, .undef, .undef, .undef, .undef, .undef, .undef, .undef, .undef, .undef, .undef, .undef, .undef, .undef, .undef, .undef, .undef, .undef, .undef, .undef, .undef, .undef, .undef, .undef, .undef, .undef, .undef, .undef, .undef, .undef, .undef, .undef, .undef, .undef, .undef, .undef, .undef, .undef, .undef, .undef, .undef, .undef, .undef, .undef, .undef, .undef, .undef, .undef, .undef, .undef, .undef, .undef, .undef, .undef, .undef, .undef, .undef, .undef, .undef, .undef, .undef, .undef, .undef, .undef, .undef, .undef, .undef, .undef, .undef, .undef, .undef, .undef, .undef, .undef, .undef, .undef, .undef, .undef, .undef, .undef, .undef, .undef, .undef, .undef, .undef, .undef, .undef, .undef, .undef, .undef, .undef, .undef, .undef, .undef, .undef], Mem.ofList [.box 36 [vs z2, vs z3, .sl ⟨true, 9⟩ 1 z4, .sl ⟨true, 95⟩ 3 z5, .sl ⟨true, 97⟩ 4 z6, .sl ⟨true, 111⟩ 2 z7, vb z8, .sl ⟨false, 100⟩ 2 z9]], 1⟩
noncomputable def midrangelaw25_FewLogical.t19 : List Item := (todoOf 19 1000 [.code (Tryz.f16.body.getD .skip)]).getD []
noncomputable def midrangelaw25_FewLogical.s19 (z1 : Int) (z2 : ByteArray) (z3 : ByteArray) (z4 : List AV) (z5 : List AV) (z6 : List AV) (z7 : List AV) (z8 : Bool) (z9 : List AV) : St := ⟨[.undef, .ptr 0 0, .undef, .undef, .undef, .undef, vi z1, .undef, .undef, .undef, .undef, .undef, .undef, .undef, .undef, .undef, .undef, .undef, .undef, .undef, .undef, .undef, .undef, .undef, .undef, .undef, .undef, .undef, .undef, .undef, .undef, .undef, .undef, .undef, .undef, .undef, .undef, .undef, .undef, .undef, .undef, .undef, .undef, .undef, .undef, .undef, .undef, .undef, .undef, .undef, .undef, .undef, .undef, .undef, .undef, .undef, .undef, .undef, .undef, .undef, .undef, .undef, .undef, .undef, .undef, .undef, .undef, .undef, .undef, .undef, .undef, .undef, .undef, .undef, .undef, .undef, .undef, .undef, .undef, .undef, .undef, .undef, .undef, .undef, .undef, .undef, .undef, .undef, .undef, .undef, .undef, .undef, .undef, .undef, .undef, .undef, .undef, .undef, .undef, .undef, .undef, .undef, .undef, .undef, .undef, .undef, .undef, .undef, .undef, .undef, .undef, .undef, .undef, .undef, .undef, .undef, .undef, .undef, .undef, .undef, .undef, .undef, .undef, .undef, .undef, .undef, .undef, .undef, .undef, .undef, .undef, .undef, .undef, .undef, .undef, .undef, .undef, .undef, .undef, .undef, .undef, .undef, .undef, .undef, .undef, .undef, .undef, .undef, .undef, .undef, .undef, .undef, .undef, .undef, .undef, .undef, .undef, .undef, .undef, .undef, .undef, .undef, .undef, .undef, .undef], Mem.ofList [.box 36 [vs z2, vs z3, .sl ⟨true, 9⟩ 1 z4, .sl ⟨true, 95⟩ 3 z5, .sl ⟨true, 97⟩ 4 z6, .sl ⟨true, 111⟩ 2 z7, vb z8, .sl ⟨false, 100⟩ 2 z9]], 1⟩
noncomputable def midrangelaw25_FewLogical.t24 : List Item := (todoOf 24 1000 [.code (Tryz.f16.body.getD .skip)]).getD []
noncomputable def midrangelaw25_FewLogical.s24 (z1 : Int) (z2 : Int) (z3 : ByteArray) (z4 : ByteArray) (z5 : List AV) (z6 : List AV) (z7 : List AV) (z8 : List AV) (z9 : Bool) (z10 : List AV) : St := ⟨[.undef, .ptr 0 0, .undef, .undef, .undef, .undef, vi z1, vi z2, .undef, .undef, .undef, .undef, .undef, .undef, .undef, .undef, .undef, .undef, .undef, .undef, .undef, .undef, .undef, .undef, .undef, .undef, .undef, .undef, .undef, .undef, .undef, .undef, .undef, .undef, .undef, .undef, .undef, .undef, .undef, .undef, .undef, .undef, .undef, .undef, .undef, .undef, .undef, .undef, .undef, .undef, .undef, .undef, .undef, .undef, .undef, .undef, .undef, .undef, .undef, .undef, .undef, .undef, .undef, .undef, .undef, .undef, .undef, .undef, .undef, .undef, .undef, .undef, .undef, .undef, .undef, .undef, .undef, .undef, .undef, .undef, .undef, .undef, .undef, .undef, .undef, .undef, .undef, .undef, .undef, .undef, .undef, .undef, .undef, .undef, .undef, .undef, .undef, .undef, .undef, .undef, .undef, .undef, .undef, .undef, .undef, .undef, .undef, .undef, .undef, .undef, .undef, .undef, .undef, .undef, .undef, .undef, .undef, .undef, .undef, .undef, .undef, .undef, .undef, .undef, .undef, .undef, .undef, .undef, .undef, .undef, .undef, .undef, .undef, .undef, .undef, .undef, .undef, .undef, .undef, .undef, .undef, .undef, .undef, .undef, .undef, .undef, .undef, .undef, .undef, .undef, .undef, .undef, .undef, .undef, .undef, .undef, .undef, .undef, .undef, .undef, .undef, .undef, .undef, .undef, .undef], Mem.ofList [.box 36 [vs z3, vs z4, .sl ⟨true, 9⟩ 1 z5, .sl ⟨true, 95⟩ 3 z6, .sl ⟨true, 97⟩ 4 z7, .sl ⟨true, 111⟩ 2 z8, vb z9, .sl ⟨false, 100⟩ 2 z10]], 1⟩
theorem midrangelaw25_FewLogical.e_eq {R : Type} (n : Nat) (rec : List Item → St → Option R) (K : AV → Option R) (a0 : ByteArray) (a1 : ByteArray) (a2 : List AV) (a3 : List AV) (a4 : List AV) (a5 : List AV) (a6 : Bool) (a7 : List AV) :
    goK G (midrangelaw25_FewLogical.C n) midrangelaw25_FewLogical.cut (fun S => finK G Tryz.f16.resultTypes.toList Tryz.f16.results.toList S K) rec 1000 [.code (Tryz.f16.body.getD .skip)] (Ev.start Tryz.f16 [AV.agg [vs a0, vs a1, .sl ⟨true, 9⟩ 1 a2, .sl ⟨true, 95⟩ 3 a3, .sl ⟨true, 97⟩ 4 a4, .sl ⟨true, 111⟩ 2 a5, vb a6, .sl ⟨false, 100⟩ 2 a7]]) = midrangelaw25_FewLogical.e n (fun _ => rec midrangelaw25_FewLogical.t2 (midrangelaw25_FewLogical.s2 ())) (fun z1 z2 z3 z4 z5 z6 z7 z8 z9 => rec midrangelaw25_FewLogical.t4 (midrangelaw25_FewLogical.s4 z1 z2 z3 z4 z5 z6 z7 z8 z9)) (fun z1 z2 z3 z4 z5 z6 z7 z8 z9 => rec midrangelaw25_FewLogical.t9 (midrangelaw25_FewLogical.s9 z1 z2 z3 z4 z5 z6 z7 z8 z9)) (fun z1 z2 z3 z4 z5 z6 z7 z8 z9 => rec midrangelaw25_FewLogical.t14 (midrangelaw25_FewLogical.s14 z1 z2 z3 z4 z5 z6 z7 z8 z9)) (fun z1 z2 z3 z4 z5 z6 z7 z8 z9 => rec midrangelaw25_FewLogical.t19 (midrangelaw25_FewLogical.s19 z1 z2 z3 z4 z5 z6 z7 z8 z9)) (fun z1 z2 z3 z4 z5 z6 z7 z8 z9 z10 => rec midrangelaw25_FewLogical.t24 (midrangelaw25_FewLogical.s24 z1 z2 z3 z4 z5 z6 z7 z8 z9 z10)) (fun p => K (vb p)) a0 a1 a2 a3 a4 a5 a6 a7 := by kernel_rfl
theorem midrangelaw25_FewLogical.r2_eq {R : Type} (n : Nat) (rec : List Item → St → Option R) (K : AV → Option R) (_ : Unit) :
    atK G (midrangelaw25_FewLogical.C n) midrangelaw25_FewLogical.cut (fun S => finK G Tryz.f16.resultTypes.toList Tryz.f16.results.toList S K) rec midrangelaw25_FewLogical.t2 (midrangelaw25_FewLogical.s2 ()) = midrangelaw25_FewLogical.r2 n (fun _ => rec midrangelaw25_FewLogical.t2 (midrangelaw25_FewLogical.s2 ())) (fun z1 z2 z3 z4 z5 z6 z7 z8 z9 => rec midrangelaw25_FewLogical.t4 (midrangelaw25_FewLogical.s4 z1 z2 z3 z4 z5 z6 z7 z8 z9)) (fun z1 z2 z3 z4 z5 z6 z7 z8 z9 => rec midrangelaw25_FewLogical.t9 (midrangelaw25_FewLogical.s9 z1 z2 z3 z4 z5 z6 z7 z8 z9)) (fun z1 z2 z3 z4 z5 z6 z7 z8 z9 => rec midrangelaw25_FewLogical.t14 (midrangelaw25_FewLogical.s14 z1 z2 z3 z4 z5 z6 z7 z8 z9)) (fun z1 z2 z3 z4 z5 z6 z7 z8 z9 => rec midrangelaw25_FewLogical.t19 (midrangelaw25_FewLogical.s19 z1 z2 z3 z4 z5 z6 z7 z8 z9)) (fun z1 z2 z3 z4 z5 z6 z7 z8 z9 z10 => rec midrangelaw25_FewLogical.t24 (midrangelaw25_FewLogical.s24 z1 z2 z3 z4 z5 z6 z7 z8 z9 z10)) (fun p => K (vb p)) () := by kernel_rfl
theorem midrangelaw25_FewLogical.r4_eq {R : Type} (n : Nat) (rec : List Item → St → Option R) (K : AV → Option R) (z1 : Int) (z2 : ByteArray) (z3 : ByteArray) (z4 : List AV) (z5 : List AV) (z6 : List AV) (z7 : List AV) (z8 : Bool) (z9 : List AV) :
    atK G (midrangelaw25_FewLogical.C n) midrangelaw25_FewLogical.cut (fun S => finK G Tryz.f16.resultTypes.toList Tryz.f16.results.toList S K) rec midrangelaw25_FewLogical.t4 (midrangelaw25_FewLogical.s4 z1 z2 z3 z4 z5 z6 z7 z8 z9) = midrangelaw25_FewLogical.r4 n (fun _ => rec midrangelaw25_FewLogical.t2 (midrangelaw25_FewLogical.s2 ())) (fun z1 z2 z3 z4 z5 z6 z7 z8 z9 => rec midrangelaw25_FewLogical.t4 (midrangelaw25_FewLogical.s4 z1 z2 z3 z4 z5 z6 z7 z8 z9)) (fun z1 z2 z3 z4 z5 z6 z7 z8 z9 => rec midrangelaw25_FewLogical.t9 (midrangelaw25_FewLogical.s9 z1 z2 z3 z4 z5 z6 z7 z8 z9)) (fun z1 z2 z3 z4 z5 z6 z7 z8 z9 => rec midrangelaw25_FewLogical.t14 (midrangelaw25_FewLogical.s14 z1 z2 z3 z4 z5 z6 z7 z8 z9)) (fun z1 z2 z3 z4 z5 z6 z7 z8 z9 => rec midrangelaw25_FewLogical.t19 (midrangelaw25_FewLogical.s19 z1 z2 z3 z4 z5 z6 z7 z8 z9)) (fun z1 z2 z3 z4 z5 z6 z7 z8 z9 z10 => rec midrangelaw25_FewLogical.t24 (midrangelaw25_FewLogical.s24 z1 z2 z3 z4 z5 z6 z7 z8 z9 z10)) (fun p => K (vb p)) z1 z2 z3 z4 z5 z6 z7 z8 z9 := by kernel_rfl
theorem midrangelaw25_FewLogical.r9_eq {R : Type} (n : Nat) (rec : List Item → St → Option R) (K : AV → Option R) (z1 : Int) (z2 : ByteArray) (z3 : ByteArray) (z4 : List AV) (z5 : List AV) (z6 : List AV) (z7 : List AV) (z8 : Bool) (z9 : List AV) :
    atK G (midrangelaw25_FewLogical.C n) midrangelaw25_FewLogical.cut (fun S => finK G Tryz.f16.resultTypes.toList Tryz.f16.results.toList S K) rec midrangelaw25_FewLogical.t9 (midrangelaw25_FewLogical.s9 z1 z2 z3 z4 z5 z6 z7 z8 z9) = midrangelaw25_FewLogical.r9 n (fun _ => rec midrangelaw25_FewLogical.t2 (midrangelaw25_FewLogical.s2 ())) (fun z1 z2 z3 z4 z5 z6 z7 z8 z9 => rec midrangelaw25_FewLogical.t4 (midrangelaw25_FewLogical.s4 z1 z2 z3 z4 z5 z6 z7 z8 z9)) (fun z1 z2 z3 z4 z5 z6 z7 z8 z9 => rec midrangelaw25_FewLogical.t9 (midrangelaw25_FewLogical.s9 z1 z2 z3 z4 z5 z6 z7 z8 z9)) (fun z1 z2 z3 z4 z5 z6 z7 z8 z9 => rec midrangelaw25_FewLogical.t14 (midrangelaw25_FewLogical.s14 z1 z2 z3 z4 z5 z6 z7 z8 z9)) (fun z1 z2 z3 z4 z5 z6 z7 z8 z9 => rec midrangelaw25_FewLogical.t19 (midrangelaw25_FewLogical.s19 z1 z2 z3 z4 z5 z6 z7 z8 z9)) (fun z1 z2 z3 z4 z5 z6 z7 z8 z9 z10 => rec midrangelaw25_FewLogical.t24 (midrangelaw25_FewLogical.s24 z1 z2 z3 z4 z5 z6 z7 z8 z9 z10)) (fun p => K (vb p)) z1 z2 z3 z4 z5 z6 z7 z8 z9 := by kernel_rfl
theorem midrangelaw25_FewLogical.r14_eq {R : Type} (n : Nat) (rec : List Item → St → Option R) (K : AV → Option R) (z1 : Int) (z2 : ByteArray) (z3 : ByteArray) (z4 : List AV) (z5 : List AV) (z6 : List AV) (z7 : List AV) (z8 : Bool) (z9 : List AV) :
    atK G (midrangelaw25_FewLogical.C n) midrangelaw25_FewLogical.cut (fun S => finK G Tryz.f16.resultTypes.toList Tryz.f16.results.toList S K) rec midrangelaw25_FewLogical.t14 (midrangelaw25_FewLogical.s14 z1 z2 z3 z4 z5 z6 z7 z8 z9) = midrangelaw25_FewLogical.r14 n (fun _ => rec midrangelaw25_FewLogical.t2 (midrangelaw25_FewLogical.s2 ())) (fun z1 z2 z3 z4 z5 z6 z7 z8 z9 => rec midrangelaw25_FewLogical.t4 (midrangelaw25_FewLogical.s4 z1 z2 z3 z4 z5 z6 z7 z8 z9)) (fun z1 z2 z3 z4 z5 z6 z7 z8 z9 => rec midrangelaw25_FewLogical.t9 (midrangelaw25_FewLogical.s9 z1 z2 z3 z4 z5 z6 z7 z8 z9)) (fun z1 z2 z3 z4 z5 z6 z7 z8 z9 => rec midrangelaw25_FewLogical.t14 (midrangelaw25_FewLogical.s14 z1 z2 z3 z4 z5 z6 z7 z8 z9)) (fun z1 z2 z3 z4 z5 z6 z7 z8 z9 => rec midrangelaw25_FewLogical.t19 (midrangelaw25_FewLogical.s19 z1 z2 z3 z4 z5 z6 z7 z8 z9)) (fun z1 z2 z3 z4 z5 z6 z7 z8 z9 z10 => rec midrangelaw25_FewLogical.t24 (midrangelaw25_FewLogical.s24 z1 z2 z3 z4 z5 z6 z7 z8 z9 z10)) (fun p => K (vb p)) z1 z2 z3 z4 z5 z6 z7 z8 z9 := by kernel_rfl
theorem midrangelaw25_FewLogical.r19_eq {R : Type} (n : Nat) (rec : List Item → St → Option R) (K : AV → Option R) (z1 : Int) (z2 : ByteArray) (z3 : ByteArray) (z4 : List AV) (z5 : List AV) (z6 : List AV) (z7 : List AV) (z8 : Bool) (z9 : List AV) :
    atK G (midrangelaw25_FewLogical.C n) midrangelaw25_FewLogical.cut (fun S => finK G Tryz.f16.resultTypes.toList Tryz.f16.results.toList S K) rec midrangelaw25_FewLogical.t19 (midrangelaw25_FewLogical.s19 z1 z2 z3 z4 z5 z6 z7 z8 z9) = midrangelaw25_FewLogical.r19 n (fun _ => rec midrangelaw25_FewLogical.t2 (midrangelaw25_FewLogical.s2 ())) (fun z1 z2 z3 z4 z5 z6 z7 z8 z9 => rec midrangelaw25_FewLogical.t4 (midrangelaw25_FewLogical.s4 z1 z2 z3 z4 z5 z6 z7 z8 z9)) (fun z1 z2 z3 z4 z5 z6 z7 z8 z9 => rec midrangelaw25_FewLogical.t9 (midrangelaw25_FewLogical.s9 z1 z2 z3 z4 z5 z6 z7 z8 z9)) (fun z1 z2 z3 z4 z5 z6 z7 z8 z9 => rec midrangelaw25_FewLogical.t14 (midrangelaw25_FewLogical.s14 z1 z2 z3 z4 z5 z6 z7 z8 z9)) (fun z1 z2 z3 z4 z5 z6 z7 z8 z9 => rec midrangelaw25_FewLogical.t19 (midrangelaw25_FewLogical.s19 z1 z2 z3 z4 z5 z6 z7 z8 z9)) (fun z1 z2 z3 z4 z5 z6 z7 z8 z9 z10 => rec midrangelaw25_FewLogical.t24 (midrangelaw25_FewLogical.s24 z1 z2 z3 z4 z5 z6 z7 z8 z9 z10)) (fun p => K (vb p)) z1 z2 z3 z4 z5 z6 z7 z8 z9 := by kernel_rfl
theorem midrangelaw25_FewLogical.r24_eq {R : Type} (n : Nat) (rec : List Item → St → Option R) (K : AV → Option R) (z1 : Int) (z2 : Int) (z3 : ByteArray) (z4 : ByteArray) (z5 : List AV) (z6 : List AV) (z7 : List AV) (z8 : List AV) (z9 : Bool) (z10 : List AV) :
    atK G (midrangelaw25_FewLogical.C n) midrangelaw25_FewLogical.cut (fun S => finK G Tryz.f16.resultTypes.toList Tryz.f16.results.toList S K) rec midrangelaw25_FewLogical.t24 (midrangelaw25_FewLogical.s24 z1 z2 z3 z4 z5 z6 z7 z8 z9 z10) = midrangelaw25_FewLogical.r24 n (fun _ => rec midrangelaw25_FewLogical.t2 (midrangelaw25_FewLogical.s2 ())) (fun z1 z2 z3 z4 z5 z6 z7 z8 z9 => rec midrangelaw25_FewLogical.t4 (midrangelaw25_FewLogical.s4 z1 z2 z3 z4 z5 z6 z7 z8 z9)) (fun z1 z2 z3 z4 z5 z6 z7 z8 z9 => rec midrangelaw25_FewLogical.t9 (midrangelaw25_FewLogical.s9 z1 z2 z3 z4 z5 z6 z7 z8 z9)) (fun z1 z2 z3 z4 z5 z6 z7 z8 z9 => rec midrangelaw25_FewLogical.t14 (midrangelaw25_FewLogical.s14 z1 z2 z3 z4 z5 z6 z7 z8 z9)) (fun z1 z2 z3 z4 z5 z6 z7 z8 z9 => rec midrangelaw25_FewLogical.t19 (midrangelaw25_FewLogical.s19 z1 z2 z3 z4 z5 z6 z7 z8 z9)) (fun z1 z2 z3 z4 z5 z6 z7 z8 z9 z10 => rec midrangelaw25_FewLogical.t24 (midrangelaw25_FewLogical.s24 z1 z2 z3 z4 z5 z6 z7 z8 z9 z10)) (fun p => K (vb p)) z1 z2 z3 z4 z5 z6 z7 z8 z9 z10 := by kernel_rfl
noncomputable def midrangelaw25_FewLogical.l (n : Nat) : Nat → (Unit → Option (Bool)) × (Int → ByteArray → ByteArray → List AV → List AV → List AV → List AV → Bool → List AV → Option (Bool)) × (Int → ByteArray → ByteArray → List AV → List AV → List AV → List AV → Bool → List AV → Option (Bool)) × (Int → ByteArray → ByteArray → List AV → List AV → List AV → List AV → Bool → List AV → Option (Bool)) × (Int → ByteArray → ByteArray → List AV → List AV → List AV → List AV → Bool → List AV → Option (Bool)) × (Int → Int → ByteArray → ByteArray → List AV → List AV → List AV → List AV → Bool → List AV → Option (Bool))
  | 0 => ((fun _ => none), (fun _ _ _ _ _ _ _ _ _ => none), (fun _ _ _ _ _ _ _ _ _ => none), (fun _ _ _ _ _ _ _ _ _ => none), (fun _ _ _ _ _ _ _ _ _ => none), (fun _ _ _ _ _ _ _ _ _ _ => none))
  | m + 1 => (midrangelaw25_FewLogical.r2 n ((midrangelaw25_FewLogical.l n m).1) ((midrangelaw25_FewLogical.l n m).2.1) ((midrangelaw25_FewLogical.l n m).2.2.1) ((midrangelaw25_FewLogical.l n m).2.2.2.1) ((midrangelaw25_FewLogical.l n m).2.2.2.2.1) ((midrangelaw25_FewLogical.l n m).2.2.2.2.2) Option.some, midrangelaw25_FewLogical.r4 n ((midrangelaw25_FewLogical.l n m).1) ((midrangelaw25_FewLogical.l n m).2.1) ((midrangelaw25_FewLogical.l n m).2.2.1) ((midrangelaw25_FewLogical.l n m).2.2.2.1) ((midrangelaw25_FewLogical.l n m).2.2.2.2.1) ((midrangelaw25_FewLogical.l n m).2.2.2.2.2) Option.some, midrangelaw25_FewLogical.r9 n ((midrangelaw25_FewLogical.l n m).1) ((midrangelaw25_FewLogical.l n m).2.1) ((midrangelaw25_FewLogical.l n m).2.2.1) ((midrangelaw25_FewLogical.l n m).2.2.2.1) ((midrangelaw25_FewLogical.l n m).2.2.2.2.1) ((midrangelaw25_FewLogical.l n m).2.2.2.2.2) Option.some, midrangelaw25_FewLogical.r14 n ((midrangelaw25_FewLogical.l n m).1) ((midrangelaw25_FewLogical.l n m).2.1) ((midrangelaw25_FewLogical.l n m).2.2.1) ((midrangelaw25_FewLogical.l n m).2.2.2.1) ((midrangelaw25_FewLogical.l n m).2.2.2.2.1) ((midrangelaw25_FewLogical.l n m).2.2.2.2.2) Option.some, midrangelaw25_FewLogical.r19 n ((midrangelaw25_FewLogical.l n m).1) ((midrangelaw25_FewLogical.l n m).2.1) ((midrangelaw25_FewLogical.l n m).2.2.1) ((midrangelaw25_FewLogical.l n m).2.2.2.1) ((midrangelaw25_FewLogical.l n m).2.2.2.2.1) ((midrangelaw25_FewLogical.l n m).2.2.2.2.2) Option.some, midrangelaw25_FewLogical.r24 n ((midrangelaw25_FewLogical.l n m).1) ((midrangelaw25_FewLogical.l n m).2.1) ((midrangelaw25_FewLogical.l n m).2.2.1) ((midrangelaw25_FewLogical.l n m).2.2.2.1) ((midrangelaw25_FewLogical.l n m).2.2.2.2.1) ((midrangelaw25_FewLogical.l n m).2.2.2.2.2) Option.some)
noncomputable def midrangelaw25_FewLogical.F (n : Nat) (a0 : ByteArray) (a1 : ByteArray) (a2 : List AV) (a3 : List AV) (a4 : List AV) (a5 : List AV) (a6 : Bool) (a7 : List AV) : Option (Bool) := midrangelaw25_FewLogical.e n ((midrangelaw25_FewLogical.l n n).1) ((midrangelaw25_FewLogical.l n n).2.1) ((midrangelaw25_FewLogical.l n n).2.2.1) ((midrangelaw25_FewLogical.l n n).2.2.2.1) ((midrangelaw25_FewLogical.l n n).2.2.2.2.1) ((midrangelaw25_FewLogical.l n n).2.2.2.2.2) Option.some a0 a1 a2 a3 a4 a5 a6 a7
noncomputable def midrangelaw25_FewLogical.dec (x : AV) : Option (Bool) := match x with | .v (.bool p0) => Option.some p0 | _ => none
theorem midrangelaw25_FewLogical.dec_inv {p : Bool} (y : AV) (h : midrangelaw25_FewLogical.dec y = some p) : y = vb p := by
  unfold midrangelaw25_FewLogical.dec at h
  split at h
  · cases h; rfl
  · cases h
theorem midrangelaw25_FewLogical.l_eq (n m : Nat) : (∀ z : Unit, runK G (midrangelaw25_FewLogical.C n) midrangelaw25_FewLogical.cut (fun S => finK G Tryz.f16.resultTypes.toList Tryz.f16.results.toList S midrangelaw25_FewLogical.dec) m midrangelaw25_FewLogical.t2 (midrangelaw25_FewLogical.s2 z) = ((midrangelaw25_FewLogical.l n m).1) z) ∧ (∀ (z1 : Int) (z2 : ByteArray) (z3 : ByteArray) (z4 : List AV) (z5 : List AV) (z6 : List AV) (z7 : List AV) (z8 : Bool) (z9 : List AV), runK G (midrangelaw25_FewLogical.C n) midrangelaw25_FewLogical.cut (fun S => finK G Tryz.f16.resultTypes.toList Tryz.f16.results.toList S midrangelaw25_FewLogical.dec) m midrangelaw25_FewLogical.t4 (midrangelaw25_FewLogical.s4 z1 z2 z3 z4 z5 z6 z7 z8 z9) = ((midrangelaw25_FewLogical.l n m).2.1) z1 z2 z3 z4 z5 z6 z7 z8 z9) ∧ (∀ (z1 : Int) (z2 : ByteArray) (z3 : ByteArray) (z4 : List AV) (z5 : List AV) (z6 : List AV) (z7 : List AV) (z8 : Bool) (z9 : List AV), runK G (midrangelaw25_FewLogical.C n) midrangelaw25_FewLogical.cut (fun S => finK G Tryz.f16.resultTypes.toList Tryz.f16.results.toList S midrangelaw25_FewLogical.dec) m midrangelaw25_FewLogical.t9 (midrangelaw25_FewLogical.s9 z1 z2 z3 z4 z5 z6 z7 z8 z9) = ((midrangelaw25_FewLogical.l n m).2.2.1) z1 z2 z3 z4 z5 z6 z7 z8 z9) ∧ (∀ (z1 : Int) (z2 : ByteArray) (z3 : ByteArray) (z4 : List AV) (z5 : List AV) (z6 : List AV) (z7 : List AV) (z8 : Bool) (z9 : List AV), runK G (midrangelaw25_FewLogical.C n) midrangelaw25_FewLogical.cut (fun S => finK G Tryz.f16.resultTypes.toList Tryz.f16.results.toList S midrangelaw25_FewLogical.dec) m midrangelaw25_FewLogical.t14 (midrangelaw25_FewLogical.s14 z1 z2 z3 z4 z5 z6 z7 z8 z9) = ((midrangelaw25_FewLogical.l n m).2.2.2.1) z1 z2 z3 z4 z5 z6 z7 z8 z9) ∧ (∀ (z1 : Int) (z2 : ByteArray) (z3 : ByteArray) (z4 : List AV) (z5 : List AV) (z6 : List AV) (z7 : List AV) (z8 : Bool) (z9 : List AV), runK G (midrangelaw25_FewLogical.C n) midrangelaw25_FewLogical.cut (fun S => finK G Tryz.f16.resultTypes.toList Tryz.f16.results.toList S midrangelaw25_FewLogical.dec) m midrangelaw25_FewLogical.t19 (midrangelaw25_FewLogical.s19 z1 z2 z3 z4 z5 z6 z7 z8 z9) = ((midrangelaw25_FewLogical.l n m).2.2.2.2.1) z1 z2 z3 z4 z5 z6 z7 z8 z9) ∧ (∀ (z1 : Int) (z2 : Int) (z3 : ByteArray) (z4 : ByteArray) (z5 : List AV) (z6 : List AV) (z7 : List AV) (z8 : List AV) (z9 : Bool) (z10 : List AV), runK G (midrangelaw25_FewLogical.C n) midrangelaw25_FewLogical.cut (fun S => finK G Tryz.f16.resultTypes.toList Tryz.f16.results.toList S midrangelaw25_FewLogical.dec) m midrangelaw25_FewLogical.t24 (midrangelaw25_FewLogical.s24 z1 z2 z3 z4 z5 z6 z7 z8 z9 z10) = ((midrangelaw25_FewLogical.l n m).2.2.2.2.2) z1 z2 z3 z4 z5 z6 z7 z8 z9 z10) := by
  induction m with
  | zero => exact ⟨fun _ => rfl, fun z1 z2 z3 z4 z5 z6 z7 z8 z9 => rfl, fun z1 z2 z3 z4 z5 z6 z7 z8 z9 => rfl, fun z1 z2 z3 z4 z5 z6 z7 z8 z9 => rfl, fun z1 z2 z3 z4 z5 z6 z7 z8 z9 => rfl, fun z1 z2 z3 z4 z5 z6 z7 z8 z9 z10 => rfl⟩
  | succ m ih =>
    obtain ⟨h2, h4, h9, h14, h19, h24⟩ := ih
    have e2 : (fun (_ : Unit) => runK G (midrangelaw25_FewLogical.C n) midrangelaw25_FewLogical.cut (fun S => finK G Tryz.f16.resultTypes.toList Tryz.f16.results.toList S midrangelaw25_FewLogical.dec) m midrangelaw25_FewLogical.t2 (midrangelaw25_FewLogical.s2 ())) = (midrangelaw25_FewLogical.l n m).1 := by funext z; exact h2 z
    have e4 : (fun (z1 : Int) (z2 : ByteArray) (z3 : ByteArray) (z4 : List AV) (z5 : List AV) (z6 : List AV) (z7 : List AV) (z8 : Bool) (z9 : List AV) => runK G (midrangelaw25_FewLogical.C n) midrangelaw25_FewLogical.cut (fun S => finK G Tryz.f16.resultTypes.toList Tryz.f16.results.toList S midrangelaw25_FewLogical.dec) m midrangelaw25_FewLogical.t4 (midrangelaw25_FewLogical.s4 z1 z2 z3 z4 z5 z6 z7 z8 z9)) = (midrangelaw25_FewLogical.l n m).2.1 := by funext z1 z2 z3 z4 z5 z6 z7 z8 z9; exact h4 z1 z2 z3 z4 z5 z6 z7 z8 z9
    have e9 : (fun (z1 : Int) (z2 : ByteArray) (z3 : ByteArray) (z4 : List AV) (z5 : List AV) (z6 : List AV) (z7 : List AV) (z8 : Bool) (z9 : List AV) => runK G (midrangelaw25_FewLogical.C n) midrangelaw25_FewLogical.cut (fun S => finK G Tryz.f16.resultTypes.toList Tryz.f16.results.toList S midrangelaw25_FewLogical.dec) m midrangelaw25_FewLogical.t9 (midrangelaw25_FewLogical.s9 z1 z2 z3 z4 z5 z6 z7 z8 z9)) = (midrangelaw25_FewLogical.l n m).2.2.1 := by funext z1 z2 z3 z4 z5 z6 z7 z8 z9; exact h9 z1 z2 z3 z4 z5 z6 z7 z8 z9
    have e14 : (fun (z1 : Int) (z2 : ByteArray) (z3 : ByteArray) (z4 : List AV) (z5 : List AV) (z6 : List AV) (z7 : List AV) (z8 : Bool) (z9 : List AV) => runK G (midrangelaw25_FewLogical.C n) midrangelaw25_FewLogical.cut (fun S => finK G Tryz.f16.resultTypes.toList Tryz.f16.results.toList S midrangelaw25_FewLogical.dec) m midrangelaw25_FewLogical.t14 (midrangelaw25_FewLogical.s14 z1 z2 z3 z4 z5 z6 z7 z8 z9)) = (midrangelaw25_FewLogical.l n m).2.2.2.1 := by funext z1 z2 z3 z4 z5 z6 z7 z8 z9; exact h14 z1 z2 z3 z4 z5 z6 z7 z8 z9
    have e19 : (fun (z1 : Int) (z2 : ByteArray) (z3 : ByteArray) (z4 : List AV) (z5 : List AV) (z6 : List AV) (z7 : List AV) (z8 : Bool) (z9 : List AV) => runK G (midrangelaw25_FewLogical.C n) midrangelaw25_FewLogical.cut (fun S => finK G Tryz.f16.resultTypes.toList Tryz.f16.results.toList S midrangelaw25_FewLogical.dec) m midrangelaw25_FewLogical.t19 (midrangelaw25_FewLogical.s19 z1 z2 z3 z4 z5 z6 z7 z8 z9)) = (midrangelaw25_FewLogical.l n m).2.2.2.2.1 := by funext z1 z2 z3 z4 z5 z6 z7 z8 z9; exact h19 z1 z2 z3 z4 z5 z6 z7 z8 z9
    have e24 : (fun (z1 : Int) (z2 : Int) (z3 : ByteArray) (z4 : ByteArray) (z5 : List AV) (z6 : List AV) (z7 : List AV) (z8 : List AV) (z9 : Bool) (z10 : List AV) => runK G (midrangelaw25_FewLogical.C n) midrangelaw25_FewLogical.cut (fun S => finK G Tryz.f16.resultTypes.toList Tryz.f16.results.toList S midrangelaw25_FewLogical.dec) m midrangelaw25_FewLogical.t24 (midrangelaw25_FewLogical.s24 z1 z2 z3 z4 z5 z6 z7 z8 z9 z10)) = (midrangelaw25_FewLogical.l n m).2.2.2.2.2 := by funext z1 z2 z3 z4 z5 z6 z7 z8 z9 z10; exact h24 z1 z2 z3 z4 z5 z6 z7 z8 z9 z10
    have q2 : ∀ z : Unit, runK G (midrangelaw25_FewLogical.C n) midrangelaw25_FewLogical.cut (fun S => finK G Tryz.f16.resultTypes.toList Tryz.f16.results.toList S midrangelaw25_FewLogical.dec) (m + 1) midrangelaw25_FewLogical.t2 (midrangelaw25_FewLogical.s2 z) = ((midrangelaw25_FewLogical.l n (m + 1)).1) z := by
      intro z
      rw [runK_succ]
      refine (midrangelaw25_FewLogical.r2_eq n _ midrangelaw25_FewLogical.dec ()).trans ?_
      rw [e2, e4, e9, e14, e19, e24]
      rfl
    have q4 : ∀ (z1 : Int) (z2 : ByteArray) (z3 : ByteArray) (z4 : List AV) (z5 : List AV) (z6 : List AV) (z7 : List AV) (z8 : Bool) (z9 : List AV), runK G (midrangelaw25_FewLogical.C n) midrangelaw25_FewLogical.cut (fun S => finK G Tryz.f16.resultTypes.toList Tryz.f16.results.toList S midrangelaw25_FewLogical.dec) (m + 1) midrangelaw25_FewLogical.t4 (midrangelaw25_FewLogical.s4 z1 z2 z3 z4 z5 z6 z7 z8 z9) = ((midrangelaw25_FewLogical.l n (m + 1)).2.1) z1 z2 z3 z4 z5 z6 z7 z8 z9 := by
      intro z1 z2 z3 z4 z5 z6 z7 z8 z9
      rw [runK_succ]
      refine (midrangelaw25_FewLogical.r4_eq n _ midrangelaw25_FewLogical.dec z1 z2 z3 z4 z5 z6 z7 z8 z9).trans ?_
      rw [e2, e4, e9, e14, e19, e24]
      rfl
    have q9 : ∀ (z1 : Int) (z2 : ByteArray) (z3 : ByteArray) (z4 : List AV) (z5 : List AV) (z6 : List AV) (z7 : List AV) (z8 : Bool) (z9 : List AV), runK G (midrangelaw25_FewLogical.C n) midrangelaw25_FewLogical.cut (fun S => finK G Tryz.f16.resultTypes.toList Tryz.f16.results.toList S midrangelaw25_FewLogical.dec) (m + 1) midrangelaw25_FewLogical.t9 (midrangelaw25_FewLogical.s9 z1 z2 z3 z4 z5 z6 z7 z8 z9) = ((midrangelaw25_FewLogical.l n (m + 1)).2.2.1) z1 z2 z3 z4 z5 z6 z7 z8 z9 := by
      intro z1 z2 z3 z4 z5 z6 z7 z8 z9
      rw [runK_succ]
      refine (midrangelaw25_FewLogical.r9_eq n _ midrangelaw25_FewLogical.dec z1 z2 z3 z4 z5 z6 z7 z8 z9).trans ?_
      rw [e2, e4, e9, e14, e19, e24]
      rfl
    have q14 : ∀ (z1 : Int) (z2 : ByteArray) (z3 : ByteArray) (z4 : List AV) (z5 : List AV) (z6 : List AV) (z7 : List AV) (z8 : Bool) (z9 : List AV), runK G (midrangelaw25_FewLogical.C n) midrangelaw25_FewLogical.cut (fun S => finK G Tryz.f16.resultTypes.toList Tryz.f16.results.toList S midrangelaw25_FewLogical.dec) (m + 1) midrangelaw25_FewLogical.t14 (midrangelaw25_FewLogical.s14 z1 z2 z3 z4 z5 z6 z7 z8 z9) = ((midrangelaw25_FewLogical.l n (m + 1)).2.2.2.1) z1 z2 z3 z4 z5 z6 z7 z8 z9 := by
      intro z1 z2 z3 z4 z5 z6 z7 z8 z9
      rw [runK_succ]
      refine (midrangelaw25_FewLogical.r14_eq n _ midrangelaw25_FewLogical.dec z1 z2 z3 z4 z5 z6 z7 z8 z9).trans ?_
      rw [e2, e4, e9, e14, e19, e24]
      rfl
    have q19 : ∀ (z1 : Int) (z2 : ByteArray) (z3 : ByteArray) (z4 : List AV) (z5 : List AV) (z6 : List AV) (z7 : List AV) (z8 : Bool) (z9 : List AV), runK G (midrangelaw25_FewLogical.C n) midrangelaw25_FewLogical.cut (fun S => finK G Tryz.f16.resultTypes.toList Tryz.f16.results.toList S midrangelaw25_FewLogical.dec) (m + 1) midrangelaw25_FewLogical.t19 (midrangelaw25_FewLogical.s19 z1 z2 z3 z4 z5 z6 z7 z8 z9) = ((midrangelaw25_FewLogical.l n (m + 1)).2.2.2.2.1) z1 z2 z3 z4 z5 z6 z7 z8 z9 := by
      intro z1 z2 z3 z4 z5 z6 z7 z8 z9
      rw [runK_succ]
      refine (midrangelaw25_FewLogical.r19_eq n _ midrangelaw25_FewLogical.dec z1 z2 z3 z4 z5 z6 z7 z8 z9).trans ?_
      rw [e2, e4, e9, e14, e19, e24]
      rfl
    have q24 : ∀ (z1 : Int) (z2 : Int) (z3 : ByteArray) (z4 : ByteArray) (z5 : List AV) (z6 : List AV) (z7 : List AV) (z8 : List AV) (z9 : Bool) (z10 : List AV), runK G (midrangelaw25_FewLogical.C n) midrangelaw25_FewLogical.cut (fun S => finK G Tryz.f16.resultTypes.toList Tryz.f16.results.toList S midrangelaw25_FewLogical.dec) (m + 1) midrangelaw25_FewLogical.t24 (midrangelaw25_FewLogical.s24 z1 z2 z3 z4 z5 z6 z7 z8 z9 z10) = ((midrangelaw25_FewLogical.l n (m + 1)).2.2.2.2.2) z1 z2 z3 z4 z5 z6 z7 z8 z9 z10 := by
      intro z1 z2 z3 z4 z5 z6 z7 z8 z9 z10
      rw [runK_succ]
      refine (midrangelaw25_FewLogical.r24_eq n _ midrangelaw25_FewLogical.dec z1 z2 z3 z4 z5 z6 z7 z8 z9 z10).trans ?_
      rw [e2, e4, e9, e14, e19, e24]
      rfl
    exact ⟨q2, q4, q9, q14, q19, q24⟩
theorem midrangelaw25_FewLogical.hands (n : Nat) (a0 : ByteArray) (a1 : ByteArray) (a2 : List AV) (a3 : List AV) (a4 : List AV) (a5 : List AV) (a6 : Bool) (a7 : List AV) {p : Bool} (h : midrangelaw25_FewLogical.F n a0 a1 a2 a3 a4 a5 a6 a7 = some p) : HandsIn Tryz.prog 16 [AV.agg [vs a0, vs a1, .sl ⟨true, 9⟩ 1 a2, .sl ⟨true, 95⟩ 3 a3, .sl ⟨true, 97⟩ 4 a4, .sl ⟨true, 111⟩ 2 a5, vb a6, .sl ⟨false, 100⟩ 2 a7]] (vb p) := by
  refine hands_of cfg mixed globs rfl (midrangelaw25_FewLogical.tells n) (fn := Tryz.f16) Tryz.func16 (by kernel_rfl) (by kernel_rfl) (cut := midrangelaw25_FewLogical.cut) (K := midrangelaw25_FewLogical.dec) (r := p) (n := n) midrangelaw25_FewLogical.dec_inv ?_
  rw [funK_getD (by kernel_rfl)]
  have h1 := midrangelaw25_FewLogical.e_eq n (runK G (midrangelaw25_FewLogical.C n) midrangelaw25_FewLogical.cut (fun S => finK G Tryz.f16.resultTypes.toList Tryz.f16.results.toList S midrangelaw25_FewLogical.dec) n) midrangelaw25_FewLogical.dec a0 a1 a2 a3 a4 a5 a6 a7
  have hl := midrangelaw25_FewLogical.l_eq n n
  simp only [hl.1, hl.2.1, hl.2.2.1, hl.2.2.2.1, hl.2.2.2.2.1, hl.2.2.2.2.2] at h1
  exact h1.trans h
noncomputable def midrangelaw25_FewLogical.via {R : Type} (n : Nat) (xs : List AV) : (AV → Option R) → Option R := match xs with | [.agg [.v (.string a0), .v (.string a1), .sl ⟨true, 9⟩ 1 a2, .sl ⟨true, 95⟩ 3 a3, .sl ⟨true, 97⟩ 4 a4, .sl ⟨true, 111⟩ 2 a5, .v (.bool a6), .sl ⟨false, 100⟩ 2 a7]] => fun K => (midrangelaw25_FewLogical.F n a0 a1 a2 a3 a4 a5 a6 a7).bind fun p => K (vb p) | _ => fun _ => none
theorem midrangelaw25_FewLogical.tells1 {R : Type} (n : Nat) (xs : List AV) : Tells1 (R := R) Tryz.prog 16 xs (midrangelaw25_FewLogical.via n xs) := by
  unfold midrangelaw25_FewLogical.via
  split
  · exact Tells1.of (fun p hp => (midrangelaw25_FewLogical.hands n _ _ _ _ _ _ _ _ hp).hands rfl)
  · exact Tells1.none
end Go.Proofs.YtmpglmcjoelciaaGreatDoor.Ev

/- midrange/dds.cond, out of its evaluation. Printed by the session's own program. -/
namespace Go.Proofs.YtmpglmcjoelciaaGreatDoor.Ev
open Go Go.Proofs Go.Proofs.Ev
set_option linter.unusedVariables false
set_option maxRecDepth 100000
/-! midrange/dds.cond: function 45 -/
noncomputable def dds_cond.e {R : Type} (n : Nat)  (k : Int → Option R) (a0 : Bool) (a1 : Int) : Option R :=
  bif a0 then (k a1) else (k 0)
noncomputable def dds_cond.C {R : Type} (n : Nat) (f : FuncId) (xs : List AV) : (AV → Option R) → Option R :=
  fun _ => none
theorem dds_cond.tells {R : Type} (n : Nat) : Tells (R := R) Tryz.prog (dds_cond.C n) := fun _ xs => Tells1.none
noncomputable def dds_cond.cut (r : Nat) : Option Keep := match r with  | _ => none
theorem dds_cond.e_eq {R : Type} (n : Nat) (rec : List Item → St → Option R) (K : AV → Option R) (a0 : Bool) (a1 : Int) :
    goK G (dds_cond.C n) dds_cond.cut (fun S => finK G Tryz.f45.resultTypes.toList Tryz.f45.results.toList S K) rec 1000 [.code (Tryz.f45.body.getD .skip)] (Ev.start Tryz.f45 [vb a0, vi a1]) = dds_cond.e n  (fun p => K (vi p)) a0 a1 := by kernel_rfl
noncomputable def dds_cond.F (n : Nat) (a0 : Bool) (a1 : Int) : Option (Int) := dds_cond.e n  Option.some a0 a1
noncomputable def dds_cond.dec (x : AV) : Option (Int) := match x with | .v (.int .i64 p0) => Option.some p0 | _ => none
theorem dds_cond.dec_inv {p : Int} (y : AV) (h : dds_cond.dec y = some p) : y = vi p := by
  unfold dds_cond.dec at h
  split at h
  · cases h; rfl
  · cases h
theorem dds_cond.hands (n : Nat) (a0 : Bool) (a1 : Int) {p : Int} (h : dds_cond.F n a0 a1 = some p) : HandsIn Tryz.prog 45 [vb a0, vi a1] (vi p) := by
  refine hands_of cfg mixed globs rfl (dds_cond.tells n) (fn := Tryz.f45) Tryz.func45 (by kernel_rfl) (by kernel_rfl) (cut := dds_cond.cut) (K := dds_cond.dec) (r := p) (n := n) dds_cond.dec_inv ?_
  rw [funK_getD (by kernel_rfl)]
  have h1 := dds_cond.e_eq n (runK G (dds_cond.C n) dds_cond.cut (fun S => finK G Tryz.f45.resultTypes.toList Tryz.f45.results.toList S dds_cond.dec) n) dds_cond.dec a0 a1
  exact h1.trans h
noncomputable def dds_cond.via {R : Type} (n : Nat) (xs : List AV) : (AV → Option R) → Option R := match xs with | [.v (.bool a0), .v (.int .i64 a1)] => fun K => (dds_cond.F n a0 a1).bind fun p => K (vi p) | _ => fun _ => none
theorem dds_cond.tells1 {R : Type} (n : Nat) (xs : List AV) : Tells1 (R := R) Tryz.prog 45 xs (dds_cond.via n xs) := by
  unfold dds_cond.via
  split
  · exact Tells1.of (fun p hp => (dds_cond.hands n _ _ hp).hands rfl)
  · exact Tells1.none
end Go.Proofs.YtmpglmcjoelciaaGreatDoor.Ev

/- midrange/dds.isName, out of its evaluation. Printed by the session's own program. -/
namespace Go.Proofs.YtmpglmcjoelciaaGreatDoor.Ev
open Go Go.Proofs Go.Proofs.Ev
set_option linter.unusedVariables false
set_option maxRecDepth 100000
/-! midrange/dds.isName: function 51 -/
noncomputable def dds_isName.r4 {R : Type} (n : Nat) (c4 : Int → Int → List AV → Option R) (c7 : Int → Int → Bool → Int → Int → List AV → Option R) (c8 : Int → Bool → Bool → Int → Int → List AV → Option R) (k : Bool → Option R) (z1 : Int) (z2 : Int) (z3 : List AV) : Option R :=
  bif decide (z2 < z1) then (bif decide ((0 : Int) ≤ z2) && decide (z2 < ((z3.length : Nat) : Int)) then (withCons ((z3.getD ((z2).toNat) .undef).cells) fun h4 r5 =>
  withInt .u8 h4 fun x6 =>
  bif decide ((65 : Int) ≤ x6) then (bif decide (x6 ≤ 90) then (c7 z2 x6 true z1 z2 z3) else (bif x6 == 35 then (c7 z2 x6 true z1 z2 z3) else (bif x6 == 36 then (c7 z2 x6 true z1 z2 z3) else (c7 z2 x6 (x6 == 64) z1 z2 z3)))) else (bif x6 == 35 then (c7 z2 x6 true z1 z2 z3) else (bif x6 == 36 then (c7 z2 x6 true z1 z2 z3) else (c7 z2 x6 (x6 == 64) z1 z2 z3)))) else none) else (k true)
noncomputable def dds_isName.r7 {R : Type} (n : Nat) (c4 : Int → Int → List AV → Option R) (c7 : Int → Int → Bool → Int → Int → List AV → Option R) (c8 : Int → Bool → Bool → Int → Int → List AV → Option R) (k : Bool → Option R) (z1 : Int) (z2 : Int) (z3 : Bool) (z4 : Int) (z5 : Int) (z6 : List AV) : Option R :=
  bif decide ((48 : Int) ≤ z2) then (bif decide (z2 ≤ 57) then (c8 z1 z3 true z4 z5 z6) else (bif z2 == 95 then (c8 z1 z3 true z4 z5 z6) else (c8 z1 z3 (z2 == 46) z4 z5 z6))) else (bif z2 == 95 then (c8 z1 z3 true z4 z5 z6) else (c8 z1 z3 (z2 == 46) z4 z5 z6))
noncomputable def dds_isName.r8 {R : Type} (n : Nat) (c4 : Int → Int → List AV → Option R) (c7 : Int → Int → Bool → Int → Int → List AV → Option R) (c8 : Int → Bool → Bool → Int → Int → List AV → Option R) (k : Bool → Option R) (z1 : Int) (z2 : Bool) (z3 : Bool) (z4 : Int) (z5 : Int) (z6 : List AV) : Option R :=
  bif !z2 then (bif z1 == 0 then (k false) else (bif !z3 then (k false) else (c4 z4 (IntKind.i64.wrap (z5 + 1)) z6))) else (c4 z4 (IntKind.i64.wrap (z5 + 1)) z6)
noncomputable def dds_isName.e {R : Type} (n : Nat) (c4 : Int → Int → List AV → Option R) (c7 : Int → Int → Bool → Int → Int → List AV → Option R) (c8 : Int → Bool → Bool → Int → Int → List AV → Option R) (k : Bool → Option R) (a0 : ByteArray) : Option R :=
  let y1 : Bool := a0.toList == (⟨#[]⟩ : ByteArray).toList
  bif y1 then (k false) else (let y2 : Bool := decide (((a0.size : Nat) : Int) > 10)
  bif y2 then (k false) else (let y3 : List AV := a0.toList.map fun b => vu b.toNat
  c4 ((y3.length : Nat) : Int) 0 y3))
noncomputable def dds_isName.C {R : Type} (n : Nat) (f : FuncId) (xs : List AV) : (AV → Option R) → Option R :=
  fun _ => none
theorem dds_isName.tells {R : Type} (n : Nat) : Tells (R := R) Tryz.prog (dds_isName.C n) := fun _ xs => Tells1.none
noncomputable def dds_isName.cut (r : Nat) : Option Keep := match r with | 4 => Option.some ⟨[15, 16, 17], []⟩ | 7 => Option.some ⟨[3, 4, 5, 15, 16, 17], []⟩ | 8 => Option.some ⟨[3, 5, 6, 15, 16, 17], []⟩ | _ => none
noncomputable def dds_isName.t4 : List Item := (todoOf 4 1000 [.code (Tryz.f51.body.getD .skip)]).getD []
noncomputable def dds_isName.s4 (z1 : Int) (z2 : Int) (z3 : List AV) : St := ⟨[.undef, .undef, .undef, .undef, .undef, .undef, .undef, .undef, .undef, .undef, .undef, .undef, .undef, .undef, .undef, .own 0 0 none, vi z1, vi z2, .undef, .undef, .undef, .undef, .undef, .undef, .undef, .undef, .undef, .undef, .undef, .undef, .undef, .undef, .undef, .undef, .undef, .undef, .undef, .undef, .undef, .undef, .undef, .undef, .undef, .undef, .undef, .undef, .undef, .undef, .undef, .undef, .undef, .undef, .undef, .undef, .undef, .undef, .undef, .undef, .undef, .undef, .undef, .undef, .undef, .undef, .undef], Mem.ofList [.row ⟨true, 5⟩ 1 z3], 1⟩
noncomputable def dds_isName.t7 : List Item := (todoOf 7 1000 [.code (Tryz.f51.body.getD .skip)]).getD []
noncomputable def dds_isName.s7 (z1 : Int) (z2 : Int) (z3 : Bool) (z4 : Int) (z5 : Int) (z6 : List AV) : St := ⟨[.undef, .undef, .undef, vi z1, vu z2, vb z3, .undef, .undef, .undef, .undef, .undef, .undef, .undef, .undef, .undef, .own 0 0 none, vi z4, vi z5, .undef, .undef, .undef, .undef, .undef, .undef, .undef, .undef, .undef, .undef, .undef, .undef, .undef, .undef, .undef, .undef, .undef, .undef, .undef, .undef, .undef, .undef, .undef, .undef, .undef, .undef, .undef, .undef, .undef, .undef, .undef, .undef, .undef, .undef, .undef, .undef, .undef, .undef, .undef, .undef, .undef, .undef, .undef, .undef, .undef, .undef, .undef], Mem.ofList [.row ⟨true, 5⟩ 1 z6], 1⟩
noncomputable def dds_isName.t8 : List Item := (todoOf 8 1000 [.code (Tryz.f51.body.getD .skip)]).getD []
noncomputable def dds_isName.s8 (z1 : Int) (z2 : Bool) (z3 : Bool) (z4 : Int) (z5 : Int) (z6 : List AV) : St := ⟨[.undef, .undef, .undef, vi z1, .undef, vb z2, vb z3, .undef, .undef, .undef, .undef, .undef, .undef, .undef, .undef, .own 0 0 none, vi z4, vi z5, .undef, .undef, .undef, .undef, .undef, .undef, .undef, .undef, .undef, .undef, .undef, .undef, .undef, .undef, .undef, .undef, .undef, .undef, .undef, .undef, .undef, .undef, .undef, .undef, .undef, .undef, .undef, .undef, .undef, .undef, .undef, .undef, .undef, .undef, .undef, .undef, .undef, .undef, .undef, .undef, .undef, .undef, .undef, .undef, .undef, .undef, .undef], Mem.ofList [.row ⟨true, 5⟩ 1 z6], 1⟩
theorem dds_isName.e_eq {R : Type} (n : Nat) (rec : List Item → St → Option R) (K : AV → Option R) (a0 : ByteArray) :
    goK G (dds_isName.C n) dds_isName.cut (fun S => finK G Tryz.f51.resultTypes.toList Tryz.f51.results.toList S K) rec 1000 [.code (Tryz.f51.body.getD .skip)] (Ev.start Tryz.f51 [vs a0]) = dds_isName.e n (fun z1 z2 z3 => rec dds_isName.t4 (dds_isName.s4 z1 z2 z3)) (fun z1 z2 z3 z4 z5 z6 => rec dds_isName.t7 (dds_isName.s7 z1 z2 z3 z4 z5 z6)) (fun z1 z2 z3 z4 z5 z6 => rec dds_isName.t8 (dds_isName.s8 z1 z2 z3 z4 z5 z6)) (fun p => K (vb p)) a0 := by kernel_rfl
theorem dds_isName.r4_eq {R : Type} (n : Nat) (rec : List Item → St → Option R) (K : AV → Option R) (z1 : Int) (z2 : Int) (z3 : List AV) :
    atK G (dds_isName.C n) dds_isName.cut (fun S => finK G Tryz.f51.resultTypes.toList Tryz.f51.results.toList S K) rec dds_isName.t4 (dds_isName.s4 z1 z2 z3) = dds_isName.r4 n (fun z1 z2 z3 => rec dds_isName.t4 (dds_isName.s4 z1 z2 z3)) (fun z1 z2 z3 z4 z5 z6 => rec dds_isName.t7 (dds_isName.s7 z1 z2 z3 z4 z5 z6)) (fun z1 z2 z3 z4 z5 z6 => rec dds_isName.t8 (dds_isName.s8 z1 z2 z3 z4 z5 z6)) (fun p => K (vb p)) z1 z2 z3 := by kernel_rfl
theorem dds_isName.r7_eq {R : Type} (n : Nat) (rec : List Item → St → Option R) (K : AV → Option R) (z1 : Int) (z2 : Int) (z3 : Bool) (z4 : Int) (z5 : Int) (z6 : List AV) :
    atK G (dds_isName.C n) dds_isName.cut (fun S => finK G Tryz.f51.resultTypes.toList Tryz.f51.results.toList S K) rec dds_isName.t7 (dds_isName.s7 z1 z2 z3 z4 z5 z6) = dds_isName.r7 n (fun z1 z2 z3 => rec dds_isName.t4 (dds_isName.s4 z1 z2 z3)) (fun z1 z2 z3 z4 z5 z6 => rec dds_isName.t7 (dds_isName.s7 z1 z2 z3 z4 z5 z6)) (fun z1 z2 z3 z4 z5 z6 => rec dds_isName.t8 (dds_isName.s8 z1 z2 z3 z4 z5 z6)) (fun p => K (vb p)) z1 z2 z3 z4 z5 z6 := by kernel_rfl
theorem dds_isName.r8_eq {R : Type} (n : Nat) (rec : List Item → St → Option R) (K : AV → Option R) (z1 : Int) (z2 : Bool) (z3 : Bool) (z4 : Int) (z5 : Int) (z6 : List AV) :
    atK G (dds_isName.C n) dds_isName.cut (fun S => finK G Tryz.f51.resultTypes.toList Tryz.f51.results.toList S K) rec dds_isName.t8 (dds_isName.s8 z1 z2 z3 z4 z5 z6) = dds_isName.r8 n (fun z1 z2 z3 => rec dds_isName.t4 (dds_isName.s4 z1 z2 z3)) (fun z1 z2 z3 z4 z5 z6 => rec dds_isName.t7 (dds_isName.s7 z1 z2 z3 z4 z5 z6)) (fun z1 z2 z3 z4 z5 z6 => rec dds_isName.t8 (dds_isName.s8 z1 z2 z3 z4 z5 z6)) (fun p => K (vb p)) z1 z2 z3 z4 z5 z6 := by kernel_rfl
noncomputable def dds_isName.l (n : Nat) : Nat → (Int → Int → List AV → Option (Bool)) × (Int → Int → Bool → Int → Int → List AV → Option (Bool)) × (Int → Bool → Bool → Int → Int → List AV → Option (Bool))
  | 0 => ((fun _ _ _ => none), (fun _ _ _ _ _ _ => none), (fun _ _ _ _ _ _ => none))
  | m + 1 => (dds_isName.r4 n ((dds_isName.l n m).1) ((dds_isName.l n m).2.1) ((dds_isName.l n m).2.2) Option.some, dds_isName.r7 n ((dds_isName.l n m).1) ((dds_isName.l n m).2.1) ((dds_isName.l n m).2.2) Option.some, dds_isName.r8 n ((dds_isName.l n m).1) ((dds_isName.l n m).2.1) ((dds_isName.l n m).2.2) Option.some)
noncomputable def dds_isName.F (n : Nat) (a0 : ByteArray) : Option (Bool) := dds_isName.e n ((dds_isName.l n n).1) ((dds_isName.l n n).2.1) ((dds_isName.l n n).2.2) Option.some a0
noncomputable def dds_isName.dec (x : AV) : Option (Bool) := match x with | .v (.bool p0) => Option.some p0 | _ => none
theorem dds_isName.dec_inv {p : Bool} (y : AV) (h : dds_isName.dec y = some p) : y = vb p := by
  unfold dds_isName.dec at h
  split at h
  · cases h; rfl
  · cases h
theorem dds_isName.l_eq (n m : Nat) : (∀ (z1 : Int) (z2 : Int) (z3 : List AV), runK G (dds_isName.C n) dds_isName.cut (fun S => finK G Tryz.f51.resultTypes.toList Tryz.f51.results.toList S dds_isName.dec) m dds_isName.t4 (dds_isName.s4 z1 z2 z3) = ((dds_isName.l n m).1) z1 z2 z3) ∧ (∀ (z1 : Int) (z2 : Int) (z3 : Bool) (z4 : Int) (z5 : Int) (z6 : List AV), runK G (dds_isName.C n) dds_isName.cut (fun S => finK G Tryz.f51.resultTypes.toList Tryz.f51.results.toList S dds_isName.dec) m dds_isName.t7 (dds_isName.s7 z1 z2 z3 z4 z5 z6) = ((dds_isName.l n m).2.1) z1 z2 z3 z4 z5 z6) ∧ (∀ (z1 : Int) (z2 : Bool) (z3 : Bool) (z4 : Int) (z5 : Int) (z6 : List AV), runK G (dds_isName.C n) dds_isName.cut (fun S => finK G Tryz.f51.resultTypes.toList Tryz.f51.results.toList S dds_isName.dec) m dds_isName.t8 (dds_isName.s8 z1 z2 z3 z4 z5 z6) = ((dds_isName.l n m).2.2) z1 z2 z3 z4 z5 z6) := by
  induction m with
  | zero => exact ⟨fun z1 z2 z3 => rfl, fun z1 z2 z3 z4 z5 z6 => rfl, fun z1 z2 z3 z4 z5 z6 => rfl⟩
  | succ m ih =>
    obtain ⟨h4, h7, h8⟩ := ih
    have e4 : (fun (z1 : Int) (z2 : Int) (z3 : List AV) => runK G (dds_isName.C n) dds_isName.cut (fun S => finK G Tryz.f51.resultTypes.toList Tryz.f51.results.toList S dds_isName.dec) m dds_isName.t4 (dds_isName.s4 z1 z2 z3)) = (dds_isName.l n m).1 := by funext z1 z2 z3; exact h4 z1 z2 z3
    have e7 : (fun (z1 : Int) (z2 : Int) (z3 : Bool) (z4 : Int) (z5 : Int) (z6 : List AV) => runK G (dds_isName.C n) dds_isName.cut (fun S => finK G Tryz.f51.resultTypes.toList Tryz.f51.results.toList S dds_isName.dec) m dds_isName.t7 (dds_isName.s7 z1 z2 z3 z4 z5 z6)) = (dds_isName.l n m).2.1 := by funext z1 z2 z3 z4 z5 z6; exact h7 z1 z2 z3 z4 z5 z6
    have e8 : (fun (z1 : Int) (z2 : Bool) (z3 : Bool) (z4 : Int) (z5 : Int) (z6 : List AV) => runK G (dds_isName.C n) dds_isName.cut (fun S => finK G Tryz.f51.resultTypes.toList Tryz.f51.results.toList S dds_isName.dec) m dds_isName.t8 (dds_isName.s8 z1 z2 z3 z4 z5 z6)) = (dds_isName.l n m).2.2 := by funext z1 z2 z3 z4 z5 z6; exact h8 z1 z2 z3 z4 z5 z6
    have q4 : ∀ (z1 : Int) (z2 : Int) (z3 : List AV), runK G (dds_isName.C n) dds_isName.cut (fun S => finK G Tryz.f51.resultTypes.toList Tryz.f51.results.toList S dds_isName.dec) (m + 1) dds_isName.t4 (dds_isName.s4 z1 z2 z3) = ((dds_isName.l n (m + 1)).1) z1 z2 z3 := by
      intro z1 z2 z3
      rw [runK_succ]
      refine (dds_isName.r4_eq n _ dds_isName.dec z1 z2 z3).trans ?_
      rw [e4, e7, e8]
      rfl
    have q7 : ∀ (z1 : Int) (z2 : Int) (z3 : Bool) (z4 : Int) (z5 : Int) (z6 : List AV), runK G (dds_isName.C n) dds_isName.cut (fun S => finK G Tryz.f51.resultTypes.toList Tryz.f51.results.toList S dds_isName.dec) (m + 1) dds_isName.t7 (dds_isName.s7 z1 z2 z3 z4 z5 z6) = ((dds_isName.l n (m + 1)).2.1) z1 z2 z3 z4 z5 z6 := by
      intro z1 z2 z3 z4 z5 z6
      rw [runK_succ]
      refine (dds_isName.r7_eq n _ dds_isName.dec z1 z2 z3 z4 z5 z6).trans ?_
      rw [e4, e7, e8]
      rfl
    have q8 : ∀ (z1 : Int) (z2 : Bool) (z3 : Bool) (z4 : Int) (z5 : Int) (z6 : List AV), runK G (dds_isName.C n) dds_isName.cut (fun S => finK G Tryz.f51.resultTypes.toList Tryz.f51.results.toList S dds_isName.dec) (m + 1) dds_isName.t8 (dds_isName.s8 z1 z2 z3 z4 z5 z6) = ((dds_isName.l n (m + 1)).2.2) z1 z2 z3 z4 z5 z6 := by
      intro z1 z2 z3 z4 z5 z6
      rw [runK_succ]
      refine (dds_isName.r8_eq n _ dds_isName.dec z1 z2 z3 z4 z5 z6).trans ?_
      rw [e4, e7, e8]
      rfl
    exact ⟨q4, q7, q8⟩
theorem dds_isName.hands (n : Nat) (a0 : ByteArray) {p : Bool} (h : dds_isName.F n a0 = some p) : HandsIn Tryz.prog 51 [vs a0] (vb p) := by
  refine hands_of cfg mixed globs rfl (dds_isName.tells n) (fn := Tryz.f51) Tryz.func51 (by kernel_rfl) (by kernel_rfl) (cut := dds_isName.cut) (K := dds_isName.dec) (r := p) (n := n) dds_isName.dec_inv ?_
  rw [funK_getD (by kernel_rfl)]
  have h1 := dds_isName.e_eq n (runK G (dds_isName.C n) dds_isName.cut (fun S => finK G Tryz.f51.resultTypes.toList Tryz.f51.results.toList S dds_isName.dec) n) dds_isName.dec a0
  have hl := dds_isName.l_eq n n
  simp only [hl.1, hl.2.1, hl.2.2] at h1
  exact h1.trans h
noncomputable def dds_isName.via {R : Type} (n : Nat) (xs : List AV) : (AV → Option R) → Option R := match xs with | [.v (.string a0)] => fun K => (dds_isName.F n a0).bind fun p => K (vb p) | _ => fun _ => none
theorem dds_isName.tells1 {R : Type} (n : Nat) (xs : List AV) : Tells1 (R := R) Tryz.prog 51 xs (dds_isName.via n xs) := by
  unfold dds_isName.via
  split
  · exact Tells1.of (fun p hp => (dds_isName.hands n _ hp).hands rfl)
  · exact Tells1.none
end Go.Proofs.YtmpglmcjoelciaaGreatDoor.Ev

/- midrange/dds.first, out of its evaluation. Printed by the session's own program. -/
namespace Go.Proofs.YtmpglmcjoelciaaGreatDoor.Ev
open Go Go.Proofs Go.Proofs.Ev
set_option linter.unusedVariables false
set_option maxRecDepth 100000
/-! midrange/dds.first: function 44 -/
noncomputable def dds_first.r2 {R : Type} (n : Nat) (c2 : List AV → Int → Int → Option R) (k : Int → Option R) (z1 : List AV) (z2 : Int) (z3 : Int) : Option R :=
  bif decide (z3 < z2) then (bif decide ((0 : Int) ≤ z3) && decide (z3 < ((z1.length : Nat) : Int)) then (withCons ((z1.getD ((z3).toNat) .undef).cells) fun h1 r2 =>
  withInt .i64 h1 fun x3 =>
  bif x3 != 0 then (k x3) else (c2 z1 z2 (IntKind.i64.wrap (z3 + 1)))) else none) else (k 0)
noncomputable def dds_first.e {R : Type} (n : Nat) (c2 : List AV → Int → Int → Option R) (k : Int → Option R) (a0 : List AV) : Option R :=
  c2 a0 ((a0.length : Nat) : Int) 0
noncomputable def dds_first.C {R : Type} (n : Nat) (f : FuncId) (xs : List AV) : (AV → Option R) → Option R :=
  fun _ => none
theorem dds_first.tells {R : Type} (n : Nat) : Tells (R := R) Tryz.prog (dds_first.C n) := fun _ xs => Tells1.none
noncomputable def dds_first.cut (r : Nat) : Option Keep := match r with | 2 => Option.some ⟨[5, 6, 7], []⟩ | _ => none
noncomputable def dds_first.t2 : List Item := (todoOf 2 1000 [.code (Tryz.f44.body.getD .skip)]).getD []
noncomputable def dds_first.s2 (z1 : List AV) (z2 : Int) (z3 : Int) : St := ⟨[.undef, .undef, .undef, .undef, .undef, .sl ⟨true, 24⟩ 1 z1, vi z2, vi z3, .undef, .undef, .undef, .undef, .undef, .undef, .undef], Mem.ofList [], 0⟩
theorem dds_first.e_eq {R : Type} (n : Nat) (rec : List Item → St → Option R) (K : AV → Option R) (a0 : List AV) :
    goK G (dds_first.C n) dds_first.cut (fun S => finK G Tryz.f44.resultTypes.toList Tryz.f44.results.toList S K) rec 1000 [.code (Tryz.f44.body.getD .skip)] (Ev.start Tryz.f44 [.sl ⟨true, 24⟩ 1 a0]) = dds_first.e n (fun z1 z2 z3 => rec dds_first.t2 (dds_first.s2 z1 z2 z3)) (fun p => K (vi p)) a0 := by kernel_rfl
theorem dds_first.r2_eq {R : Type} (n : Nat) (rec : List Item → St → Option R) (K : AV → Option R) (z1 : List AV) (z2 : Int) (z3 : Int) :
    atK G (dds_first.C n) dds_first.cut (fun S => finK G Tryz.f44.resultTypes.toList Tryz.f44.results.toList S K) rec dds_first.t2 (dds_first.s2 z1 z2 z3) = dds_first.r2 n (fun z1 z2 z3 => rec dds_first.t2 (dds_first.s2 z1 z2 z3)) (fun p => K (vi p)) z1 z2 z3 := by kernel_rfl
noncomputable def dds_first.l (n : Nat) : Nat → (List AV → Int → Int → Option (Int))
  | 0 => (fun _ _ _ => none)
  | m + 1 => dds_first.r2 n (dds_first.l n m) Option.some
noncomputable def dds_first.F (n : Nat) (a0 : List AV) : Option (Int) := dds_first.e n (dds_first.l n n) Option.some a0
noncomputable def dds_first.dec (x : AV) : Option (Int) := match x with | .v (.int .i64 p0) => Option.some p0 | _ => none
theorem dds_first.dec_inv {p : Int} (y : AV) (h : dds_first.dec y = some p) : y = vi p := by
  unfold dds_first.dec at h
  split at h
  · cases h; rfl
  · cases h
theorem dds_first.l_eq (n m : Nat) : (∀ (z1 : List AV) (z2 : Int) (z3 : Int), runK G (dds_first.C n) dds_first.cut (fun S => finK G Tryz.f44.resultTypes.toList Tryz.f44.results.toList S dds_first.dec) m dds_first.t2 (dds_first.s2 z1 z2 z3) = (dds_first.l n m) z1 z2 z3) := by
  induction m with
  | zero => exact fun z1 z2 z3 => rfl
  | succ m ih =>
    have h2 := ih
    have e2 : (fun (z1 : List AV) (z2 : Int) (z3 : Int) => runK G (dds_first.C n) dds_first.cut (fun S => finK G Tryz.f44.resultTypes.toList Tryz.f44.results.toList S dds_first.dec) m dds_first.t2 (dds_first.s2 z1 z2 z3)) = (dds_first.l n m) := by funext z1 z2 z3; exact h2 z1 z2 z3
    have q2 : ∀ (z1 : List AV) (z2 : Int) (z3 : Int), runK G (dds_first.C n) dds_first.cut (fun S => finK G Tryz.f44.resultTypes.toList Tryz.f44.results.toList S dds_first.dec) (m + 1) dds_first.t2 (dds_first.s2 z1 z2 z3) = (dds_first.l n (m + 1)) z1 z2 z3 := by
      intro z1 z2 z3
      rw [runK_succ]
      refine (dds_first.r2_eq n _ dds_first.dec z1 z2 z3).trans ?_
      rw [e2]
      rfl
    exact q2
theorem dds_first.hands (n : Nat) (a0 : List AV) {p : Int} (h : dds_first.F n a0 = some p) : HandsIn Tryz.prog 44 [.sl ⟨true, 24⟩ 1 a0] (vi p) := by
  refine hands_of cfg mixed globs rfl (dds_first.tells n) (fn := Tryz.f44) Tryz.func44 (by kernel_rfl) (by kernel_rfl) (cut := dds_first.cut) (K := dds_first.dec) (r := p) (n := n) dds_first.dec_inv ?_
  rw [funK_getD (by kernel_rfl)]
  have h1 := dds_first.e_eq n (runK G (dds_first.C n) dds_first.cut (fun S => finK G Tryz.f44.resultTypes.toList Tryz.f44.results.toList S dds_first.dec) n) dds_first.dec a0
  have hl := dds_first.l_eq n n
  simp only [hl] at h1
  exact h1.trans h
noncomputable def dds_first.via {R : Type} (n : Nat) (xs : List AV) : (AV → Option R) → Option R := match xs with | [.sl ⟨true, 24⟩ 1 a0] => fun K => (dds_first.F n a0).bind fun p => K (vi p) | _ => fun _ => none
theorem dds_first.tells1 {R : Type} (n : Nat) (xs : List AV) : Tells1 (R := R) Tryz.prog 44 xs (dds_first.via n xs) := by
  unfold dds_first.via
  split
  · exact Tells1.of (fun p hp => (dds_first.hands n _ hp).hands rfl)
  · exact Tells1.none
end Go.Proofs.YtmpglmcjoelciaaGreatDoor.Ev

/- slices.Index[[]string,string], out of its evaluation. Printed by the session's own program. -/
namespace Go.Proofs.YtmpglmcjoelciaaGreatDoor.Ev
open Go Go.Proofs Go.Proofs.Ev
set_option linter.unusedVariables false
set_option maxRecDepth 100000
/-! slices.Index[[]string,string]: function 145 -/
noncomputable def slices_Index_string_string.r2 {R : Type} (n : Nat) (c2 : List AV → ByteArray → Int → Int → Option R) (k : Int → Option R) (z1 : List AV) (z2 : ByteArray) (z3 : Int) (z4 : Int) : Option R :=
  bif decide (z4 < z3) then (bif decide ((0 : Int) ≤ z4) && decide (z4 < ((z1.length : Nat) : Int)) then (withCons ((z1.getD ((z4).toNat) .undef).cells) fun h1 r2 =>
  withStr h1 fun s3 =>
  bif z2.toList == s3.toList then (k z4) else (c2 z1 z2 z3 (IntKind.i64.wrap (z4 + 1)))) else none) else (k (-1))
noncomputable def slices_Index_string_string.e {R : Type} (n : Nat) (c2 : List AV → ByteArray → Int → Int → Option R) (k : Int → Option R) (a0 : List AV) (a1 : ByteArray) : Option R :=
  c2 a0 a1 ((a0.length : Nat) : Int) 0
noncomputable def slices_Index_string_string.C {R : Type} (n : Nat) (f : FuncId) (xs : List AV) : (AV → Option R) → Option R :=
  fun _ => none
theorem slices_Index_string_string.tells {R : Type} (n : Nat) : Tells (R := R) Tryz.prog (slices_Index_string_string.C n) := fun _ xs => Tells1.none
noncomputable def slices_Index_string_string.cut (r : Nat) : Option Keep := match r with | 2 => Option.some ⟨[0, 1, 7, 8], []⟩ | _ => none
noncomputable def slices_Index_string_string.t2 : List Item := (todoOf 2 1000 [.code (Tryz.f145.body.getD .skip)]).getD []
noncomputable def slices_Index_string_string.s2 (z1 : List AV) (z2 : ByteArray) (z3 : Int) (z4 : Int) : St := ⟨[.sl ⟨true, 9⟩ 1 z1, vs z2, .undef, .undef, .undef, .undef, .undef, vi z3, vi z4, .undef, .undef, .undef, .undef, .undef, .undef, .undef, .undef, .undef, .undef], Mem.ofList [], 0⟩
theorem slices_Index_string_string.e_eq {R : Type} (n : Nat) (rec : List Item → St → Option R) (K : AV → Option R) (a0 : List AV) (a1 : ByteArray) :
    goK G (slices_Index_string_string.C n) slices_Index_string_string.cut (fun S => finK G Tryz.f145.resultTypes.toList Tryz.f145.results.toList S K) rec 1000 [.code (Tryz.f145.body.getD .skip)] (Ev.start Tryz.f145 [.sl ⟨true, 9⟩ 1 a0, vs a1]) = slices_Index_string_string.e n (fun z1 z2 z3 z4 => rec slices_Index_string_string.t2 (slices_Index_string_string.s2 z1 z2 z3 z4)) (fun p => K (vi p)) a0 a1 := by kernel_rfl
theorem slices_Index_string_string.r2_eq {R : Type} (n : Nat) (rec : List Item → St → Option R) (K : AV → Option R) (z1 : List AV) (z2 : ByteArray) (z3 : Int) (z4 : Int) :
    atK G (slices_Index_string_string.C n) slices_Index_string_string.cut (fun S => finK G Tryz.f145.resultTypes.toList Tryz.f145.results.toList S K) rec slices_Index_string_string.t2 (slices_Index_string_string.s2 z1 z2 z3 z4) = slices_Index_string_string.r2 n (fun z1 z2 z3 z4 => rec slices_Index_string_string.t2 (slices_Index_string_string.s2 z1 z2 z3 z4)) (fun p => K (vi p)) z1 z2 z3 z4 := by kernel_rfl
noncomputable def slices_Index_string_string.l (n : Nat) : Nat → (List AV → ByteArray → Int → Int → Option (Int))
  | 0 => (fun _ _ _ _ => none)
  | m + 1 => slices_Index_string_string.r2 n (slices_Index_string_string.l n m) Option.some
noncomputable def slices_Index_string_string.F (n : Nat) (a0 : List AV) (a1 : ByteArray) : Option (Int) := slices_Index_string_string.e n (slices_Index_string_string.l n n) Option.some a0 a1
noncomputable def slices_Index_string_string.dec (x : AV) : Option (Int) := match x with | .v (.int .i64 p0) => Option.some p0 | _ => none
theorem slices_Index_string_string.dec_inv {p : Int} (y : AV) (h : slices_Index_string_string.dec y = some p) : y = vi p := by
  unfold slices_Index_string_string.dec at h
  split at h
  · cases h; rfl
  · cases h
theorem slices_Index_string_string.l_eq (n m : Nat) : (∀ (z1 : List AV) (z2 : ByteArray) (z3 : Int) (z4 : Int), runK G (slices_Index_string_string.C n) slices_Index_string_string.cut (fun S => finK G Tryz.f145.resultTypes.toList Tryz.f145.results.toList S slices_Index_string_string.dec) m slices_Index_string_string.t2 (slices_Index_string_string.s2 z1 z2 z3 z4) = (slices_Index_string_string.l n m) z1 z2 z3 z4) := by
  induction m with
  | zero => exact fun z1 z2 z3 z4 => rfl
  | succ m ih =>
    have h2 := ih
    have e2 : (fun (z1 : List AV) (z2 : ByteArray) (z3 : Int) (z4 : Int) => runK G (slices_Index_string_string.C n) slices_Index_string_string.cut (fun S => finK G Tryz.f145.resultTypes.toList Tryz.f145.results.toList S slices_Index_string_string.dec) m slices_Index_string_string.t2 (slices_Index_string_string.s2 z1 z2 z3 z4)) = (slices_Index_string_string.l n m) := by funext z1 z2 z3 z4; exact h2 z1 z2 z3 z4
    have q2 : ∀ (z1 : List AV) (z2 : ByteArray) (z3 : Int) (z4 : Int), runK G (slices_Index_string_string.C n) slices_Index_string_string.cut (fun S => finK G Tryz.f145.resultTypes.toList Tryz.f145.results.toList S slices_Index_string_string.dec) (m + 1) slices_Index_string_string.t2 (slices_Index_string_string.s2 z1 z2 z3 z4) = (slices_Index_string_string.l n (m + 1)) z1 z2 z3 z4 := by
      intro z1 z2 z3 z4
      rw [runK_succ]
      refine (slices_Index_string_string.r2_eq n _ slices_Index_string_string.dec z1 z2 z3 z4).trans ?_
      rw [e2]
      rfl
    exact q2
theorem slices_Index_string_string.hands (n : Nat) (a0 : List AV) (a1 : ByteArray) {p : Int} (h : slices_Index_string_string.F n a0 a1 = some p) : HandsIn Tryz.prog 145 [.sl ⟨true, 9⟩ 1 a0, vs a1] (vi p) := by
  refine hands_of cfg mixed globs rfl (slices_Index_string_string.tells n) (fn := Tryz.f145) Tryz.func145 (by kernel_rfl) (by kernel_rfl) (cut := slices_Index_string_string.cut) (K := slices_Index_string_string.dec) (r := p) (n := n) slices_Index_string_string.dec_inv ?_
  rw [funK_getD (by kernel_rfl)]
  have h1 := slices_Index_string_string.e_eq n (runK G (slices_Index_string_string.C n) slices_Index_string_string.cut (fun S => finK G Tryz.f145.resultTypes.toList Tryz.f145.results.toList S slices_Index_string_string.dec) n) slices_Index_string_string.dec a0 a1
  have hl := slices_Index_string_string.l_eq n n
  simp only [hl] at h1
  exact h1.trans h
noncomputable def slices_Index_string_string.via {R : Type} (n : Nat) (xs : List AV) : (AV → Option R) → Option R := match xs with | [.sl ⟨true, 9⟩ 1 a0, .v (.string a1)] => fun K => (slices_Index_string_string.F n a0 a1).bind fun p => K (vi p) | _ => fun _ => none
theorem slices_Index_string_string.tells1 {R : Type} (n : Nat) (xs : List AV) : Tells1 (R := R) Tryz.prog 145 xs (slices_Index_string_string.via n xs) := by
  unfold slices_Index_string_string.via
  split
  · exact Tells1.of (fun p hp => (slices_Index_string_string.hands n _ _ hp).hands rfl)
  · exact Tells1.none
end Go.Proofs.YtmpglmcjoelciaaGreatDoor.Ev

/- slices.Contains[[]string,string], out of its evaluation. Printed by the session's own program. -/
namespace Go.Proofs.YtmpglmcjoelciaaGreatDoor.Ev
open Go Go.Proofs Go.Proofs.Ev
set_option linter.unusedVariables false
set_option maxRecDepth 100000
/-! slices.Contains[[]string,string]: function 102 -/
noncomputable def slices_Contains_string_string.e {R : Type} (n : Nat)  (k : Bool → Option R) (a0 : List AV) (a1 : ByteArray) : Option R :=
  (slices_Index_string_string.F n a0 a1).bind fun p1 =>
  k (decide (p1 ≥ 0))
noncomputable def slices_Contains_string_string.C {R : Type} (n : Nat) (f : FuncId) (xs : List AV) : (AV → Option R) → Option R :=
  bif Nat.beq f 145 then slices_Index_string_string.via n xs else fun _ => none
theorem slices_Contains_string_string.tells {R : Type} (n : Nat) : Tells (R := R) Tryz.prog (slices_Contains_string_string.C n) := fun _ xs => tells_at (slices_Index_string_string.tells1 n xs) (Tells1.none)
noncomputable def slices_Contains_string_string.cut (r : Nat) : Option Keep := match r with  | _ => none
theorem slices_Contains_string_string.e_eq {R : Type} (n : Nat) (rec : List Item → St → Option R) (K : AV → Option R) (a0 : List AV) (a1 : ByteArray) :
    goK G (slices_Contains_string_string.C n) slices_Contains_string_string.cut (fun S => finK G Tryz.f102.resultTypes.toList Tryz.f102.results.toList S K) rec 1000 [.code (Tryz.f102.body.getD .skip)] (Ev.start Tryz.f102 [.sl ⟨true, 9⟩ 1 a0, vs a1]) = slices_Contains_string_string.e n  (fun p => K (vb p)) a0 a1 := by kernel_rfl
noncomputable def slices_Contains_string_string.F (n : Nat) (a0 : List AV) (a1 : ByteArray) : Option (Bool) := slices_Contains_string_string.e n  Option.some a0 a1
noncomputable def slices_Contains_string_string.dec (x : AV) : Option (Bool) := match x with | .v (.bool p0) => Option.some p0 | _ => none
theorem slices_Contains_string_string.dec_inv {p : Bool} (y : AV) (h : slices_Contains_string_string.dec y = some p) : y = vb p := by
  unfold slices_Contains_string_string.dec at h
  split at h
  · cases h; rfl
  · cases h
theorem slices_Contains_string_string.hands (n : Nat) (a0 : List AV) (a1 : ByteArray) {p : Bool} (h : slices_Contains_string_string.F n a0 a1 = some p) : HandsIn Tryz.prog 102 [.sl ⟨true, 9⟩ 1 a0, vs a1] (vb p) := by
  refine hands_of cfg mixed globs rfl (slices_Contains_string_string.tells n) (fn := Tryz.f102) Tryz.func102 (by kernel_rfl) (by kernel_rfl) (cut := slices_Contains_string_string.cut) (K := slices_Contains_string_string.dec) (r := p) (n := n) slices_Contains_string_string.dec_inv ?_
  rw [funK_getD (by kernel_rfl)]
  have h1 := slices_Contains_string_string.e_eq n (runK G (slices_Contains_string_string.C n) slices_Contains_string_string.cut (fun S => finK G Tryz.f102.resultTypes.toList Tryz.f102.results.toList S slices_Contains_string_string.dec) n) slices_Contains_string_string.dec a0 a1
  exact h1.trans h
noncomputable def slices_Contains_string_string.via {R : Type} (n : Nat) (xs : List AV) : (AV → Option R) → Option R := match xs with | [.sl ⟨true, 9⟩ 1 a0, .v (.string a1)] => fun K => (slices_Contains_string_string.F n a0 a1).bind fun p => K (vb p) | _ => fun _ => none
theorem slices_Contains_string_string.tells1 {R : Type} (n : Nat) (xs : List AV) : Tells1 (R := R) Tryz.prog 102 xs (slices_Contains_string_string.via n xs) := by
  unfold slices_Contains_string_string.via
  split
  · exact Tells1.of (fun p hp => (slices_Contains_string_string.hands n _ _ hp).hands rfl)
  · exact Tells1.none
end Go.Proofs.YtmpglmcjoelciaaGreatDoor.Ev

/- midrange/dds.nameErr, out of its evaluation. Printed by the session's own program. -/
namespace Go.Proofs.YtmpglmcjoelciaaGreatDoor.Ev
open Go Go.Proofs Go.Proofs.Ev
set_option linter.unusedVariables false
set_option maxRecDepth 100000
/-! midrange/dds.nameErr: function 99 -/
noncomputable def dds_nameErr.e {R : Type} (n : Nat)  (k : Int → Option R) (a0 : ByteArray) (a1 : List AV) : Option R :=
  (dds_isName.F n a0).bind fun p1 =>
  (dds_cond.F n (!p1) 7).bind fun p2 =>
  (slices_Contains_string_string.F n a1 a0).bind fun p3 =>
  (dds_cond.F n p3 13).bind fun p4 =>
  (dds_first.F n [vi p2, vi p4]).bind fun p5 =>
  k p5
noncomputable def dds_nameErr.C {R : Type} (n : Nat) (f : FuncId) (xs : List AV) : (AV → Option R) → Option R :=
  bif Nat.beq f 44 then dds_first.via n xs else bif Nat.beq f 45 then dds_cond.via n xs else bif Nat.beq f 51 then dds_isName.via n xs else bif Nat.beq f 102 then slices_Contains_string_string.via n xs else fun _ => none
theorem dds_nameErr.tells {R : Type} (n : Nat) : Tells (R := R) Tryz.prog (dds_nameErr.C n) := fun _ xs => tells_at (dds_first.tells1 n xs) (tells_at (dds_cond.tells1 n xs) (tells_at (dds_isName.tells1 n xs) (tells_at (slices_Contains_string_string.tells1 n xs) (Tells1.none))))
noncomputable def dds_nameErr.cut (r : Nat) : Option Keep := match r with  | _ => none
theorem dds_nameErr.e_eq {R : Type} (n : Nat) (rec : List Item → St → Option R) (K : AV → Option R) (a0 : ByteArray) (a1 : List AV) :
    goK G (dds_nameErr.C n) dds_nameErr.cut (fun S => finK G Tryz.f99.resultTypes.toList Tryz.f99.results.toList S K) rec 1000 [.code (Tryz.f99.body.getD .skip)] (Ev.start Tryz.f99 [vs a0, .sl ⟨true, 9⟩ 1 a1]) = dds_nameErr.e n  (fun p => K (vi p)) a0 a1 := by kernel_rfl
noncomputable def dds_nameErr.F (n : Nat) (a0 : ByteArray) (a1 : List AV) : Option (Int) := dds_nameErr.e n  Option.some a0 a1
noncomputable def dds_nameErr.dec (x : AV) : Option (Int) := match x with | .v (.int .i64 p0) => Option.some p0 | _ => none
theorem dds_nameErr.dec_inv {p : Int} (y : AV) (h : dds_nameErr.dec y = some p) : y = vi p := by
  unfold dds_nameErr.dec at h
  split at h
  · cases h; rfl
  · cases h
theorem dds_nameErr.hands (n : Nat) (a0 : ByteArray) (a1 : List AV) {p : Int} (h : dds_nameErr.F n a0 a1 = some p) : HandsIn Tryz.prog 99 [vs a0, .sl ⟨true, 9⟩ 1 a1] (vi p) := by
  refine hands_of cfg mixed globs rfl (dds_nameErr.tells n) (fn := Tryz.f99) Tryz.func99 (by kernel_rfl) (by kernel_rfl) (cut := dds_nameErr.cut) (K := dds_nameErr.dec) (r := p) (n := n) dds_nameErr.dec_inv ?_
  rw [funK_getD (by kernel_rfl)]
  have h1 := dds_nameErr.e_eq n (runK G (dds_nameErr.C n) dds_nameErr.cut (fun S => finK G Tryz.f99.resultTypes.toList Tryz.f99.results.toList S dds_nameErr.dec) n) dds_nameErr.dec a0 a1
  exact h1.trans h
noncomputable def dds_nameErr.via {R : Type} (n : Nat) (xs : List AV) : (AV → Option R) → Option R := match xs with | [.v (.string a0), .sl ⟨true, 9⟩ 1 a1] => fun K => (dds_nameErr.F n a0 a1).bind fun p => K (vi p) | _ => fun _ => none
theorem dds_nameErr.tells1 {R : Type} (n : Nat) (xs : List AV) : Tells1 (R := R) Tryz.prog 99 xs (dds_nameErr.via n xs) := by
  unfold dds_nameErr.via
  split
  · exact Tells1.of (fun p hp => (dds_nameErr.hands n _ _ hp).hands rfl)
  · exact Tells1.none
end Go.Proofs.YtmpglmcjoelciaaGreatDoor.Ev

/- midrange/dds.basesErr, out of its evaluation. Printed by the session's own program. -/
namespace Go.Proofs.YtmpglmcjoelciaaGreatDoor.Ev
open Go Go.Proofs Go.Proofs.Ev
set_option linter.unusedVariables false
set_option maxRecDepth 100000
/-! midrange/dds.basesErr: function 52 -/
noncomputable def dds_basesErr.r5 {R : Type} (n : Nat) (c5 : List AV → Int → Int → ByteArray → ByteArray → List AV → List AV → List AV → List AV → Bool → List AV → Option R) (k : Int × Int → Option R) (z1 : List AV) (z2 : Int) (z3 : Int) (z4 : ByteArray) (z5 : ByteArray) (z6 : List AV) (z7 : List AV) (z8 : List AV) (z9 : List AV) (z10 : Bool) (z11 : List AV) : Option R :=
  bif decide (z3 < z2) then (bif decide ((0 : Int) ≤ z3) && decide (z3 < ((z1.length : Nat) : Int)) then (withCons ((z1.getD ((z3).toNat) .undef).cells) fun h6 r7 =>
  withStr h6 fun s8 =>
  bif decide ((0 : Int) ≤ z3) && decide ((z3 : Int) ≤ ((z6.length : Nat) : Int)) then ((dds_nameErr.F n s8 ((z6.take (z3).toNat).drop 0)).bind fun p9 =>
  bif p9 != 0 then (k (z3, p9)) else (c5 z1 z2 (IntKind.i64.wrap (z3 + 1)) z4 z5 z6 z7 z8 z9 z10 z11)) else none) else none) else (k (0, 0))
noncomputable def dds_basesErr.e {R : Type} (n : Nat) (c5 : List AV → Int → Int → ByteArray → ByteArray → List AV → List AV → List AV → List AV → Bool → List AV → Option R) (k : Int × Int → Option R) (a0 : ByteArray) (a1 : ByteArray) (a2 : List AV) (a3 : List AV) (a4 : List AV) (a5 : List AV) (a6 : Bool) (a7 : List AV) : Option R :=
  let y1 : Bool := ((a2.length : Nat) : Int) == 0
  (dds_cond.F n y1 1).bind fun p2 =>
  let y3 : Bool := decide (((a2.length : Nat) : Int) > 3)
  (dds_cond.F n y3 2).bind fun p4 =>
  (dds_first.F n [vi p2, vi p4]).bind fun p5 =>
  bif p5 != 0 then (k (0, p5)) else (c5 a2 ((a2.length : Nat) : Int) 0 a0 a1 a2 a3 a4 a5 a6 a7)
noncomputable def dds_basesErr.C {R : Type} (n : Nat) (f : FuncId) (xs : List AV) : (AV → Option R) → Option R :=
  bif Nat.beq f 44 then dds_first.via n xs else bif Nat.beq f 45 then dds_cond.via n xs else bif Nat.beq f 99 then dds_nameErr.via n xs else fun _ => none
theorem dds_basesErr.tells {R : Type} (n : Nat) : Tells (R := R) Tryz.prog (dds_basesErr.C n) := fun _ xs => tells_at (dds_first.tells1 n xs) (tells_at (dds_cond.tells1 n xs) (tells_at (dds_nameErr.tells1 n xs) (Tells1.none)))
noncomputable def dds_basesErr.cut (r : Nat) : Option Keep := match r with | 5 => Option.some ⟨[1, 24, 25, 26], []⟩ | _ => none
noncomputable def dds_basesErr.t5 : List Item := (todoOf 5 1000 [.code (Tryz.f52.body.getD .skip)]).getD []
noncomputable def dds_basesErr.s5 (z1 : List AV) (z2 : Int) (z3 : Int) (z4 : ByteArray) (z5 : ByteArray) (z6 : List AV) (z7 : List AV) (z8 : List AV) (z9 : List AV) (z10 : Bool) (z11 : List AV) : St := ⟨[.undef, .ptr 0 0, .undef, .undef, .undef, .undef, .undef, .undef, .undef, .undef, .undef, .undef, .undef, .undef, .undef, .undef, .undef, .undef, .undef, .undef, .undef, .undef, .undef, .undef, .sl ⟨true, 9⟩ 1 z1, vi z2, vi z3, .undef, .undef, .undef, .undef, .undef, .undef, .undef, .undef, .undef, .undef, .undef, .undef, .undef, .undef, .undef], Mem.ofList [.box 36 [vs z4, vs z5, .sl ⟨true, 9⟩ 1 z6, .sl ⟨true, 95⟩ 3 z7, .sl ⟨true, 97⟩ 4 z8, .sl ⟨true, 111⟩ 2 z9, vb z10, .sl ⟨false, 100⟩ 2 z11]], 1⟩
theorem dds_basesErr.e_eq {R : Type} (n : Nat) (rec : List Item → St → Option R) (K : AV → Option R) (a0 : ByteArray) (a1 : ByteArray) (a2 : List AV) (a3 : List AV) (a4 : List AV) (a5 : List AV) (a6 : Bool) (a7 : List AV) :
    goK G (dds_basesErr.C n) dds_basesErr.cut (fun S => finK G Tryz.f52.resultTypes.toList Tryz.f52.results.toList S K) rec 1000 [.code (Tryz.f52.body.getD .skip)] (Ev.start Tryz.f52 [AV.agg [vs a0, vs a1, .sl ⟨true, 9⟩ 1 a2, .sl ⟨true, 95⟩ 3 a3, .sl ⟨true, 97⟩ 4 a4, .sl ⟨true, 111⟩ 2 a5, vb a6, .sl ⟨false, 100⟩ 2 a7]]) = dds_basesErr.e n (fun z1 z2 z3 z4 z5 z6 z7 z8 z9 z10 z11 => rec dds_basesErr.t5 (dds_basesErr.s5 z1 z2 z3 z4 z5 z6 z7 z8 z9 z10 z11)) (fun p => K (.tup [vi p.1, vi p.2])) a0 a1 a2 a3 a4 a5 a6 a7 := by kernel_rfl
theorem dds_basesErr.r5_eq {R : Type} (n : Nat) (rec : List Item → St → Option R) (K : AV → Option R) (z1 : List AV) (z2 : Int) (z3 : Int) (z4 : ByteArray) (z5 : ByteArray) (z6 : List AV) (z7 : List AV) (z8 : List AV) (z9 : List AV) (z10 : Bool) (z11 : List AV) :
    atK G (dds_basesErr.C n) dds_basesErr.cut (fun S => finK G Tryz.f52.resultTypes.toList Tryz.f52.results.toList S K) rec dds_basesErr.t5 (dds_basesErr.s5 z1 z2 z3 z4 z5 z6 z7 z8 z9 z10 z11) = dds_basesErr.r5 n (fun z1 z2 z3 z4 z5 z6 z7 z8 z9 z10 z11 => rec dds_basesErr.t5 (dds_basesErr.s5 z1 z2 z3 z4 z5 z6 z7 z8 z9 z10 z11)) (fun p => K (.tup [vi p.1, vi p.2])) z1 z2 z3 z4 z5 z6 z7 z8 z9 z10 z11 := by kernel_rfl
noncomputable def dds_basesErr.l (n : Nat) : Nat → (List AV → Int → Int → ByteArray → ByteArray → List AV → List AV → List AV → List AV → Bool → List AV → Option (Int × Int))
  | 0 => (fun _ _ _ _ _ _ _ _ _ _ _ => none)
  | m + 1 => dds_basesErr.r5 n (dds_basesErr.l n m) Option.some
noncomputable def dds_basesErr.F (n : Nat) (a0 : ByteArray) (a1 : ByteArray) (a2 : List AV) (a3 : List AV) (a4 : List AV) (a5 : List AV) (a6 : Bool) (a7 : List AV) : Option (Int × Int) := dds_basesErr.e n (dds_basesErr.l n n) Option.some a0 a1 a2 a3 a4 a5 a6 a7
noncomputable def dds_basesErr.dec (x : AV) : Option (Int × Int) := match x with | .tup [.v (.int .i64 p0), .v (.int .i64 p1)] => Option.some (p0, p1) | _ => none
theorem dds_basesErr.dec_inv {p : Int × Int} (y : AV) (h : dds_basesErr.dec y = some p) : y = .tup [vi p.1, vi p.2] := by
  unfold dds_basesErr.dec at h
  split at h
  · cases h; rfl
  · cases h
theorem dds_basesErr.l_eq (n m : Nat) : (∀ (z1 : List AV) (z2 : Int) (z3 : Int) (z4 : ByteArray) (z5 : ByteArray) (z6 : List AV) (z7 : List AV) (z8 : List AV) (z9 : List AV) (z10 : Bool) (z11 : List AV), runK G (dds_basesErr.C n) dds_basesErr.cut (fun S => finK G Tryz.f52.resultTypes.toList Tryz.f52.results.toList S dds_basesErr.dec) m dds_basesErr.t5 (dds_basesErr.s5 z1 z2 z3 z4 z5 z6 z7 z8 z9 z10 z11) = (dds_basesErr.l n m) z1 z2 z3 z4 z5 z6 z7 z8 z9 z10 z11) := by
  induction m with
  | zero => exact fun z1 z2 z3 z4 z5 z6 z7 z8 z9 z10 z11 => rfl
  | succ m ih =>
    have h5 := ih
    have e5 : (fun (z1 : List AV) (z2 : Int) (z3 : Int) (z4 : ByteArray) (z5 : ByteArray) (z6 : List AV) (z7 : List AV) (z8 : List AV) (z9 : List AV) (z10 : Bool) (z11 : List AV) => runK G (dds_basesErr.C n) dds_basesErr.cut (fun S => finK G Tryz.f52.resultTypes.toList Tryz.f52.results.toList S dds_basesErr.dec) m dds_basesErr.t5 (dds_basesErr.s5 z1 z2 z3 z4 z5 z6 z7 z8 z9 z10 z11)) = (dds_basesErr.l n m) := by funext z1 z2 z3 z4 z5 z6 z7 z8 z9 z10 z11; exact h5 z1 z2 z3 z4 z5 z6 z7 z8 z9 z10 z11
    have q5 : ∀ (z1 : List AV) (z2 : Int) (z3 : Int) (z4 : ByteArray) (z5 : ByteArray) (z6 : List AV) (z7 : List AV) (z8 : List AV) (z9 : List AV) (z10 : Bool) (z11 : List AV), runK G (dds_basesErr.C n) dds_basesErr.cut (fun S => finK G Tryz.f52.resultTypes.toList Tryz.f52.results.toList S dds_basesErr.dec) (m + 1) dds_basesErr.t5 (dds_basesErr.s5 z1 z2 z3 z4 z5 z6 z7 z8 z9 z10 z11) = (dds_basesErr.l n (m + 1)) z1 z2 z3 z4 z5 z6 z7 z8 z9 z10 z11 := by
      intro z1 z2 z3 z4 z5 z6 z7 z8 z9 z10 z11
      rw [runK_succ]
      refine (dds_basesErr.r5_eq n _ dds_basesErr.dec z1 z2 z3 z4 z5 z6 z7 z8 z9 z10 z11).trans ?_
      rw [e5]
      rfl
    exact q5
theorem dds_basesErr.hands (n : Nat) (a0 : ByteArray) (a1 : ByteArray) (a2 : List AV) (a3 : List AV) (a4 : List AV) (a5 : List AV) (a6 : Bool) (a7 : List AV) {p : Int × Int} (h : dds_basesErr.F n a0 a1 a2 a3 a4 a5 a6 a7 = some p) : HandsIn Tryz.prog 52 [AV.agg [vs a0, vs a1, .sl ⟨true, 9⟩ 1 a2, .sl ⟨true, 95⟩ 3 a3, .sl ⟨true, 97⟩ 4 a4, .sl ⟨true, 111⟩ 2 a5, vb a6, .sl ⟨false, 100⟩ 2 a7]] (.tup [vi p.1, vi p.2]) := by
  refine hands_of cfg mixed globs rfl (dds_basesErr.tells n) (fn := Tryz.f52) Tryz.func52 (by kernel_rfl) (by kernel_rfl) (cut := dds_basesErr.cut) (K := dds_basesErr.dec) (r := p) (n := n) dds_basesErr.dec_inv ?_
  rw [funK_getD (by kernel_rfl)]
  have h1 := dds_basesErr.e_eq n (runK G (dds_basesErr.C n) dds_basesErr.cut (fun S => finK G Tryz.f52.resultTypes.toList Tryz.f52.results.toList S dds_basesErr.dec) n) dds_basesErr.dec a0 a1 a2 a3 a4 a5 a6 a7
  have hl := dds_basesErr.l_eq n n
  simp only [hl] at h1
  exact h1.trans h
noncomputable def dds_basesErr.via {R : Type} (n : Nat) (xs : List AV) : (AV → Option R) → Option R := match xs with | [.agg [.v (.string a0), .v (.string a1), .sl ⟨true, 9⟩ 1 a2, .sl ⟨true, 95⟩ 3 a3, .sl ⟨true, 97⟩ 4 a4, .sl ⟨true, 111⟩ 2 a5, .v (.bool a6), .sl ⟨false, 100⟩ 2 a7]] => fun K => (dds_basesErr.F n a0 a1 a2 a3 a4 a5 a6 a7).bind fun p => K (.tup [vi p.1, vi p.2]) | _ => fun _ => none
theorem dds_basesErr.tells1 {R : Type} (n : Nat) (xs : List AV) : Tells1 (R := R) Tryz.prog 52 xs (dds_basesErr.via n xs) := by
  unfold dds_basesErr.via
  split
  · exact Tells1.of (fun p hp => (dds_basesErr.hands n _ _ _ _ _ _ _ _ hp).hands rfl)
  · exact Tells1.none
end Go.Proofs.YtmpglmcjoelciaaGreatDoor.Ev

/- midrange/dds.namesOf, out of its evaluation. Printed by the session's own program. -/
namespace Go.Proofs.YtmpglmcjoelciaaGreatDoor.Ev
open Go Go.Proofs Go.Proofs.Ev
set_option linter.unusedVariables false
set_option maxRecDepth 100000
/-! midrange/dds.namesOf: function 57 -/
noncomputable def dds_namesOf.r3 {R : Type} (n : Nat) (c3 : List AV → Int → Int → List AV → Option R) (k : List AV → Option R) (z1 : List AV) (z2 : Int) (z3 : Int) (z4 : List AV) : Option R :=
  bif decide (z3 < z2) then (bif decide ((0 : Int) ≤ z3) && decide (z3 < ((z1.length : Nat) : Int)) then (withCons ((z1.getD ((z3).toNat) .undef).cells) fun h1 r2 =>
  withStr h1 fun s3 =>
  withCons r2 fun h4 r5 =>
  withInt .i64 h4 fun x6 =>
  withCons r5 fun h7 r8 =>
  withStr h7 fun s9 =>
  bif decide (z4.length + [vs s3].length ≤ most) then (c3 z1 z2 (IntKind.i64.wrap (z3 + 1)) (z4 ++ [vs s3])) else none) else none) else (k z4)
noncomputable def dds_namesOf.e {R : Type} (n : Nat) (c3 : List AV → Int → Int → List AV → Option R) (k : List AV → Option R) (a0 : ByteArray) (a1 : ByteArray) (a2 : List AV) (a3 : List AV) (a4 : List AV) (a5 : List AV) (a6 : Bool) (a7 : List AV) : Option R :=
  c3 a3 ((a3.length : Nat) : Int) 0 []
noncomputable def dds_namesOf.C {R : Type} (n : Nat) (f : FuncId) (xs : List AV) : (AV → Option R) → Option R :=
  fun _ => none
theorem dds_namesOf.tells {R : Type} (n : Nat) : Tells (R := R) Tryz.prog (dds_namesOf.C n) := fun _ xs => Tells1.none
noncomputable def dds_namesOf.cut (r : Nat) : Option Keep := match r with | 3 => Option.some ⟨[3, 7, 8, 9], [(3, none, ⟨true, 9⟩, 1)]⟩ | _ => none
noncomputable def dds_namesOf.t3 : List Item := (todoOf 3 1000 [.code (Tryz.f57.body.getD .skip)]).getD []
noncomputable def dds_namesOf.s3 (z1 : List AV) (z2 : Int) (z3 : Int) (z4 : List AV) : St := ⟨[.undef, .undef, .undef, .own 0 0 none, .undef, .undef, .undef, .sl ⟨true, 95⟩ 3 z1, vi z2, vi z3, .undef, .undef, .undef, .undef, .undef, .undef, .undef, .undef, .undef, .undef], Mem.ofList [.row ⟨true, 9⟩ 1 z4], 1⟩
theorem dds_namesOf.e_eq {R : Type} (n : Nat) (rec : List Item → St → Option R) (K : AV → Option R) (a0 : ByteArray) (a1 : ByteArray) (a2 : List AV) (a3 : List AV) (a4 : List AV) (a5 : List AV) (a6 : Bool) (a7 : List AV) :
    goK G (dds_namesOf.C n) dds_namesOf.cut (fun S => finK G Tryz.f57.resultTypes.toList Tryz.f57.results.toList S K) rec 1000 [.code (Tryz.f57.body.getD .skip)] (Ev.start Tryz.f57 [AV.agg [vs a0, vs a1, .sl ⟨true, 9⟩ 1 a2, .sl ⟨true, 95⟩ 3 a3, .sl ⟨true, 97⟩ 4 a4, .sl ⟨true, 111⟩ 2 a5, vb a6, .sl ⟨false, 100⟩ 2 a7]]) = dds_namesOf.e n (fun z1 z2 z3 z4 => rec dds_namesOf.t3 (dds_namesOf.s3 z1 z2 z3 z4)) (fun p => K (.fr ⟨true, 9⟩ 1 p)) a0 a1 a2 a3 a4 a5 a6 a7 := by kernel_rfl
theorem dds_namesOf.r3_eq {R : Type} (n : Nat) (rec : List Item → St → Option R) (K : AV → Option R) (z1 : List AV) (z2 : Int) (z3 : Int) (z4 : List AV) :
    atK G (dds_namesOf.C n) dds_namesOf.cut (fun S => finK G Tryz.f57.resultTypes.toList Tryz.f57.results.toList S K) rec dds_namesOf.t3 (dds_namesOf.s3 z1 z2 z3 z4) = dds_namesOf.r3 n (fun z1 z2 z3 z4 => rec dds_namesOf.t3 (dds_namesOf.s3 z1 z2 z3 z4)) (fun p => K (.fr ⟨true, 9⟩ 1 p)) z1 z2 z3 z4 := by kernel_rfl
noncomputable def dds_namesOf.l (n : Nat) : Nat → (List AV → Int → Int → List AV → Option (List AV))
  | 0 => (fun _ _ _ _ => none)
  | m + 1 => dds_namesOf.r3 n (dds_namesOf.l n m) Option.some
noncomputable def dds_namesOf.F (n : Nat) (a0 : ByteArray) (a1 : ByteArray) (a2 : List AV) (a3 : List AV) (a4 : List AV) (a5 : List AV) (a6 : Bool) (a7 : List AV) : Option (List AV) := dds_namesOf.e n (dds_namesOf.l n n) Option.some a0 a1 a2 a3 a4 a5 a6 a7
noncomputable def dds_namesOf.dec (x : AV) : Option (List AV) := match x with | .fr ⟨true, 9⟩ 1 p0 => Option.some p0 | _ => none
theorem dds_namesOf.dec_inv {p : List AV} (y : AV) (h : dds_namesOf.dec y = some p) : y = .fr ⟨true, 9⟩ 1 p := by
  unfold dds_namesOf.dec at h
  split at h
  · cases h; rfl
  · cases h
theorem dds_namesOf.l_eq (n m : Nat) : (∀ (z1 : List AV) (z2 : Int) (z3 : Int) (z4 : List AV), runK G (dds_namesOf.C n) dds_namesOf.cut (fun S => finK G Tryz.f57.resultTypes.toList Tryz.f57.results.toList S dds_namesOf.dec) m dds_namesOf.t3 (dds_namesOf.s3 z1 z2 z3 z4) = (dds_namesOf.l n m) z1 z2 z3 z4) := by
  induction m with
  | zero => exact fun z1 z2 z3 z4 => rfl
  | succ m ih =>
    have h3 := ih
    have e3 : (fun (z1 : List AV) (z2 : Int) (z3 : Int) (z4 : List AV) => runK G (dds_namesOf.C n) dds_namesOf.cut (fun S => finK G Tryz.f57.resultTypes.toList Tryz.f57.results.toList S dds_namesOf.dec) m dds_namesOf.t3 (dds_namesOf.s3 z1 z2 z3 z4)) = (dds_namesOf.l n m) := by funext z1 z2 z3 z4; exact h3 z1 z2 z3 z4
    have q3 : ∀ (z1 : List AV) (z2 : Int) (z3 : Int) (z4 : List AV), runK G (dds_namesOf.C n) dds_namesOf.cut (fun S => finK G Tryz.f57.resultTypes.toList Tryz.f57.results.toList S dds_namesOf.dec) (m + 1) dds_namesOf.t3 (dds_namesOf.s3 z1 z2 z3 z4) = (dds_namesOf.l n (m + 1)) z1 z2 z3 z4 := by
      intro z1 z2 z3 z4
      rw [runK_succ]
      refine (dds_namesOf.r3_eq n _ dds_namesOf.dec z1 z2 z3 z4).trans ?_
      rw [e3]
      rfl
    exact q3
theorem dds_namesOf.hands (n : Nat) (a0 : ByteArray) (a1 : ByteArray) (a2 : List AV) (a3 : List AV) (a4 : List AV) (a5 : List AV) (a6 : Bool) (a7 : List AV) {p : List AV} (h : dds_namesOf.F n a0 a1 a2 a3 a4 a5 a6 a7 = some p) : HandsIn Tryz.prog 57 [AV.agg [vs a0, vs a1, .sl ⟨true, 9⟩ 1 a2, .sl ⟨true, 95⟩ 3 a3, .sl ⟨true, 97⟩ 4 a4, .sl ⟨true, 111⟩ 2 a5, vb a6, .sl ⟨false, 100⟩ 2 a7]] (.fr ⟨true, 9⟩ 1 p) := by
  refine hands_of cfg mixed globs rfl (dds_namesOf.tells n) (fn := Tryz.f57) Tryz.func57 (by kernel_rfl) (by kernel_rfl) (cut := dds_namesOf.cut) (K := dds_namesOf.dec) (r := p) (n := n) dds_namesOf.dec_inv ?_
  rw [funK_getD (by kernel_rfl)]
  have h1 := dds_namesOf.e_eq n (runK G (dds_namesOf.C n) dds_namesOf.cut (fun S => finK G Tryz.f57.resultTypes.toList Tryz.f57.results.toList S dds_namesOf.dec) n) dds_namesOf.dec a0 a1 a2 a3 a4 a5 a6 a7
  have hl := dds_namesOf.l_eq n n
  simp only [hl] at h1
  exact h1.trans h
noncomputable def dds_namesOf.via {R : Type} (n : Nat) (xs : List AV) : (AV → Option R) → Option R := match xs with | [.agg [.v (.string a0), .v (.string a1), .sl ⟨true, 9⟩ 1 a2, .sl ⟨true, 95⟩ 3 a3, .sl ⟨true, 97⟩ 4 a4, .sl ⟨true, 111⟩ 2 a5, .v (.bool a6), .sl ⟨false, 100⟩ 2 a7]] => fun K => (dds_namesOf.F n a0 a1 a2 a3 a4 a5 a6 a7).bind fun p => K (.fr ⟨true, 9⟩ 1 p) | _ => fun _ => none
theorem dds_namesOf.tells1 {R : Type} (n : Nat) (xs : List AV) : Tells1 (R := R) Tryz.prog 57 xs (dds_namesOf.via n xs) := by
  unfold dds_namesOf.via
  split
  · exact Tells1.of (fun p hp => (dds_namesOf.hands n _ _ _ _ _ _ _ _ hp).hands rfl)
  · exact Tells1.none
end Go.Proofs.YtmpglmcjoelciaaGreatDoor.Ev

/- midrange/dds.in, out of its evaluation. Printed by the session's own program. -/
namespace Go.Proofs.YtmpglmcjoelciaaGreatDoor.Ev
open Go Go.Proofs Go.Proofs.Ev
set_option linter.unusedVariables false
set_option maxRecDepth 100000
/-! midrange/dds.in: function 100 -/
noncomputable def dds_in.e {R : Type} (n : Nat)  (k : Bool → Option R) (a0 : Int) (a1 : Int) (a2 : Int) : Option R :=
  bif decide (a1 ≤ a0) then (k (decide (a0 ≤ a2))) else (k false)
noncomputable def dds_in.C {R : Type} (n : Nat) (f : FuncId) (xs : List AV) : (AV → Option R) → Option R :=
  fun _ => none
theorem dds_in.tells {R : Type} (n : Nat) : Tells (R := R) Tryz.prog (dds_in.C n) := fun _ xs => Tells1.none
noncomputable def dds_in.cut (r : Nat) : Option Keep := match r with  | _ => none
theorem dds_in.e_eq {R : Type} (n : Nat) (rec : List Item → St → Option R) (K : AV → Option R) (a0 : Int) (a1 : Int) (a2 : Int) :
    goK G (dds_in.C n) dds_in.cut (fun S => finK G Tryz.f100.resultTypes.toList Tryz.f100.results.toList S K) rec 1000 [.code (Tryz.f100.body.getD .skip)] (Ev.start Tryz.f100 [vi a0, vi a1, vi a2]) = dds_in.e n  (fun p => K (vb p)) a0 a1 a2 := by kernel_rfl
noncomputable def dds_in.F (n : Nat) (a0 : Int) (a1 : Int) (a2 : Int) : Option (Bool) := dds_in.e n  Option.some a0 a1 a2
noncomputable def dds_in.dec (x : AV) : Option (Bool) := match x with | .v (.bool p0) => Option.some p0 | _ => none
theorem dds_in.dec_inv {p : Bool} (y : AV) (h : dds_in.dec y = some p) : y = vb p := by
  unfold dds_in.dec at h
  split at h
  · cases h; rfl
  · cases h
theorem dds_in.hands (n : Nat) (a0 : Int) (a1 : Int) (a2 : Int) {p : Bool} (h : dds_in.F n a0 a1 a2 = some p) : HandsIn Tryz.prog 100 [vi a0, vi a1, vi a2] (vb p) := by
  refine hands_of cfg mixed globs rfl (dds_in.tells n) (fn := Tryz.f100) Tryz.func100 (by kernel_rfl) (by kernel_rfl) (cut := dds_in.cut) (K := dds_in.dec) (r := p) (n := n) dds_in.dec_inv ?_
  rw [funK_getD (by kernel_rfl)]
  have h1 := dds_in.e_eq n (runK G (dds_in.C n) dds_in.cut (fun S => finK G Tryz.f100.resultTypes.toList Tryz.f100.results.toList S dds_in.dec) n) dds_in.dec a0 a1 a2
  exact h1.trans h
noncomputable def dds_in.via {R : Type} (n : Nat) (xs : List AV) : (AV → Option R) → Option R := match xs with | [.v (.int .i64 a0), .v (.int .i64 a1), .v (.int .i64 a2)] => fun K => (dds_in.F n a0 a1 a2).bind fun p => K (vb p) | _ => fun _ => none
theorem dds_in.tells1 {R : Type} (n : Nat) (xs : List AV) : Tells1 (R := R) Tryz.prog 100 xs (dds_in.via n xs) := by
  unfold dds_in.via
  split
  · exact Tells1.of (fun p hp => (dds_in.hands n _ _ _ hp).hands rfl)
  · exact Tells1.none
end Go.Proofs.YtmpglmcjoelciaaGreatDoor.Ev

/- midrange/dds.fieldsErr, out of its evaluation. Printed by the session's own program. -/
namespace Go.Proofs.YtmpglmcjoelciaaGreatDoor.Ev
open Go Go.Proofs Go.Proofs.Ev
set_option linter.unusedVariables false
set_option maxRecDepth 100000
/-! midrange/dds.fieldsErr: function 53 -/
noncomputable def dds_fieldsErr.r6 {R : Type} (n : Nat) (c6 : List AV → Int → Int → ByteArray → ByteArray → List AV → List AV → List AV → List AV → Bool → List AV → List AV → Option R) (k : Int × Int → Option R) (z1 : List AV) (z2 : Int) (z3 : Int) (z4 : ByteArray) (z5 : ByteArray) (z6 : List AV) (z7 : List AV) (z8 : List AV) (z9 : List AV) (z10 : Bool) (z11 : List AV) (z12 : List AV) : Option R :=
  bif decide (z3 < z2) then (bif decide ((0 : Int) ≤ z3) && decide (z3 < ((z1.length : Nat) : Int)) then (withCons ((z1.getD ((z3).toNat) .undef).cells) fun h7 r8 =>
  withStr h7 fun s9 =>
  withCons r8 fun h10 r11 =>
  withInt .i64 h10 fun x12 =>
  withCons r11 fun h13 r14 =>
  withStr h13 fun s15 =>
  bif decide ((0 : Int) ≤ z3) && decide ((z3 : Int) ≤ ((z12.length : Nat) : Int)) then ((dds_nameErr.F n s9 ((z12.drop 0).take ((z3 - 0).toNat))).bind fun p16 =>
  let y17 : Int := IntKind.i64.wrap (((z6.length : Nat) : Int) - 1)
  (dds_in.F n x12 0 y17).bind fun p18 =>
  (dds_cond.F n (!p18) 3).bind fun p19 =>
  (dds_isName.F n s15).bind fun p20 =>
  (dds_cond.F n (!p20) 7).bind fun p21 =>
  (dds_first.F n [vi p16, vi p19, vi p21]).bind fun p22 =>
  bif p22 != 0 then (k (z3, p22)) else (c6 z1 z2 (IntKind.i64.wrap (z3 + 1)) z4 z5 z6 z7 z8 z9 z10 z11 z12)) else none) else none) else (k (0, 0))
noncomputable def dds_fieldsErr.e {R : Type} (n : Nat) (c6 : List AV → Int → Int → ByteArray → ByteArray → List AV → List AV → List AV → List AV → Bool → List AV → List AV → Option R) (k : Int × Int → Option R) (a0 : ByteArray) (a1 : ByteArray) (a2 : List AV) (a3 : List AV) (a4 : List AV) (a5 : List AV) (a6 : Bool) (a7 : List AV) : Option R :=
  let y1 : Bool := ((a3.length : Nat) : Int) == 0
  (dds_cond.F n y1 1).bind fun p2 =>
  let y3 : Bool := decide (((a3.length : Nat) : Int) > 20)
  (dds_cond.F n y3 2).bind fun p4 =>
  (dds_first.F n [vi p2, vi p4]).bind fun p5 =>
  bif p5 != 0 then (k (0, p5)) else ((dds_namesOf.F n a0 a1 a2 a3 a4 a5 a6 a7).bind fun p6 =>
  c6 a3 ((a3.length : Nat) : Int) 0 a0 a1 a2 a3 a4 a5 a6 a7 p6)
noncomputable def dds_fieldsErr.C {R : Type} (n : Nat) (f : FuncId) (xs : List AV) : (AV → Option R) → Option R :=
  bif Nat.beq f 44 then dds_first.via n xs else bif Nat.beq f 45 then dds_cond.via n xs else bif Nat.beq f 51 then dds_isName.via n xs else bif Nat.beq f 57 then dds_namesOf.via n xs else bif Nat.beq f 99 then dds_nameErr.via n xs else bif Nat.beq f 100 then dds_in.via n xs else fun _ => none
theorem dds_fieldsErr.tells {R : Type} (n : Nat) : Tells (R := R) Tryz.prog (dds_fieldsErr.C n) := fun _ xs => tells_at (dds_first.tells1 n xs) (tells_at (dds_cond.tells1 n xs) (tells_at (dds_isName.tells1 n xs) (tells_at (dds_namesOf.tells1 n xs) (tells_at (dds_nameErr.tells1 n xs) (tells_at (dds_in.tells1 n xs) (Tells1.none))))))
noncomputable def dds_fieldsErr.cut (r : Nat) : Option Keep := match r with | 6 => Option.some ⟨[1, 5, 27, 28, 29], []⟩ | _ => none
noncomputable def dds_fieldsErr.t6 : List Item := (todoOf 6 1000 [.code (Tryz.f53.body.getD .skip)]).getD []
noncomputable def dds_fieldsErr.s6 (z1 : List AV) (z2 : Int) (z3 : Int) (z4 : ByteArray) (z5 : ByteArray) (z6 : List AV) (z7 : List AV) (z8 : List AV) (z9 : List AV) (z10 : Bool) (z11 : List AV) (z12 : List AV) : St := ⟨[.undef, .ptr 0 0, .undef, .undef, .undef, .own 1 0 none, .undef, .undef, .undef, .undef, .undef, .undef, .undef, .undef, .undef, .undef, .undef, .undef, .undef, .undef, .undef, .undef, .undef, .undef, .undef, .undef, .undef, .sl ⟨true, 95⟩ 3 z1, vi z2, vi z3, .undef, .undef, .undef, .undef, .undef, .undef, .undef, .undef, .undef, .undef, .undef, .undef, .undef, .undef, .undef, .undef, .undef, .undef, .undef, .undef, .undef, .undef, .undef, .undef, .undef, .undef, .undef, .undef, .undef, .undef, .undef], Mem.ofList [.box 36 [vs z4, vs z5, .sl ⟨true, 9⟩ 1 z6, .sl ⟨true, 95⟩ 3 z7, .sl ⟨true, 97⟩ 4 z8, .sl ⟨true, 111⟩ 2 z9, vb z10, .sl ⟨false, 100⟩ 2 z11], .row ⟨true, 9⟩ 1 z12], 2⟩
theorem dds_fieldsErr.e_eq {R : Type} (n : Nat) (rec : List Item → St → Option R) (K : AV → Option R) (a0 : ByteArray) (a1 : ByteArray) (a2 : List AV) (a3 : List AV) (a4 : List AV) (a5 : List AV) (a6 : Bool) (a7 : List AV) :
    goK G (dds_fieldsErr.C n) dds_fieldsErr.cut (fun S => finK G Tryz.f53.resultTypes.toList Tryz.f53.results.toList S K) rec 1000 [.code (Tryz.f53.body.getD .skip)] (Ev.start Tryz.f53 [AV.agg [vs a0, vs a1, .sl ⟨true, 9⟩ 1 a2, .sl ⟨true, 95⟩ 3 a3, .sl ⟨true, 97⟩ 4 a4, .sl ⟨true, 111⟩ 2 a5, vb a6, .sl ⟨false, 100⟩ 2 a7]]) = dds_fieldsErr.e n (fun z1 z2 z3 z4 z5 z6 z7 z8 z9 z10 z11 z12 => rec dds_fieldsErr.t6 (dds_fieldsErr.s6 z1 z2 z3 z4 z5 z6 z7 z8 z9 z10 z11 z12)) (fun p => K (.tup [vi p.1, vi p.2])) a0 a1 a2 a3 a4 a5 a6 a7 := by kernel_rfl
theorem dds_fieldsErr.r6_eq {R : Type} (n : Nat) (rec : List Item → St → Option R) (K : AV → Option R) (z1 : List AV) (z2 : Int) (z3 : Int) (z4 : ByteArray) (z5 : ByteArray) (z6 : List AV) (z7 : List AV) (z8 : List AV) (z9 : List AV) (z10 : Bool) (z11 : List AV) (z12 : List AV) :
    atK G (dds_fieldsErr.C n) dds_fieldsErr.cut (fun S => finK G Tryz.f53.resultTypes.toList Tryz.f53.results.toList S K) rec dds_fieldsErr.t6 (dds_fieldsErr.s6 z1 z2 z3 z4 z5 z6 z7 z8 z9 z10 z11 z12) = dds_fieldsErr.r6 n (fun z1 z2 z3 z4 z5 z6 z7 z8 z9 z10 z11 z12 => rec dds_fieldsErr.t6 (dds_fieldsErr.s6 z1 z2 z3 z4 z5 z6 z7 z8 z9 z10 z11 z12)) (fun p => K (.tup [vi p.1, vi p.2])) z1 z2 z3 z4 z5 z6 z7 z8 z9 z10 z11 z12 := by kernel_rfl
noncomputable def dds_fieldsErr.l (n : Nat) : Nat → (List AV → Int → Int → ByteArray → ByteArray → List AV → List AV → List AV → List AV → Bool → List AV → List AV → Option (Int × Int))
  | 0 => (fun _ _ _ _ _ _ _ _ _ _ _ _ => none)
  | m + 1 => dds_fieldsErr.r6 n (dds_fieldsErr.l n m) Option.some
noncomputable def dds_fieldsErr.F (n : Nat) (a0 : ByteArray) (a1 : ByteArray) (a2 : List AV) (a3 : List AV) (a4 : List AV) (a5 : List AV) (a6 : Bool) (a7 : List AV) : Option (Int × Int) := dds_fieldsErr.e n (dds_fieldsErr.l n n) Option.some a0 a1 a2 a3 a4 a5 a6 a7
noncomputable def dds_fieldsErr.dec (x : AV) : Option (Int × Int) := match x with | .tup [.v (.int .i64 p0), .v (.int .i64 p1)] => Option.some (p0, p1) | _ => none
theorem dds_fieldsErr.dec_inv {p : Int × Int} (y : AV) (h : dds_fieldsErr.dec y = some p) : y = .tup [vi p.1, vi p.2] := by
  unfold dds_fieldsErr.dec at h
  split at h
  · cases h; rfl
  · cases h
theorem dds_fieldsErr.l_eq (n m : Nat) : (∀ (z1 : List AV) (z2 : Int) (z3 : Int) (z4 : ByteArray) (z5 : ByteArray) (z6 : List AV) (z7 : List AV) (z8 : List AV) (z9 : List AV) (z10 : Bool) (z11 : List AV) (z12 : List AV), runK G (dds_fieldsErr.C n) dds_fieldsErr.cut (fun S => finK G Tryz.f53.resultTypes.toList Tryz.f53.results.toList S dds_fieldsErr.dec) m dds_fieldsErr.t6 (dds_fieldsErr.s6 z1 z2 z3 z4 z5 z6 z7 z8 z9 z10 z11 z12) = (dds_fieldsErr.l n m) z1 z2 z3 z4 z5 z6 z7 z8 z9 z10 z11 z12) := by
  induction m with
  | zero => exact fun z1 z2 z3 z4 z5 z6 z7 z8 z9 z10 z11 z12 => rfl
  | succ m ih =>
    have h6 := ih
    have e6 : (fun (z1 : List AV) (z2 : Int) (z3 : Int) (z4 : ByteArray) (z5 : ByteArray) (z6 : List AV) (z7 : List AV) (z8 : List AV) (z9 : List AV) (z10 : Bool) (z11 : List AV) (z12 : List AV) => runK G (dds_fieldsErr.C n) dds_fieldsErr.cut (fun S => finK G Tryz.f53.resultTypes.toList Tryz.f53.results.toList S dds_fieldsErr.dec) m dds_fieldsErr.t6 (dds_fieldsErr.s6 z1 z2 z3 z4 z5 z6 z7 z8 z9 z10 z11 z12)) = (dds_fieldsErr.l n m) := by funext z1 z2 z3 z4 z5 z6 z7 z8 z9 z10 z11 z12; exact h6 z1 z2 z3 z4 z5 z6 z7 z8 z9 z10 z11 z12
    have q6 : ∀ (z1 : List AV) (z2 : Int) (z3 : Int) (z4 : ByteArray) (z5 : ByteArray) (z6 : List AV) (z7 : List AV) (z8 : List AV) (z9 : List AV) (z10 : Bool) (z11 : List AV) (z12 : List AV), runK G (dds_fieldsErr.C n) dds_fieldsErr.cut (fun S => finK G Tryz.f53.resultTypes.toList Tryz.f53.results.toList S dds_fieldsErr.dec) (m + 1) dds_fieldsErr.t6 (dds_fieldsErr.s6 z1 z2 z3 z4 z5 z6 z7 z8 z9 z10 z11 z12) = (dds_fieldsErr.l n (m + 1)) z1 z2 z3 z4 z5 z6 z7 z8 z9 z10 z11 z12 := by
      intro z1 z2 z3 z4 z5 z6 z7 z8 z9 z10 z11 z12
      rw [runK_succ]
      refine (dds_fieldsErr.r6_eq n _ dds_fieldsErr.dec z1 z2 z3 z4 z5 z6 z7 z8 z9 z10 z11 z12).trans ?_
      rw [e6]
      rfl
    exact q6
theorem dds_fieldsErr.hands (n : Nat) (a0 : ByteArray) (a1 : ByteArray) (a2 : List AV) (a3 : List AV) (a4 : List AV) (a5 : List AV) (a6 : Bool) (a7 : List AV) {p : Int × Int} (h : dds_fieldsErr.F n a0 a1 a2 a3 a4 a5 a6 a7 = some p) : HandsIn Tryz.prog 53 [AV.agg [vs a0, vs a1, .sl ⟨true, 9⟩ 1 a2, .sl ⟨true, 95⟩ 3 a3, .sl ⟨true, 97⟩ 4 a4, .sl ⟨true, 111⟩ 2 a5, vb a6, .sl ⟨false, 100⟩ 2 a7]] (.tup [vi p.1, vi p.2]) := by
  refine hands_of cfg mixed globs rfl (dds_fieldsErr.tells n) (fn := Tryz.f53) Tryz.func53 (by kernel_rfl) (by kernel_rfl) (cut := dds_fieldsErr.cut) (K := dds_fieldsErr.dec) (r := p) (n := n) dds_fieldsErr.dec_inv ?_
  rw [funK_getD (by kernel_rfl)]
  have h1 := dds_fieldsErr.e_eq n (runK G (dds_fieldsErr.C n) dds_fieldsErr.cut (fun S => finK G Tryz.f53.resultTypes.toList Tryz.f53.results.toList S dds_fieldsErr.dec) n) dds_fieldsErr.dec a0 a1 a2 a3 a4 a5 a6 a7
  have hl := dds_fieldsErr.l_eq n n
  simp only [hl] at h1
  exact h1.trans h
noncomputable def dds_fieldsErr.via {R : Type} (n : Nat) (xs : List AV) : (AV → Option R) → Option R := match xs with | [.agg [.v (.string a0), .v (.string a1), .sl ⟨true, 9⟩ 1 a2, .sl ⟨true, 95⟩ 3 a3, .sl ⟨true, 97⟩ 4 a4, .sl ⟨true, 111⟩ 2 a5, .v (.bool a6), .sl ⟨false, 100⟩ 2 a7]] => fun K => (dds_fieldsErr.F n a0 a1 a2 a3 a4 a5 a6 a7).bind fun p => K (.tup [vi p.1, vi p.2]) | _ => fun _ => none
theorem dds_fieldsErr.tells1 {R : Type} (n : Nat) (xs : List AV) : Tells1 (R := R) Tryz.prog 53 xs (dds_fieldsErr.via n xs) := by
  unfold dds_fieldsErr.via
  split
  · exact Tells1.of (fun p hp => (dds_fieldsErr.hands n _ _ _ _ _ _ _ _ hp).hands rfl)
  · exact Tells1.none
end Go.Proofs.YtmpglmcjoelciaaGreatDoor.Ev

/- slices.Index[[]bool,bool], out of its evaluation. Printed by the session's own program. -/
namespace Go.Proofs.YtmpglmcjoelciaaGreatDoor.Ev
open Go Go.Proofs Go.Proofs.Ev
set_option linter.unusedVariables false
set_option maxRecDepth 100000
/-! slices.Index[[]bool,bool]: function 144 -/
noncomputable def slices_Index_bool_bool.r2 {R : Type} (n : Nat) (c2 : List AV → Bool → Int → Int → Option R) (k : Int → Option R) (z1 : List AV) (z2 : Bool) (z3 : Int) (z4 : Int) : Option R :=
  bif decide (z4 < z3) then (bif decide ((0 : Int) ≤ z4) && decide (z4 < ((z1.length : Nat) : Int)) then (withCons ((z1.getD ((z4).toNat) .undef).cells) fun h1 r2 =>
  withBool h1 fun b3 =>
  bif z2 == b3 then (k z4) else (c2 z1 z2 z3 (IntKind.i64.wrap (z4 + 1)))) else none) else (k (-1))
noncomputable def slices_Index_bool_bool.e {R : Type} (n : Nat) (c2 : List AV → Bool → Int → Int → Option R) (k : Int → Option R) (a0 : List AV) (a1 : Bool) : Option R :=
  c2 a0 a1 ((a0.length : Nat) : Int) 0
noncomputable def slices_Index_bool_bool.C {R : Type} (n : Nat) (f : FuncId) (xs : List AV) : (AV → Option R) → Option R :=
  fun _ => none
theorem slices_Index_bool_bool.tells {R : Type} (n : Nat) : Tells (R := R) Tryz.prog (slices_Index_bool_bool.C n) := fun _ xs => Tells1.none
noncomputable def slices_Index_bool_bool.cut (r : Nat) : Option Keep := match r with | 2 => Option.some ⟨[0, 1, 7, 8], []⟩ | _ => none
noncomputable def slices_Index_bool_bool.t2 : List Item := (todoOf 2 1000 [.code (Tryz.f144.body.getD .skip)]).getD []
noncomputable def slices_Index_bool_bool.s2 (z1 : List AV) (z2 : Bool) (z3 : Int) (z4 : Int) : St := ⟨[.sl ⟨true, 4⟩ 1 z1, vb z2, .undef, .undef, .undef, .undef, .undef, vi z3, vi z4, .undef, .undef, .undef, .undef, .undef, .undef, .undef, .undef, .undef, .undef], Mem.ofList [], 0⟩
theorem slices_Index_bool_bool.e_eq {R : Type} (n : Nat) (rec : List Item → St → Option R) (K : AV → Option R) (a0 : List AV) (a1 : Bool) :
    goK G (slices_Index_bool_bool.C n) slices_Index_bool_bool.cut (fun S => finK G Tryz.f144.resultTypes.toList Tryz.f144.results.toList S K) rec 1000 [.code (Tryz.f144.body.getD .skip)] (Ev.start Tryz.f144 [.sl ⟨true, 4⟩ 1 a0, vb a1]) = slices_Index_bool_bool.e n (fun z1 z2 z3 z4 => rec slices_Index_bool_bool.t2 (slices_Index_bool_bool.s2 z1 z2 z3 z4)) (fun p => K (vi p)) a0 a1 := by kernel_rfl
theorem slices_Index_bool_bool.r2_eq {R : Type} (n : Nat) (rec : List Item → St → Option R) (K : AV → Option R) (z1 : List AV) (z2 : Bool) (z3 : Int) (z4 : Int) :
    atK G (slices_Index_bool_bool.C n) slices_Index_bool_bool.cut (fun S => finK G Tryz.f144.resultTypes.toList Tryz.f144.results.toList S K) rec slices_Index_bool_bool.t2 (slices_Index_bool_bool.s2 z1 z2 z3 z4) = slices_Index_bool_bool.r2 n (fun z1 z2 z3 z4 => rec slices_Index_bool_bool.t2 (slices_Index_bool_bool.s2 z1 z2 z3 z4)) (fun p => K (vi p)) z1 z2 z3 z4 := by kernel_rfl
noncomputable def slices_Index_bool_bool.l (n : Nat) : Nat → (List AV → Bool → Int → Int → Option (Int))
  | 0 => (fun _ _ _ _ => none)
  | m + 1 => slices_Index_bool_bool.r2 n (slices_Index_bool_bool.l n m) Option.some
noncomputable def slices_Index_bool_bool.F (n : Nat) (a0 : List AV) (a1 : Bool) : Option (Int) := slices_Index_bool_bool.e n (slices_Index_bool_bool.l n n) Option.some a0 a1
noncomputable def slices_Index_bool_bool.dec (x : AV) : Option (Int) := match x with | .v (.int .i64 p0) => Option.some p0 | _ => none
theorem slices_Index_bool_bool.dec_inv {p : Int} (y : AV) (h : slices_Index_bool_bool.dec y = some p) : y = vi p := by
  unfold slices_Index_bool_bool.dec at h
  split at h
  · cases h; rfl
  · cases h
theorem slices_Index_bool_bool.l_eq (n m : Nat) : (∀ (z1 : List AV) (z2 : Bool) (z3 : Int) (z4 : Int), runK G (slices_Index_bool_bool.C n) slices_Index_bool_bool.cut (fun S => finK G Tryz.f144.resultTypes.toList Tryz.f144.results.toList S slices_Index_bool_bool.dec) m slices_Index_bool_bool.t2 (slices_Index_bool_bool.s2 z1 z2 z3 z4) = (slices_Index_bool_bool.l n m) z1 z2 z3 z4) := by
  induction m with
  | zero => exact fun z1 z2 z3 z4 => rfl
  | succ m ih =>
    have h2 := ih
    have e2 : (fun (z1 : List AV) (z2 : Bool) (z3 : Int) (z4 : Int) => runK G (slices_Index_bool_bool.C n) slices_Index_bool_bool.cut (fun S => finK G Tryz.f144.resultTypes.toList Tryz.f144.results.toList S slices_Index_bool_bool.dec) m slices_Index_bool_bool.t2 (slices_Index_bool_bool.s2 z1 z2 z3 z4)) = (slices_Index_bool_bool.l n m) := by funext z1 z2 z3 z4; exact h2 z1 z2 z3 z4
    have q2 : ∀ (z1 : List AV) (z2 : Bool) (z3 : Int) (z4 : Int), runK G (slices_Index_bool_bool.C n) slices_Index_bool_bool.cut (fun S => finK G Tryz.f144.resultTypes.toList Tryz.f144.results.toList S slices_Index_bool_bool.dec) (m + 1) slices_Index_bool_bool.t2 (slices_Index_bool_bool.s2 z1 z2 z3 z4) = (slices_Index_bool_bool.l n (m + 1)) z1 z2 z3 z4 := by
      intro z1 z2 z3 z4
      rw [runK_succ]
      refine (slices_Index_bool_bool.r2_eq n _ slices_Index_bool_bool.dec z1 z2 z3 z4).trans ?_
      rw [e2]
      rfl
    exact q2
theorem slices_Index_bool_bool.hands (n : Nat) (a0 : List AV) (a1 : Bool) {p : Int} (h : slices_Index_bool_bool.F n a0 a1 = some p) : HandsIn Tryz.prog 144 [.sl ⟨true, 4⟩ 1 a0, vb a1] (vi p) := by
  refine hands_of cfg mixed globs rfl (slices_Index_bool_bool.tells n) (fn := Tryz.f144) Tryz.func144 (by kernel_rfl) (by kernel_rfl) (cut := slices_Index_bool_bool.cut) (K := slices_Index_bool_bool.dec) (r := p) (n := n) slices_Index_bool_bool.dec_inv ?_
  rw [funK_getD (by kernel_rfl)]
  have h1 := slices_Index_bool_bool.e_eq n (runK G (slices_Index_bool_bool.C n) slices_Index_bool_bool.cut (fun S => finK G Tryz.f144.resultTypes.toList Tryz.f144.results.toList S slices_Index_bool_bool.dec) n) slices_Index_bool_bool.dec a0 a1
  have hl := slices_Index_bool_bool.l_eq n n
  simp only [hl] at h1
  exact h1.trans h
noncomputable def slices_Index_bool_bool.via {R : Type} (n : Nat) (xs : List AV) : (AV → Option R) → Option R := match xs with | [.sl ⟨true, 4⟩ 1 a0, .v (.bool a1)] => fun K => (slices_Index_bool_bool.F n a0 a1).bind fun p => K (vi p) | _ => fun _ => none
theorem slices_Index_bool_bool.tells1 {R : Type} (n : Nat) (xs : List AV) : Tells1 (R := R) Tryz.prog 144 xs (slices_Index_bool_bool.via n xs) := by
  unfold slices_Index_bool_bool.via
  split
  · exact Tells1.of (fun p hp => (slices_Index_bool_bool.hands n _ _ hp).hands rfl)
  · exact Tells1.none
end Go.Proofs.YtmpglmcjoelciaaGreatDoor.Ev

/- slices.Contains[[]bool,bool], out of its evaluation. Printed by the session's own program. -/
namespace Go.Proofs.YtmpglmcjoelciaaGreatDoor.Ev
open Go Go.Proofs Go.Proofs.Ev
set_option linter.unusedVariables false
set_option maxRecDepth 100000
/-! slices.Contains[[]bool,bool]: function 101 -/
noncomputable def slices_Contains_bool_bool.e {R : Type} (n : Nat)  (k : Bool → Option R) (a0 : List AV) (a1 : Bool) : Option R :=
  (slices_Index_bool_bool.F n a0 a1).bind fun p1 =>
  k (decide (p1 ≥ 0))
noncomputable def slices_Contains_bool_bool.C {R : Type} (n : Nat) (f : FuncId) (xs : List AV) : (AV → Option R) → Option R :=
  bif Nat.beq f 144 then slices_Index_bool_bool.via n xs else fun _ => none
theorem slices_Contains_bool_bool.tells {R : Type} (n : Nat) : Tells (R := R) Tryz.prog (slices_Contains_bool_bool.C n) := fun _ xs => tells_at (slices_Index_bool_bool.tells1 n xs) (Tells1.none)
noncomputable def slices_Contains_bool_bool.cut (r : Nat) : Option Keep := match r with  | _ => none
theorem slices_Contains_bool_bool.e_eq {R : Type} (n : Nat) (rec : List Item → St → Option R) (K : AV → Option R) (a0 : List AV) (a1 : Bool) :
    goK G (slices_Contains_bool_bool.C n) slices_Contains_bool_bool.cut (fun S => finK G Tryz.f101.resultTypes.toList Tryz.f101.results.toList S K) rec 1000 [.code (Tryz.f101.body.getD .skip)] (Ev.start Tryz.f101 [.sl ⟨true, 4⟩ 1 a0, vb a1]) = slices_Contains_bool_bool.e n  (fun p => K (vb p)) a0 a1 := by kernel_rfl
noncomputable def slices_Contains_bool_bool.F (n : Nat) (a0 : List AV) (a1 : Bool) : Option (Bool) := slices_Contains_bool_bool.e n  Option.some a0 a1
noncomputable def slices_Contains_bool_bool.dec (x : AV) : Option (Bool) := match x with | .v (.bool p0) => Option.some p0 | _ => none
theorem slices_Contains_bool_bool.dec_inv {p : Bool} (y : AV) (h : slices_Contains_bool_bool.dec y = some p) : y = vb p := by
  unfold slices_Contains_bool_bool.dec at h
  split at h
  · cases h; rfl
  · cases h
theorem slices_Contains_bool_bool.hands (n : Nat) (a0 : List AV) (a1 : Bool) {p : Bool} (h : slices_Contains_bool_bool.F n a0 a1 = some p) : HandsIn Tryz.prog 101 [.sl ⟨true, 4⟩ 1 a0, vb a1] (vb p) := by
  refine hands_of cfg mixed globs rfl (slices_Contains_bool_bool.tells n) (fn := Tryz.f101) Tryz.func101 (by kernel_rfl) (by kernel_rfl) (cut := slices_Contains_bool_bool.cut) (K := slices_Contains_bool_bool.dec) (r := p) (n := n) slices_Contains_bool_bool.dec_inv ?_
  rw [funK_getD (by kernel_rfl)]
  have h1 := slices_Contains_bool_bool.e_eq n (runK G (slices_Contains_bool_bool.C n) slices_Contains_bool_bool.cut (fun S => finK G Tryz.f101.resultTypes.toList Tryz.f101.results.toList S slices_Contains_bool_bool.dec) n) slices_Contains_bool_bool.dec a0 a1
  exact h1.trans h
noncomputable def slices_Contains_bool_bool.via {R : Type} (n : Nat) (xs : List AV) : (AV → Option R) → Option R := match xs with | [.sl ⟨true, 4⟩ 1 a0, .v (.bool a1)] => fun K => (slices_Contains_bool_bool.F n a0 a1).bind fun p => K (vb p) | _ => fun _ => none
theorem slices_Contains_bool_bool.tells1 {R : Type} (n : Nat) (xs : List AV) : Tells1 (R := R) Tryz.prog 101 xs (slices_Contains_bool_bool.via n xs) := by
  unfold slices_Contains_bool_bool.via
  split
  · exact Tells1.of (fun p hp => (slices_Contains_bool_bool.hands n _ _ hp).hands rfl)
  · exact Tells1.none
end Go.Proofs.YtmpglmcjoelciaaGreatDoor.Ev

/- midrange/dds.joinsErr, out of its evaluation. Printed by the session's own program. -/
namespace Go.Proofs.YtmpglmcjoelciaaGreatDoor.Ev
open Go Go.Proofs Go.Proofs.Ev
set_option linter.unusedVariables false
set_option maxRecDepth 100000
/-! midrange/dds.joinsErr: function 54 -/
noncomputable def dds_joinsErr.r6 {R : Type} (n : Nat) (c6 : Int → List AV → Int → Int → ByteArray → ByteArray → List AV → List AV → List AV → List AV → Bool → List AV → List AV → Option R) (k : Int × Int → Option R) (z1 : Int) (z2 : List AV) (z3 : Int) (z4 : Int) (z5 : ByteArray) (z6 : ByteArray) (z7 : List AV) (z8 : List AV) (z9 : List AV) (z10 : List AV) (z11 : Bool) (z12 : List AV) (z13 : List AV) : Option R :=
  bif decide (z4 < z3) then (bif decide ((0 : Int) ≤ z4) && decide (z4 < ((z2.length : Nat) : Int)) then (withCons ((z2.getD ((z4).toNat) .undef).cells) fun h3 r4 =>
  withInt .i64 h3 fun x5 =>
  withCons r4 fun h6 r7 =>
  withStr h6 fun s8 =>
  withCons r7 fun h9 r10 =>
  withInt .i64 h9 fun x11 =>
  withCons r10 fun h12 r13 =>
  withStr h12 fun s14 =>
  let y15 : Int := IntKind.i64.wrap (((z7.length : Nat) : Int) - 1)
  (dds_in.F n x11 1 y15).bind fun p16 =>
  (dds_cond.F n (!p16) 3).bind fun p17 =>
  (dds_in.F n x5 0 (IntKind.i64.wrap (x11 - 1))).bind fun p18 =>
  (dds_cond.F n (!p18) 3).bind fun p19 =>
  (dds_isName.F n s8).bind fun p20 =>
  (dds_cond.F n (!p20) 7).bind fun p21 =>
  (dds_isName.F n s14).bind fun p22 =>
  (dds_cond.F n (!p22) 7).bind fun p23 =>
  (dds_cond.F n (decide (x11 < z1)) 14).bind fun p24 =>
  (dds_first.F n [vi p17, vi p19, vi p21, vi p23, vi p24]).bind fun p25 =>
  bif p25 != 0 then (k (z4, p25)) else (bif decide ((0 : Int) ≤ x11) && decide (x11 < ((z13.length : Nat) : Int)) then (let y26 : List AV := z13.set ((x11).toNat) (vb true)
  c6 x11 z2 z3 (IntKind.i64.wrap (z4 + 1)) z5 z6 z7 z8 z9 z10 z11 z12 y26) else none)) else none) else (bif decide ((0 : Int) ≤ 1) && decide ((1 : Int) ≤ ((z13.length : Nat) : Int)) then ((slices_Contains_bool_bool.F n (z13.drop 1) false).bind fun p27 =>
  (dds_cond.F n p27 11).bind fun p28 =>
  k (0, p28)) else none)
noncomputable def dds_joinsErr.e {R : Type} (n : Nat) (c6 : Int → List AV → Int → Int → ByteArray → ByteArray → List AV → List AV → List AV → List AV → Bool → List AV → List AV → Option R) (k : Int × Int → Option R) (a0 : ByteArray) (a1 : ByteArray) (a2 : List AV) (a3 : List AV) (a4 : List AV) (a5 : List AV) (a6 : Bool) (a7 : List AV) : Option R :=
  let y1 : Bool := decide (((a4.length : Nat) : Int) > 20)
  bif y1 then (k (0, 2)) else (bif (decide ((0 : Int) ≤ ((a2.length : Nat) : Int)) && decide ((((a2.length : Nat) : Int) : Int) ≤ most)) && decide ((((a2.length : Nat) : Int) : Int) = ((a2.length : Nat) : Int)) && true && true then (let y2 : List AV := List.replicate (((a2.length : Nat) : Int)).toNat (vb false)
  c6 0 a4 ((a4.length : Nat) : Int) 0 a0 a1 a2 a3 a4 a5 a6 a7 y2) else none)
noncomputable def dds_joinsErr.C {R : Type} (n : Nat) (f : FuncId) (xs : List AV) : (AV → Option R) → Option R :=
  bif Nat.beq f 44 then dds_first.via n xs else bif Nat.beq f 45 then dds_cond.via n xs else bif Nat.beq f 51 then dds_isName.via n xs else bif Nat.beq f 100 then dds_in.via n xs else bif Nat.beq f 101 then slices_Contains_bool_bool.via n xs else fun _ => none
theorem dds_joinsErr.tells {R : Type} (n : Nat) : Tells (R := R) Tryz.prog (dds_joinsErr.C n) := fun _ xs => tells_at (dds_first.tells1 n xs) (tells_at (dds_cond.tells1 n xs) (tells_at (dds_isName.tells1 n xs) (tells_at (dds_in.tells1 n xs) (tells_at (slices_Contains_bool_bool.tells1 n xs) (Tells1.none)))))
noncomputable def dds_joinsErr.cut (r : Nat) : Option Keep := match r with | 6 => Option.some ⟨[1, 4, 5, 18, 19, 20], []⟩ | _ => none
noncomputable def dds_joinsErr.t6 : List Item := (todoOf 6 1000 [.code (Tryz.f54.body.getD .skip)]).getD []
noncomputable def dds_joinsErr.s6 (z1 : Int) (z2 : List AV) (z3 : Int) (z4 : Int) (z5 : ByteArray) (z6 : ByteArray) (z7 : List AV) (z8 : List AV) (z9 : List AV) (z10 : List AV) (z11 : Bool) (z12 : List AV) (z13 : List AV) : St := ⟨[.undef, .ptr 0 0, .undef, .undef, .own 1 0 none, vi z1, .undef, .undef, .undef, .undef, .undef, .undef, .undef, .undef, .undef, .undef, .undef, .undef, .sl ⟨true, 97⟩ 4 z2, vi z3, vi z4, .undef, .undef, .undef, .undef, .undef, .undef, .undef, .undef, .undef, .undef, .undef, .undef, .undef, .undef, .undef, .undef, .undef, .undef, .undef, .undef, .undef, .undef, .undef, .undef, .undef, .undef, .undef, .undef, .undef, .undef, .undef, .undef, .undef, .undef, .undef, .undef, .undef, .undef, .undef, .undef, .undef, .undef, .undef, .undef, .undef, .undef, .undef, .undef, .undef, .undef, .undef, .undef, .undef], Mem.ofList [.box 36 [vs z5, vs z6, .sl ⟨true, 9⟩ 1 z7, .sl ⟨true, 95⟩ 3 z8, .sl ⟨true, 97⟩ 4 z9, .sl ⟨true, 111⟩ 2 z10, vb z11, .sl ⟨false, 100⟩ 2 z12], .row ⟨true, 4⟩ 1 z13], 2⟩
theorem dds_joinsErr.e_eq {R : Type} (n : Nat) (rec : List Item → St → Option R) (K : AV → Option R) (a0 : ByteArray) (a1 : ByteArray) (a2 : List AV) (a3 : List AV) (a4 : List AV) (a5 : List AV) (a6 : Bool) (a7 : List AV) :
    goK G (dds_joinsErr.C n) dds_joinsErr.cut (fun S => finK G Tryz.f54.resultTypes.toList Tryz.f54.results.toList S K) rec 1000 [.code (Tryz.f54.body.getD .skip)] (Ev.start Tryz.f54 [AV.agg [vs a0, vs a1, .sl ⟨true, 9⟩ 1 a2, .sl ⟨true, 95⟩ 3 a3, .sl ⟨true, 97⟩ 4 a4, .sl ⟨true, 111⟩ 2 a5, vb a6, .sl ⟨false, 100⟩ 2 a7]]) = dds_joinsErr.e n (fun z1 z2 z3 z4 z5 z6 z7 z8 z9 z10 z11 z12 z13 => rec dds_joinsErr.t6 (dds_joinsErr.s6 z1 z2 z3 z4 z5 z6 z7 z8 z9 z10 z11 z12 z13)) (fun p => K (.tup [vi p.1, vi p.2])) a0 a1 a2 a3 a4 a5 a6 a7 := by kernel_rfl
theorem dds_joinsErr.r6_eq {R : Type} (n : Nat) (rec : List Item → St → Option R) (K : AV → Option R) (z1 : Int) (z2 : List AV) (z3 : Int) (z4 : Int) (z5 : ByteArray) (z6 : ByteArray) (z7 : List AV) (z8 : List AV) (z9 : List AV) (z10 : List AV) (z11 : Bool) (z12 : List AV) (z13 : List AV) :
    atK G (dds_joinsErr.C n) dds_joinsErr.cut (fun S => finK G Tryz.f54.resultTypes.toList Tryz.f54.results.toList S K) rec dds_joinsErr.t6 (dds_joinsErr.s6 z1 z2 z3 z4 z5 z6 z7 z8 z9 z10 z11 z12 z13) = dds_joinsErr.r6 n (fun z1 z2 z3 z4 z5 z6 z7 z8 z9 z10 z11 z12 z13 => rec dds_joinsErr.t6 (dds_joinsErr.s6 z1 z2 z3 z4 z5 z6 z7 z8 z9 z10 z11 z12 z13)) (fun p => K (.tup [vi p.1, vi p.2])) z1 z2 z3 z4 z5 z6 z7 z8 z9 z10 z11 z12 z13 := by kernel_rfl
noncomputable def dds_joinsErr.l (n : Nat) : Nat → (Int → List AV → Int → Int → ByteArray → ByteArray → List AV → List AV → List AV → List AV → Bool → List AV → List AV → Option (Int × Int))
  | 0 => (fun _ _ _ _ _ _ _ _ _ _ _ _ _ => none)
  | m + 1 => dds_joinsErr.r6 n (dds_joinsErr.l n m) Option.some
noncomputable def dds_joinsErr.F (n : Nat) (a0 : ByteArray) (a1 : ByteArray) (a2 : List AV) (a3 : List AV) (a4 : List AV) (a5 : List AV) (a6 : Bool) (a7 : List AV) : Option (Int × Int) := dds_joinsErr.e n (dds_joinsErr.l n n) Option.some a0 a1 a2 a3 a4 a5 a6 a7
noncomputable def dds_joinsErr.dec (x : AV) : Option (Int × Int) := match x with | .tup [.v (.int .i64 p0), .v (.int .i64 p1)] => Option.some (p0, p1) | _ => none
theorem dds_joinsErr.dec_inv {p : Int × Int} (y : AV) (h : dds_joinsErr.dec y = some p) : y = .tup [vi p.1, vi p.2] := by
  unfold dds_joinsErr.dec at h
  split at h
  · cases h; rfl
  · cases h
theorem dds_joinsErr.l_eq (n m : Nat) : (∀ (z1 : Int) (z2 : List AV) (z3 : Int) (z4 : Int) (z5 : ByteArray) (z6 : ByteArray) (z7 : List AV) (z8 : List AV) (z9 : List AV) (z10 : List AV) (z11 : Bool) (z12 : List AV) (z13 : List AV), runK G (dds_joinsErr.C n) dds_joinsErr.cut (fun S => finK G Tryz.f54.resultTypes.toList Tryz.f54.results.toList S dds_joinsErr.dec) m dds_joinsErr.t6 (dds_joinsErr.s6 z1 z2 z3 z4 z5 z6 z7 z8 z9 z10 z11 z12 z13) = (dds_joinsErr.l n m) z1 z2 z3 z4 z5 z6 z7 z8 z9 z10 z11 z12 z13) := by
  induction m with
  | zero => exact fun z1 z2 z3 z4 z5 z6 z7 z8 z9 z10 z11 z12 z13 => rfl
  | succ m ih =>
    have h6 := ih
    have e6 : (fun (z1 : Int) (z2 : List AV) (z3 : Int) (z4 : Int) (z5 : ByteArray) (z6 : ByteArray) (z7 : List AV) (z8 : List AV) (z9 : List AV) (z10 : List AV) (z11 : Bool) (z12 : List AV) (z13 : List AV) => runK G (dds_joinsErr.C n) dds_joinsErr.cut (fun S => finK G Tryz.f54.resultTypes.toList Tryz.f54.results.toList S dds_joinsErr.dec) m dds_joinsErr.t6 (dds_joinsErr.s6 z1 z2 z3 z4 z5 z6 z7 z8 z9 z10 z11 z12 z13)) = (dds_joinsErr.l n m) := by funext z1 z2 z3 z4 z5 z6 z7 z8 z9 z10 z11 z12 z13; exact h6 z1 z2 z3 z4 z5 z6 z7 z8 z9 z10 z11 z12 z13
    have q6 : ∀ (z1 : Int) (z2 : List AV) (z3 : Int) (z4 : Int) (z5 : ByteArray) (z6 : ByteArray) (z7 : List AV) (z8 : List AV) (z9 : List AV) (z10 : List AV) (z11 : Bool) (z12 : List AV) (z13 : List AV), runK G (dds_joinsErr.C n) dds_joinsErr.cut (fun S => finK G Tryz.f54.resultTypes.toList Tryz.f54.results.toList S dds_joinsErr.dec) (m + 1) dds_joinsErr.t6 (dds_joinsErr.s6 z1 z2 z3 z4 z5 z6 z7 z8 z9 z10 z11 z12 z13) = (dds_joinsErr.l n (m + 1)) z1 z2 z3 z4 z5 z6 z7 z8 z9 z10 z11 z12 z13 := by
      intro z1 z2 z3 z4 z5 z6 z7 z8 z9 z10 z11 z12 z13
      rw [runK_succ]
      refine (dds_joinsErr.r6_eq n _ dds_joinsErr.dec z1 z2 z3 z4 z5 z6 z7 z8 z9 z10 z11 z12 z13).trans ?_
      rw [e6]
      rfl
    exact q6
theorem dds_joinsErr.hands (n : Nat) (a0 : ByteArray) (a1 : ByteArray) (a2 : List AV) (a3 : List AV) (a4 : List AV) (a5 : List AV) (a6 : Bool) (a7 : List AV) {p : Int × Int} (h : dds_joinsErr.F n a0 a1 a2 a3 a4 a5 a6 a7 = some p) : HandsIn Tryz.prog 54 [AV.agg [vs a0, vs a1, .sl ⟨true, 9⟩ 1 a2, .sl ⟨true, 95⟩ 3 a3, .sl ⟨true, 97⟩ 4 a4, .sl ⟨true, 111⟩ 2 a5, vb a6, .sl ⟨false, 100⟩ 2 a7]] (.tup [vi p.1, vi p.2]) := by
  refine hands_of cfg mixed globs rfl (dds_joinsErr.tells n) (fn := Tryz.f54) Tryz.func54 (by kernel_rfl) (by kernel_rfl) (cut := dds_joinsErr.cut) (K := dds_joinsErr.dec) (r := p) (n := n) dds_joinsErr.dec_inv ?_
  rw [funK_getD (by kernel_rfl)]
  have h1 := dds_joinsErr.e_eq n (runK G (dds_joinsErr.C n) dds_joinsErr.cut (fun S => finK G Tryz.f54.resultTypes.toList Tryz.f54.results.toList S dds_joinsErr.dec) n) dds_joinsErr.dec a0 a1 a2 a3 a4 a5 a6 a7
  have hl := dds_joinsErr.l_eq n n
  simp only [hl] at h1
  exact h1.trans h
noncomputable def dds_joinsErr.via {R : Type} (n : Nat) (xs : List AV) : (AV → Option R) → Option R := match xs with | [.agg [.v (.string a0), .v (.string a1), .sl ⟨true, 9⟩ 1 a2, .sl ⟨true, 95⟩ 3 a3, .sl ⟨true, 97⟩ 4 a4, .sl ⟨true, 111⟩ 2 a5, .v (.bool a6), .sl ⟨false, 100⟩ 2 a7]] => fun K => (dds_joinsErr.F n a0 a1 a2 a3 a4 a5 a6 a7).bind fun p => K (.tup [vi p.1, vi p.2]) | _ => fun _ => none
theorem dds_joinsErr.tells1 {R : Type} (n : Nat) (xs : List AV) : Tells1 (R := R) Tryz.prog 54 xs (dds_joinsErr.via n xs) := by
  unfold dds_joinsErr.via
  split
  · exact Tells1.of (fun p hp => (dds_joinsErr.hands n _ _ _ _ _ _ _ _ hp).hands rfl)
  · exact Tells1.none
end Go.Proofs.YtmpglmcjoelciaaGreatDoor.Ev

/- midrange/dds.keysErr, out of its evaluation. Printed by the session's own program. -/
namespace Go.Proofs.YtmpglmcjoelciaaGreatDoor.Ev
open Go Go.Proofs Go.Proofs.Ev
set_option linter.unusedVariables false
set_option maxRecDepth 100000
/-! midrange/dds.keysErr: function 56 -/
noncomputable def dds_keysErr.r5 {R : Type} (n : Nat) (c5 : List AV → List AV → Int → Int → List AV → Option R) (k : Int × Int → Option R) (z1 : List AV) (z2 : List AV) (z3 : Int) (z4 : Int) (z5 : List AV) : Option R :=
  bif decide (z4 < z3) then (bif decide ((0 : Int) ≤ z4) && decide (z4 < ((z2.length : Nat) : Int)) then (withCons ((z2.getD ((z4).toNat) .undef).cells) fun h2 r3 =>
  withStr h2 fun s4 =>
  withCons r3 fun h5 r6 =>
  withBool h5 fun b7 =>
  (slices_Contains_string_string.F n z1 s4).bind fun p8 =>
  (dds_cond.F n (!p8) 11).bind fun p9 =>
  (slices_Contains_string_string.F n z5 s4).bind fun p10 =>
  (dds_cond.F n p10 13).bind fun p11 =>
  (dds_first.F n [vi p9, vi p11]).bind fun p12 =>
  bif p12 != 0 then (k (z4, p12)) else (bif decide (z5.length + [vs s4].length ≤ most) then (c5 z1 z2 z3 (IntKind.i64.wrap (z4 + 1)) (z5 ++ [vs s4])) else none)) else none) else (k (0, 0))
noncomputable def dds_keysErr.e {R : Type} (n : Nat) (c5 : List AV → List AV → Int → Int → List AV → Option R) (k : Int × Int → Option R) (a0 : List AV) (a1 : List AV) : Option R :=
  let y1 : Bool := decide (((a0.length : Nat) : Int) > 4)
  bif y1 then (k (0, 2)) else (c5 a1 a0 ((a0.length : Nat) : Int) 0 [])
noncomputable def dds_keysErr.C {R : Type} (n : Nat) (f : FuncId) (xs : List AV) : (AV → Option R) → Option R :=
  bif Nat.beq f 44 then dds_first.via n xs else bif Nat.beq f 45 then dds_cond.via n xs else bif Nat.beq f 102 then slices_Contains_string_string.via n xs else fun _ => none
theorem dds_keysErr.tells {R : Type} (n : Nat) : Tells (R := R) Tryz.prog (dds_keysErr.C n) := fun _ xs => tells_at (dds_first.tells1 n xs) (tells_at (dds_cond.tells1 n xs) (tells_at (slices_Contains_string_string.tells1 n xs) (Tells1.none)))
noncomputable def dds_keysErr.cut (r : Nat) : Option Keep := match r with | 5 => Option.some ⟨[1, 6, 13, 14, 15], [(6, none, ⟨true, 9⟩, 1)]⟩ | _ => none
noncomputable def dds_keysErr.t5 : List Item := (todoOf 5 1000 [.code (Tryz.f56.body.getD .skip)]).getD []
noncomputable def dds_keysErr.s5 (z1 : List AV) (z2 : List AV) (z3 : Int) (z4 : Int) (z5 : List AV) : St := ⟨[.undef, .sl ⟨true, 9⟩ 1 z1, .undef, .undef, .undef, .undef, .own 0 0 none, .undef, .undef, .undef, .undef, .undef, .undef, .sl ⟨true, 111⟩ 2 z2, vi z3, vi z4, .undef, .undef, .undef, .undef, .undef, .undef, .undef, .undef, .undef, .undef, .undef, .undef, .undef, .undef, .undef, .undef, .undef, .undef, .undef, .undef, .undef, .undef, .undef, .undef, .undef, .undef, .undef], Mem.ofList [.row ⟨true, 9⟩ 1 z5], 1⟩
theorem dds_keysErr.e_eq {R : Type} (n : Nat) (rec : List Item → St → Option R) (K : AV → Option R) (a0 : List AV) (a1 : List AV) :
    goK G (dds_keysErr.C n) dds_keysErr.cut (fun S => finK G Tryz.f56.resultTypes.toList Tryz.f56.results.toList S K) rec 1000 [.code (Tryz.f56.body.getD .skip)] (Ev.start Tryz.f56 [.sl ⟨true, 111⟩ 2 a0, .sl ⟨true, 9⟩ 1 a1]) = dds_keysErr.e n (fun z1 z2 z3 z4 z5 => rec dds_keysErr.t5 (dds_keysErr.s5 z1 z2 z3 z4 z5)) (fun p => K (.tup [vi p.1, vi p.2])) a0 a1 := by kernel_rfl
theorem dds_keysErr.r5_eq {R : Type} (n : Nat) (rec : List Item → St → Option R) (K : AV → Option R) (z1 : List AV) (z2 : List AV) (z3 : Int) (z4 : Int) (z5 : List AV) :
    atK G (dds_keysErr.C n) dds_keysErr.cut (fun S => finK G Tryz.f56.resultTypes.toList Tryz.f56.results.toList S K) rec dds_keysErr.t5 (dds_keysErr.s5 z1 z2 z3 z4 z5) = dds_keysErr.r5 n (fun z1 z2 z3 z4 z5 => rec dds_keysErr.t5 (dds_keysErr.s5 z1 z2 z3 z4 z5)) (fun p => K (.tup [vi p.1, vi p.2])) z1 z2 z3 z4 z5 := by kernel_rfl
noncomputable def dds_keysErr.l (n : Nat) : Nat → (List AV → List AV → Int → Int → List AV → Option (Int × Int))
  | 0 => (fun _ _ _ _ _ => none)
  | m + 1 => dds_keysErr.r5 n (dds_keysErr.l n m) Option.some
noncomputable def dds_keysErr.F (n : Nat) (a0 : List AV) (a1 : List AV) : Option (Int × Int) := dds_keysErr.e n (dds_keysErr.l n n) Option.some a0 a1
noncomputable def dds_keysErr.dec (x : AV) : Option (Int × Int) := match x with | .tup [.v (.int .i64 p0), .v (.int .i64 p1)] => Option.some (p0, p1) | _ => none
theorem dds_keysErr.dec_inv {p : Int × Int} (y : AV) (h : dds_keysErr.dec y = some p) : y = .tup [vi p.1, vi p.2] := by
  unfold dds_keysErr.dec at h
  split at h
  · cases h; rfl
  · cases h
theorem dds_keysErr.l_eq (n m : Nat) : (∀ (z1 : List AV) (z2 : List AV) (z3 : Int) (z4 : Int) (z5 : List AV), runK G (dds_keysErr.C n) dds_keysErr.cut (fun S => finK G Tryz.f56.resultTypes.toList Tryz.f56.results.toList S dds_keysErr.dec) m dds_keysErr.t5 (dds_keysErr.s5 z1 z2 z3 z4 z5) = (dds_keysErr.l n m) z1 z2 z3 z4 z5) := by
  induction m with
  | zero => exact fun z1 z2 z3 z4 z5 => rfl
  | succ m ih =>
    have h5 := ih
    have e5 : (fun (z1 : List AV) (z2 : List AV) (z3 : Int) (z4 : Int) (z5 : List AV) => runK G (dds_keysErr.C n) dds_keysErr.cut (fun S => finK G Tryz.f56.resultTypes.toList Tryz.f56.results.toList S dds_keysErr.dec) m dds_keysErr.t5 (dds_keysErr.s5 z1 z2 z3 z4 z5)) = (dds_keysErr.l n m) := by funext z1 z2 z3 z4 z5; exact h5 z1 z2 z3 z4 z5
    have q5 : ∀ (z1 : List AV) (z2 : List AV) (z3 : Int) (z4 : Int) (z5 : List AV), runK G (dds_keysErr.C n) dds_keysErr.cut (fun S => finK G Tryz.f56.resultTypes.toList Tryz.f56.results.toList S dds_keysErr.dec) (m + 1) dds_keysErr.t5 (dds_keysErr.s5 z1 z2 z3 z4 z5) = (dds_keysErr.l n (m + 1)) z1 z2 z3 z4 z5 := by
      intro z1 z2 z3 z4 z5
      rw [runK_succ]
      refine (dds_keysErr.r5_eq n _ dds_keysErr.dec z1 z2 z3 z4 z5).trans ?_
      rw [e5]
      rfl
    exact q5
theorem dds_keysErr.hands (n : Nat) (a0 : List AV) (a1 : List AV) {p : Int × Int} (h : dds_keysErr.F n a0 a1 = some p) : HandsIn Tryz.prog 56 [.sl ⟨true, 111⟩ 2 a0, .sl ⟨true, 9⟩ 1 a1] (.tup [vi p.1, vi p.2]) := by
  refine hands_of cfg mixed globs rfl (dds_keysErr.tells n) (fn := Tryz.f56) Tryz.func56 (by kernel_rfl) (by kernel_rfl) (cut := dds_keysErr.cut) (K := dds_keysErr.dec) (r := p) (n := n) dds_keysErr.dec_inv ?_
  rw [funK_getD (by kernel_rfl)]
  have h1 := dds_keysErr.e_eq n (runK G (dds_keysErr.C n) dds_keysErr.cut (fun S => finK G Tryz.f56.resultTypes.toList Tryz.f56.results.toList S dds_keysErr.dec) n) dds_keysErr.dec a0 a1
  have hl := dds_keysErr.l_eq n n
  simp only [hl] at h1
  exact h1.trans h
noncomputable def dds_keysErr.via {R : Type} (n : Nat) (xs : List AV) : (AV → Option R) → Option R := match xs with | [.sl ⟨true, 111⟩ 2 a0, .sl ⟨true, 9⟩ 1 a1] => fun K => (dds_keysErr.F n a0 a1).bind fun p => K (.tup [vi p.1, vi p.2]) | _ => fun _ => none
theorem dds_keysErr.tells1 {R : Type} (n : Nat) (xs : List AV) : Tells1 (R := R) Tryz.prog 56 xs (dds_keysErr.via n xs) := by
  unfold dds_keysErr.via
  split
  · exact Tells1.of (fun p hp => (dds_keysErr.hands n _ _ hp).hands rfl)
  · exact Tells1.none
end Go.Proofs.YtmpglmcjoelciaaGreatDoor.Ev

/- midrange/dds.CheckLogical$1, out of its evaluation. Printed by the session's own program. -/
namespace Go.Proofs.YtmpglmcjoelciaaGreatDoor.Ev
open Go Go.Proofs Go.Proofs.Ev
set_option linter.unusedVariables false
set_option maxRecDepth 100000
/-! midrange/dds.CheckLogical$1: function 55 -/
noncomputable def dds_CheckLogical_1.e {R : Type} (n : Nat)  (k : Int × Int → Option R) (a0 : ByteArray) (a1 : ByteArray) (a2 : List AV) (a3 : List AV) (a4 : List AV) (a5 : List AV) (a6 : Bool) (a7 : List AV) : Option R :=
  (dds_namesOf.F n a0 a1 a2 a3 a4 a5 a6 a7).bind fun p1 =>
  (dds_keysErr.F n a5 p1).bind fun p2 =>
  k (p2.1, p2.2)
noncomputable def dds_CheckLogical_1.C {R : Type} (n : Nat) (f : FuncId) (xs : List AV) : (AV → Option R) → Option R :=
  bif Nat.beq f 56 then dds_keysErr.via n xs else bif Nat.beq f 57 then dds_namesOf.via n xs else fun _ => none
theorem dds_CheckLogical_1.tells {R : Type} (n : Nat) : Tells (R := R) Tryz.prog (dds_CheckLogical_1.C n) := fun _ xs => tells_at (dds_keysErr.tells1 n xs) (tells_at (dds_namesOf.tells1 n xs) (Tells1.none))
noncomputable def dds_CheckLogical_1.cut (r : Nat) : Option Keep := match r with  | _ => none
theorem dds_CheckLogical_1.e_eq {R : Type} (n : Nat) (rec : List Item → St → Option R) (K : AV → Option R) (a0 : ByteArray) (a1 : ByteArray) (a2 : List AV) (a3 : List AV) (a4 : List AV) (a5 : List AV) (a6 : Bool) (a7 : List AV) :
    goK G (dds_CheckLogical_1.C n) dds_CheckLogical_1.cut (fun S => finK G Tryz.f55.resultTypes.toList Tryz.f55.results.toList S K) rec 1000 [.code (Tryz.f55.body.getD .skip)] (Ev.start Tryz.f55 [AV.agg [vs a0, vs a1, .sl ⟨true, 9⟩ 1 a2, .sl ⟨true, 95⟩ 3 a3, .sl ⟨true, 97⟩ 4 a4, .sl ⟨true, 111⟩ 2 a5, vb a6, .sl ⟨false, 100⟩ 2 a7]]) = dds_CheckLogical_1.e n  (fun p => K (.tup [vi p.1, vi p.2])) a0 a1 a2 a3 a4 a5 a6 a7 := by kernel_rfl
noncomputable def dds_CheckLogical_1.F (n : Nat) (a0 : ByteArray) (a1 : ByteArray) (a2 : List AV) (a3 : List AV) (a4 : List AV) (a5 : List AV) (a6 : Bool) (a7 : List AV) : Option (Int × Int) := dds_CheckLogical_1.e n  Option.some a0 a1 a2 a3 a4 a5 a6 a7
noncomputable def dds_CheckLogical_1.dec (x : AV) : Option (Int × Int) := match x with | .tup [.v (.int .i64 p0), .v (.int .i64 p1)] => Option.some (p0, p1) | _ => none
theorem dds_CheckLogical_1.dec_inv {p : Int × Int} (y : AV) (h : dds_CheckLogical_1.dec y = some p) : y = .tup [vi p.1, vi p.2] := by
  unfold dds_CheckLogical_1.dec at h
  split at h
  · cases h; rfl
  · cases h
theorem dds_CheckLogical_1.hands (n : Nat) (a0 : ByteArray) (a1 : ByteArray) (a2 : List AV) (a3 : List AV) (a4 : List AV) (a5 : List AV) (a6 : Bool) (a7 : List AV) {p : Int × Int} (h : dds_CheckLogical_1.F n a0 a1 a2 a3 a4 a5 a6 a7 = some p) : HandsIn Tryz.prog 55 [AV.agg [vs a0, vs a1, .sl ⟨true, 9⟩ 1 a2, .sl ⟨true, 95⟩ 3 a3, .sl ⟨true, 97⟩ 4 a4, .sl ⟨true, 111⟩ 2 a5, vb a6, .sl ⟨false, 100⟩ 2 a7]] (.tup [vi p.1, vi p.2]) := by
  refine hands_of cfg mixed globs rfl (dds_CheckLogical_1.tells n) (fn := Tryz.f55) Tryz.func55 (by kernel_rfl) (by kernel_rfl) (cut := dds_CheckLogical_1.cut) (K := dds_CheckLogical_1.dec) (r := p) (n := n) dds_CheckLogical_1.dec_inv ?_
  rw [funK_getD (by kernel_rfl)]
  have h1 := dds_CheckLogical_1.e_eq n (runK G (dds_CheckLogical_1.C n) dds_CheckLogical_1.cut (fun S => finK G Tryz.f55.resultTypes.toList Tryz.f55.results.toList S dds_CheckLogical_1.dec) n) dds_CheckLogical_1.dec a0 a1 a2 a3 a4 a5 a6 a7
  exact h1.trans h
noncomputable def dds_CheckLogical_1.via {R : Type} (n : Nat) (xs : List AV) : (AV → Option R) → Option R := match xs with | [.agg [.v (.string a0), .v (.string a1), .sl ⟨true, 9⟩ 1 a2, .sl ⟨true, 95⟩ 3 a3, .sl ⟨true, 97⟩ 4 a4, .sl ⟨true, 111⟩ 2 a5, .v (.bool a6), .sl ⟨false, 100⟩ 2 a7]] => fun K => (dds_CheckLogical_1.F n a0 a1 a2 a3 a4 a5 a6 a7).bind fun p => K (.tup [vi p.1, vi p.2]) | _ => fun _ => none
theorem dds_CheckLogical_1.tells1 {R : Type} (n : Nat) (xs : List AV) : Tells1 (R := R) Tryz.prog 55 xs (dds_CheckLogical_1.via n xs) := by
  unfold dds_CheckLogical_1.via
  split
  · exact Tells1.of (fun p hp => (dds_CheckLogical_1.hands n _ _ _ _ _ _ _ _ hp).hands rfl)
  · exact Tells1.none
end Go.Proofs.YtmpglmcjoelciaaGreatDoor.Ev

/- midrange/dds.conditionErr, out of its evaluation. Printed by the session's own program. -/
namespace Go.Proofs.YtmpglmcjoelciaaGreatDoor.Ev
open Go Go.Proofs Go.Proofs.Ev
set_option linter.unusedVariables false
set_option maxRecDepth 100000
/-! midrange/dds.conditionErr: function 103 -/
noncomputable def dds_conditionErr.e {R : Type} (n : Nat)  (k : Int → Option R) (a0 : ByteArray) (a1 : Int) (a2 : Int) (a3 : ByteArray) (a4 : List AV) : Option R :=
  (slices_Contains_string_string.F n a4 a0).bind fun p1 =>
  (dds_cond.F n (!p1) 11).bind fun p2 =>
  (dds_in.F n a1 0 5).bind fun p3 =>
  (dds_cond.F n (!p3) 4).bind fun p4 =>
  (dds_in.F n a2 (-999999999999999) 999999999999999).bind fun p5 =>
  (dds_cond.F n (!p5) 3).bind fun p6 =>
  let y7 : Bool := decide (((a3.size : Nat) : Int) > 256)
  (dds_cond.F n y7 2).bind fun p8 =>
  bif a2 != 0 then (let y9 : Bool := !(a3.toList == (⟨#[]⟩ : ByteArray).toList)
  (dds_cond.F n y9 5).bind fun p10 =>
  (dds_first.F n [vi p2, vi p4, vi p6, vi p8, vi p10]).bind fun p11 =>
  k p11) else ((dds_cond.F n false 5).bind fun p12 =>
  (dds_first.F n [vi p2, vi p4, vi p6, vi p8, vi p12]).bind fun p13 =>
  k p13)
noncomputable def dds_conditionErr.C {R : Type} (n : Nat) (f : FuncId) (xs : List AV) : (AV → Option R) → Option R :=
  bif Nat.beq f 44 then dds_first.via n xs else bif Nat.beq f 45 then dds_cond.via n xs else bif Nat.beq f 100 then dds_in.via n xs else bif Nat.beq f 102 then slices_Contains_string_string.via n xs else fun _ => none
theorem dds_conditionErr.tells {R : Type} (n : Nat) : Tells (R := R) Tryz.prog (dds_conditionErr.C n) := fun _ xs => tells_at (dds_first.tells1 n xs) (tells_at (dds_cond.tells1 n xs) (tells_at (dds_in.tells1 n xs) (tells_at (slices_Contains_string_string.tells1 n xs) (Tells1.none))))
noncomputable def dds_conditionErr.cut (r : Nat) : Option Keep := match r with  | _ => none
theorem dds_conditionErr.e_eq {R : Type} (n : Nat) (rec : List Item → St → Option R) (K : AV → Option R) (a0 : ByteArray) (a1 : Int) (a2 : Int) (a3 : ByteArray) (a4 : List AV) :
    goK G (dds_conditionErr.C n) dds_conditionErr.cut (fun S => finK G Tryz.f103.resultTypes.toList Tryz.f103.results.toList S K) rec 1000 [.code (Tryz.f103.body.getD .skip)] (Ev.start Tryz.f103 [AV.agg [vs a0, vi a1, vi a2, vs a3], .sl ⟨true, 9⟩ 1 a4]) = dds_conditionErr.e n  (fun p => K (vi p)) a0 a1 a2 a3 a4 := by kernel_rfl
noncomputable def dds_conditionErr.F (n : Nat) (a0 : ByteArray) (a1 : Int) (a2 : Int) (a3 : ByteArray) (a4 : List AV) : Option (Int) := dds_conditionErr.e n  Option.some a0 a1 a2 a3 a4
noncomputable def dds_conditionErr.dec (x : AV) : Option (Int) := match x with | .v (.int .i64 p0) => Option.some p0 | _ => none
theorem dds_conditionErr.dec_inv {p : Int} (y : AV) (h : dds_conditionErr.dec y = some p) : y = vi p := by
  unfold dds_conditionErr.dec at h
  split at h
  · cases h; rfl
  · cases h
theorem dds_conditionErr.hands (n : Nat) (a0 : ByteArray) (a1 : Int) (a2 : Int) (a3 : ByteArray) (a4 : List AV) {p : Int} (h : dds_conditionErr.F n a0 a1 a2 a3 a4 = some p) : HandsIn Tryz.prog 103 [AV.agg [vs a0, vi a1, vi a2, vs a3], .sl ⟨true, 9⟩ 1 a4] (vi p) := by
  refine hands_of cfg mixed globs rfl (dds_conditionErr.tells n) (fn := Tryz.f103) Tryz.func103 (by kernel_rfl) (by kernel_rfl) (cut := dds_conditionErr.cut) (K := dds_conditionErr.dec) (r := p) (n := n) dds_conditionErr.dec_inv ?_
  rw [funK_getD (by kernel_rfl)]
  have h1 := dds_conditionErr.e_eq n (runK G (dds_conditionErr.C n) dds_conditionErr.cut (fun S => finK G Tryz.f103.resultTypes.toList Tryz.f103.results.toList S dds_conditionErr.dec) n) dds_conditionErr.dec a0 a1 a2 a3 a4
  exact h1.trans h
noncomputable def dds_conditionErr.via {R : Type} (n : Nat) (xs : List AV) : (AV → Option R) → Option R := match xs with | [.agg [.v (.string a0), .v (.int .i64 a1), .v (.int .i64 a2), .v (.string a3)], .sl ⟨true, 9⟩ 1 a4] => fun K => (dds_conditionErr.F n a0 a1 a2 a3 a4).bind fun p => K (vi p) | _ => fun _ => none
theorem dds_conditionErr.tells1 {R : Type} (n : Nat) (xs : List AV) : Tells1 (R := R) Tryz.prog 103 xs (dds_conditionErr.via n xs) := by
  unfold dds_conditionErr.via
  split
  · exact Tells1.of (fun p hp => (dds_conditionErr.hands n _ _ _ _ _ hp).hands rfl)
  · exact Tells1.none
end Go.Proofs.YtmpglmcjoelciaaGreatDoor.Ev

/- midrange/dds.rulesErr, out of its evaluation. Printed by the session's own program. -/
namespace Go.Proofs.YtmpglmcjoelciaaGreatDoor.Ev
open Go Go.Proofs Go.Proofs.Ev
set_option linter.unusedVariables false
set_option maxRecDepth 100000
/-! midrange/dds.rulesErr: function 58 -/
noncomputable def dds_rulesErr.r5 {R : Type} (n : Nat) (c5 : List AV → Int → Int → List AV → Option R) (c10 : Int → List AV → Int → Int → List AV → Int → Int → List AV → Option R) (k : Int × Int → Option R) (z1 : List AV) (z2 : Int) (z3 : Int) (z4 : List AV) : Option R :=
  bif decide (z3 < z2) then (bif decide ((0 : Int) ≤ z3) && decide (z3 < ((z1.length : Nat) : Int)) then (withCons ((z1.getD ((z3).toNat) .undef).cells) fun h3 r4 =>
  withBool h3 fun b5 =>
  withCons r4 fun h6 r7 =>
  withSl ⟨true, 104⟩ 4 h6 fun xs8 =>
  let y9 : Bool := decide (((xs8.length : Nat) : Int) > 4)
  bif y9 then (k (z3, 2)) else (c10 z3 z1 z2 z3 xs8 ((xs8.length : Nat) : Int) 0 z4)) else none) else (k (0, 0))
noncomputable def dds_rulesErr.r10 {R : Type} (n : Nat) (c5 : List AV → Int → Int → List AV → Option R) (c10 : Int → List AV → Int → Int → List AV → Int → Int → List AV → Option R) (k : Int × Int → Option R) (z1 : Int) (z2 : List AV) (z3 : Int) (z4 : Int) (z5 : List AV) (z6 : Int) (z7 : Int) (z8 : List AV) : Option R :=
  bif decide (z7 < z6) then (bif decide ((0 : Int) ≤ z7) && decide (z7 < ((z5.length : Nat) : Int)) then (withCons ((z5.getD ((z7).toNat) .undef).cells) fun h10 r11 =>
  withStr h10 fun s12 =>
  withCons r11 fun h13 r14 =>
  withInt .i64 h13 fun x15 =>
  withCons r14 fun h16 r17 =>
  withInt .i64 h16 fun x18 =>
  withCons r17 fun h19 r20 =>
  withStr h19 fun s21 =>
  (dds_conditionErr.F n s12 x15 x18 s21 z8).bind fun p22 =>
  bif p22 != 0 then (k (z1, p22)) else (c10 z1 z2 z3 z4 z5 z6 (IntKind.i64.wrap (z7 + 1)) z8)) else none) else (c5 z2 z3 (IntKind.i64.wrap (z4 + 1)) z8)
noncomputable def dds_rulesErr.e {R : Type} (n : Nat) (c5 : List AV → Int → Int → List AV → Option R) (c10 : Int → List AV → Int → Int → List AV → Int → Int → List AV → Option R) (k : Int × Int → Option R) (a0 : ByteArray) (a1 : ByteArray) (a2 : List AV) (a3 : List AV) (a4 : List AV) (a5 : List AV) (a6 : Bool) (a7 : List AV) : Option R :=
  let y1 : Bool := decide (((a7.length : Nat) : Int) > 8)
  bif y1 then (k (0, 2)) else ((dds_namesOf.F n a0 a1 a2 a3 a4 a5 a6 a7).bind fun p2 =>
  c5 a7 ((a7.length : Nat) : Int) 0 p2)
noncomputable def dds_rulesErr.C {R : Type} (n : Nat) (f : FuncId) (xs : List AV) : (AV → Option R) → Option R :=
  bif Nat.beq f 57 then dds_namesOf.via n xs else bif Nat.beq f 103 then dds_conditionErr.via n xs else fun _ => none
theorem dds_rulesErr.tells {R : Type} (n : Nat) : Tells (R := R) Tryz.prog (dds_rulesErr.C n) := fun _ xs => tells_at (dds_namesOf.tells1 n xs) (tells_at (dds_conditionErr.tells1 n xs) (Tells1.none))
noncomputable def dds_rulesErr.cut (r : Nat) : Option Keep := match r with | 5 => Option.some ⟨[4, 17, 18, 19], []⟩ | 10 => Option.some ⟨[4, 5, 17, 18, 19, 30, 31, 32], []⟩ | _ => none
noncomputable def dds_rulesErr.t5 : List Item := (todoOf 5 1000 [.code (Tryz.f58.body.getD .skip)]).getD []
noncomputable def dds_rulesErr.s5 (z1 : List AV) (z2 : Int) (z3 : Int) (z4 : List AV) : St := ⟨[.undef, .undef, .undef, .undef, .own 0 0 none, .undef, .undef, .undef, .undef, .undef, .undef, .undef, .undef, .undef, .undef, .undef, .undef, .sl ⟨false, 100⟩ 2 z1, vi z2, vi z3, .undef, .undef, .undef, .undef, .undef, .undef, .undef, .undef, .undef, .undef, .undef, .undef, .undef, .undef, .undef, .undef, .undef, .undef, .undef, .undef, .undef, .undef, .undef, .undef, .undef], Mem.ofList [.row ⟨true, 9⟩ 1 z4], 1⟩
noncomputable def dds_rulesErr.t10 : List Item := (todoOf 10 1000 [.code (Tryz.f58.body.getD .skip)]).getD []
noncomputable def dds_rulesErr.s10 (z1 : Int) (z2 : List AV) (z3 : Int) (z4 : Int) (z5 : List AV) (z6 : Int) (z7 : Int) (z8 : List AV) : St := ⟨[.undef, .undef, .undef, .undef, .own 0 0 none, vi z1, .undef, .undef, .undef, .undef, .undef, .undef, .undef, .undef, .undef, .undef, .undef, .sl ⟨false, 100⟩ 2 z2, vi z3, vi z4, .undef, .undef, .undef, .undef, .undef, .undef, .undef, .undef, .undef, .undef, .sl ⟨true, 104⟩ 4 z5, vi z6, vi z7, .undef, .undef, .undef, .undef, .undef, .undef, .undef, .undef, .undef, .undef, .undef, .undef], Mem.ofList [.row ⟨true, 9⟩ 1 z8], 1⟩
theorem dds_rulesErr.e_eq {R : Type} (n : Nat) (rec : List Item → St → Option R) (K : AV → Option R) (a0 : ByteArray) (a1 : ByteArray) (a2 : List AV) (a3 : List AV) (a4 : List AV) (a5 : List AV) (a6 : Bool) (a7 : List AV) :
    goK G (dds_rulesErr.C n) dds_rulesErr.cut (fun S => finK G Tryz.f58.resultTypes.toList Tryz.f58.results.toList S K) rec 1000 [.code (Tryz.f58.body.getD .skip)] (Ev.start Tryz.f58 [AV.agg [vs a0, vs a1, .sl ⟨true, 9⟩ 1 a2, .sl ⟨true, 95⟩ 3 a3, .sl ⟨true, 97⟩ 4 a4, .sl ⟨true, 111⟩ 2 a5, vb a6, .sl ⟨false, 100⟩ 2 a7]]) = dds_rulesErr.e n (fun z1 z2 z3 z4 => rec dds_rulesErr.t5 (dds_rulesErr.s5 z1 z2 z3 z4)) (fun z1 z2 z3 z4 z5 z6 z7 z8 => rec dds_rulesErr.t10 (dds_rulesErr.s10 z1 z2 z3 z4 z5 z6 z7 z8)) (fun p => K (.tup [vi p.1, vi p.2])) a0 a1 a2 a3 a4 a5 a6 a7 := by kernel_rfl
theorem dds_rulesErr.r5_eq {R : Type} (n : Nat) (rec : List Item → St → Option R) (K : AV → Option R) (z1 : List AV) (z2 : Int) (z3 : Int) (z4 : List AV) :
    atK G (dds_rulesErr.C n) dds_rulesErr.cut (fun S => finK G Tryz.f58.resultTypes.toList Tryz.f58.results.toList S K) rec dds_rulesErr.t5 (dds_rulesErr.s5 z1 z2 z3 z4) = dds_rulesErr.r5 n (fun z1 z2 z3 z4 => rec dds_rulesErr.t5 (dds_rulesErr.s5 z1 z2 z3 z4)) (fun z1 z2 z3 z4 z5 z6 z7 z8 => rec dds_rulesErr.t10 (dds_rulesErr.s10 z1 z2 z3 z4 z5 z6 z7 z8)) (fun p => K (.tup [vi p.1, vi p.2])) z1 z2 z3 z4 := by kernel_rfl
theorem dds_rulesErr.r10_eq {R : Type} (n : Nat) (rec : List Item → St → Option R) (K : AV → Option R) (z1 : Int) (z2 : List AV) (z3 : Int) (z4 : Int) (z5 : List AV) (z6 : Int) (z7 : Int) (z8 : List AV) :
    atK G (dds_rulesErr.C n) dds_rulesErr.cut (fun S => finK G Tryz.f58.resultTypes.toList Tryz.f58.results.toList S K) rec dds_rulesErr.t10 (dds_rulesErr.s10 z1 z2 z3 z4 z5 z6 z7 z8) = dds_rulesErr.r10 n (fun z1 z2 z3 z4 => rec dds_rulesErr.t5 (dds_rulesErr.s5 z1 z2 z3 z4)) (fun z1 z2 z3 z4 z5 z6 z7 z8 => rec dds_rulesErr.t10 (dds_rulesErr.s10 z1 z2 z3 z4 z5 z6 z7 z8)) (fun p => K (.tup [vi p.1, vi p.2])) z1 z2 z3 z4 z5 z6 z7 z8 := by kernel_rfl
noncomputable def dds_rulesErr.l (n : Nat) : Nat → (List AV → Int → Int → List AV → Option (Int × Int)) × (Int → List AV → Int → Int → List AV → Int → Int → List AV → Option (Int × Int))
  | 0 => ((fun _ _ _ _ => none), (fun _ _ _ _ _ _ _ _ => none))
  | m + 1 => (dds_rulesErr.r5 n ((dds_rulesErr.l n m).1) ((dds_rulesErr.l n m).2) Option.some, dds_rulesErr.r10 n ((dds_rulesErr.l n m).1) ((dds_rulesErr.l n m).2) Option.some)
noncomputable def dds_rulesErr.F (n : Nat) (a0 : ByteArray) (a1 : ByteArray) (a2 : List AV) (a3 : List AV) (a4 : List AV) (a5 : List AV) (a6 : Bool) (a7 : List AV) : Option (Int × Int) := dds_rulesErr.e n ((dds_rulesErr.l n n).1) ((dds_rulesErr.l n n).2) Option.some a0 a1 a2 a3 a4 a5 a6 a7
noncomputable def dds_rulesErr.dec (x : AV) : Option (Int × Int) := match x with | .tup [.v (.int .i64 p0), .v (.int .i64 p1)] => Option.some (p0, p1) | _ => none
theorem dds_rulesErr.dec_inv {p : Int × Int} (y : AV) (h : dds_rulesErr.dec y = some p) : y = .tup [vi p.1, vi p.2] := by
  unfold dds_rulesErr.dec at h
  split at h
  · cases h; rfl
  · cases h
theorem dds_rulesErr.l_eq (n m : Nat) : (∀ (z1 : List AV) (z2 : Int) (z3 : Int) (z4 : List AV), runK G (dds_rulesErr.C n) dds_rulesErr.cut (fun S => finK G Tryz.f58.resultTypes.toList Tryz.f58.results.toList S dds_rulesErr.dec) m dds_rulesErr.t5 (dds_rulesErr.s5 z1 z2 z3 z4) = ((dds_rulesErr.l n m).1) z1 z2 z3 z4) ∧ (∀ (z1 : Int) (z2 : List AV) (z3 : Int) (z4 : Int) (z5 : List AV) (z6 : Int) (z7 : Int) (z8 : List AV), runK G (dds_rulesErr.C n) dds_rulesErr.cut (fun S => finK G Tryz.f58.resultTypes.toList Tryz.f58.results.toList S dds_rulesErr.dec) m dds_rulesErr.t10 (dds_rulesErr.s10 z1 z2 z3 z4 z5 z6 z7 z8) = ((dds_rulesErr.l n m).2) z1 z2 z3 z4 z5 z6 z7 z8) := by
  induction m with
  | zero => exact ⟨fun z1 z2 z3 z4 => rfl, fun z1 z2 z3 z4 z5 z6 z7 z8 => rfl⟩
  | succ m ih =>
    obtain ⟨h5, h10⟩ := ih
    have e5 : (fun (z1 : List AV) (z2 : Int) (z3 : Int) (z4 : List AV) => runK G (dds_rulesErr.C n) dds_rulesErr.cut (fun S => finK G Tryz.f58.resultTypes.toList Tryz.f58.results.toList S dds_rulesErr.dec) m dds_rulesErr.t5 (dds_rulesErr.s5 z1 z2 z3 z4)) = (dds_rulesErr.l n m).1 := by funext z1 z2 z3 z4; exact h5 z1 z2 z3 z4
    have e10 : (fun (z1 : Int) (z2 : List AV) (z3 : Int) (z4 : Int) (z5 : List AV) (z6 : Int) (z7 : Int) (z8 : List AV) => runK G (dds_rulesErr.C n) dds_rulesErr.cut (fun S => finK G Tryz.f58.resultTypes.toList Tryz.f58.results.toList S dds_rulesErr.dec) m dds_rulesErr.t10 (dds_rulesErr.s10 z1 z2 z3 z4 z5 z6 z7 z8)) = (dds_rulesErr.l n m).2 := by funext z1 z2 z3 z4 z5 z6 z7 z8; exact h10 z1 z2 z3 z4 z5 z6 z7 z8
    have q5 : ∀ (z1 : List AV) (z2 : Int) (z3 : Int) (z4 : List AV), runK G (dds_rulesErr.C n) dds_rulesErr.cut (fun S => finK G Tryz.f58.resultTypes.toList Tryz.f58.results.toList S dds_rulesErr.dec) (m + 1) dds_rulesErr.t5 (dds_rulesErr.s5 z1 z2 z3 z4) = ((dds_rulesErr.l n (m + 1)).1) z1 z2 z3 z4 := by
      intro z1 z2 z3 z4
      rw [runK_succ]
      refine (dds_rulesErr.r5_eq n _ dds_rulesErr.dec z1 z2 z3 z4).trans ?_
      rw [e5, e10]
      rfl
    have q10 : ∀ (z1 : Int) (z2 : List AV) (z3 : Int) (z4 : Int) (z5 : List AV) (z6 : Int) (z7 : Int) (z8 : List AV), runK G (dds_rulesErr.C n) dds_rulesErr.cut (fun S => finK G Tryz.f58.resultTypes.toList Tryz.f58.results.toList S dds_rulesErr.dec) (m + 1) dds_rulesErr.t10 (dds_rulesErr.s10 z1 z2 z3 z4 z5 z6 z7 z8) = ((dds_rulesErr.l n (m + 1)).2) z1 z2 z3 z4 z5 z6 z7 z8 := by
      intro z1 z2 z3 z4 z5 z6 z7 z8
      rw [runK_succ]
      refine (dds_rulesErr.r10_eq n _ dds_rulesErr.dec z1 z2 z3 z4 z5 z6 z7 z8).trans ?_
      rw [e5, e10]
      rfl
    exact ⟨q5, q10⟩
theorem dds_rulesErr.hands (n : Nat) (a0 : ByteArray) (a1 : ByteArray) (a2 : List AV) (a3 : List AV) (a4 : List AV) (a5 : List AV) (a6 : Bool) (a7 : List AV) {p : Int × Int} (h : dds_rulesErr.F n a0 a1 a2 a3 a4 a5 a6 a7 = some p) : HandsIn Tryz.prog 58 [AV.agg [vs a0, vs a1, .sl ⟨true, 9⟩ 1 a2, .sl ⟨true, 95⟩ 3 a3, .sl ⟨true, 97⟩ 4 a4, .sl ⟨true, 111⟩ 2 a5, vb a6, .sl ⟨false, 100⟩ 2 a7]] (.tup [vi p.1, vi p.2]) := by
  refine hands_of cfg mixed globs rfl (dds_rulesErr.tells n) (fn := Tryz.f58) Tryz.func58 (by kernel_rfl) (by kernel_rfl) (cut := dds_rulesErr.cut) (K := dds_rulesErr.dec) (r := p) (n := n) dds_rulesErr.dec_inv ?_
  rw [funK_getD (by kernel_rfl)]
  have h1 := dds_rulesErr.e_eq n (runK G (dds_rulesErr.C n) dds_rulesErr.cut (fun S => finK G Tryz.f58.resultTypes.toList Tryz.f58.results.toList S dds_rulesErr.dec) n) dds_rulesErr.dec a0 a1 a2 a3 a4 a5 a6 a7
  have hl := dds_rulesErr.l_eq n n
  simp only [hl.1, hl.2] at h1
  exact h1.trans h
noncomputable def dds_rulesErr.via {R : Type} (n : Nat) (xs : List AV) : (AV → Option R) → Option R := match xs with | [.agg [.v (.string a0), .v (.string a1), .sl ⟨true, 9⟩ 1 a2, .sl ⟨true, 95⟩ 3 a3, .sl ⟨true, 97⟩ 4 a4, .sl ⟨true, 111⟩ 2 a5, .v (.bool a6), .sl ⟨false, 100⟩ 2 a7]] => fun K => (dds_rulesErr.F n a0 a1 a2 a3 a4 a5 a6 a7).bind fun p => K (.tup [vi p.1, vi p.2]) | _ => fun _ => none
theorem dds_rulesErr.tells1 {R : Type} (n : Nat) (xs : List AV) : Tells1 (R := R) Tryz.prog 58 xs (dds_rulesErr.via n xs) := by
  unfold dds_rulesErr.via
  split
  · exact Tells1.of (fun p hp => (dds_rulesErr.hands n _ _ _ _ _ _ _ _ hp).hands rfl)
  · exact Tells1.none
end Go.Proofs.YtmpglmcjoelciaaGreatDoor.Ev
