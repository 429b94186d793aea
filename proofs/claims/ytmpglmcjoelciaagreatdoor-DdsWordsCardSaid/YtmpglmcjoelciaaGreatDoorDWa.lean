/- The table of the program's types, and that it is right. Printed by the session's own program. -/
import Derived.Test.YtmpglmcjoelciaaGreatDoorDWVc
import Derived.Test.YtmpglmcjoelciaaGreatDoorProg
import Derived.KernelRfl
import Derived.Shelf.Strings.Builder1
import Derived.Shelf.Strings.Builder2
import Derived.Shelf.Strings.Trim
import Derived.Shelf.Small.Utf8
import Derived.Shelf.Small.Strs
import Derived.Shelf.Strings.BuilderF
import Derived.Shelf.Utf8.RuneCount
import Derived.Shelf.Strconv.Atoi
import Derived.Shelf.Strconv.Itoa0
import Derived.Shelf.Strconv.Itoa1
import Derived.Shelf.LaysM
import Derived.Shelf.Strconv.Itoa2
import Derived.Shelf.Strconv.Itoa3
import Derived.Shelf.Strconv.AtoiErrFast
import Derived.Shelf.Strconv.ParseIntEmpty
import Derived.Shelf.Strconv.AtoiFail
import Derived.Shelf.Strconv.Clone
import Derived.Shelf.Strconv.SyntaxError
import Derived.Shelf.LaysC
import Derived.Shelf.Strconv.ToError
import Derived.Shelf.Strconv.Lower
import Derived.Shelf.Strconv.ParseUint10
import Derived.Shelf.Strconv.ParseUint10Empty
import Derived.Shelf.Strconv.ParseUint10Any
import Derived.Shelf.Strconv.ParseInt10
import Derived.Shelf.Strconv.AtoiLong
import Derived.Shelf.Strconv.AtoiInnerAll
import Derived.Shelf.Strconv.RangeError
import Derived.Shelf.Strconv.ToErrorRange
import Derived.Shelf.Strconv.AtoiAll
import Derived.Shelf.Strconv.ErrVarAll
import Derived.Shelf.Strings.Search1
import Derived.Shelf.Strings.Search2
import Derived.Shelf.Strings.Search3
import Derived.Shelf.Strings.Cut
import Derived.Shelf.Strings.Count
import Derived.Shelf.Strings.Shaped
import Derived.Shelf.Strings.Split
import Derived.Shelf.Strings.Replace
import Derived.Shelf.Strings.SplitShaped
import Derived.Shelf.Unicode.Decode
import Derived.Shelf.Strings.Runes
import Derived.Shelf.Strings.RuneCount
import Derived.Shelf.Strings.AsciiSet
import Derived.Shelf.Unicode.DecodeSlow
import Derived.Shelf.Unicode.DecodeAny
import Derived.Shelf.Strings.SlTrimAscii
import Derived.PlainAid
import Derived.IntWalk
import Derived.Laws.Strings
import Derived.Lib.AtoiTie
import Derived.Lib.IndexBytes

namespace Go.Proofs.YtmpglmcjoelciaaGreatDoor.Ev
open Go Go.Proofs Go.Proofs.Ev
set_option linter.unusedVariables false
set_option maxRecDepth 100000
noncomputable def tabL : List (Option TI) := [
  none,
  Option.some ⟨.other, 1, 8, false, [.any], [.nilFunc], 1⟩,
  Option.some ⟨.int .i64, 1, 8, false, [(.int .i64)], [.int .i64 0], 2⟩,
  Option.some ⟨.int .i64, 1, 8, false, [(.int .i64)], [.int .i64 0], 3⟩,
  Option.some ⟨.bool, 1, 1, false, [.bool], [.bool false], 4⟩,
  Option.some ⟨.int .u8, 1, 1, false, [(.int .u8)], [.int .u8 0], 5⟩,
  none,
  none,
  none,
  Option.some ⟨.string, 1, 16, false, [.str], [.string ⟨#[]⟩], 9⟩,
  none,
  none,
  Option.some ⟨.int .u64, 1, 8, false, [(.int .u64)], [.int .u64 0], 12⟩,
  none,
  none,
  Option.some ⟨.ptr 258, 1, 8, false, [.any], [.pointer none], 15⟩,
  Option.some ⟨.ptr 261, 1, 8, false, [.any], [.pointer none], 16⟩,
  Option.some ⟨.ptr 269, 1, 8, false, [.any], [.pointer none], 17⟩,
  none,
  none,
  Option.some ⟨.iface, 1, 16, false, [.any], [.nilIface], 20⟩,
  Option.some ⟨.int .i32, 1, 4, false, [(.int .i32)], [.int .i32 0], 21⟩,
  Option.some ⟨.other, 1, 8, false, [.any], [.nilFunc], 22⟩,
  Option.some ⟨.slice 9, 1, 24, false, [(.slice ⟨true, 9⟩ 1)], [.slice none 0 0], 23⟩,
  Option.some ⟨.int .i64, 1, 8, false, [(.int .i64)], [.int .i64 0], 24⟩,
  none,
  Option.some ⟨.other, 1, 8, false, [.any], [.nilFunc], 26⟩,
  none,
  Option.some ⟨.other, 1, 8, false, [.any], [.nilFunc], 28⟩,
  Option.some ⟨.other, 1, 8, false, [.any], [.nilFunc], 29⟩,
  Option.some ⟨.other, 1, 8, false, [.any], [.nilFunc], 30⟩,
  Option.some ⟨.slice 95, 1, 24, false, [(.slice ⟨true, 95⟩ 3)], [.slice none 0 0], 31⟩,
  Option.some ⟨.slice 97, 1, 24, false, [(.slice ⟨true, 97⟩ 4)], [.slice none 0 0], 32⟩,
  Option.some ⟨.slice 111, 1, 24, false, [(.slice ⟨true, 111⟩ 2)], [.slice none 0 0], 33⟩,
  Option.some ⟨.slice 100, 1, 24, false, [(.slice ⟨false, 100⟩ 2)], [.slice none 0 0], 34⟩,
  Option.some ⟨.struct [(9, 0), (9, 1), (23, 2), (31, 3), (32, 4), (33, 5), (4, 6), (34, 7)], 8, 160, true, [.str, .str, (.slice ⟨true, 9⟩ 1), (.slice ⟨true, 95⟩ 3), (.slice ⟨true, 97⟩ 4), (.slice ⟨true, 111⟩ 2), .bool, (.slice ⟨false, 100⟩ 2)], [.string ⟨#[]⟩, .string ⟨#[]⟩, .slice none 0 0, .slice none 0 0, .slice none 0 0, .slice none 0 0, .bool false, .slice none 0 0], 35⟩,
  Option.some ⟨.struct [(9, 0), (9, 1), (23, 2), (31, 3), (32, 4), (33, 5), (4, 6), (34, 7)], 8, 160, true, [.str, .str, (.slice ⟨true, 9⟩ 1), (.slice ⟨true, 95⟩ 3), (.slice ⟨true, 97⟩ 4), (.slice ⟨true, 111⟩ 2), .bool, (.slice ⟨false, 100⟩ 2)], [.string ⟨#[]⟩, .string ⟨#[]⟩, .slice none 0 0, .slice none 0 0, .slice none 0 0, .slice none 0 0, .bool false, .slice none 0 0], 36⟩,
  Option.some ⟨.other, 1, 8, false, [.any], [.nilFunc], 37⟩,
  none,
  Option.some ⟨.other, 1, 8, false, [.any], [.nilFunc], 39⟩,
  Option.some ⟨.other, 1, 8, false, [.any], [.nilFunc], 40⟩,
  none,
  Option.some ⟨.other, 1, 8, false, [.any], [.nilFunc], 42⟩,
  Option.some ⟨.other, 1, 8, false, [.any], [.nilFunc], 43⟩,
  Option.some ⟨.slice 125, 1, 24, false, [(.slice ⟨true, 125⟩ 4)], [.slice none 0 0], 44⟩,
  Option.some ⟨.struct [(9, 0), (44, 1)], 2, 40, true, [.str, (.slice ⟨true, 125⟩ 4)], [.string ⟨#[]⟩, .slice none 0 0], 45⟩,
  Option.some ⟨.struct [(9, 0), (44, 1)], 2, 40, true, [.str, (.slice ⟨true, 125⟩ 4)], [.string ⟨#[]⟩, .slice none 0 0], 46⟩,
  Option.some ⟨.struct [(9, 0), (46, 1), (33, 3), (4, 4)], 5, 88, true, [.str, .str, (.slice ⟨true, 125⟩ 4), (.slice ⟨true, 111⟩ 2), .bool], [.string ⟨#[]⟩, .string ⟨#[]⟩, .slice none 0 0, .slice none 0 0, .bool false], 47⟩,
  Option.some ⟨.struct [(9, 0), (46, 1), (33, 3), (4, 4)], 5, 88, true, [.str, .str, (.slice ⟨true, 125⟩ 4), (.slice ⟨true, 111⟩ 2), .bool], [.string ⟨#[]⟩, .string ⟨#[]⟩, .slice none 0 0, .slice none 0 0, .bool false], 48⟩,
  Option.some ⟨.struct [(4, 0), (48, 1), (36, 6)], 14, 256, true, [.bool, .str, .str, (.slice ⟨true, 125⟩ 4), (.slice ⟨true, 111⟩ 2), .bool, .str, .str, (.slice ⟨true, 9⟩ 1), (.slice ⟨true, 95⟩ 3), (.slice ⟨true, 97⟩ 4), (.slice ⟨true, 111⟩ 2), .bool, (.slice ⟨false, 100⟩ 2)], [.bool false, .string ⟨#[]⟩, .string ⟨#[]⟩, .slice none 0 0, .slice none 0 0, .bool false, .string ⟨#[]⟩, .string ⟨#[]⟩, .slice none 0 0, .slice none 0 0, .slice none 0 0, .slice none 0 0, .bool false, .slice none 0 0], 49⟩,
  Option.some ⟨.struct [(4, 0), (48, 1), (36, 6)], 14, 256, true, [.bool, .str, .str, (.slice ⟨true, 125⟩ 4), (.slice ⟨true, 111⟩ 2), .bool, .str, .str, (.slice ⟨true, 9⟩ 1), (.slice ⟨true, 95⟩ 3), (.slice ⟨true, 97⟩ 4), (.slice ⟨true, 111⟩ 2), .bool, (.slice ⟨false, 100⟩ 2)], [.bool false, .string ⟨#[]⟩, .string ⟨#[]⟩, .slice none 0 0, .slice none 0 0, .bool false, .string ⟨#[]⟩, .string ⟨#[]⟩, .slice none 0 0, .slice none 0 0, .slice none 0 0, .slice none 0 0, .bool false, .slice none 0 0], 50⟩,
  none,
  Option.some ⟨.other, 1, 8, false, [.any], [.nilFunc], 52⟩,
  Option.some ⟨.other, 1, 8, false, [.any], [.nilFunc], 53⟩,
  none,
  Option.some ⟨.other, 1, 8, false, [.any], [.nilFunc], 55⟩,
  Option.some ⟨.other, 1, 8, false, [.any], [.nilFunc], 56⟩,
  Option.some ⟨.other, 1, 8, false, [.any], [.nilFunc], 57⟩,
  Option.some ⟨.other, 1, 8, false, [.any], [.nilFunc], 58⟩,
  Option.some ⟨.other, 1, 8, false, [.any], [.nilFunc], 59⟩,
  Option.some ⟨.other, 1, 8, false, [.any], [.nilFunc], 60⟩,
  Option.some ⟨.other, 1, 8, false, [.any], [.nilFunc], 61⟩,
  Option.some ⟨.struct [(3, 0), (3, 1), (3, 2)], 3, 24, true, [(.int .i64), (.int .i64), (.int .i64)], [.int .i64 0, .int .i64 0, .int .i64 0], 62⟩,
  Option.some ⟨.struct [(3, 0), (3, 1), (3, 2)], 3, 24, true, [(.int .i64), (.int .i64), (.int .i64)], [.int .i64 0, .int .i64 0, .int .i64 0], 63⟩,
  none,
  Option.some ⟨.other, 1, 8, false, [.any], [.nilFunc], 65⟩,
  none,
  Option.some ⟨.other, 1, 8, false, [.any], [.nilFunc], 67⟩,
  Option.some ⟨.other, 1, 8, false, [.any], [.nilFunc], 68⟩,
  none,
  Option.some ⟨.other, 1, 8, false, [.any], [.nilFunc], 70⟩,
  Option.some ⟨.other, 1, 8, false, [.any], [.nilFunc], 71⟩,
  Option.some ⟨.other, 1, 8, false, [.any], [.nilFunc], 72⟩,
  Option.some ⟨.other, 1, 8, false, [.any], [.nilFunc], 73⟩,
  Option.some ⟨.slice 48, 1, 24, false, [(.slice ⟨false, 48⟩ 5)], [.slice none 0 0], 74⟩,
  Option.some ⟨.other, 1, 8, false, [.any], [.nilFunc], 75⟩,
  none,
  Option.some ⟨.other, 1, 8, false, [.any], [.nilFunc], 77⟩,
  Option.some ⟨.other, 1, 8, false, [.any], [.nilFunc], 78⟩,
  Option.some ⟨.other, 1, 8, false, [.any], [.nilFunc], 79⟩,
  Option.some ⟨.other, 1, 8, false, [.any], [.nilFunc], 80⟩,
  Option.some ⟨.other, 1, 8, false, [.any], [.nilFunc], 81⟩,
  Option.some ⟨.other, 1, 8, false, [.any], [.nilFunc], 82⟩,
  Option.some ⟨.other, 1, 8, false, [.any], [.nilFunc], 83⟩,
  Option.some ⟨.other, 1, 8, false, [.any], [.nilFunc], 84⟩,
  Option.some ⟨.other, 1, 8, false, [.any], [.nilFunc], 85⟩,
  Option.some ⟨.other, 1, 8, false, [.any], [.nilFunc], 86⟩,
  Option.some ⟨.other, 1, 8, false, [.any], [.nilFunc], 87⟩,
  Option.some ⟨.other, 1, 8, false, [.any], [.nilFunc], 88⟩,
  Option.some ⟨.other, 1, 8, false, [.any], [.nilFunc], 89⟩,
  Option.some ⟨.other, 1, 8, false, [.any], [.nilFunc], 90⟩,
  none,
  Option.some ⟨.other, 1, 8, false, [.any], [.nilFunc], 92⟩,
  Option.some ⟨.other, 1, 8, false, [.any], [.nilFunc], 93⟩,
  Option.some ⟨.struct [(9, 0), (3, 1), (9, 2)], 3, 40, true, [.str, (.int .i64), .str], [.string ⟨#[]⟩, .int .i64 0, .string ⟨#[]⟩], 94⟩,
  Option.some ⟨.struct [(9, 0), (3, 1), (9, 2)], 3, 40, true, [.str, (.int .i64), .str], [.string ⟨#[]⟩, .int .i64 0, .string ⟨#[]⟩], 95⟩,
  Option.some ⟨.struct [(3, 0), (9, 1), (3, 2), (9, 3)], 4, 48, true, [(.int .i64), .str, (.int .i64), .str], [.int .i64 0, .string ⟨#[]⟩, .int .i64 0, .string ⟨#[]⟩], 96⟩,
  Option.some ⟨.struct [(3, 0), (9, 1), (3, 2), (9, 3)], 4, 48, true, [(.int .i64), .str, (.int .i64), .str], [.int .i64 0, .string ⟨#[]⟩, .int .i64 0, .string ⟨#[]⟩], 97⟩,
  Option.some ⟨.slice 104, 1, 24, false, [(.slice ⟨true, 104⟩ 4)], [.slice none 0 0], 98⟩,
  Option.some ⟨.struct [(4, 0), (98, 1)], 2, 32, true, [.bool, (.slice ⟨true, 104⟩ 4)], [.bool false, .slice none 0 0], 99⟩,
  Option.some ⟨.struct [(4, 0), (98, 1)], 2, 32, true, [.bool, (.slice ⟨true, 104⟩ 4)], [.bool false, .slice none 0 0], 100⟩,
  Option.some ⟨.struct [(3, 0), (9, 1)], 2, 24, true, [(.int .i64), .str], [.int .i64 0, .string ⟨#[]⟩], 101⟩,
  Option.some ⟨.struct [(3, 0), (9, 1)], 2, 24, true, [(.int .i64), .str], [.int .i64 0, .string ⟨#[]⟩], 102⟩,
  Option.some ⟨.struct [(9, 0), (3, 1), (102, 2)], 4, 48, true, [.str, (.int .i64), (.int .i64), .str], [.string ⟨#[]⟩, .int .i64 0, .int .i64 0, .string ⟨#[]⟩], 103⟩,
  Option.some ⟨.struct [(9, 0), (3, 1), (102, 2)], 4, 48, true, [.str, (.int .i64), (.int .i64), .str], [.string ⟨#[]⟩, .int .i64 0, .int .i64 0, .string ⟨#[]⟩], 104⟩,
  Option.some ⟨.other, 1, 8, false, [.any], [.nilFunc], 105⟩,
  Option.some ⟨.other, 1, 8, false, [.any], [.nilFunc], 106⟩,
  Option.some ⟨.slice 39, 1, 24, false, [(.slice ⟨false, 39⟩ 1)], [.slice none 0 0], 107⟩,
  Option.some ⟨.other, 1, 8, false, [.any], [.nilFunc], 108⟩,
  Option.some ⟨.other, 1, 8, false, [.any], [.nilFunc], 109⟩,
  Option.some ⟨.struct [(9, 0), (4, 1)], 2, 24, true, [.str, .bool], [.string ⟨#[]⟩, .bool false], 110⟩,
  Option.some ⟨.struct [(9, 0), (4, 1)], 2, 24, true, [.str, .bool], [.string ⟨#[]⟩, .bool false], 111⟩,
  Option.some ⟨.other, 1, 8, false, [.any], [.nilFunc], 112⟩,
  Option.some ⟨.ptr 115, 1, 8, false, [.any], [.pointer none], 113⟩,
  Option.some ⟨.struct [(50, 0), (3, 14)], 15, 264, true, [.bool, .str, .str, (.slice ⟨true, 125⟩ 4), (.slice ⟨true, 111⟩ 2), .bool, .str, .str, (.slice ⟨true, 9⟩ 1), (.slice ⟨true, 95⟩ 3), (.slice ⟨true, 97⟩ 4), (.slice ⟨true, 111⟩ 2), .bool, (.slice ⟨false, 100⟩ 2), (.int .i64)], [.bool false, .string ⟨#[]⟩, .string ⟨#[]⟩, .slice none 0 0, .slice none 0 0, .bool false, .string ⟨#[]⟩, .string ⟨#[]⟩, .slice none 0 0, .slice none 0 0, .slice none 0 0, .slice none 0 0, .bool false, .slice none 0 0, .int .i64 0], 114⟩,
  Option.some ⟨.struct [(50, 0), (3, 14)], 15, 264, true, [.bool, .str, .str, (.slice ⟨true, 125⟩ 4), (.slice ⟨true, 111⟩ 2), .bool, .str, .str, (.slice ⟨true, 9⟩ 1), (.slice ⟨true, 95⟩ 3), (.slice ⟨true, 97⟩ 4), (.slice ⟨true, 111⟩ 2), .bool, (.slice ⟨false, 100⟩ 2), (.int .i64)], [.bool false, .string ⟨#[]⟩, .string ⟨#[]⟩, .slice none 0 0, .slice none 0 0, .bool false, .string ⟨#[]⟩, .string ⟨#[]⟩, .slice none 0 0, .slice none 0 0, .slice none 0 0, .slice none 0 0, .bool false, .slice none 0 0, .int .i64 0], 115⟩,
  Option.some ⟨.other, 1, 8, false, [.any], [.nilFunc], 116⟩,
  Option.some ⟨.other, 1, 8, false, [.any], [.nilFunc], 117⟩,
  Option.some ⟨.ptr 50, 1, 8, false, [.any], [.pointer none], 118⟩,
  Option.some ⟨.other, 1, 8, false, [.any], [.nilFunc], 119⟩,
  Option.some ⟨.other, 1, 8, false, [.any], [.nilFunc], 120⟩,
  Option.some ⟨.other, 1, 8, false, [.any], [.nilFunc], 121⟩,
  Option.some ⟨.other, 1, 8, false, [.any], [.nilFunc], 122⟩,
  Option.some ⟨.other, 1, 8, false, [.any], [.nilFunc], 123⟩,
  Option.some ⟨.struct [(9, 0), (63, 1)], 4, 40, true, [.str, (.int .i64), (.int .i64), (.int .i64)], [.string ⟨#[]⟩, .int .i64 0, .int .i64 0, .int .i64 0], 124⟩,
  Option.some ⟨.struct [(9, 0), (63, 1)], 4, 40, true, [.str, (.int .i64), (.int .i64), (.int .i64)], [.string ⟨#[]⟩, .int .i64 0, .int .i64 0, .int .i64 0], 125⟩,
  Option.some ⟨.other, 1, 8, false, [.any], [.nilFunc], 126⟩,
  Option.some ⟨.other, 1, 8, false, [.any], [.nilFunc], 127⟩,
  none,
  Option.some ⟨.other, 1, 8, false, [.any], [.nilFunc], 129⟩,
  Option.some ⟨.other, 1, 8, false, [.any], [.nilFunc], 130⟩,
  Option.some ⟨.other, 1, 8, false, [.any], [.nilFunc], 131⟩,
  Option.some ⟨.other, 1, 8, false, [.any], [.nilFunc], 132⟩,
  Option.some ⟨.slice 3, 1, 24, false, [(.slice ⟨true, 3⟩ 1)], [.slice none 0 0], 133⟩,
  Option.some ⟨.other, 1, 8, false, [.any], [.nilFunc], 134⟩,
  Option.some ⟨.other, 1, 8, false, [.any], [.nilFunc], 135⟩,
  Option.some ⟨.other, 1, 8, false, [.any], [.nilFunc], 136⟩,
  none,
  Option.some ⟨.other, 1, 8, false, [.any], [.nilFunc], 138⟩,
  Option.some ⟨.other, 1, 8, false, [.any], [.nilFunc], 139⟩,
  Option.some ⟨.other, 1, 8, false, [.any], [.nilFunc], 140⟩,
  Option.some ⟨.other, 1, 8, false, [.any], [.nilFunc], 141⟩,
  Option.some ⟨.other, 1, 8, false, [.any], [.nilFunc], 142⟩,
  Option.some ⟨.other, 1, 8, false, [.any], [.nilFunc], 143⟩,
  Option.some ⟨.slice 24, 1, 24, false, [(.slice ⟨true, 24⟩ 1)], [.slice none 0 0], 144⟩,
  Option.some ⟨.slice 5, 1, 24, false, [(.slice ⟨true, 5⟩ 1)], [.slice none 0 0], 145⟩,
  Option.some ⟨.other, 1, 8, false, [.any], [.nilFunc], 146⟩,
  Option.some ⟨.other, 1, 8, false, [.any], [.nilFunc], 147⟩,
  Option.some ⟨.other, 1, 8, false, [.any], [.nilFunc], 148⟩,
  Option.some ⟨.slice 4, 1, 24, false, [(.slice ⟨true, 4⟩ 1)], [.slice none 0 0], 149⟩,
  Option.some ⟨.other, 1, 8, false, [.any], [.nilFunc], 150⟩,
  Option.some ⟨.other, 1, 8, false, [.any], [.nilFunc], 151⟩,
  Option.some ⟨.other, 1, 8, false, [.any], [.nilFunc], 152⟩,
  Option.some ⟨.other, 1, 8, false, [.any], [.nilFunc], 153⟩,
  Option.some ⟨.other, 1, 8, false, [.any], [.nilFunc], 154⟩,
  Option.some ⟨.slice 43, 1, 24, false, [(.slice ⟨false, 43⟩ 1)], [.slice none 0 0], 155⟩,
  Option.some ⟨.other, 1, 8, false, [.any], [.nilFunc], 156⟩,
  Option.some ⟨.other, 1, 8, false, [.any], [.nilFunc], 157⟩,
  Option.some ⟨.other, 1, 8, false, [.any], [.nilFunc], 158⟩,
  Option.some ⟨.other, 1, 8, false, [.any], [.nilFunc], 159⟩,
  Option.some ⟨.other, 1, 8, false, [.any], [.nilFunc], 160⟩,
  Option.some ⟨.other, 1, 8, false, [.any], [.nilFunc], 161⟩,
  Option.some ⟨.other, 1, 8, false, [.any], [.nilFunc], 162⟩,
  Option.some ⟨.other, 1, 8, false, [.any], [.nilFunc], 163⟩,
  none,
  Option.some ⟨.other, 1, 8, false, [.any], [.nilFunc], 165⟩,
  Option.some ⟨.other, 1, 8, false, [.any], [.nilFunc], 166⟩,
  Option.some ⟨.other, 1, 8, false, [.any], [.nilFunc], 167⟩,
  Option.some ⟨.other, 1, 8, false, [.any], [.nilFunc], 168⟩,
  Option.some ⟨.other, 1, 8, false, [.any], [.nilFunc], 169⟩,
  Option.some ⟨.other, 1, 8, false, [.any], [.nilFunc], 170⟩,
  Option.some ⟨.other, 1, 8, false, [.any], [.nilFunc], 171⟩,
  Option.some ⟨.other, 1, 8, false, [.any], [.nilFunc], 172⟩,
  Option.some ⟨.other, 1, 8, false, [.any], [.nilFunc], 173⟩,
  Option.some ⟨.other, 1, 8, false, [.any], [.nilFunc], 174⟩,
  none,
  Option.some ⟨.other, 1, 8, false, [.any], [.nilFunc], 176⟩,
  Option.some ⟨.other, 1, 8, false, [.any], [.nilFunc], 177⟩,
  Option.some ⟨.other, 1, 8, false, [.any], [.nilFunc], 178⟩,
  Option.some ⟨.iface, 1, 16, false, [.any], [.nilIface], 179⟩,
  Option.some ⟨.iface, 1, 16, false, [.any], [.nilIface], 180⟩,
  none,
  Option.some ⟨.other, 1, 8, false, [.any], [.nilFunc], 182⟩,
  Option.some ⟨.other, 1, 8, false, [.any], [.nilFunc], 183⟩,
  Option.some ⟨.other, 1, 8, false, [.any], [.nilFunc], 184⟩,
  Option.some ⟨.other, 1, 8, false, [.any], [.nilFunc], 185⟩,
  Option.some ⟨.other, 1, 8, false, [.any], [.nilFunc], 186⟩,
  Option.some ⟨.other, 1, 8, false, [.any], [.nilFunc], 187⟩,
  Option.some ⟨.other, 1, 8, false, [.any], [.nilFunc], 188⟩,
  Option.some ⟨.int .u64, 1, 8, false, [(.int .u64)], [.int .u64 0], 189⟩,
  Option.some ⟨.struct [(3, 0), (3, 1)], 2, 16, true, [(.int .i64), (.int .i64)], [.int .i64 0, .int .i64 0], 190⟩,
  Option.some ⟨.struct [(3, 0), (3, 1)], 2, 16, true, [(.int .i64), (.int .i64)], [.int .i64 0, .int .i64 0], 191⟩,
  none,
  Option.some ⟨.other, 1, 8, false, [.any], [.nilFunc], 193⟩,
  Option.some ⟨.arr 24 5, 24, 24, true, [(.int .u8), (.int .u8), (.int .u8), (.int .u8), (.int .u8), (.int .u8), (.int .u8), (.int .u8), (.int .u8), (.int .u8), (.int .u8), (.int .u8), (.int .u8), (.int .u8), (.int .u8), (.int .u8), (.int .u8), (.int .u8), (.int .u8), (.int .u8), (.int .u8), (.int .u8), (.int .u8), (.int .u8)], [.int .u8 0, .int .u8 0, .int .u8 0, .int .u8 0, .int .u8 0, .int .u8 0, .int .u8 0, .int .u8 0, .int .u8 0, .int .u8 0, .int .u8 0, .int .u8 0, .int .u8 0, .int .u8 0, .int .u8 0, .int .u8 0, .int .u8 0, .int .u8 0, .int .u8 0, .int .u8 0, .int .u8 0, .int .u8 0, .int .u8 0, .int .u8 0], 194⟩,
  Option.some ⟨.int .u64, 1, 8, false, [(.int .u64)], [.int .u64 0], 195⟩,
  Option.some ⟨.other, 1, 8, false, [.any], [.nilFunc], 196⟩,
  Option.some ⟨.other, 1, 8, false, [.any], [.nilFunc], 197⟩,
  none,
  Option.some ⟨.other, 1, 8, false, [.any], [.nilFunc], 199⟩,
  Option.some ⟨.ptr 202, 1, 8, false, [.any], [.pointer none], 200⟩,
  Option.some ⟨.struct [(200, 0), (145, 1)], 2, 32, true, [.any, (.slice ⟨true, 5⟩ 1)], [.pointer none, .slice none 0 0], 201⟩,
  Option.some ⟨.struct [(200, 0), (145, 1)], 2, 32, true, [.any, (.slice ⟨true, 5⟩ 1)], [.pointer none, .slice none 0 0], 202⟩,
  Option.some ⟨.other, 1, 8, false, [.any], [.nilFunc], 203⟩,
  none,
  Option.some ⟨.other, 1, 8, false, [.any], [.nilFunc], 205⟩,
  Option.some ⟨.other, 1, 8, false, [.any], [.nilFunc], 206⟩,
  Option.some ⟨.other, 1, 8, false, [.any], [.nilFunc], 207⟩,
  Option.some ⟨.int .u32, 1, 4, false, [(.int .u32)], [.int .u32 0], 208⟩,
  none,
  Option.some ⟨.other, 1, 8, false, [.any], [.nilFunc], 210⟩,
  none,
  Option.some ⟨.other, 1, 8, false, [.any], [.nilFunc], 212⟩,
  none,
  Option.some ⟨.other, 1, 8, false, [.any], [.nilFunc], 214⟩,
  Option.some ⟨.other, 1, 8, false, [.any], [.nilFunc], 215⟩,
  Option.some ⟨.arr 20 195, 20, 160, true, [(.int .u64), (.int .u64), (.int .u64), (.int .u64), (.int .u64), (.int .u64), (.int .u64), (.int .u64), (.int .u64), (.int .u64), (.int .u64), (.int .u64), (.int .u64), (.int .u64), (.int .u64), (.int .u64), (.int .u64), (.int .u64), (.int .u64), (.int .u64)], [.int .u64 0, .int .u64 0, .int .u64 0, .int .u64 0, .int .u64 0, .int .u64 0, .int .u64 0, .int .u64 0, .int .u64 0, .int .u64 0, .int .u64 0, .int .u64 0, .int .u64 0, .int .u64 0, .int .u64 0, .int .u64 0, .int .u64 0, .int .u64 0, .int .u64 0, .int .u64 0], 216⟩,
  Option.some ⟨.arr 65 5, 65, 65, true, [(.int .u8), (.int .u8), (.int .u8), (.int .u8), (.int .u8), (.int .u8), (.int .u8), (.int .u8), (.int .u8), (.int .u8), (.int .u8), (.int .u8), (.int .u8), (.int .u8), (.int .u8), (.int .u8), (.int .u8), (.int .u8), (.int .u8), (.int .u8), (.int .u8), (.int .u8), (.int .u8), (.int .u8), (.int .u8), (.int .u8), (.int .u8), (.int .u8), (.int .u8), (.int .u8), (.int .u8), (.int .u8), (.int .u8), (.int .u8), (.int .u8), (.int .u8), (.int .u8), (.int .u8), (.int .u8), (.int .u8), (.int .u8), (.int .u8), (.int .u8), (.int .u8), (.int .u8), (.int .u8), (.int .u8), (.int .u8), (.int .u8), (.int .u8), (.int .u8), (.int .u8), (.int .u8), (.int .u8), (.int .u8), (.int .u8), (.int .u8), (.int .u8), (.int .u8), (.int .u8), (.int .u8), (.int .u8), (.int .u8), (.int .u8), (.int .u8)], [.int .u8 0, .int .u8 0, .int .u8 0, .int .u8 0, .int .u8 0, .int .u8 0, .int .u8 0, .int .u8 0, .int .u8 0, .int .u8 0, .int .u8 0, .int .u8 0, .int .u8 0, .int .u8 0, .int .u8 0, .int .u8 0, .int .u8 0, .int .u8 0, .int .u8 0, .int .u8 0, .int .u8 0, .int .u8 0, .int .u8 0, .int .u8 0, .int .u8 0, .int .u8 0, .int .u8 0, .int .u8 0, .int .u8 0, .int .u8 0, .int .u8 0, .int .u8 0, .int .u8 0, .int .u8 0, .int .u8 0, .int .u8 0, .int .u8 0, .int .u8 0, .int .u8 0, .int .u8 0, .int .u8 0, .int .u8 0, .int .u8 0, .int .u8 0, .int .u8 0, .int .u8 0, .int .u8 0, .int .u8 0, .int .u8 0, .int .u8 0, .int .u8 0, .int .u8 0, .int .u8 0, .int .u8 0, .int .u8 0, .int .u8 0, .int .u8 0, .int .u8 0, .int .u8 0, .int .u8 0, .int .u8 0, .int .u8 0, .int .u8 0, .int .u8 0, .int .u8 0], 217⟩,
  Option.some ⟨.other, 1, 8, false, [.any], [.nilFunc], 218⟩,
  Option.some ⟨.ptr 5, 1, 8, false, [.any], [.pointer none], 219⟩,
  none,
  none,
  Option.some ⟨.other, 1, 8, false, [.any], [.nilFunc], 222⟩,
  Option.some ⟨.ptr 245, 1, 8, false, [.any], [.pointer none], 223⟩,
  Option.some ⟨.other, 1, 8, false, [.any], [.nilFunc], 224⟩,
  Option.some ⟨.other, 1, 8, false, [.any], [.nilFunc], 225⟩,
  Option.some ⟨.other, 1, 8, false, [.any], [.nilFunc], 226⟩,
  Option.some ⟨.other, 1, 8, false, [.any], [.nilFunc], 227⟩,
  Option.some ⟨.arr 256 4, 256, 256, true, [.bool, .bool, .bool, .bool, .bool, .bool, .bool, .bool, .bool, .bool, .bool, .bool, .bool, .bool, .bool, .bool, .bool, .bool, .bool, .bool, .bool, .bool, .bool, .bool, .bool, .bool, .bool, .bool, .bool, .bool, .bool, .bool, .bool, .bool, .bool, .bool, .bool, .bool, .bool, .bool, .bool, .bool, .bool, .bool, .bool, .bool, .bool, .bool, .bool, .bool, .bool, .bool, .bool, .bool, .bool, .bool, .bool, .bool, .bool, .bool, .bool, .bool, .bool, .bool, .bool, .bool, .bool, .bool, .bool, .bool, .bool, .bool, .bool, .bool, .bool, .bool, .bool, .bool, .bool, .bool, .bool, .bool, .bool, .bool, .bool, .bool, .bool, .bool, .bool, .bool, .bool, .bool, .bool, .bool, .bool, .bool, .bool, .bool, .bool, .bool, .bool, .bool, .bool, .bool, .bool, .bool, .bool, .bool, .bool, .bool, .bool, .bool, .bool, .bool, .bool, .bool, .bool, .bool, .bool, .bool, .bool, .bool, .bool, .bool, .bool, .bool, .bool, .bool, .bool, .bool, .bool, .bool, .bool, .bool, .bool, .bool, .bool, .bool, .bool, .bool, .bool, .bool, .bool, .bool, .bool, .bool, .bool, .bool, .bool, .bool, .bool, .bool, .bool, .bool, .bool, .bool, .bool, .bool, .bool, .bool, .bool, .bool, .bool, .bool, .bool, .bool, .bool, .bool, .bool, .bool, .bool, .bool, .bool, .bool, .bool, .bool, .bool, .bool, .bool, .bool, .bool, .bool, .bool, .bool, .bool, .bool, .bool, .bool, .bool, .bool, .bool, .bool, .bool, .bool, .bool, .bool, .bool, .bool, .bool, .bool, .bool, .bool, .bool, .bool, .bool, .bool, .bool, .bool, .bool, .bool, .bool, .bool, .bool, .bool, .bool, .bool, .bool, .bool, .bool, .bool, .bool, .bool, .bool, .bool, .bool, .bool, .bool, .bool, .bool, .bool, .bool, .bool, .bool, .bool, .bool, .bool, .bool, .bool, .bool, .bool, .bool, .bool, .bool, .bool, .bool, .bool, .bool, .bool, .bool, .bool, .bool, .bool, .bool, .bool, .bool, .bool], [.bool false, .bool false, .bool false, .bool false, .bool false, .bool false, .bool false, .bool false, .bool false, .bool false, .bool false, .bool false, .bool false, .bool false, .bool false, .bool false, .bool false, .bool false, .bool false, .bool false, .bool false, .bool false, .bool false, .bool false, .bool false, .bool false, .bool false, .bool false, .bool false, .bool false, .bool false, .bool false, .bool false, .bool false, .bool false, .bool false, .bool false, .bool false, .bool false, .bool false, .bool false, .bool false, .bool false, .bool false, .bool false, .bool false, .bool false, .bool false, .bool false, .bool false, .bool false, .bool false, .bool false, .bool false, .bool false, .bool false, .bool false, .bool false, .bool false, .bool false, .bool false, .bool false, .bool false, .bool false, .bool false, .bool false, .bool false, .bool false, .bool false, .bool false, .bool false, .bool false, .bool false, .bool false, .bool false, .bool false, .bool false, .bool false, .bool false, .bool false, .bool false, .bool false, .bool false, .bool false, .bool false, .bool false, .bool false, .bool false, .bool false, .bool false, .bool false, .bool false, .bool false, .bool false, .bool false, .bool false, .bool false, .bool false, .bool false, .bool false, .bool false, .bool false, .bool false, .bool false, .bool false, .bool false, .bool false, .bool false, .bool false, .bool false, .bool false, .bool false, .bool false, .bool false, .bool false, .bool false, .bool false, .bool false, .bool false, .bool false, .bool false, .bool false, .bool false, .bool false, .bool false, .bool false, .bool false, .bool false, .bool false, .bool false, .bool false, .bool false, .bool false, .bool false, .bool false, .bool false, .bool false, .bool false, .bool false, .bool false, .bool false, .bool false, .bool false, .bool false, .bool false, .bool false, .bool false, .bool false, .bool false, .bool false, .bool false, .bool false, .bool false, .bool false, .bool false, .bool false, .bool false, .bool false, .bool false, .bool false, .bool false, .bool false, .bool false, .bool false, .bool false, .bool false, .bool false, .bool false, .bool false, .bool false, .bool false, .bool false, .bool false, .bool false, .bool false, .bool false, .bool false, .bool false, .bool false, .bool false, .bool false, .bool false, .bool false, .bool false, .bool false, .bool false, .bool false, .bool false, .bool false, .bool false, .bool false, .bool false, .bool false, .bool false, .bool false, .bool false, .bool false, .bool false, .bool false, .bool false, .bool false, .bool false, .bool false, .bool false, .bool false, .bool false, .bool false, .bool false, .bool false, .bool false, .bool false, .bool false, .bool false, .bool false, .bool false, .bool false, .bool false, .bool false, .bool false, .bool false, .bool false, .bool false, .bool false, .bool false, .bool false, .bool false, .bool false, .bool false, .bool false, .bool false, .bool false, .bool false, .bool false, .bool false, .bool false, .bool false, .bool false, .bool false, .bool false, .bool false, .bool false, .bool false, .bool false, .bool false, .bool false, .bool false, .bool false, .bool false, .bool false, .bool false, .bool false, .bool false, .bool false, .bool false, .bool false, .bool false], 228⟩,
  Option.some ⟨.arr 256 4, 256, 256, true, [.bool, .bool, .bool, .bool, .bool, .bool, .bool, .bool, .bool, .bool, .bool, .bool, .bool, .bool, .bool, .bool, .bool, .bool, .bool, .bool, .bool, .bool, .bool, .bool, .bool, .bool, .bool, .bool, .bool, .bool, .bool, .bool, .bool, .bool, .bool, .bool, .bool, .bool, .bool, .bool, .bool, .bool, .bool, .bool, .bool, .bool, .bool, .bool, .bool, .bool, .bool, .bool, .bool, .bool, .bool, .bool, .bool, .bool, .bool, .bool, .bool, .bool, .bool, .bool, .bool, .bool, .bool, .bool, .bool, .bool, .bool, .bool, .bool, .bool, .bool, .bool, .bool, .bool, .bool, .bool, .bool, .bool, .bool, .bool, .bool, .bool, .bool, .bool, .bool, .bool, .bool, .bool, .bool, .bool, .bool, .bool, .bool, .bool, .bool, .bool, .bool, .bool, .bool, .bool, .bool, .bool, .bool, .bool, .bool, .bool, .bool, .bool, .bool, .bool, .bool, .bool, .bool, .bool, .bool, .bool, .bool, .bool, .bool, .bool, .bool, .bool, .bool, .bool, .bool, .bool, .bool, .bool, .bool, .bool, .bool, .bool, .bool, .bool, .bool, .bool, .bool, .bool, .bool, .bool, .bool, .bool, .bool, .bool, .bool, .bool, .bool, .bool, .bool, .bool, .bool, .bool, .bool, .bool, .bool, .bool, .bool, .bool, .bool, .bool, .bool, .bool, .bool, .bool, .bool, .bool, .bool, .bool, .bool, .bool, .bool, .bool, .bool, .bool, .bool, .bool, .bool, .bool, .bool, .bool, .bool, .bool, .bool, .bool, .bool, .bool, .bool, .bool, .bool, .bool, .bool, .bool, .bool, .bool, .bool, .bool, .bool, .bool, .bool, .bool, .bool, .bool, .bool, .bool, .bool, .bool, .bool, .bool, .bool, .bool, .bool, .bool, .bool, .bool, .bool, .bool, .bool, .bool, .bool, .bool, .bool, .bool, .bool, .bool, .bool, .bool, .bool, .bool, .bool, .bool, .bool, .bool, .bool, .bool, .bool, .bool, .bool, .bool, .bool, .bool, .bool, .bool, .bool, .bool, .bool, .bool, .bool, .bool, .bool, .bool, .bool, .bool], [.bool false, .bool false, .bool false, .bool false, .bool false, .bool false, .bool false, .bool false, .bool false, .bool false, .bool false, .bool false, .bool false, .bool false, .bool false, .bool false, .bool false, .bool false, .bool false, .bool false, .bool false, .bool false, .bool false, .bool false, .bool false, .bool false, .bool false, .bool false, .bool false, .bool false, .bool false, .bool false, .bool false, .bool false, .bool false, .bool false, .bool false, .bool false, .bool false, .bool false, .bool false, .bool false, .bool false, .bool false, .bool false, .bool false, .bool false, .bool false, .bool false, .bool false, .bool false, .bool false, .bool false, .bool false, .bool false, .bool false, .bool false, .bool false, .bool false, .bool false, .bool false, .bool false, .bool false, .bool false, .bool false, .bool false, .bool false, .bool false, .bool false, .bool false, .bool false, .bool false, .bool false, .bool false, .bool false, .bool false, .bool false, .bool false, .bool false, .bool false, .bool false, .bool false, .bool false, .bool false, .bool false, .bool false, .bool false, .bool false, .bool false, .bool false, .bool false, .bool false, .bool false, .bool false, .bool false, .bool false, .bool false, .bool false, .bool false, .bool false, .bool false, .bool false, .bool false, .bool false, .bool false, .bool false, .bool false, .bool false, .bool false, .bool false, .bool false, .bool false, .bool false, .bool false, .bool false, .bool false, .bool false, .bool false, .bool false, .bool false, .bool false, .bool false, .bool false, .bool false, .bool false, .bool false, .bool false, .bool false, .bool false, .bool false, .bool false, .bool false, .bool false, .bool false, .bool false, .bool false, .bool false, .bool false, .bool false, .bool false, .bool false, .bool false, .bool false, .bool false, .bool false, .bool false, .bool false, .bool false, .bool false, .bool false, .bool false, .bool false, .bool false, .bool false, .bool false, .bool false, .bool false, .bool false, .bool false, .bool false, .bool false, .bool false, .bool false, .bool false, .bool false, .bool false, .bool false, .bool false, .bool false, .bool false, .bool false, .bool false, .bool false, .bool false, .bool false, .bool false, .bool false, .bool false, .bool false, .bool false, .bool false, .bool false, .bool false, .bool false, .bool false, .bool false, .bool false, .bool false, .bool false, .bool false, .bool false, .bool false, .bool false, .bool false, .bool false, .bool false, .bool false, .bool false, .bool false, .bool false, .bool false, .bool false, .bool false, .bool false, .bool false, .bool false, .bool false, .bool false, .bool false, .bool false, .bool false, .bool false, .bool false, .bool false, .bool false, .bool false, .bool false, .bool false, .bool false, .bool false, .bool false, .bool false, .bool false, .bool false, .bool false, .bool false, .bool false, .bool false, .bool false, .bool false, .bool false, .bool false, .bool false, .bool false, .bool false, .bool false, .bool false, .bool false, .bool false, .bool false, .bool false, .bool false, .bool false, .bool false, .bool false, .bool false, .bool false, .bool false, .bool false, .bool false, .bool false, .bool false, .bool false, .bool false, .bool false, .bool false], 229⟩,
  none,
  Option.some ⟨.other, 1, 8, false, [.any], [.nilFunc], 231⟩,
  Option.some ⟨.other, 1, 8, false, [.any], [.nilFunc], 232⟩,
  Option.some ⟨.ptr 229, 1, 8, false, [.any], [.pointer none], 233⟩,
  Option.some ⟨.other, 1, 8, false, [.any], [.nilFunc], 234⟩,
  none,
  Option.some ⟨.other, 1, 8, false, [.any], [.nilFunc], 236⟩,
  Option.some ⟨.other, 1, 8, false, [.any], [.nilFunc], 237⟩,
  Option.some ⟨.arr 256 5, 256, 256, true, [(.int .u8), (.int .u8), (.int .u8), (.int .u8), (.int .u8), (.int .u8), (.int .u8), (.int .u8), (.int .u8), (.int .u8), (.int .u8), (.int .u8), (.int .u8), (.int .u8), (.int .u8), (.int .u8), (.int .u8), (.int .u8), (.int .u8), (.int .u8), (.int .u8), (.int .u8), (.int .u8), (.int .u8), (.int .u8), (.int .u8), (.int .u8), (.int .u8), (.int .u8), (.int .u8), (.int .u8), (.int .u8), (.int .u8), (.int .u8), (.int .u8), (.int .u8), (.int .u8), (.int .u8), (.int .u8), (.int .u8), (.int .u8), (.int .u8), (.int .u8), (.int .u8), (.int .u8), (.int .u8), (.int .u8), (.int .u8), (.int .u8), (.int .u8), (.int .u8), (.int .u8), (.int .u8), (.int .u8), (.int .u8), (.int .u8), (.int .u8), (.int .u8), (.int .u8), (.int .u8), (.int .u8), (.int .u8), (.int .u8), (.int .u8), (.int .u8), (.int .u8), (.int .u8), (.int .u8), (.int .u8), (.int .u8), (.int .u8), (.int .u8), (.int .u8), (.int .u8), (.int .u8), (.int .u8), (.int .u8), (.int .u8), (.int .u8), (.int .u8), (.int .u8), (.int .u8), (.int .u8), (.int .u8), (.int .u8), (.int .u8), (.int .u8), (.int .u8), (.int .u8), (.int .u8), (.int .u8), (.int .u8), (.int .u8), (.int .u8), (.int .u8), (.int .u8), (.int .u8), (.int .u8), (.int .u8), (.int .u8), (.int .u8), (.int .u8), (.int .u8), (.int .u8), (.int .u8), (.int .u8), (.int .u8), (.int .u8), (.int .u8), (.int .u8), (.int .u8), (.int .u8), (.int .u8), (.int .u8), (.int .u8), (.int .u8), (.int .u8), (.int .u8), (.int .u8), (.int .u8), (.int .u8), (.int .u8), (.int .u8), (.int .u8), (.int .u8), (.int .u8), (.int .u8), (.int .u8), (.int .u8), (.int .u8), (.int .u8), (.int .u8), (.int .u8), (.int .u8), (.int .u8), (.int .u8), (.int .u8), (.int .u8), (.int .u8), (.int .u8), (.int .u8), (.int .u8), (.int .u8), (.int .u8), (.int .u8), (.int .u8), (.int .u8), (.int .u8), (.int .u8), (.int .u8), (.int .u8), (.int .u8), (.int .u8), (.int .u8), (.int .u8), (.int .u8), (.int .u8), (.int .u8), (.int .u8), (.int .u8), (.int .u8), (.int .u8), (.int .u8), (.int .u8), (.int .u8), (.int .u8), (.int .u8), (.int .u8), (.int .u8), (.int .u8), (.int .u8), (.int .u8), (.int .u8), (.int .u8), (.int .u8), (.int .u8), (.int .u8), (.int .u8), (.int .u8), (.int .u8), (.int .u8), (.int .u8), (.int .u8), (.int .u8), (.int .u8), (.int .u8), (.int .u8), (.int .u8), (.int .u8), (.int .u8), (.int .u8), (.int .u8), (.int .u8), (.int .u8), (.int .u8), (.int .u8), (.int .u8), (.int .u8), (.int .u8), (.int .u8), (.int .u8), (.int .u8), (.int .u8), (.int .u8), (.int .u8), (.int .u8), (.int .u8), (.int .u8), (.int .u8), (.int .u8), (.int .u8), (.int .u8), (.int .u8), (.int .u8), (.int .u8), (.int .u8), (.int .u8), (.int .u8), (.int .u8), (.int .u8), (.int .u8), (.int .u8), (.int .u8), (.int .u8), (.int .u8), (.int .u8), (.int .u8), (.int .u8), (.int .u8), (.int .u8), (.int .u8), (.int .u8), (.int .u8), (.int .u8), (.int .u8), (.int .u8), (.int .u8), (.int .u8), (.int .u8), (.int .u8), (.int .u8), (.int .u8), (.int .u8), (.int .u8), (.int .u8), (.int .u8), (.int .u8), (.int .u8), (.int .u8), (.int .u8), (.int .u8), (.int .u8), (.int .u8), (.int .u8), (.int .u8), (.int .u8)], [.int .u8 0, .int .u8 0, .int .u8 0, .int .u8 0, .int .u8 0, .int .u8 0, .int .u8 0, .int .u8 0, .int .u8 0, .int .u8 0, .int .u8 0, .int .u8 0, .int .u8 0, .int .u8 0, .int .u8 0, .int .u8 0, .int .u8 0, .int .u8 0, .int .u8 0, .int .u8 0, .int .u8 0, .int .u8 0, .int .u8 0, .int .u8 0, .int .u8 0, .int .u8 0, .int .u8 0, .int .u8 0, .int .u8 0, .int .u8 0, .int .u8 0, .int .u8 0, .int .u8 0, .int .u8 0, .int .u8 0, .int .u8 0, .int .u8 0, .int .u8 0, .int .u8 0, .int .u8 0, .int .u8 0, .int .u8 0, .int .u8 0, .int .u8 0, .int .u8 0, .int .u8 0, .int .u8 0, .int .u8 0, .int .u8 0, .int .u8 0, .int .u8 0, .int .u8 0, .int .u8 0, .int .u8 0, .int .u8 0, .int .u8 0, .int .u8 0, .int .u8 0, .int .u8 0, .int .u8 0, .int .u8 0, .int .u8 0, .int .u8 0, .int .u8 0, .int .u8 0, .int .u8 0, .int .u8 0, .int .u8 0, .int .u8 0, .int .u8 0, .int .u8 0, .int .u8 0, .int .u8 0, .int .u8 0, .int .u8 0, .int .u8 0, .int .u8 0, .int .u8 0, .int .u8 0, .int .u8 0, .int .u8 0, .int .u8 0, .int .u8 0, .int .u8 0, .int .u8 0, .int .u8 0, .int .u8 0, .int .u8 0, .int .u8 0, .int .u8 0, .int .u8 0, .int .u8 0, .int .u8 0, .int .u8 0, .int .u8 0, .int .u8 0, .int .u8 0, .int .u8 0, .int .u8 0, .int .u8 0, .int .u8 0, .int .u8 0, .int .u8 0, .int .u8 0, .int .u8 0, .int .u8 0, .int .u8 0, .int .u8 0, .int .u8 0, .int .u8 0, .int .u8 0, .int .u8 0, .int .u8 0, .int .u8 0, .int .u8 0, .int .u8 0, .int .u8 0, .int .u8 0, .int .u8 0, .int .u8 0, .int .u8 0, .int .u8 0, .int .u8 0, .int .u8 0, .int .u8 0, .int .u8 0, .int .u8 0, .int .u8 0, .int .u8 0, .int .u8 0, .int .u8 0, .int .u8 0, .int .u8 0, .int .u8 0, .int .u8 0, .int .u8 0, .int .u8 0, .int .u8 0, .int .u8 0, .int .u8 0, .int .u8 0, .int .u8 0, .int .u8 0, .int .u8 0, .int .u8 0, .int .u8 0, .int .u8 0, .int .u8 0, .int .u8 0, .int .u8 0, .int .u8 0, .int .u8 0, .int .u8 0, .int .u8 0, .int .u8 0, .int .u8 0, .int .u8 0, .int .u8 0, .int .u8 0, .int .u8 0, .int .u8 0, .int .u8 0, .int .u8 0, .int .u8 0, .int .u8 0, .int .u8 0, .int .u8 0, .int .u8 0, .int .u8 0, .int .u8 0, .int .u8 0, .int .u8 0, .int .u8 0, .int .u8 0, .int .u8 0, .int .u8 0, .int .u8 0, .int .u8 0, .int .u8 0, .int .u8 0, .int .u8 0, .int .u8 0, .int .u8 0, .int .u8 0, .int .u8 0, .int .u8 0, .int .u8 0, .int .u8 0, .int .u8 0, .int .u8 0, .int .u8 0, .int .u8 0, .int .u8 0, .int .u8 0, .int .u8 0, .int .u8 0, .int .u8 0, .int .u8 0, .int .u8 0, .int .u8 0, .int .u8 0, .int .u8 0, .int .u8 0, .int .u8 0, .int .u8 0, .int .u8 0, .int .u8 0, .int .u8 0, .int .u8 0, .int .u8 0, .int .u8 0, .int .u8 0, .int .u8 0, .int .u8 0, .int .u8 0, .int .u8 0, .int .u8 0, .int .u8 0, .int .u8 0, .int .u8 0, .int .u8 0, .int .u8 0, .int .u8 0, .int .u8 0, .int .u8 0, .int .u8 0, .int .u8 0, .int .u8 0, .int .u8 0, .int .u8 0, .int .u8 0, .int .u8 0, .int .u8 0, .int .u8 0, .int .u8 0, .int .u8 0, .int .u8 0, .int .u8 0, .int .u8 0, .int .u8 0, .int .u8 0, .int .u8 0, .int .u8 0, .int .u8 0, .int .u8 0, .int .u8 0, .int .u8 0, .int .u8 0, .int .u8 0, .int .u8 0, .int .u8 0, .int .u8 0, .int .u8 0, .int .u8 0, .int .u8 0, .int .u8 0], 238⟩,
  Option.some ⟨.struct [(5, 0), (5, 1)], 2, 2, true, [(.int .u8), (.int .u8)], [.int .u8 0, .int .u8 0], 239⟩,
  Option.some ⟨.struct [(5, 0), (5, 1)], 2, 2, true, [(.int .u8), (.int .u8)], [.int .u8 0, .int .u8 0], 240⟩,
  Option.some ⟨.arr 16 240, 32, 32, true, [(.int .u8), (.int .u8), (.int .u8), (.int .u8), (.int .u8), (.int .u8), (.int .u8), (.int .u8), (.int .u8), (.int .u8), (.int .u8), (.int .u8), (.int .u8), (.int .u8), (.int .u8), (.int .u8), (.int .u8), (.int .u8), (.int .u8), (.int .u8), (.int .u8), (.int .u8), (.int .u8), (.int .u8), (.int .u8), (.int .u8), (.int .u8), (.int .u8), (.int .u8), (.int .u8), (.int .u8), (.int .u8)], [.int .u8 0, .int .u8 0, .int .u8 0, .int .u8 0, .int .u8 0, .int .u8 0, .int .u8 0, .int .u8 0, .int .u8 0, .int .u8 0, .int .u8 0, .int .u8 0, .int .u8 0, .int .u8 0, .int .u8 0, .int .u8 0, .int .u8 0, .int .u8 0, .int .u8 0, .int .u8 0, .int .u8 0, .int .u8 0, .int .u8 0, .int .u8 0, .int .u8 0, .int .u8 0, .int .u8 0, .int .u8 0, .int .u8 0, .int .u8 0, .int .u8 0, .int .u8 0], 241⟩,
  none,
  Option.some ⟨.other, 1, 8, false, [.any], [.nilFunc], 243⟩,
  Option.some ⟨.struct [(9, 0), (9, 1), (180, 2)], 3, 48, true, [.str, .str, .any], [.string ⟨#[]⟩, .string ⟨#[]⟩, .nilIface], 244⟩,
  Option.some ⟨.struct [(9, 0), (9, 1), (180, 2)], 3, 48, true, [.str, .str, .any], [.string ⟨#[]⟩, .string ⟨#[]⟩, .nilIface], 245⟩,
  Option.some ⟨.other, 1, 8, false, [.any], [.nilFunc], 246⟩,
  Option.some ⟨.other, 1, 8, false, [.any], [.nilFunc], 247⟩,
  Option.some ⟨.other, 1, 8, false, [.any], [.nilFunc], 248⟩,
  Option.some ⟨.arr 32 5, 32, 32, true, [(.int .u8), (.int .u8), (.int .u8), (.int .u8), (.int .u8), (.int .u8), (.int .u8), (.int .u8), (.int .u8), (.int .u8), (.int .u8), (.int .u8), (.int .u8), (.int .u8), (.int .u8), (.int .u8), (.int .u8), (.int .u8), (.int .u8), (.int .u8), (.int .u8), (.int .u8), (.int .u8), (.int .u8), (.int .u8), (.int .u8), (.int .u8), (.int .u8), (.int .u8), (.int .u8), (.int .u8), (.int .u8)], [.int .u8 0, .int .u8 0, .int .u8 0, .int .u8 0, .int .u8 0, .int .u8 0, .int .u8 0, .int .u8 0, .int .u8 0, .int .u8 0, .int .u8 0, .int .u8 0, .int .u8 0, .int .u8 0, .int .u8 0, .int .u8 0, .int .u8 0, .int .u8 0, .int .u8 0, .int .u8 0, .int .u8 0, .int .u8 0, .int .u8 0, .int .u8 0, .int .u8 0, .int .u8 0, .int .u8 0, .int .u8 0, .int .u8 0, .int .u8 0, .int .u8 0, .int .u8 0], 249⟩,
  Option.some ⟨.arr 64 5, 64, 64, true, [(.int .u8), (.int .u8), (.int .u8), (.int .u8), (.int .u8), (.int .u8), (.int .u8), (.int .u8), (.int .u8), (.int .u8), (.int .u8), (.int .u8), (.int .u8), (.int .u8), (.int .u8), (.int .u8), (.int .u8), (.int .u8), (.int .u8), (.int .u8), (.int .u8), (.int .u8), (.int .u8), (.int .u8), (.int .u8), (.int .u8), (.int .u8), (.int .u8), (.int .u8), (.int .u8), (.int .u8), (.int .u8), (.int .u8), (.int .u8), (.int .u8), (.int .u8), (.int .u8), (.int .u8), (.int .u8), (.int .u8), (.int .u8), (.int .u8), (.int .u8), (.int .u8), (.int .u8), (.int .u8), (.int .u8), (.int .u8), (.int .u8), (.int .u8), (.int .u8), (.int .u8), (.int .u8), (.int .u8), (.int .u8), (.int .u8), (.int .u8), (.int .u8), (.int .u8), (.int .u8), (.int .u8), (.int .u8), (.int .u8), (.int .u8)], [.int .u8 0, .int .u8 0, .int .u8 0, .int .u8 0, .int .u8 0, .int .u8 0, .int .u8 0, .int .u8 0, .int .u8 0, .int .u8 0, .int .u8 0, .int .u8 0, .int .u8 0, .int .u8 0, .int .u8 0, .int .u8 0, .int .u8 0, .int .u8 0, .int .u8 0, .int .u8 0, .int .u8 0, .int .u8 0, .int .u8 0, .int .u8 0, .int .u8 0, .int .u8 0, .int .u8 0, .int .u8 0, .int .u8 0, .int .u8 0, .int .u8 0, .int .u8 0, .int .u8 0, .int .u8 0, .int .u8 0, .int .u8 0, .int .u8 0, .int .u8 0, .int .u8 0, .int .u8 0, .int .u8 0, .int .u8 0, .int .u8 0, .int .u8 0, .int .u8 0, .int .u8 0, .int .u8 0, .int .u8 0, .int .u8 0, .int .u8 0, .int .u8 0, .int .u8 0, .int .u8 0, .int .u8 0, .int .u8 0, .int .u8 0, .int .u8 0, .int .u8 0, .int .u8 0, .int .u8 0, .int .u8 0, .int .u8 0, .int .u8 0, .int .u8 0], 250⟩,
  Option.some ⟨.other, 1, 8, false, [.any], [.nilFunc], 251⟩,
  Option.some ⟨.ptr 254, 1, 8, false, [.any], [.pointer none], 252⟩,
  Option.some ⟨.struct [(9, 0)], 1, 16, true, [.str], [.string ⟨#[]⟩], 253⟩,
  Option.some ⟨.struct [(9, 0)], 1, 16, true, [.str], [.string ⟨#[]⟩], 254⟩,
  Option.some ⟨.other, 1, 8, false, [.any], [.nilFunc], 255⟩,
  Option.some ⟨.other, 1, 8, false, [.any], [.nilFunc], 256⟩,
  none,
  none,
  Option.some ⟨.arr 0 16, 0, 0, true, [], [], 259⟩,
  none,
  none,
  Option.some ⟨.other, 1, 8, false, [.any], [.nilFunc], 262⟩,
  none,
  none,
  Option.some ⟨.other, 1, 8, false, [.any], [.nilFunc], 265⟩,
  none,
  none,
  none,
  none]
noncomputable def params (f : FuncId) : List TypeId := match f with | 0 => [] | 1 => [] | 2 => [] | 3 => [9] | 4 => [36] | 5 => [23] | 6 => [50] | 7 => [50, 23] | 8 => [9, 63] | 9 => [63, 63, 9] | 10 => [36, 74, 23] | 11 => [36, 74] | 12 => [] | 13 => [9] | 14 => [9] | 15 => [23, 23] | 16 => [36] | 17 => [36] | 18 => [36] | 19 => [36] | 20 => [23] | 21 => [23] | 22 => [23] | 23 => [23] | 24 => [50, 50] | 25 => [50] | 26 => [50] | 27 => [50] | 28 => [50] | 29 => [50] | 30 => [9] | 31 => [9] | 32 => [63] | 33 => [63] | 34 => [63] | 35 => [74] | 36 => [36, 74] | 37 => [74] | 38 => [48] | 39 => [36, 74] | 40 => [36, 74] | 41 => [46, 46] | 42 => [36, 74] | 43 => [] | 44 => [144] | 45 => [4, 24] | 46 => [9] | 47 => [9] | 48 => [3, 3, 3] | 49 => [9] | 50 => [33] | 51 => [9] | 52 => [36] | 53 => [36] | 54 => [36] | 55 => [36] | 56 => [33, 23] | 57 => [36] | 58 => [36] | 59 => [9] | 60 => [23, 9] | 61 => [36, 9] | 62 => [36] | 63 => [36, 100] | 64 => [113, 23] | 65 => [113, 23] | 66 => [50] | 67 => [118, 23, 3] | 68 => [50] | 69 => [48, 48] | 70 => [36, 36] | 71 => [48] | 72 => [50] | 73 => [9, 9, 9, 4] | 74 => [63] | 75 => [33] | 76 => [3] | 77 => [100] | 78 => [23, 30] | 79 => [9] | 80 => [48] | 81 => [3] | 82 => [100] | 83 => [9] | 84 => [63] | 85 => [] | 86 => [9] | 87 => [3] | 88 => [4] | 89 => [36, 74] | 90 => [48] | 91 => [48] | 92 => [74, 9] | 93 => [36, 74, 3, 9] | 94 => [63, 102] | 95 => [46] | 96 => [9, 5] | 97 => [9] | 98 => [9, 9] | 99 => [9, 23] | 100 => [3, 3, 3] | 101 => [149, 4] | 102 => [23, 9] | 103 => [104, 23] | 104 => [5] | 105 => [5] | 106 => [9, 9] | 107 => [113, 23] | 108 => [113, 23] | 109 => [113, 23] | 110 => [113, 23] | 111 => [113, 23] | 112 => [113, 23] | 113 => [23] | 114 => [36] | 115 => [48] | 116 => [9] | 117 => [9] | 118 => [118, 23] | 119 => [118, 23] | 120 => [33, 33] | 121 => [3] | 122 => [9, 9, 9] | 123 => [23, 30] | 124 => [] | 125 => [9] | 126 => [9] | 127 => [3, 3, 3] | 128 => [144] | 129 => [4, 24] | 130 => [9] | 131 => [74] | 132 => [74, 122] | 133 => [48] | 134 => [48, 9] | 135 => [97, 74] | 136 => [102, 63] | 137 => [44] | 138 => [46] | 139 => [48] | 140 => [46, 9] | 141 => [63, 102] | 142 => [63] | 143 => [9, 5] | 144 => [149, 4] | 145 => [23, 9] | 146 => [9, 9] | 147 => [9] | 148 => [9] | 149 => [9] | 150 => [9] | 151 => [2, 3] | 152 => [9, 9, 9, 3] | 153 => [9] | 154 => [74, 122] | 155 => [48] | 156 => [44, 185] | 157 => [125] | 158 => [63, 102] | 159 => [63] | 160 => [46] | 161 => [63] | 162 => [9, 5] | 163 => [9, 9] | 164 => [3] | 165 => [9, 9] | 166 => [9] | 167 => [9] | 168 => [3] | 169 => [195] | 170 => [145, 195] | 171 => [145, 195, 3, 4, 4] | 172 => [9, 9] | 173 => [200, 3] | 174 => [200, 9] | 175 => [9] | 176 => [200] | 177 => [9] | 178 => [9, 9, 3, 3, 180] | 179 => [3] | 180 => [63] | 181 => [3] | 182 => [9] | 183 => [9] | 184 => [9, 9] | 185 => [9, 9] | 186 => [3] | 187 => [195] | 188 => [4] | 189 => [3] | 190 => [189] | 191 => [9] | 192 => [9, 5] | 193 => [200] | 194 => [200, 3] | 195 => [9] | 196 => [9, 3, 3] | 197 => [9, 9] | 198 => [9, 9] | 199 => [9, 9, 3] | 200 => [9, 9, 3] | 201 => [9, 3] | 202 => [9, 9] | 203 => [9, 5] | 204 => [9] | 205 => [9, 233] | 206 => [9, 9] | 207 => [208] | 208 => [195] | 210 => [3] | 211 => [9, 3, 3] | 212 => [9] | 213 => [9] | 214 => [9, 3] | 215 => [233, 5] | 216 => [9, 21] | 217 => [5] | 218 => [9] | 219 => [9, 21] | 220 => [21] | 221 => [8] | 222 => [8] | 223 => [10] | 224 => [10] | 225 => [11] | 226 => [11] | 227 => [14] | 228 => [14] | 229 => [15] | 230 => [15] | 231 => [16] | 232 => [16] | 233 => [17] | 234 => [19] | 235 => [19] | 236 => [200] | 237 => [220] | 238 => [223] | 239 => [252] | 240 => [264] | 241 => [] | 242 => [] | 243 => [] | 244 => [] | 245 => [] | 246 => [] | 247 => [] | 248 => [] | 249 => [] | 250 => [] | 251 => [] | 252 => [] | _ => []
noncomputable def G : Cfg := ⟨fun t => (tabL[t]?).join, fun _ => none, params, 0⟩
theorem mixed : Tryz.prog.follows .mixedOrders = true := by kernel_rfl
/-- The variables that hold errors, and those that hold tables, when a law is entered. -/
instance rooted : Rooted Tryz.prog := stents Tryz.prog ["strconv.ErrSyntax", "strconv.ErrRange"] [("internal/strconv.uint64pow10", .u64, Lib.pow10Tab)]
theorem tabL_len : tabL.length = 270 := by kernel_rfl
theorem tabG : G.tab = fun t => (tabL[t]?).join := rfl
theorem cfg : CfgOk Tryz.prog G := by
  refine cfgOk_of (n := 270) (fun t ht => ?_) (by kernel_rfl)
  have h : tabL[t]? = none := List.getElem?_eq_none (by rw [tabL_len]; exact ht)
  rw [tabG]
  simp only [h]
  rfl
end Go.Proofs.YtmpglmcjoelciaaGreatDoor.Ev

/-
  DERIVED: THE SHELF's CONTRACTS AT THIS DUMP, IN PLAIN WORDS (tools/lay-plain.mjs out of 'YtmpglmcjoelciaaGreatDoorS.lean', which tools/lay-shelf.mjs wrote): THE SAME DECLARATIONS UNDER THE SAME NAMES: 'import', 'namespace', 'open', 'def', 'theorem' AND NOTHING ELSE: no command of the shelf's: FOR A HAND-IN. Each laying: the table of numbers ('.._ren') and one theorem, a field a fact of the dump's own or the kernel's comparison; each contract: ONE APPLICATION.
-/
namespace Go.Proofs
open Go.Shelf
def Tryz.lays137_ren : Go.Shelf.Ren := ⟨fun | 137 => 96 | 217 => 143 | 266 => 162 | n => n, fun | 9 => 9 | 5 => 5 | 3 => 3 | n => n, fun | n => n⟩
theorem Tryz.lays137 : Go.Proofs.Lays.n137 Tryz.prog Tryz.lays137_ren := {
  mixed := by kernel_rfl
  f137 := Tryz.func96.trans (congrArg some (by kernel_rfl))
  f217 := Tryz.func143.trans (congrArg some (by kernel_rfl))
  f266 := Tryz.func162.trans (congrArg some (by kernel_rfl))
  t3 := Tryz.underlying3
  a3 := Tryz.isAgg3
  z3 := Tryz.sizeOf3
  v3 := Tryz.zeroValue3
  t5 := Tryz.underlying5
  a5 := Tryz.isAgg5
  z5 := Tryz.sizeOf5
  v5 := Tryz.zeroValue5
  t9 := Tryz.underlying9
  a9 := Tryz.isAgg9
  z9 := Tryz.sizeOf9
  v9 := Tryz.zeroValue9 }
open Go.RowKit in
theorem Tryz.strings_IndexByte (s : ByteArray) (c : Int) (w : World) :
    Calls Tryz.prog 96 #[.string s, .int .u8 c] w fun e w' => e = .returned (.int .i64 (Lib.indexByte s.data.toList c.toNat.toUInt8)) ∧ w' = w := Any.strings_IndexByte Tryz.lays137 s c w
def Tryz.laysM171_ren : Go.Shelf.Ren := ⟨fun | 171 => 76 | 243 => 121 | 246 => 151 | 283 => 168 | 284 => 169 | 285 => 170 | 286 => 171 | 129 => 187 | 317 => 186 | 318 => 188 | 319 => 189 | 320 => 190 | 337 => 207 | 338 => 208 | n => n, fun | 3 => 3 | 9 => 9 | 2 => 2 | 4 => 4 | 171 => 194 | 0 => 0 | 53 => 195 | 37 => 145 | 5 => 5 | 173 => 198 | 212 => 216 | 51 => 208 | 20 => 20 | 213 => 217 | 46 => 189 | 232 => 249 | 233 => 250 | n => n, fun | 17 => 2 | 18 => 7 | 19 => 8 | n => n⟩
theorem Tryz.laysM171 : Go.Proofs.LaysM.n171 Tryz.prog Tryz.laysM171_ren := {
  mixed := by kernel_rfl
  f129 := Tryz.func187.trans (congrArg some (by kernel_rfl))
  f171 := Tryz.func76.trans (congrArg some (by kernel_rfl))
  f243 := Tryz.func121.trans (congrArg some (by kernel_rfl))
  f246 := Tryz.func151.trans (congrArg some (by kernel_rfl))
  f283 := Tryz.func168.trans (congrArg some (by kernel_rfl))
  f284 := Tryz.func169.trans (congrArg some (by kernel_rfl))
  f285 := Tryz.func170.trans (congrArg some (by kernel_rfl))
  f286 := Tryz.func171.trans (congrArg some (by kernel_rfl))
  f317 := Tryz.func186.trans (congrArg some (by kernel_rfl))
  f318 := Tryz.func188.trans (congrArg some (by kernel_rfl))
  f319 := Tryz.func189.trans (congrArg some (by kernel_rfl))
  f320 := Tryz.func190.trans (congrArg some (by kernel_rfl))
  f337 := Tryz.func207.trans (congrArg some (by kernel_rfl))
  f338 := Tryz.func208.trans (congrArg some (by kernel_rfl))
  t0 := Tryz.underlying0
  a0 := Tryz.isAgg0
  z0 := Tryz.sizeOf0
  v0 := Tryz.zeroValue0
  t2 := Tryz.underlying2
  a2 := Tryz.isAgg2
  z2 := Tryz.sizeOf2
  v2 := Tryz.zeroValue2
  t3 := Tryz.underlying3
  a3 := Tryz.isAgg3
  z3 := Tryz.sizeOf3
  v3 := Tryz.zeroValue3
  t4 := Tryz.underlying4
  a4 := Tryz.isAgg4
  z4 := Tryz.sizeOf4
  v4 := Tryz.zeroValue4
  t5 := Tryz.underlying5
  a5 := Tryz.isAgg5
  z5 := Tryz.sizeOf5
  v5 := Tryz.zeroValue5
  t9 := Tryz.underlying9
  a9 := Tryz.isAgg9
  z9 := Tryz.sizeOf9
  v9 := Tryz.zeroValue9
  t20 := Tryz.underlying20
  a20 := Tryz.isAgg20
  z20 := Tryz.sizeOf20
  v20 := Tryz.zeroValue20
  t37 := Tryz.underlying145
  a37 := Tryz.isAgg145
  z37 := Tryz.sizeOf145
  v37 := Tryz.zeroValue145
  t46 := Tryz.underlying189
  a46 := Tryz.isAgg189
  z46 := Tryz.sizeOf189
  v46 := Tryz.zeroValue189
  t51 := Tryz.underlying208
  a51 := Tryz.isAgg208
  z51 := Tryz.sizeOf208
  v51 := Tryz.zeroValue208
  t53 := Tryz.underlying195
  a53 := Tryz.isAgg195
  z53 := Tryz.sizeOf195
  v53 := Tryz.zeroValue195
  t171 := Tryz.underlying194
  a171 := Tryz.isAgg194
  z171 := Tryz.sizeOf194
  v171 := Tryz.zeroValue194
  t173 := Tryz.underlying198
  a173 := Tryz.isAgg198
  z173 := Tryz.sizeOf198
  v173 := Tryz.zeroValue198
  t212 := Tryz.underlying216
  a212 := Tryz.isAgg216
  z212 := Tryz.sizeOf216
  v212 := Tryz.zeroValue216
  t213 := Tryz.underlying217
  a213 := Tryz.isAgg217
  z213 := Tryz.sizeOf217
  t232 := Tryz.underlying249
  a232 := Tryz.isAgg249
  z232 := Tryz.sizeOf249
  v232 := Tryz.zeroValue249
  t233 := Tryz.underlying250
  a233 := Tryz.isAgg250
  z233 := Tryz.sizeOf250
  v233 := Tryz.zeroValue250
  g17 := by kernel_rfl
  g18 := by kernel_rfl
  g19 := by kernel_rfl
  i0 := by kernel_rfl
  i2 := by kernel_rfl
  i3 := by kernel_rfl
  i4 := by kernel_rfl
  i5 := by kernel_rfl
  i9 := by kernel_rfl
  i20 := by kernel_rfl
  i37 := by kernel_rfl
  i46 := by kernel_rfl
  i51 := by kernel_rfl
  i53 := by kernel_rfl
  i171 := by kernel_rfl
  i173 := by kernel_rfl
  i212 := by kernel_rfl
  i232 := by kernel_rfl
  i233 := by kernel_rfl
  m17 := by kernel_rfl
  m18 := by kernel_rfl
  m19 := by kernel_rfl }
open Go.RowKit Go.Sort Go.Lib in
theorem Tryz.strconv_Itoa (n : Int) (h0 : -9223372036854775808 ≤ n) (h1 : n ≤ 9223372036854775807) (w : World) (htab : Lib.TabIs Tryz.prog w "internal/strconv.uint64pow10" .u64 Lib.pow10Tab) :
    Calls Tryz.prog 76 #[.int .i64 n] w fun e w' => e = .returned (.string ⟨(Lib.itoa n).toArray⟩) ∧ ∃ k os, w' = grow (w.drewN k) os := Any.strconv_Itoa Tryz.laysM171 n h0 h1 w htab
def Tryz.laysM145_ren : Go.Shelf.Ren := ⟨fun | 145 => 184 | 220 => 202 | 219 => 146 | 217 => 143 | 225 => 163 | 224 => 164 | 267 => 165 | 266 => 162 | 314 => 182 | n => n, fun | 9 => 9 | 4 => 4 | 59 => 213 | 3 => 3 | 5 => 5 | 46 => 189 | 146 => 209 | 51 => 208 | n => n, fun | 1 => 1 | n => n⟩
theorem Tryz.laysM145 : Go.Proofs.LaysM.n145 Tryz.prog Tryz.laysM145_ren := {
  mixed := by kernel_rfl
  f145 := Tryz.func184.trans (congrArg some (by kernel_rfl))
  f217 := Tryz.func143.trans (congrArg some (by kernel_rfl))
  f219 := Tryz.func146.trans (congrArg some (by kernel_rfl))
  f220 := Tryz.func202.trans (congrArg some (by kernel_rfl))
  f224 := Tryz.func164.trans (congrArg some (by kernel_rfl))
  f225 := Tryz.func163.trans (congrArg some (by kernel_rfl))
  f266 := Tryz.func162.trans (congrArg some (by kernel_rfl))
  f267 := Tryz.func165.trans (congrArg some (by kernel_rfl))
  f314 := Tryz.func182.trans (congrArg some (by kernel_rfl))
  t3 := Tryz.underlying3
  a3 := Tryz.isAgg3
  z3 := Tryz.sizeOf3
  v3 := Tryz.zeroValue3
  t4 := Tryz.underlying4
  a4 := Tryz.isAgg4
  z4 := Tryz.sizeOf4
  v4 := Tryz.zeroValue4
  t5 := Tryz.underlying5
  a5 := Tryz.isAgg5
  z5 := Tryz.sizeOf5
  v5 := Tryz.zeroValue5
  t9 := Tryz.underlying9
  a9 := Tryz.isAgg9
  z9 := Tryz.sizeOf9
  v9 := Tryz.zeroValue9
  t46 := Tryz.underlying189
  a46 := Tryz.isAgg189
  z46 := Tryz.sizeOf189
  v46 := Tryz.zeroValue189
  t51 := Tryz.underlying208
  a51 := Tryz.isAgg208
  z51 := Tryz.sizeOf208
  v51 := Tryz.zeroValue208
  t59 := Tryz.underlying213
  a59 := Tryz.isAgg213
  z59 := Tryz.sizeOf213
  v59 := Tryz.zeroValue213
  t146 := Tryz.underlying209
  a146 := Tryz.isAgg209
  z146 := Tryz.sizeOf209
  v146 := Tryz.zeroValue209
  g1 := by kernel_rfl
  i3 := by kernel_rfl
  i4 := by kernel_rfl
  i5 := by kernel_rfl
  i9 := by kernel_rfl
  i46 := by kernel_rfl
  i51 := by kernel_rfl
  i59 := by kernel_rfl
  i146 := by kernel_rfl
  m1 := by kernel_rfl
  s1_3 := fun w h => Go.Proofs.cell_of_shapedOpen_int (zero := #[.int .i64 0]) (t := 3) h (of_decide_eq_true (by kernel_rfl)) (by kernel_rfl) rfl (by kernel_rfl) (by kernel_rfl) Tryz.underlying3 }
open Go.RowKit Go.Lib in
theorem Tryz.strings_Cut_shaped (s sep : ByteArray) (w : World) (h : w.ShapedOpen Tryz.prog) (hs : s.size < 4294967281) :
    Calls Tryz.prog 184 #[.string s, .string sep] w fun e w' => e = .returned (.tuple #[.string ⟨(Lib.cut s.data.toList sep.data.toList).1.toArray⟩, .string ⟨(Lib.cut s.data.toList sep.data.toList).2.1.toArray⟩, .bool (Lib.cut s.data.toList sep.data.toList).2.2]) ∧ ∃ n, w' = w.drewN n := Any.strings_Cut_shaped Tryz.laysM145 s sep w h hs
def Tryz.laysM143_ren : Go.Shelf.Ren := ⟨fun | 143 => 106 | 219 => 146 | 217 => 143 | 225 => 163 | 224 => 164 | 267 => 165 | 266 => 162 | 314 => 182 | n => n, fun | 9 => 9 | 3 => 3 | 4 => 4 | 5 => 5 | 46 => 189 | 146 => 209 | 51 => 208 | n => n, fun | 1 => 1 | n => n⟩
theorem Tryz.laysM143 : Go.Proofs.LaysM.n143 Tryz.prog Tryz.laysM143_ren := {
  mixed := by kernel_rfl
  f143 := Tryz.func106.trans (congrArg some (by kernel_rfl))
  f217 := Tryz.func143.trans (congrArg some (by kernel_rfl))
  f219 := Tryz.func146.trans (congrArg some (by kernel_rfl))
  f224 := Tryz.func164.trans (congrArg some (by kernel_rfl))
  f225 := Tryz.func163.trans (congrArg some (by kernel_rfl))
  f266 := Tryz.func162.trans (congrArg some (by kernel_rfl))
  f267 := Tryz.func165.trans (congrArg some (by kernel_rfl))
  f314 := Tryz.func182.trans (congrArg some (by kernel_rfl))
  t3 := Tryz.underlying3
  a3 := Tryz.isAgg3
  z3 := Tryz.sizeOf3
  v3 := Tryz.zeroValue3
  t4 := Tryz.underlying4
  a4 := Tryz.isAgg4
  z4 := Tryz.sizeOf4
  v4 := Tryz.zeroValue4
  t5 := Tryz.underlying5
  a5 := Tryz.isAgg5
  z5 := Tryz.sizeOf5
  v5 := Tryz.zeroValue5
  t9 := Tryz.underlying9
  a9 := Tryz.isAgg9
  z9 := Tryz.sizeOf9
  v9 := Tryz.zeroValue9
  t46 := Tryz.underlying189
  a46 := Tryz.isAgg189
  z46 := Tryz.sizeOf189
  v46 := Tryz.zeroValue189
  t51 := Tryz.underlying208
  a51 := Tryz.isAgg208
  z51 := Tryz.sizeOf208
  v51 := Tryz.zeroValue208
  t146 := Tryz.underlying209
  a146 := Tryz.isAgg209
  z146 := Tryz.sizeOf209
  v146 := Tryz.zeroValue209
  g1 := by kernel_rfl
  i3 := by kernel_rfl
  i4 := by kernel_rfl
  i5 := by kernel_rfl
  i9 := by kernel_rfl
  i46 := by kernel_rfl
  i51 := by kernel_rfl
  i146 := by kernel_rfl
  m1 := by kernel_rfl
  s1_3 := fun w h => Go.Proofs.cell_of_shapedOpen_int (zero := #[.int .i64 0]) (t := 3) h (of_decide_eq_true (by kernel_rfl)) (by kernel_rfl) rfl (by kernel_rfl) (by kernel_rfl) Tryz.underlying3 }
open Go.RowKit Go.Lib in
theorem Tryz.strings_Index_shaped (s sub : ByteArray) (w : World) (h : w.ShapedOpen Tryz.prog) (hs : s.size < 4294967281) :
    Calls Tryz.prog 106 #[.string s, .string sub] w fun e w' => e = .returned (.int .i64 (Lib.index s.data.toList sub.data.toList)) ∧ w' = w := Any.strings_Index_shaped Tryz.laysM143 s sub w h hs
def Tryz.laysC172_ren : Go.Shelf.Ren := ⟨fun | 172 => 153 | 244 => 177 | 245 => 178 | 247 => 196 | 279 => 197 | 280 => 198 | 281 => 199 | 282 => 200 | 287 => 211 | 316 => 212 | 171 => 76 | 205 => 213 | 321 => 217 | 322 => 218 | 243 => 121 | 246 => 151 | 283 => 168 | 284 => 169 | 285 => 170 | 286 => 171 | 129 => 187 | 317 => 186 | 318 => 188 | 319 => 189 | 320 => 190 | 337 => 207 | 338 => 208 | n => n, fun | 9 => 9 | 3 => 3 | 75 => 180 | 76 => 181 | 4 => 4 | 5 => 5 | 167 => 220 | 37 => 145 | 0 => 0 | 85 => 221 | 2 => 2 | 168 => 223 | 53 => 195 | 175 => 242 | 46 => 189 | 210 => 245 | 127 => 219 | 145 => 254 | 143 => 252 | 21 => 21 | 171 => 194 | 173 => 198 | 212 => 216 | 51 => 208 | 20 => 20 | 213 => 217 | 232 => 249 | 233 => 250 | 80 => 206 | n => n, fun | 15 => 5 | 16 => 6 | 17 => 2 | 18 => 7 | 19 => 8 | n => n⟩
theorem Tryz.laysC172 : Go.Proofs.LaysC.n172 Tryz.prog Tryz.laysC172_ren := {
  mixed := by kernel_rfl
  f129 := Tryz.func187.trans (congrArg some (by kernel_rfl))
  f171 := Tryz.func76.trans (congrArg some (by kernel_rfl))
  f172 := Tryz.func153.trans (congrArg some (by kernel_rfl))
  f205 := Tryz.func213.trans (congrArg some (by kernel_rfl))
  f243 := Tryz.func121.trans (congrArg some (by kernel_rfl))
  f244 := Tryz.func177.trans (congrArg some (by kernel_rfl))
  f245 := Tryz.func178.trans (congrArg some (by kernel_rfl))
  f246 := Tryz.func151.trans (congrArg some (by kernel_rfl))
  f247 := Tryz.func196.trans (congrArg some (by kernel_rfl))
  f279 := Tryz.func197.trans (congrArg some (by kernel_rfl))
  f280 := Tryz.func198.trans (congrArg some (by kernel_rfl))
  f281 := Tryz.func199.trans (congrArg some (by kernel_rfl))
  f282 := Tryz.func200.trans (congrArg some (by kernel_rfl))
  f283 := Tryz.func168.trans (congrArg some (by kernel_rfl))
  f284 := Tryz.func169.trans (congrArg some (by kernel_rfl))
  f285 := Tryz.func170.trans (congrArg some (by kernel_rfl))
  f286 := Tryz.func171.trans (congrArg some (by kernel_rfl))
  f287 := Tryz.func211.trans (congrArg some (by kernel_rfl))
  f316 := Tryz.func212.trans (congrArg some (by kernel_rfl))
  f317 := Tryz.func186.trans (congrArg some (by kernel_rfl))
  f318 := Tryz.func188.trans (congrArg some (by kernel_rfl))
  f319 := Tryz.func189.trans (congrArg some (by kernel_rfl))
  f320 := Tryz.func190.trans (congrArg some (by kernel_rfl))
  f321 := Tryz.func217.trans (congrArg some (by kernel_rfl))
  f322 := Tryz.func218.trans (congrArg some (by kernel_rfl))
  f337 := Tryz.func207.trans (congrArg some (by kernel_rfl))
  f338 := Tryz.func208.trans (congrArg some (by kernel_rfl))
  t0 := Tryz.underlying0
  a0 := Tryz.isAgg0
  z0 := Tryz.sizeOf0
  v0 := Tryz.zeroValue0
  t2 := Tryz.underlying2
  a2 := Tryz.isAgg2
  z2 := Tryz.sizeOf2
  v2 := Tryz.zeroValue2
  t3 := Tryz.underlying3
  a3 := Tryz.isAgg3
  z3 := Tryz.sizeOf3
  v3 := Tryz.zeroValue3
  t4 := Tryz.underlying4
  a4 := Tryz.isAgg4
  z4 := Tryz.sizeOf4
  v4 := Tryz.zeroValue4
  t5 := Tryz.underlying5
  a5 := Tryz.isAgg5
  z5 := Tryz.sizeOf5
  v5 := Tryz.zeroValue5
  t9 := Tryz.underlying9
  a9 := Tryz.isAgg9
  z9 := Tryz.sizeOf9
  v9 := Tryz.zeroValue9
  t20 := Tryz.underlying20
  a20 := Tryz.isAgg20
  z20 := Tryz.sizeOf20
  v20 := Tryz.zeroValue20
  t21 := Tryz.underlying21
  a21 := Tryz.isAgg21
  z21 := Tryz.sizeOf21
  v21 := Tryz.zeroValue21
  t37 := Tryz.underlying145
  a37 := Tryz.isAgg145
  z37 := Tryz.sizeOf145
  v37 := Tryz.zeroValue145
  t46 := Tryz.underlying189
  a46 := Tryz.isAgg189
  z46 := Tryz.sizeOf189
  v46 := Tryz.zeroValue189
  t51 := Tryz.underlying208
  a51 := Tryz.isAgg208
  z51 := Tryz.sizeOf208
  v51 := Tryz.zeroValue208
  t53 := Tryz.underlying195
  a53 := Tryz.isAgg195
  z53 := Tryz.sizeOf195
  v53 := Tryz.zeroValue195
  t75 := Tryz.underlying180
  a75 := Tryz.isAgg180
  z75 := Tryz.sizeOf180
  v75 := Tryz.zeroValue180
  t76 := Tryz.underlying181
  a76 := Tryz.isAgg181
  z76 := Tryz.sizeOf181
  v76 := Tryz.zeroValue181
  t85 := Tryz.underlying221
  a85 := Tryz.isAgg221
  z85 := Tryz.sizeOf221
  v85 := Tryz.zeroValue221
  t127 := Tryz.underlying219
  a127 := Tryz.isAgg219
  z127 := Tryz.sizeOf219
  v127 := Tryz.zeroValue219
  t143 := Tryz.underlying252
  a143 := Tryz.isAgg252
  z143 := Tryz.sizeOf252
  v143 := Tryz.zeroValue252
  t145 := Tryz.underlying254
  a145 := Tryz.isAgg254
  z145 := Tryz.sizeOf254
  v145 := Tryz.zeroValue254
  t167 := Tryz.underlying220
  a167 := Tryz.isAgg220
  z167 := Tryz.sizeOf220
  v167 := Tryz.zeroValue220
  t168 := Tryz.underlying223
  a168 := Tryz.isAgg223
  z168 := Tryz.sizeOf223
  v168 := Tryz.zeroValue223
  t171 := Tryz.underlying194
  a171 := Tryz.isAgg194
  z171 := Tryz.sizeOf194
  v171 := Tryz.zeroValue194
  t173 := Tryz.underlying198
  a173 := Tryz.isAgg198
  z173 := Tryz.sizeOf198
  v173 := Tryz.zeroValue198
  t175 := Tryz.underlying242
  a175 := Tryz.isAgg242
  z175 := Tryz.sizeOf242
  v175 := Tryz.zeroValue242
  t210 := Tryz.underlying245
  a210 := Tryz.isAgg245
  z210 := Tryz.sizeOf245
  v210 := Tryz.zeroValue245
  t212 := Tryz.underlying216
  a212 := Tryz.isAgg216
  z212 := Tryz.sizeOf216
  v212 := Tryz.zeroValue216
  t213 := Tryz.underlying217
  a213 := Tryz.isAgg217
  z213 := Tryz.sizeOf217
  t232 := Tryz.underlying249
  a232 := Tryz.isAgg249
  z232 := Tryz.sizeOf249
  v232 := Tryz.zeroValue249
  t233 := Tryz.underlying250
  a233 := Tryz.isAgg250
  z233 := Tryz.sizeOf250
  v233 := Tryz.zeroValue250
  g15 := by kernel_rfl
  g16 := by kernel_rfl
  g17 := by kernel_rfl
  g18 := by kernel_rfl
  g19 := by kernel_rfl
  t80 := Tryz.underlying206
  a80 := Tryz.isAgg206
  z80 := Tryz.sizeOf206
  v80 := Tryz.zeroValue206
  i0 := by kernel_rfl
  i2 := by kernel_rfl
  i3 := by kernel_rfl
  i4 := by kernel_rfl
  i5 := by kernel_rfl
  i9 := by kernel_rfl
  i20 := by kernel_rfl
  i21 := by kernel_rfl
  i37 := by kernel_rfl
  i46 := by kernel_rfl
  i51 := by kernel_rfl
  i53 := by kernel_rfl
  i75 := by kernel_rfl
  i76 := by kernel_rfl
  i80 := by kernel_rfl
  i85 := by kernel_rfl
  i127 := by kernel_rfl
  i143 := by kernel_rfl
  i145 := by kernel_rfl
  i167 := by kernel_rfl
  i168 := by kernel_rfl
  i171 := by kernel_rfl
  i173 := by kernel_rfl
  i175 := by kernel_rfl
  i210 := by kernel_rfl
  i212 := by kernel_rfl
  i232 := by kernel_rfl
  i233 := by kernel_rfl
  m15 := by kernel_rfl
  m16 := by kernel_rfl
  m17 := by kernel_rfl
  m18 := by kernel_rfl
  m19 := by kernel_rfl
  c0 := by kernel_rfl
  c2 := by kernel_rfl
  c3 := by kernel_rfl
  c4 := by kernel_rfl
  c5 := by kernel_rfl
  c9 := by kernel_rfl
  c20 := by kernel_rfl
  c21 := by kernel_rfl
  c37 := by kernel_rfl
  c46 := by kernel_rfl
  c51 := by kernel_rfl
  c53 := by kernel_rfl
  c75 := by kernel_rfl
  c76 := by kernel_rfl
  c80 := by kernel_rfl
  c85 := by kernel_rfl
  c127 := by kernel_rfl
  c143 := by kernel_rfl
  c145 := by kernel_rfl
  c167 := by kernel_rfl
  c168 := by kernel_rfl
  c171 := by kernel_rfl
  c173 := by kernel_rfl
  c175 := by kernel_rfl
  c210 := by kernel_rfl
  c212 := by kernel_rfl
  c213 := by kernel_rfl
  c232 := by kernel_rfl
  c233 := by kernel_rfl }
def Tryz.lays161_ren : Go.Shelf.Ren := ⟨fun | 161 => 185 | 231 => 203 | 227 => 204 | 233 => 205 | 235 => 206 | 228 => 215 | 197 => 175 | 151 => 216 | 260 => 195 | 152 => 219 | 137 => 96 | 119 => 220 | 224 => 164 | 225 => 163 | 217 => 143 | 266 => 162 | n => n, fun | 9 => 9 | 4 => 4 | 3 => 3 | 5 => 5 | 117 => 230 | 116 => 229 | 0 => 0 | 124 => 233 | 105 => 204 | 21 => 21 | 119 => 238 | 46 => 189 | 139 => 241 | 138 => 240 | n => n, fun | 3 => 3 | 4 => 4 | n => n⟩
theorem Tryz.lays161 : Go.Proofs.Lays.n161 Tryz.prog Tryz.lays161_ren := {
  mixed := by kernel_rfl
  f119 := Tryz.func220.trans (congrArg some (by kernel_rfl))
  f137 := Tryz.func96.trans (congrArg some (by kernel_rfl))
  f151 := Tryz.func216.trans (congrArg some (by kernel_rfl))
  f152 := Tryz.func219.trans (congrArg some (by kernel_rfl))
  f161 := Tryz.func185.trans (congrArg some (by kernel_rfl))
  f197 := Tryz.func175.trans (congrArg some (by kernel_rfl))
  f217 := Tryz.func143.trans (congrArg some (by kernel_rfl))
  f224 := Tryz.func164.trans (congrArg some (by kernel_rfl))
  f225 := Tryz.func163.trans (congrArg some (by kernel_rfl))
  f227 := Tryz.func204.trans (congrArg some (by kernel_rfl))
  f228 := Tryz.func215.trans (congrArg some (by kernel_rfl))
  f231 := Tryz.func203.trans (congrArg some (by kernel_rfl))
  f233 := Tryz.func205.trans (congrArg some (by kernel_rfl))
  f235 := Tryz.func206.trans (congrArg some (by kernel_rfl))
  f260 := Tryz.func195.trans (congrArg some (by kernel_rfl))
  f266 := Tryz.func162.trans (congrArg some (by kernel_rfl))
  t0 := Tryz.underlying0
  a0 := Tryz.isAgg0
  z0 := Tryz.sizeOf0
  v0 := Tryz.zeroValue0
  t3 := Tryz.underlying3
  a3 := Tryz.isAgg3
  z3 := Tryz.sizeOf3
  v3 := Tryz.zeroValue3
  t4 := Tryz.underlying4
  a4 := Tryz.isAgg4
  z4 := Tryz.sizeOf4
  v4 := Tryz.zeroValue4
  t5 := Tryz.underlying5
  a5 := Tryz.isAgg5
  z5 := Tryz.sizeOf5
  v5 := Tryz.zeroValue5
  t9 := Tryz.underlying9
  a9 := Tryz.isAgg9
  z9 := Tryz.sizeOf9
  v9 := Tryz.zeroValue9
  t21 := Tryz.underlying21
  a21 := Tryz.isAgg21
  z21 := Tryz.sizeOf21
  v21 := Tryz.zeroValue21
  t46 := Tryz.underlying189
  a46 := Tryz.isAgg189
  z46 := Tryz.sizeOf189
  v46 := Tryz.zeroValue189
  t105 := Tryz.underlying204
  a105 := Tryz.isAgg204
  z105 := Tryz.sizeOf204
  v105 := Tryz.zeroValue204
  t116 := Tryz.underlying229
  a116 := Tryz.isAgg229
  z116 := Tryz.sizeOf229
  t117 := Tryz.underlying230
  a117 := Tryz.isAgg230
  z117 := Tryz.sizeOf230
  v117 := Tryz.zeroValue230
  t119 := Tryz.underlying238
  a119 := Tryz.isAgg238
  z119 := Tryz.sizeOf238
  t124 := Tryz.underlying233
  a124 := Tryz.isAgg233
  z124 := Tryz.sizeOf233
  v124 := Tryz.zeroValue233
  t138 := Tryz.underlying240
  a138 := Tryz.isAgg240
  z138 := Tryz.sizeOf240
  v138 := Tryz.zeroValue240
  t139 := Tryz.underlying241
  a139 := Tryz.isAgg241
  z139 := Tryz.sizeOf241
  v139 := Tryz.zeroValue241
  g3 := by kernel_rfl
  g4 := by kernel_rfl }
open Go.RowKit in
theorem Tryz.strings_TrimLeft_one (s : ByteArray) (c : UInt8) (hc : c.toNat < 128) (w : World) :
    Calls Tryz.prog 185 #[.string s, .string ⟨#[c]⟩] w fun e w' => e = .returned (.string ⟨(Lib.trimLeftB s.data.toList c).toArray⟩) ∧ w' = w := Any.strings_TrimLeft_one Tryz.lays161 s c hc w
def Tryz.laysM155_ren : Go.Shelf.Ren := ⟨fun | 155 => 122 | 154 => 152 | 138 => 172 | 165 => 173 | 143 => 106 | 166 => 174 | 197 => 175 | 169 => 176 | 195 => 191 | 218 => 192 | 240 => 193 | 241 => 194 | 219 => 146 | 260 => 195 | 276 => 209 | 277 => 210 | 217 => 143 | 225 => 163 | 224 => 164 | 267 => 165 | 266 => 162 | 314 => 182 | n => n, fun | 9 => 9 | 3 => 3 | 4 => 4 | 72 => 202 | 0 => 0 | 76 => 181 | 105 => 204 | 21 => 21 | 5 => 5 | 70 => 200 | 20 => 20 | 37 => 145 | 75 => 180 | 127 => 219 | 164 => 235 | 46 => 189 | 119 => 238 | 139 => 241 | 138 => 240 | 146 => 209 | 51 => 208 | 80 => 206 | n => n, fun | 1 => 1 | 3 => 3 | 4 => 4 | n => n⟩
theorem Tryz.laysM155 : Go.Proofs.LaysM.n155 Tryz.prog Tryz.laysM155_ren := {
  mixed := by kernel_rfl
  f138 := Tryz.func172.trans (congrArg some (by kernel_rfl))
  f143 := Tryz.func106.trans (congrArg some (by kernel_rfl))
  f154 := Tryz.func152.trans (congrArg some (by kernel_rfl))
  f155 := Tryz.func122.trans (congrArg some (by kernel_rfl))
  f165 := Tryz.func173.trans (congrArg some (by kernel_rfl))
  f166 := Tryz.func174.trans (congrArg some (by kernel_rfl))
  f169 := Tryz.func176.trans (congrArg some (by kernel_rfl))
  f195 := Tryz.func191.trans (congrArg some (by kernel_rfl))
  f197 := Tryz.func175.trans (congrArg some (by kernel_rfl))
  f217 := Tryz.func143.trans (congrArg some (by kernel_rfl))
  f218 := Tryz.func192.trans (congrArg some (by kernel_rfl))
  f219 := Tryz.func146.trans (congrArg some (by kernel_rfl))
  f224 := Tryz.func164.trans (congrArg some (by kernel_rfl))
  f225 := Tryz.func163.trans (congrArg some (by kernel_rfl))
  f240 := Tryz.func193.trans (congrArg some (by kernel_rfl))
  f241 := Tryz.func194.trans (congrArg some (by kernel_rfl))
  f260 := Tryz.func195.trans (congrArg some (by kernel_rfl))
  f266 := Tryz.func162.trans (congrArg some (by kernel_rfl))
  f267 := Tryz.func165.trans (congrArg some (by kernel_rfl))
  f276 := Tryz.func209.trans (congrArg some (by kernel_rfl))
  f277 := Tryz.func210.trans (congrArg some (by kernel_rfl))
  f314 := Tryz.func182.trans (congrArg some (by kernel_rfl))
  t0 := Tryz.underlying0
  a0 := Tryz.isAgg0
  z0 := Tryz.sizeOf0
  v0 := Tryz.zeroValue0
  t3 := Tryz.underlying3
  a3 := Tryz.isAgg3
  z3 := Tryz.sizeOf3
  v3 := Tryz.zeroValue3
  t4 := Tryz.underlying4
  a4 := Tryz.isAgg4
  z4 := Tryz.sizeOf4
  v4 := Tryz.zeroValue4
  t5 := Tryz.underlying5
  a5 := Tryz.isAgg5
  z5 := Tryz.sizeOf5
  v5 := Tryz.zeroValue5
  t9 := Tryz.underlying9
  a9 := Tryz.isAgg9
  z9 := Tryz.sizeOf9
  v9 := Tryz.zeroValue9
  t20 := Tryz.underlying20
  a20 := Tryz.isAgg20
  z20 := Tryz.sizeOf20
  v20 := Tryz.zeroValue20
  t21 := Tryz.underlying21
  a21 := Tryz.isAgg21
  z21 := Tryz.sizeOf21
  v21 := Tryz.zeroValue21
  t37 := Tryz.underlying145
  a37 := Tryz.isAgg145
  z37 := Tryz.sizeOf145
  v37 := Tryz.zeroValue145
  t46 := Tryz.underlying189
  a46 := Tryz.isAgg189
  z46 := Tryz.sizeOf189
  v46 := Tryz.zeroValue189
  t51 := Tryz.underlying208
  a51 := Tryz.isAgg208
  z51 := Tryz.sizeOf208
  v51 := Tryz.zeroValue208
  t70 := Tryz.underlying200
  a70 := Tryz.isAgg200
  z70 := Tryz.sizeOf200
  v70 := Tryz.zeroValue200
  t72 := Tryz.underlying202
  a72 := Tryz.isAgg202
  z72 := Tryz.sizeOf202
  v72 := Tryz.zeroValue202
  t75 := Tryz.underlying180
  a75 := Tryz.isAgg180
  z75 := Tryz.sizeOf180
  v75 := Tryz.zeroValue180
  t76 := Tryz.underlying181
  a76 := Tryz.isAgg181
  z76 := Tryz.sizeOf181
  v76 := Tryz.zeroValue181
  t105 := Tryz.underlying204
  a105 := Tryz.isAgg204
  z105 := Tryz.sizeOf204
  v105 := Tryz.zeroValue204
  t119 := Tryz.underlying238
  a119 := Tryz.isAgg238
  z119 := Tryz.sizeOf238
  t127 := Tryz.underlying219
  a127 := Tryz.isAgg219
  z127 := Tryz.sizeOf219
  v127 := Tryz.zeroValue219
  t138 := Tryz.underlying240
  a138 := Tryz.isAgg240
  z138 := Tryz.sizeOf240
  v138 := Tryz.zeroValue240
  t139 := Tryz.underlying241
  a139 := Tryz.isAgg241
  z139 := Tryz.sizeOf241
  v139 := Tryz.zeroValue241
  t146 := Tryz.underlying209
  a146 := Tryz.isAgg209
  z146 := Tryz.sizeOf209
  v146 := Tryz.zeroValue209
  t164 := Tryz.underlying235
  a164 := Tryz.isAgg235
  z164 := Tryz.sizeOf235
  v164 := Tryz.zeroValue235
  g1 := by kernel_rfl
  g3 := by kernel_rfl
  g4 := by kernel_rfl
  t80 := Tryz.underlying206
  a80 := Tryz.isAgg206
  z80 := Tryz.sizeOf206
  v80 := Tryz.zeroValue206
  i0 := by kernel_rfl
  i3 := by kernel_rfl
  i4 := by kernel_rfl
  i5 := by kernel_rfl
  i9 := by kernel_rfl
  i20 := by kernel_rfl
  i21 := by kernel_rfl
  i37 := by kernel_rfl
  i46 := by kernel_rfl
  i51 := by kernel_rfl
  i70 := by kernel_rfl
  i72 := by kernel_rfl
  i75 := by kernel_rfl
  i76 := by kernel_rfl
  i80 := by kernel_rfl
  i105 := by kernel_rfl
  i127 := by kernel_rfl
  i138 := by kernel_rfl
  i139 := by kernel_rfl
  i146 := by kernel_rfl
  i164 := by kernel_rfl
  m1 := by kernel_rfl
  s1_3 := fun w h => Go.Proofs.cell_of_shapedOpen_int (zero := #[.int .i64 0]) (t := 3) h (of_decide_eq_true (by kernel_rfl)) (by kernel_rfl) rfl (by kernel_rfl) (by kernel_rfl) Tryz.underlying3
  m3 := by kernel_rfl
  m4 := by kernel_rfl }
theorem Tryz.Builder_Extra_M155 : Builder.Extra Tryz.prog Tryz.laysM155_ren := {
  sizeBuilder := by kernel_rfl
  liesBuilder := by kernel_rfl
  t5 := Tryz.underlying5
  a5 := Tryz.isAgg5
  z5 := Tryz.sizeOf5
  v5 := Tryz.zeroValue5
  infoByte := by kernel_rfl
  cellsByte := by kernel_rfl
  sizeByte := by kernel_rfl
  neB5 := by decide }
open Go.RowKit Go.Lib in
theorem Tryz.strings_ReplaceAll_shaped (s old new : ByteArray) (w : World) (h : w.ShapedOpen Tryz.prog) (hs : s.size < 4294967281) (h1 : 1 ≤ old.size) (hlen : s.size + Lib.countB s old * new.size ≤ 140737488355328) :
    Calls Tryz.prog 122 #[.string s, .string old, .string new] w fun e w' =>
      e = .returned (.string ⟨(Lib.replaceAll s.data.toList old.data.toList new.data.toList).toArray⟩) ∧ Below w.heap.size w w' := Any.strings_ReplaceAll_shaped Tryz.laysM155 Tryz.Builder_Extra_M155 s old new w h hs h1 hlen
end Go.Proofs

/- strconv.Itoa, out of the library's contract. Printed by the session's own program. -/
namespace Go.Proofs.YtmpglmcjoelciaaGreatDoor.Ev
open Go Go.Proofs Go.Proofs.Ev
set_option linter.unusedVariables false
set_option maxRecDepth 100000
noncomputable def strconv_Itoa.F (n : Nat) (c : Int) : Option (ByteArray) := bif decide (-9223372036854775808 ≤ c) && decide (c ≤ 9223372036854775807) then Option.some (⟨(Lib.itoa c).toArray⟩) else none
theorem strconv_Itoa.hands (n : Nat) (c : Int) {p : ByteArray} (h : strconv_Itoa.F n c = some p) : HandsIn Tryz.prog 76 [.v (.int .i64 c)] (.v (.string p)) := by
  unfold strconv_Itoa.F at h
  cases hc : (decide (-9223372036854775808 ≤ c) && decide (c ≤ 9223372036854775807)) with
  | false => rw [hc] at h; cases h
  | true =>
    rw [hc] at h
    cases h
    refine hands_calls (fn := Tryz.f76) Tryz.func76 (by kernel_rfl) (by kernel_rfl) fun w F vals hQ hF hl hr => ?_
    obtain ⟨u0, rfl, h0⟩ := vals1 hl hr
    obtain rfl := rel_v h0
    rw [Bool.and_eq_true] at hc
    refine (Tryz.strconv_Itoa c (of_decide_eq_true hc.1) (of_decide_eq_true hc.2) w (hQ.2 _ (List.mem_cons_self ..))).mono ?_
    rintro e w' ⟨rfl, k, os, rfl⟩
    exact ⟨F, fun _ => none, Came.of_below hF (below_grew w k os), .v _ rfl⟩
noncomputable def strconv_Itoa.via {R : Type} (n : Nat) (ys : List AV) : (AV → Option R) → Option R := match ys with | [.v (.int .i64 c)] => fun K => (strconv_Itoa.F n c).bind fun p => K (.v (.string p)) | _ => fun _ => none
theorem strconv_Itoa.tells1 {R : Type} (n : Nat) (ys : List AV) : Tells1 (R := R) Tryz.prog 76 ys (strconv_Itoa.via n ys) := by
  unfold strconv_Itoa.via
  split
  · exact Tells1.of (fun p hp => (strconv_Itoa.hands n _ hp).hands rfl)
  · exact Tells1.none
end Go.Proofs.YtmpglmcjoelciaaGreatDoor.Ev

/- strings.IndexByte, out of the library's contract. Printed by the session's own program. -/
namespace Go.Proofs.YtmpglmcjoelciaaGreatDoor.Ev
open Go Go.Proofs Go.Proofs.Ev
set_option linter.unusedVariables false
set_option maxRecDepth 100000
noncomputable def strings_IndexByte.F (n : Nat) (s : ByteArray) (c : Int) : Option (Int) := bif true then Option.some (Lib.indexByte s.data.toList c.toNat.toUInt8) else none
theorem strings_IndexByte.hands (n : Nat) (s : ByteArray) (c : Int) {p : Int} (h : strings_IndexByte.F n s c = some p) : HandsIn Tryz.prog 96 [.v (.string s), .v (.int .u8 c)] (.v (.int .i64 p)) := by
  unfold strings_IndexByte.F at h
  cases hc : (true) with
  | false => rw [hc] at h; cases h
  | true =>
    rw [hc] at h
    cases h
    refine hands_calls (fn := Tryz.f96) Tryz.func96 (by kernel_rfl) (by kernel_rfl) fun w F vals hQ hF hl hr => ?_
    obtain ⟨u0, u1, rfl, h0, h1⟩ := vals2 hl hr
    obtain rfl := rel_v h0
    obtain rfl := rel_v h1
    refine (Tryz.strings_IndexByte s c w).mono ?_
    rintro e w' ⟨rfl, rfl⟩
    exact ⟨F, fun _ => none, Came.same hF, .v _ rfl⟩
noncomputable def strings_IndexByte.via {R : Type} (n : Nat) (ys : List AV) : (AV → Option R) → Option R := match ys with | [.v (.string s), .v (.int .u8 c)] => fun K => (strings_IndexByte.F n s c).bind fun p => K (.v (.int .i64 p)) | _ => fun _ => none
theorem strings_IndexByte.tells1 {R : Type} (n : Nat) (ys : List AV) : Tells1 (R := R) Tryz.prog 96 ys (strings_IndexByte.via n ys) := by
  unfold strings_IndexByte.via
  split
  · exact Tells1.of (fun p hp => (strings_IndexByte.hands n _ _ hp).hands rfl)
  · exact Tells1.none
end Go.Proofs.YtmpglmcjoelciaaGreatDoor.Ev

/- strings.Index, out of the library's contract. Printed by the session's own program. -/
namespace Go.Proofs.YtmpglmcjoelciaaGreatDoor.Ev
open Go Go.Proofs Go.Proofs.Ev
set_option linter.unusedVariables false
set_option maxRecDepth 100000
noncomputable def strings_Index.F (n : Nat) (s : ByteArray) (t : ByteArray) : Option (Int) := bif decide (s.size < 4294967281) then Option.some (Lib.index s.data.toList t.data.toList) else none
theorem strings_Index.hands (n : Nat) (s : ByteArray) (t : ByteArray) {p : Int} (h : strings_Index.F n s t = some p) : HandsIn Tryz.prog 106 [vs s, vs t] (.v (.int .i64 p)) := by
  unfold strings_Index.F at h
  cases hc : (decide (s.size < 4294967281)) with
  | false => rw [hc] at h; cases h
  | true =>
    rw [hc] at h
    cases h
    refine hands_calls (fn := Tryz.f106) Tryz.func106 (by kernel_rfl) (by kernel_rfl) fun w F vals hQ hF hl hr => ?_
    obtain ⟨u, v, rfl, hu, hv⟩ := vals2 hl hr
    obtain rfl := rel_v hu
    obtain rfl := rel_v hv
    refine (Tryz.strings_Index_shaped s t w (Rooted.opened _ hQ) (of_decide_eq_true hc)).mono ?_
    rintro e w' ⟨rfl, rfl⟩
    exact ⟨F, fun _ => none, Came.same hF, .v _ rfl⟩
noncomputable def strings_Index.via {R : Type} (n : Nat) (ys : List AV) : (AV → Option R) → Option R := match ys with | [.v (.string s), .v (.string t)] => fun K => (strings_Index.F n s t).bind fun p => K (.v (.int .i64 p)) | _ => fun _ => none
theorem strings_Index.tells1 {R : Type} (n : Nat) (ys : List AV) : Tells1 (R := R) Tryz.prog 106 ys (strings_Index.via n ys) := by
  unfold strings_Index.via
  split
  · exact Tells1.of (fun p hp => (strings_Index.hands n _ _ hp).hands rfl)
  · exact Tells1.none
end Go.Proofs.YtmpglmcjoelciaaGreatDoor.Ev

/- strings.ReplaceAll, out of the library's contract. Printed by the session's own program. -/
namespace Go.Proofs.YtmpglmcjoelciaaGreatDoor.Ev
open Go Go.Proofs Go.Proofs.Ev
set_option linter.unusedVariables false
set_option maxRecDepth 100000
noncomputable def strings_ReplaceAll.F (n : Nat) (s : ByteArray) (t : ByteArray) (u : ByteArray) : Option (ByteArray) := bif (decide (s.size < 4294967281) && decide (1 ≤ t.size)) && decide (s.size + Lib.countB s t * u.size ≤ 140737488355328) then Option.some (⟨(Lib.replaceAll s.data.toList t.data.toList u.data.toList).toArray⟩) else none
theorem strings_ReplaceAll.hands (n : Nat) (s : ByteArray) (t : ByteArray) (u : ByteArray) {p : ByteArray} (h : strings_ReplaceAll.F n s t u = some p) : HandsIn Tryz.prog 122 [.v (.string s), .v (.string t), .v (.string u)] (.v (.string p)) := by
  unfold strings_ReplaceAll.F at h
  cases hc : ((decide (s.size < 4294967281) && decide (1 ≤ t.size)) && decide (s.size + Lib.countB s t * u.size ≤ 140737488355328)) with
  | false => rw [hc] at h; cases h
  | true =>
    rw [hc] at h
    cases h
    refine hands_calls (fn := Tryz.f122) Tryz.func122 (by kernel_rfl) (by kernel_rfl) fun w F vals hQ hF hl hr => ?_
    obtain ⟨u0, u1, u2, rfl, h0, h1, h2⟩ := vals3 hl hr
    obtain rfl := rel_v h0
    obtain rfl := rel_v h1
    obtain rfl := rel_v h2
    rw [Bool.and_eq_true, Bool.and_eq_true] at hc
    refine (Tryz.strings_ReplaceAll_shaped s t u w (Rooted.opened _ hQ) (of_decide_eq_true hc.1.1) (of_decide_eq_true hc.1.2) (of_decide_eq_true hc.2)).mono ?_
    rintro e w' ⟨rfl, hB⟩
    exact ⟨F, fun _ => none, Came.of_below hF hB, .v _ rfl⟩
noncomputable def strings_ReplaceAll.via {R : Type} (n : Nat) (ys : List AV) : (AV → Option R) → Option R := match ys with | [.v (.string s), .v (.string t), .v (.string u)] => fun K => (strings_ReplaceAll.F n s t u).bind fun p => K (.v (.string p)) | _ => fun _ => none
theorem strings_ReplaceAll.tells1 {R : Type} (n : Nat) (ys : List AV) : Tells1 (R := R) Tryz.prog 122 ys (strings_ReplaceAll.via n ys) := by
  unfold strings_ReplaceAll.via
  split
  · exact Tells1.of (fun p hp => (strings_ReplaceAll.hands n _ _ _ hp).hands rfl)
  · exact Tells1.none
end Go.Proofs.YtmpglmcjoelciaaGreatDoor.Ev

/- strconv.Atoi, out of the library's contract. Printed by the session's own program. -/
namespace Go.Proofs.YtmpglmcjoelciaaGreatDoor.Ev
open Go Go.Proofs Go.Proofs.Ev
set_option linter.unusedVariables false
set_option maxRecDepth 100000
noncomputable def strconv_Atoi.F (n : Nat) (s : ByteArray) : Option (Int × Bool) := bif decide (s.size ≤ 281474976710656) then Option.some (atoiR s.data.toList) else none
theorem strconv_Atoi.hands (n : Nat) (s : ByteArray) {p : Int × Bool} (h : strconv_Atoi.F n s = some p) : HandsIn Tryz.prog 153 [.v (.string s)] (.tup [.v (.int .i64 p.1), .err p.2]) := by
  unfold strconv_Atoi.F at h
  cases hc : (decide (s.size ≤ 281474976710656)) with
  | false => rw [hc] at h; cases h
  | true =>
    rw [hc] at h
    cases h
    refine hands_calls (fn := Tryz.f153) Tryz.func153 (by kernel_rfl) (by kernel_rfl) fun w F vals hQ hF hl hr => ?_
    obtain ⟨u0, rfl, h0⟩ := vals1 hl hr
    obtain rfl := rel_v h0
    exact atoi_calls Tryz.laysC172 hF s (of_decide_eq_true hc) (Sents.at hQ.1 rfl) (Sents.at hQ.1 rfl)
noncomputable def strconv_Atoi.via {R : Type} (n : Nat) (ys : List AV) : (AV → Option R) → Option R := match ys with | [.v (.string s)] => fun K => (strconv_Atoi.F n s).bind fun p => K (.tup [.v (.int .i64 p.1), .err p.2]) | _ => fun _ => none
theorem strconv_Atoi.tells1 {R : Type} (n : Nat) (ys : List AV) : Tells1 (R := R) Tryz.prog 153 ys (strconv_Atoi.via n ys) := by
  unfold strconv_Atoi.via
  split
  · exact Tells1.of (fun p hp => (strconv_Atoi.hands n _ hp).hands rfl)
  · exact Tells1.none
end Go.Proofs.YtmpglmcjoelciaaGreatDoor.Ev

/- strings.Cut, out of the library's contract. Printed by the session's own program. -/
namespace Go.Proofs.YtmpglmcjoelciaaGreatDoor.Ev
open Go Go.Proofs Go.Proofs.Ev
set_option linter.unusedVariables false
set_option maxRecDepth 100000
noncomputable def strings_Cut.F (n : Nat) (s : ByteArray) (t : ByteArray) : Option (ByteArray × ByteArray × Bool) := bif decide (s.size < 4294967281) then Option.some ((⟨(Lib.cut s.data.toList t.data.toList).1.toArray⟩, ⟨(Lib.cut s.data.toList t.data.toList).2.1.toArray⟩, (Lib.cut s.data.toList t.data.toList).2.2)) else none
theorem strings_Cut.hands (n : Nat) (s : ByteArray) (t : ByteArray) {p : ByteArray × ByteArray × Bool} (h : strings_Cut.F n s t = some p) : HandsIn Tryz.prog 184 [.v (.string s), .v (.string t)] (.tup [.v (.string p.1), .v (.string p.2.1), .v (.bool p.2.2)]) := by
  unfold strings_Cut.F at h
  cases hc : (decide (s.size < 4294967281)) with
  | false => rw [hc] at h; cases h
  | true =>
    rw [hc] at h
    cases h
    refine hands_calls (fn := Tryz.f184) Tryz.func184 (by kernel_rfl) (by kernel_rfl) fun w F vals hQ hF hl hr => ?_
    obtain ⟨u0, u1, rfl, h0, h1⟩ := vals2 hl hr
    obtain rfl := rel_v h0
    obtain rfl := rel_v h1
    refine (Tryz.strings_Cut_shaped s t w (Rooted.opened _ hQ) (of_decide_eq_true hc)).mono ?_
    rintro e w' ⟨rfl, n, rfl⟩
    exact ⟨F, fun _ => none, Came.of_below hF ⟨rfl, rfl, rfl, Nat.le_refl _, fun _ _ => rfl⟩, #[_, _, _], rfl, rfl, .v _ rfl, .v _ rfl, .v _ rfl, trivial⟩
noncomputable def strings_Cut.via {R : Type} (n : Nat) (ys : List AV) : (AV → Option R) → Option R := match ys with | [.v (.string s), .v (.string t)] => fun K => (strings_Cut.F n s t).bind fun p => K (.tup [.v (.string p.1), .v (.string p.2.1), .v (.bool p.2.2)]) | _ => fun _ => none
theorem strings_Cut.tells1 {R : Type} (n : Nat) (ys : List AV) : Tells1 (R := R) Tryz.prog 184 ys (strings_Cut.via n ys) := by
  unfold strings_Cut.via
  split
  · exact Tells1.of (fun p hp => (strings_Cut.hands n _ _ hp).hands rfl)
  · exact Tells1.none
end Go.Proofs.YtmpglmcjoelciaaGreatDoor.Ev

/- strings.TrimLeft, out of the library's contract. Printed by the session's own program. -/
namespace Go.Proofs.YtmpglmcjoelciaaGreatDoor.Ev
open Go Go.Proofs Go.Proofs.Ev
set_option linter.unusedVariables false
set_option maxRecDepth 100000
noncomputable def strings_TrimLeft.F (n : Nat) (s : ByteArray) (t : ByteArray) : Option (ByteArray) := bif Nat.beq t.data.toList.length 1 && decide ((t.data.toList.headD 0).toNat < 128) then Option.some (⟨(Lib.trimLeftB s.data.toList (t.data.toList.headD 0)).toArray⟩) else none
theorem strings_TrimLeft.hands (n : Nat) (s : ByteArray) (t : ByteArray) {p : ByteArray} (h : strings_TrimLeft.F n s t = some p) : HandsIn Tryz.prog 185 [.v (.string s), .v (.string t)] (.v (.string p)) := by
  unfold strings_TrimLeft.F at h
  cases hc : (Nat.beq t.data.toList.length 1 && decide ((t.data.toList.headD 0).toNat < 128)) with
  | false => rw [hc] at h; cases h
  | true =>
    rw [hc] at h
    cases h
    refine hands_calls (fn := Tryz.f185) Tryz.func185 (by kernel_rfl) (by kernel_rfl) fun w F vals hQ hF hl hr => ?_
    obtain ⟨u0, u1, rfl, h0, h1⟩ := vals2 hl hr
    obtain rfl := rel_v h0
    obtain rfl := rel_v h1
    rw [Bool.and_eq_true] at hc
    have ht := one_byte (Nat.eq_of_beq_eq_true hc.1)
    have := Tryz.strings_TrimLeft_one s (t.data.toList.headD 0) (of_decide_eq_true hc.2) w
    rw [← ht] at this
    refine this.mono ?_
    rintro e w' ⟨rfl, rfl⟩
    exact ⟨F, fun _ => none, Came.same hF, .v _ rfl⟩
noncomputable def strings_TrimLeft.via {R : Type} (n : Nat) (ys : List AV) : (AV → Option R) → Option R := match ys with | [.v (.string s), .v (.string t)] => fun K => (strings_TrimLeft.F n s t).bind fun p => K (.v (.string p)) | _ => fun _ => none
theorem strings_TrimLeft.tells1 {R : Type} (n : Nat) (ys : List AV) : Tells1 (R := R) Tryz.prog 185 ys (strings_TrimLeft.via n ys) := by
  unfold strings_TrimLeft.via
  split
  · exact Tells1.of (fun p hp => (strings_TrimLeft.hands n _ _ hp).hands rfl)
  · exact Tells1.none
end Go.Proofs.YtmpglmcjoelciaaGreatDoor.Ev

/- midrange/midrangelaw25.awake, by evaluation. Printed by the session's own program. -/
namespace Go.Proofs.YtmpglmcjoelciaaGreatDoor.Ev
open Go Go.Proofs Go.Proofs.Ev
set_option linter.unusedVariables false
set_option maxRecDepth 100000
noncomputable def midrangelaw25_awake.own (f : FuncId) : Bool := Nat.beq f 76 || Nat.beq f 96 || Nat.beq f 106 || Nat.beq f 122 || Nat.beq f 153 || Nat.beq f 184 || Nat.beq f 185
noncomputable def midrangelaw25_awake.C0 {R : Type} (f : FuncId) (xs : List AV) : (AV → Option R) → Option R := bif Nat.beq f 76 then strconv_Itoa.via 0 xs else bif Nat.beq f 96 then strings_IndexByte.via 0 xs else bif Nat.beq f 106 then strings_Index.via 0 xs else bif Nat.beq f 122 then strings_ReplaceAll.via 0 xs else bif Nat.beq f 153 then strconv_Atoi.via 0 xs else bif Nat.beq f 184 then strings_Cut.via 0 xs else bif Nat.beq f 185 then strings_TrimLeft.via 0 xs else fun _ => none
theorem midrangelaw25_awake.tells0 {R : Type} : Tells (R := R) Tryz.prog midrangelaw25_awake.C0 := fun _ xs => tells_at (strconv_Itoa.tells1 0 xs) (tells_at (strings_IndexByte.tells1 0 xs) (tells_at (strings_Index.tells1 0 xs) (tells_at (strings_ReplaceAll.tells1 0 xs) (tells_at (strconv_Atoi.tells1 0 xs) (tells_at (strings_Cut.tells1 0 xs) (tells_at (strings_TrimLeft.tells1 0 xs) (Tells1.none)))))))
noncomputable def midrangelaw25_awake.F (n : Nat) : Option Bool := Option.some true
theorem midrangelaw25_awake.run : interp Tryz.prog G midrangelaw25_awake.own midrangelaw25_awake.C0 (fun _ _ => none) 1000 100 12 [] = Option.some (vb true) := by kernel_rfl
noncomputable def midrangelaw25_awake.via {R : Type} (n : Nat) (ys : List AV) : (AV → Option R) → Option R := match ys with | [] => fun K => (midrangelaw25_awake.F n).bind fun p => K (.v (.bool p)) | _ => fun _ => none
theorem midrangelaw25_awake.tells1 {R : Type} (n : Nat) (ys : List AV) : Tells1 (R := R) Tryz.prog 12 ys (midrangelaw25_awake.via n ys) := by
  unfold midrangelaw25_awake.via
  split
  · exact Tells1.of (fun p hp => by cases hp; exact interp_tells cfg mixed (fun _ => rfl) rfl midrangelaw25_awake.tells0 100 _ _ _ midrangelaw25_awake.run)
  · exact Tells1.none
end Go.Proofs.YtmpglmcjoelciaaGreatDoor.Ev

/- midrange/dds.first, out of its evaluation. Printed by the session's own program. -/
namespace Go.Proofs.YtmpglmcjoelciaaGreatDoor.Ev
open Go Go.Proofs Go.Proofs.Ev
set_option linter.unusedVariables false
set_option maxRecDepth 100000
/-! midrange/dds.first: function 44 -/
noncomputable def dds_first.r2 {R : Type} (n : Nat) (c2 : List AV → Int → Int → Option R) (k : Int → Option R) (z1 : List AV) (z2 : Int) (z3 : Int) : Option R :=
  bif decide (z3 < z2) then (bif decide ((0 : Int) ≤ z3) && decide (z3 < ((z1.length : Nat) : Int)) then (withCons ((z1.getD ((z3).toNat) .undef).cells) fun h1 r2 =>
  withInt .i64 h1 fun x3 =>
  bif x3 != 0 then (k x3) else (c2 z1 z2 (IntKind.i64.wrap (z3 + 1)))) else none) else (k 0)
noncomputable def dds_first.e {R : Type} (n : Nat) (c2 : List AV → Int → Int → Option R) (k : Int → Option R) (a0 : List AV) : Option R :=
  c2 a0 ((a0.length : Nat) : Int) 0
noncomputable def dds_first.C {R : Type} (n : Nat) (f : FuncId) (xs : List AV) : (AV → Option R) → Option R :=
  fun _ => none
theorem dds_first.tells {R : Type} (n : Nat) : Tells (R := R) Tryz.prog (dds_first.C n) := fun _ xs => Tells1.none
noncomputable def dds_first.cut (r : Nat) : Option Keep := match r with | 2 => Option.some ⟨[5, 6, 7], []⟩ | _ => none
noncomputable def dds_first.t2 : List Item := (todoOf 2 1000 [.code (Tryz.f44.body.getD .skip)]).getD []
noncomputable def dds_first.s2 (z1 : List AV) (z2 : Int) (z3 : Int) : St := ⟨[.undef, .undef, .undef, .undef, .undef, .sl ⟨true, 24⟩ 1 z1, vi z2, vi z3, .undef, .undef, .undef, .undef, .undef, .undef, .undef], Mem.ofList [], 0⟩
theorem dds_first.e_eq {R : Type} (n : Nat) (rec : List Item → St → Option R) (K : AV → Option R) (a0 : List AV) :
    goK G (dds_first.C n) dds_first.cut (fun S => finK G Tryz.f44.resultTypes.toList Tryz.f44.results.toList S K) rec 1000 [.code (Tryz.f44.body.getD .skip)] (Ev.start Tryz.f44 [.sl ⟨true, 24⟩ 1 a0]) = dds_first.e n (fun z1 z2 z3 => rec dds_first.t2 (dds_first.s2 z1 z2 z3)) (fun p => K (vi p)) a0 := by kernel_rfl
theorem dds_first.r2_eq {R : Type} (n : Nat) (rec : List Item → St → Option R) (K : AV → Option R) (z1 : List AV) (z2 : Int) (z3 : Int) :
    atK G (dds_first.C n) dds_first.cut (fun S => finK G Tryz.f44.resultTypes.toList Tryz.f44.results.toList S K) rec dds_first.t2 (dds_first.s2 z1 z2 z3) = dds_first.r2 n (fun z1 z2 z3 => rec dds_first.t2 (dds_first.s2 z1 z2 z3)) (fun p => K (vi p)) z1 z2 z3 := by kernel_rfl
noncomputable def dds_first.l (n : Nat) : Nat → (List AV → Int → Int → Option (Int))
  | 0 => (fun _ _ _ => none)
  | m + 1 => dds_first.r2 n (dds_first.l n m) Option.some
noncomputable def dds_first.F (n : Nat) (a0 : List AV) : Option (Int) := dds_first.e n (dds_first.l n n) Option.some a0
noncomputable def dds_first.dec (x : AV) : Option (Int) := match x with | .v (.int .i64 p0) => Option.some p0 | _ => none
theorem dds_first.dec_inv {p : Int} (y : AV) (h : dds_first.dec y = some p) : y = vi p := by
  unfold dds_first.dec at h
  split at h
  · cases h; rfl
  · cases h
theorem dds_first.l_eq (n m : Nat) : (∀ (z1 : List AV) (z2 : Int) (z3 : Int), runK G (dds_first.C n) dds_first.cut (fun S => finK G Tryz.f44.resultTypes.toList Tryz.f44.results.toList S dds_first.dec) m dds_first.t2 (dds_first.s2 z1 z2 z3) = (dds_first.l n m) z1 z2 z3) := by
  induction m with
  | zero => exact fun z1 z2 z3 => rfl
  | succ m ih =>
    have h2 := ih
    have e2 : (fun (z1 : List AV) (z2 : Int) (z3 : Int) => runK G (dds_first.C n) dds_first.cut (fun S => finK G Tryz.f44.resultTypes.toList Tryz.f44.results.toList S dds_first.dec) m dds_first.t2 (dds_first.s2 z1 z2 z3)) = (dds_first.l n m) := by funext z1 z2 z3; exact h2 z1 z2 z3
    have q2 : ∀ (z1 : List AV) (z2 : Int) (z3 : Int), runK G (dds_first.C n) dds_first.cut (fun S => finK G Tryz.f44.resultTypes.toList Tryz.f44.results.toList S dds_first.dec) (m + 1) dds_first.t2 (dds_first.s2 z1 z2 z3) = (dds_first.l n (m + 1)) z1 z2 z3 := by
      intro z1 z2 z3
      rw [runK_succ]
      refine (dds_first.r2_eq n _ dds_first.dec z1 z2 z3).trans ?_
      rw [e2]
      rfl
    exact q2
theorem dds_first.hands (n : Nat) (a0 : List AV) {p : Int} (h : dds_first.F n a0 = some p) : HandsIn Tryz.prog 44 [.sl ⟨true, 24⟩ 1 a0] (vi p) := by
  refine hands_of cfg mixed (fun _ => rfl) rfl (dds_first.tells n) (fn := Tryz.f44) Tryz.func44 (by kernel_rfl) (by kernel_rfl) (cut := dds_first.cut) (K := dds_first.dec) (r := p) (n := n) dds_first.dec_inv ?_
  rw [funK_getD (by kernel_rfl)]
  have h1 := dds_first.e_eq n (runK G (dds_first.C n) dds_first.cut (fun S => finK G Tryz.f44.resultTypes.toList Tryz.f44.results.toList S dds_first.dec) n) dds_first.dec a0
  have hl := dds_first.l_eq n n
  simp only [hl] at h1
  exact h1.trans h
noncomputable def dds_first.via {R : Type} (n : Nat) (xs : List AV) : (AV → Option R) → Option R := match xs with | [.sl ⟨true, 24⟩ 1 a0] => fun K => (dds_first.F n a0).bind fun p => K (vi p) | _ => fun _ => none
theorem dds_first.tells1 {R : Type} (n : Nat) (xs : List AV) : Tells1 (R := R) Tryz.prog 44 xs (dds_first.via n xs) := by
  unfold dds_first.via
  split
  · exact Tells1.of (fun p hp => (dds_first.hands n _ hp).hands rfl)
  · exact Tells1.none
end Go.Proofs.YtmpglmcjoelciaaGreatDoor.Ev

/- midrange/dds.cond, out of its evaluation. Printed by the session's own program. -/
namespace Go.Proofs.YtmpglmcjoelciaaGreatDoor.Ev
open Go Go.Proofs Go.Proofs.Ev
set_option linter.unusedVariables false
set_option maxRecDepth 100000
/-! midrange/dds.cond: function 45 -/
noncomputable def dds_cond.e {R : Type} (n : Nat)  (k : Int → Option R) (a0 : Bool) (a1 : Int) : Option R :=
  bif a0 then (k a1) else (k 0)
noncomputable def dds_cond.C {R : Type} (n : Nat) (f : FuncId) (xs : List AV) : (AV → Option R) → Option R :=
  fun _ => none
theorem dds_cond.tells {R : Type} (n : Nat) : Tells (R := R) Tryz.prog (dds_cond.C n) := fun _ xs => Tells1.none
noncomputable def dds_cond.cut (r : Nat) : Option Keep := match r with  | _ => none
theorem dds_cond.e_eq {R : Type} (n : Nat) (rec : List Item → St → Option R) (K : AV → Option R) (a0 : Bool) (a1 : Int) :
    goK G (dds_cond.C n) dds_cond.cut (fun S => finK G Tryz.f45.resultTypes.toList Tryz.f45.results.toList S K) rec 1000 [.code (Tryz.f45.body.getD .skip)] (Ev.start Tryz.f45 [vb a0, vi a1]) = dds_cond.e n  (fun p => K (vi p)) a0 a1 := by kernel_rfl
noncomputable def dds_cond.F (n : Nat) (a0 : Bool) (a1 : Int) : Option (Int) := dds_cond.e n  Option.some a0 a1
noncomputable def dds_cond.dec (x : AV) : Option (Int) := match x with | .v (.int .i64 p0) => Option.some p0 | _ => none
theorem dds_cond.dec_inv {p : Int} (y : AV) (h : dds_cond.dec y = some p) : y = vi p := by
  unfold dds_cond.dec at h
  split at h
  · cases h; rfl
  · cases h
theorem dds_cond.hands (n : Nat) (a0 : Bool) (a1 : Int) {p : Int} (h : dds_cond.F n a0 a1 = some p) : HandsIn Tryz.prog 45 [vb a0, vi a1] (vi p) := by
  refine hands_of cfg mixed (fun _ => rfl) rfl (dds_cond.tells n) (fn := Tryz.f45) Tryz.func45 (by kernel_rfl) (by kernel_rfl) (cut := dds_cond.cut) (K := dds_cond.dec) (r := p) (n := n) dds_cond.dec_inv ?_
  rw [funK_getD (by kernel_rfl)]
  have h1 := dds_cond.e_eq n (runK G (dds_cond.C n) dds_cond.cut (fun S => finK G Tryz.f45.resultTypes.toList Tryz.f45.results.toList S dds_cond.dec) n) dds_cond.dec a0 a1
  exact h1.trans h
noncomputable def dds_cond.via {R : Type} (n : Nat) (xs : List AV) : (AV → Option R) → Option R := match xs with | [.v (.bool a0), .v (.int .i64 a1)] => fun K => (dds_cond.F n a0 a1).bind fun p => K (vi p) | _ => fun _ => none
theorem dds_cond.tells1 {R : Type} (n : Nat) (xs : List AV) : Tells1 (R := R) Tryz.prog 45 xs (dds_cond.via n xs) := by
  unfold dds_cond.via
  split
  · exact Tells1.of (fun p hp => (dds_cond.hands n _ _ hp).hands rfl)
  · exact Tells1.none
end Go.Proofs.YtmpglmcjoelciaaGreatDoor.Ev

/- midrange/numeric.first, out of its evaluation. Printed by the session's own program. -/
namespace Go.Proofs.YtmpglmcjoelciaaGreatDoor.Ev
open Go Go.Proofs Go.Proofs.Ev
set_option linter.unusedVariables false
set_option maxRecDepth 100000
/-! midrange/numeric.first: function 128 -/
noncomputable def numeric_first.r2 {R : Type} (n : Nat) (c2 : List AV → Int → Int → Option R) (k : Int → Option R) (z1 : List AV) (z2 : Int) (z3 : Int) : Option R :=
  bif decide (z3 < z2) then (bif decide ((0 : Int) ≤ z3) && decide (z3 < ((z1.length : Nat) : Int)) then (withCons ((z1.getD ((z3).toNat) .undef).cells) fun h1 r2 =>
  withInt .i64 h1 fun x3 =>
  bif x3 != 0 then (k x3) else (c2 z1 z2 (IntKind.i64.wrap (z3 + 1)))) else none) else (k 0)
noncomputable def numeric_first.e {R : Type} (n : Nat) (c2 : List AV → Int → Int → Option R) (k : Int → Option R) (a0 : List AV) : Option R :=
  c2 a0 ((a0.length : Nat) : Int) 0
noncomputable def numeric_first.l (n : Nat) : Nat → (List AV → Int → Int → Option (Int))
  | 0 => (fun _ _ _ => none)
  | m + 1 => numeric_first.r2 n (numeric_first.l n m) Option.some
noncomputable def numeric_first.F (n : Nat) (a0 : List AV) : Option (Int) := numeric_first.e n (numeric_first.l n n) Option.some a0
end Go.Proofs.YtmpglmcjoelciaaGreatDoor.Ev

/- midrange/numeric.cond, out of its evaluation. Printed by the session's own program. -/
namespace Go.Proofs.YtmpglmcjoelciaaGreatDoor.Ev
open Go Go.Proofs Go.Proofs.Ev
set_option linter.unusedVariables false
set_option maxRecDepth 100000
/-! midrange/numeric.cond: function 129 -/
noncomputable def numeric_cond.e {R : Type} (n : Nat)  (k : Int → Option R) (a0 : Bool) (a1 : Int) : Option R :=
  bif a0 then (k a1) else (k 0)
noncomputable def numeric_cond.F (n : Nat) (a0 : Bool) (a1 : Int) : Option (Int) := numeric_cond.e n  Option.some a0 a1
end Go.Proofs.YtmpglmcjoelciaaGreatDoor.Ev

/- midrange/numeric.CheckType, out of its evaluation. Printed by the session's own program. -/
namespace Go.Proofs.YtmpglmcjoelciaaGreatDoor.Ev
open Go Go.Proofs Go.Proofs.Ev
set_option linter.unusedVariables false
set_option maxRecDepth 100000
/-! midrange/numeric.CheckType: function 84 -/
noncomputable def numeric_CheckType.r13 {R : Type} (n : Nat) (c13 : Bool → Bool → Option R) (k : Int → Option R) (z1 : Bool) (z2 : Bool) : Option R :=
  (numeric_cond.F n (!z1) 18).bind fun p8 =>
  (numeric_cond.F n (!z2) 3).bind fun p9 =>
  (numeric_first.F n [vi p8, vi p9]).bind fun p10 =>
  k p10
end Go.Proofs.YtmpglmcjoelciaaGreatDoor.Ev

/- midrange/midrangebase.Within, out of its evaluation. Printed by the session's own program. -/
namespace Go.Proofs.YtmpglmcjoelciaaGreatDoor.Ev
open Go Go.Proofs Go.Proofs.Ev
set_option linter.unusedVariables false
set_option maxRecDepth 100000
/-! midrange/midrangebase.Within: function 48 -/
noncomputable def midrangebase_Within.e {R : Type} (n : Nat)  (k : Bool → Option R) (a0 : Int) (a1 : Int) (a2 : Int) : Option R :=
  bif decide (a1 ≤ a0) then (k (decide (a0 ≤ a2))) else (k false)
noncomputable def midrangebase_Within.C {R : Type} (n : Nat) (f : FuncId) (xs : List AV) : (AV → Option R) → Option R :=
  fun _ => none
theorem midrangebase_Within.tells {R : Type} (n : Nat) : Tells (R := R) Tryz.prog (midrangebase_Within.C n) := fun _ xs => Tells1.none
noncomputable def midrangebase_Within.cut (r : Nat) : Option Keep := match r with  | _ => none
theorem midrangebase_Within.e_eq {R : Type} (n : Nat) (rec : List Item → St → Option R) (K : AV → Option R) (a0 : Int) (a1 : Int) (a2 : Int) :
    goK G (midrangebase_Within.C n) midrangebase_Within.cut (fun S => finK G Tryz.f48.resultTypes.toList Tryz.f48.results.toList S K) rec 1000 [.code (Tryz.f48.body.getD .skip)] (Ev.start Tryz.f48 [vi a0, vi a1, vi a2]) = midrangebase_Within.e n  (fun p => K (vb p)) a0 a1 a2 := by kernel_rfl
noncomputable def midrangebase_Within.F (n : Nat) (a0 : Int) (a1 : Int) (a2 : Int) : Option (Bool) := midrangebase_Within.e n  Option.some a0 a1 a2
noncomputable def midrangebase_Within.dec (x : AV) : Option (Bool) := match x with | .v (.bool p0) => Option.some p0 | _ => none
theorem midrangebase_Within.dec_inv {p : Bool} (y : AV) (h : midrangebase_Within.dec y = some p) : y = vb p := by
  unfold midrangebase_Within.dec at h
  split at h
  · cases h; rfl
  · cases h
theorem midrangebase_Within.hands (n : Nat) (a0 : Int) (a1 : Int) (a2 : Int) {p : Bool} (h : midrangebase_Within.F n a0 a1 a2 = some p) : HandsIn Tryz.prog 48 [vi a0, vi a1, vi a2] (vb p) := by
  refine hands_of cfg mixed (fun _ => rfl) rfl (midrangebase_Within.tells n) (fn := Tryz.f48) Tryz.func48 (by kernel_rfl) (by kernel_rfl) (cut := midrangebase_Within.cut) (K := midrangebase_Within.dec) (r := p) (n := n) midrangebase_Within.dec_inv ?_
  rw [funK_getD (by kernel_rfl)]
  have h1 := midrangebase_Within.e_eq n (runK G (midrangebase_Within.C n) midrangebase_Within.cut (fun S => finK G Tryz.f48.resultTypes.toList Tryz.f48.results.toList S midrangebase_Within.dec) n) midrangebase_Within.dec a0 a1 a2
  exact h1.trans h
noncomputable def midrangebase_Within.via {R : Type} (n : Nat) (xs : List AV) : (AV → Option R) → Option R := match xs with | [.v (.int .i64 a0), .v (.int .i64 a1), .v (.int .i64 a2)] => fun K => (midrangebase_Within.F n a0 a1 a2).bind fun p => K (vb p) | _ => fun _ => none
theorem midrangebase_Within.tells1 {R : Type} (n : Nat) (xs : List AV) : Tells1 (R := R) Tryz.prog 48 xs (midrangebase_Within.via n xs) := by
  unfold midrangebase_Within.via
  split
  · exact Tells1.of (fun p hp => (midrangebase_Within.hands n _ _ _ hp).hands rfl)
  · exact Tells1.none
end Go.Proofs.YtmpglmcjoelciaaGreatDoor.Ev

/- Plain words on numbers and bytes; numbers of at most three digits, as chapter 25 and its reference read and write them. -/
namespace Go.Proofs.YtmpglmcjoelciaaGreatDoor.Ev
open Go Go.Proofs Go.Proofs.Ev
set_option linter.unusedVariables false
theorem w64 {x : Int} (h1 : -9223372036854775808 ≤ x) (h2 : x ≤ 9223372036854775807) : IntKind.i64.wrap x = x := by rw [IntKind.wrap_i64]; omega
theorem cond_t {α : Type} {p : Prop} [Decidable p] (h : p) (x y : α) : (bif decide p then x else y) = x := by simp [h]
theorem cond_f {α : Type} {p : Prop} [Decidable p] (h : ¬ p) (x y : α) : (bif decide p then x else y) = y := by simp [h]
theorem within_t {i : Nat} {len : Nat} (h : i < len) : (decide ((0 : Int) ≤ (i : Int)) && decide ((i : Int) < (len : Int))) = true := by
  rw [Bool.and_eq_true, decide_eq_true_eq, decide_eq_true_eq]; omega
theorem upto_t {i : Nat} {len : Nat} (h : i ≤ len) : (decide ((0 : Int) ≤ (i : Int)) && decide ((i : Int) ≤ (len : Int))) = true := by
  rw [Bool.and_eq_true, decide_eq_true_eq, decide_eq_true_eq]; omega
theorem wsucc {i : Nat} (h : i ≤ 1000000000) : IntKind.i64.wrap ((i : Int) + 1) = ((i + 1 : Nat) : Int) := by rw [w64] <;> omega
abbrev bs (l : List UInt8) : ByteArray := ⟨l.toArray⟩
theorem bs_of (s : ByteArray) : s = bs s.data.toList := rfl
theorem bs_size (l : List UInt8) : (bs l).size = l.length := rfl
theorem extract_list (s : ByteArray) (a b : Nat) : (s.extract a b).data.toList = (s.data.toList.drop a).take (b - a) := by
  rw [ByteArray.data_extract, Array.toList_extract, List.extract_eq_take_drop]
theorem bs_extract (l : List UInt8) (a b : Nat) : (bs l).extract a b = bs ((l.drop a).take (b - a)) := by
  rw [bs_of ((bs l).extract a b), extract_list]
theorem bs_take (l : List UInt8) (b : Nat) : (bs l).extract 0 b = bs (l.take b) := by rw [bs_extract]; simp
theorem bs_drop (l : List UInt8) (a : Nat) : (bs l).extract a (bs l).size = bs (l.drop a) := by
  rw [bs_extract, bs_size, List.take_of_length_le (by simp)]
theorem bs_getD (l : List UInt8) (i : Nat) : (bs l).data.getD i 0 = l.getD i 0 := by
  rw [Array.getD_eq_getD_getElem?, List.getD_eq_getElem?_getD]
  simp
theorem getD_at {l : List UInt8} {i : Nat} (hi : i < l.length) : (bs l).data.getD i 0 = l[i] := by
  rw [bs_getD]; simp [List.getD_eq_getElem?_getD, hi]
theorem bs_toList (l : List UInt8) : (bs l).toList = l := by rw [ByteArray.toList_eq]
def isD (c : UInt8) : Bool := decide (48 ≤ c.toNat) && decide (c.toNat ≤ 57)
def valA (a : Nat) (l : List UInt8) : Nat := l.foldl (fun a b => a * 10 + (b.toNat - 48)) a
/-- How many digits stand ahead. -/
def lead (l : List UInt8) : Nat := (l.takeWhile isD).length
end Go.Proofs.YtmpglmcjoelciaaGreatDoor.Ev

/- The types of chapter 25: what reads a text as a type, the program's way and the reference's. -/
namespace Go.Proofs.YtmpglmcjoelciaaGreatDoor.Ev
open Go Go.Proofs Go.Proofs.Ev
set_option linter.unusedVariables false
theorem cond_eq (n : Nat) (b : Bool) (e : Int) : dds_cond.F n b e = some (if b then e else 0) := by cases b <;> rfl
theorem ncond_eq (n : Nat) (b : Bool) (e : Int) : numeric_cond.F n b e = some (if b then e else 0) := by cases b <;> rfl
theorem Within_eq (n : Nat) (a b c : Int) : midrangebase_Within.F n a b c = some (decide (b ≤ a ∧ a ≤ c)) := by
  unfold midrangebase_Within.F midrangebase_Within.e
  by_cases h : b ≤ a
  · rw [cond_t h]; simp [h]
  · rw [cond_f h]; simp [h]
/-- The first that is not 0. -/
def fz : List Int → Int
  | [] => 0
  | x :: r => if x ≠ 0 then x else fz r
theorem first_l (n : Nat) (xs : List Int) (hx : xs.length ≤ 1000) : ∀ (d i m : Nat), i + d = xs.length → d < m → dds_first.l n m (xs.map vi) xs.length i = some (fz (xs.drop i))
  | _, _, 0, _, h => absurd h (by omega)
  | 0, i, m + 1, h, _ => by
    show dds_first.r2 n (dds_first.l n m) some _ _ _ = _
    unfold dds_first.r2
    rw [cond_f (by omega), List.drop_of_length_le (by omega)]
    rfl
  | d + 1, i, m + 1, h, hm => by
    have hi : i < xs.length := by omega
    have ih := first_l n xs hx d (i + 1) m (by omega) (by omega)
    show dds_first.r2 n (dds_first.l n m) some _ _ _ = _
    unfold dds_first.r2
    rw [cond_t (by omega), List.length_map, within_t hi, cond_true]
    have e : (xs.map vi).getD (((i : Nat) : Int)).toNat AV.undef = vi xs[i] := by simp [List.getD_eq_getElem?_getD, hi]
    rw [e, List.drop_eq_getElem_cons hi]
    show (bif xs[i] != 0 then some xs[i] else _) = _
    by_cases h0 : xs[i] = 0
    · have : (xs[i] != 0) = false := by simp [h0]
      rw [this, cond_false, wsucc (by omega), ih]
      simp [fz, h0]
    · have : (xs[i] != 0) = true := by simp [h0]
      rw [this, cond_true]
      simp [fz, h0]
theorem first_eq {n : Nat} (xs : List Int) (hx : xs.length ≤ 1000) (hn : 1001 ≤ n) : dds_first.F n (xs.map vi) = some (fz xs) := by
  unfold dds_first.F dds_first.e
  rw [List.length_map]
  exact first_l n xs hx xs.length 0 n (by omega) (by omega)
theorem first2 {n : Nat} (hn : 1001 ≤ n) (a b : Int) : dds_first.F n [vi a, vi b] = some (if a ≠ 0 then a else b) := by
  have := first_eq (n := n) [a, b] (by simp) hn
  rw [show ([a, b] : List Int).map vi = [vi a, vi b] from rfl] at this
  rw [this]
  by_cases h : a = 0 <;> by_cases h2 : b = 0 <;> simp [fz, h, h2]
theorem nfirst_l (n : Nat) (xs : List Int) (hx : xs.length ≤ 1000) : ∀ (d i m : Nat), i + d = xs.length → d < m → numeric_first.l n m (xs.map vi) xs.length i = some (fz (xs.drop i))
  | _, _, 0, _, h => absurd h (by omega)
  | 0, i, m + 1, h, _ => by
    show numeric_first.r2 n (numeric_first.l n m) some _ _ _ = _
    unfold numeric_first.r2
    rw [cond_f (by omega), List.drop_of_length_le (by omega)]
    rfl
  | d + 1, i, m + 1, h, hm => by
    have hi : i < xs.length := by omega
    have ih := nfirst_l n xs hx d (i + 1) m (by omega) (by omega)
    show numeric_first.r2 n (numeric_first.l n m) some _ _ _ = _
    unfold numeric_first.r2
    rw [cond_t (by omega), List.length_map, within_t hi, cond_true]
    have e : (xs.map vi).getD (((i : Nat) : Int)).toNat AV.undef = vi xs[i] := by simp [List.getD_eq_getElem?_getD, hi]
    rw [e, List.drop_eq_getElem_cons hi]
    show (bif xs[i] != 0 then some xs[i] else _) = _
    by_cases h0 : xs[i] = 0
    · have : (xs[i] != 0) = false := by simp [h0]
      rw [this, cond_false, wsucc (by omega), ih]
      simp [fz, h0]
    · have : (xs[i] != 0) = true := by simp [h0]
      rw [this, cond_true]
      simp [fz, h0]
theorem nfirst_eq {n : Nat} (xs : List Int) (hx : xs.length ≤ 1000) (hn : 1001 ≤ n) : numeric_first.F n (xs.map vi) = some (fz xs) := by
  unfold numeric_first.F numeric_first.e
  rw [List.length_map]
  exact nfirst_l n xs hx xs.length 0 n (by omega) (by omega)
theorem nfirst2 {n : Nat} (hn : 1001 ≤ n) (a b : Int) : numeric_first.F n [vi a, vi b] = some (if a ≠ 0 then a else b) := by
  have := nfirst_eq (n := n) [a, b] (by simp) hn
  rw [show ([a, b] : List Int).map vi = [vi a, vi b] from rfl] at this
  rw [this]
  by_cases h : a = 0 <;> by_cases h2 : b = 0 <;> simp [fz, h, h2]
theorem beq_int (a b : Int) : (a == b) = decide (a = b) := rfl
theorem r13_eq {n : Nat} (hn : 1001 ≤ n) (c : Bool → Bool → Option Int) (x y : Bool) : numeric_CheckType.r13 n c some x y = some (if !x then 18 else if !y then 3 else 0) := by
  unfold numeric_CheckType.r13
  rw [ncond_eq, Option.bind_some, ncond_eq, Option.bind_some, nfirst2 hn, Option.bind_some]
  cases x <;> cases y <;> rfl
/-- The kind with a letter. -/
def kd (c : UInt8) : Int := Lib.indexByte [65, 80, 83, 66] c
theorem empty_eq (l : List UInt8) : ((bs l).toList == (⟨#[]⟩ : ByteArray).toList) = decide (l = []) := by
  rw [bs_toList, show (⟨#[]⟩ : ByteArray).toList = ([] : List UInt8) from bs_toList []]
  cases l <;> rfl
end Go.Proofs.YtmpglmcjoelciaaGreatDoor.Ev

/- P25.1, types: the type with a text and the text of a type are as specified. -/
namespace Go.Proofs.YtmpglmcjoelciaaGreatDoor.Ev
open Go Go.Proofs Go.Proofs.Ev
set_option linter.unusedVariables false
theorem decS {k : Nat} (h : ¬ k < 10) : Lib.decDigits k = Lib.decDigits (k / 10) ++ [UInt8.ofNat (48 + k % 10)] := by rw [Lib.decDigits, dif_neg h]
theorem awake_eq (n : Nat) : midrangelaw25_awake.F n = some true := rfl
end Go.Proofs.YtmpglmcjoelciaaGreatDoor.Ev

/- midrange/dds.isWritable, out of its evaluation. Printed by the session's own program. -/
namespace Go.Proofs.YtmpglmcjoelciaaGreatDoor.Ev
open Go Go.Proofs Go.Proofs.Ev
set_option linter.unusedVariables false
set_option maxRecDepth 100000
/-! midrange/dds.isWritable: function 46 -/
noncomputable def dds_isWritable.r2 {R : Type} (n : Nat) (c2 : Int → Int → List AV → Option R) (k : Bool → Option R) (z1 : Int) (z2 : Int) (z3 : List AV) : Option R :=
  bif decide (z2 < z1) then (bif decide ((0 : Int) ≤ z2) && decide (z2 < ((z3.length : Nat) : Int)) then (withCons ((z3.getD ((z2).toNat) .undef).cells) fun h2 r3 =>
  withInt .u8 h2 fun x4 =>
  bif decide (x4 < 32) then (k false) else (bif decide (x4 > 126) then (k false) else (c2 z1 (IntKind.i64.wrap (z2 + 1)) z3))) else none) else (k true)
noncomputable def dds_isWritable.e {R : Type} (n : Nat) (c2 : Int → Int → List AV → Option R) (k : Bool → Option R) (a0 : ByteArray) : Option R :=
  let y1 : List AV := a0.toList.map fun b => vu b.toNat
  c2 ((y1.length : Nat) : Int) 0 y1
noncomputable def dds_isWritable.C {R : Type} (n : Nat) (f : FuncId) (xs : List AV) : (AV → Option R) → Option R :=
  fun _ => none
theorem dds_isWritable.tells {R : Type} (n : Nat) : Tells (R := R) Tryz.prog (dds_isWritable.C n) := fun _ xs => Tells1.none
noncomputable def dds_isWritable.cut (r : Nat) : Option Keep := match r with | 2 => Option.some ⟨[6, 7, 8], []⟩ | _ => none
noncomputable def dds_isWritable.t2 : List Item := (todoOf 2 1000 [.code (Tryz.f46.body.getD .skip)]).getD []
noncomputable def dds_isWritable.s2 (z1 : Int) (z2 : Int) (z3 : List AV) : St := ⟨[.undef, .undef, .undef, .undef, .undef, .undef, .own 0 0 none, vi z1, vi z2, .undef, .undef, .undef, .undef, .undef, .undef, .undef, .undef, .undef, .undef], Mem.ofList [.row ⟨true, 5⟩ 1 z3], 1⟩
theorem dds_isWritable.e_eq {R : Type} (n : Nat) (rec : List Item → St → Option R) (K : AV → Option R) (a0 : ByteArray) :
    goK G (dds_isWritable.C n) dds_isWritable.cut (fun S => finK G Tryz.f46.resultTypes.toList Tryz.f46.results.toList S K) rec 1000 [.code (Tryz.f46.body.getD .skip)] (Ev.start Tryz.f46 [vs a0]) = dds_isWritable.e n (fun z1 z2 z3 => rec dds_isWritable.t2 (dds_isWritable.s2 z1 z2 z3)) (fun p => K (vb p)) a0 := by kernel_rfl
theorem dds_isWritable.r2_eq {R : Type} (n : Nat) (rec : List Item → St → Option R) (K : AV → Option R) (z1 : Int) (z2 : Int) (z3 : List AV) :
    atK G (dds_isWritable.C n) dds_isWritable.cut (fun S => finK G Tryz.f46.resultTypes.toList Tryz.f46.results.toList S K) rec dds_isWritable.t2 (dds_isWritable.s2 z1 z2 z3) = dds_isWritable.r2 n (fun z1 z2 z3 => rec dds_isWritable.t2 (dds_isWritable.s2 z1 z2 z3)) (fun p => K (vb p)) z1 z2 z3 := by kernel_rfl
noncomputable def dds_isWritable.l (n : Nat) : Nat → (Int → Int → List AV → Option (Bool))
  | 0 => (fun _ _ _ => none)
  | m + 1 => dds_isWritable.r2 n (dds_isWritable.l n m) Option.some
noncomputable def dds_isWritable.F (n : Nat) (a0 : ByteArray) : Option (Bool) := dds_isWritable.e n (dds_isWritable.l n n) Option.some a0
noncomputable def dds_isWritable.dec (x : AV) : Option (Bool) := match x with | .v (.bool p0) => Option.some p0 | _ => none
theorem dds_isWritable.dec_inv {p : Bool} (y : AV) (h : dds_isWritable.dec y = some p) : y = vb p := by
  unfold dds_isWritable.dec at h
  split at h
  · cases h; rfl
  · cases h
theorem dds_isWritable.l_eq (n m : Nat) : (∀ (z1 : Int) (z2 : Int) (z3 : List AV), runK G (dds_isWritable.C n) dds_isWritable.cut (fun S => finK G Tryz.f46.resultTypes.toList Tryz.f46.results.toList S dds_isWritable.dec) m dds_isWritable.t2 (dds_isWritable.s2 z1 z2 z3) = (dds_isWritable.l n m) z1 z2 z3) := by
  induction m with
  | zero => exact fun z1 z2 z3 => rfl
  | succ m ih =>
    have h2 := ih
    have e2 : (fun (z1 : Int) (z2 : Int) (z3 : List AV) => runK G (dds_isWritable.C n) dds_isWritable.cut (fun S => finK G Tryz.f46.resultTypes.toList Tryz.f46.results.toList S dds_isWritable.dec) m dds_isWritable.t2 (dds_isWritable.s2 z1 z2 z3)) = (dds_isWritable.l n m) := by funext z1 z2 z3; exact h2 z1 z2 z3
    have q2 : ∀ (z1 : Int) (z2 : Int) (z3 : List AV), runK G (dds_isWritable.C n) dds_isWritable.cut (fun S => finK G Tryz.f46.resultTypes.toList Tryz.f46.results.toList S dds_isWritable.dec) (m + 1) dds_isWritable.t2 (dds_isWritable.s2 z1 z2 z3) = (dds_isWritable.l n (m + 1)) z1 z2 z3 := by
      intro z1 z2 z3
      rw [runK_succ]
      refine (dds_isWritable.r2_eq n _ dds_isWritable.dec z1 z2 z3).trans ?_
      rw [e2]
      rfl
    exact q2
theorem dds_isWritable.hands (n : Nat) (a0 : ByteArray) {p : Bool} (h : dds_isWritable.F n a0 = some p) : HandsIn Tryz.prog 46 [vs a0] (vb p) := by
  refine hands_of cfg mixed (fun _ => rfl) rfl (dds_isWritable.tells n) (fn := Tryz.f46) Tryz.func46 (by kernel_rfl) (by kernel_rfl) (cut := dds_isWritable.cut) (K := dds_isWritable.dec) (r := p) (n := n) dds_isWritable.dec_inv ?_
  rw [funK_getD (by kernel_rfl)]
  have h1 := dds_isWritable.e_eq n (runK G (dds_isWritable.C n) dds_isWritable.cut (fun S => finK G Tryz.f46.resultTypes.toList Tryz.f46.results.toList S dds_isWritable.dec) n) dds_isWritable.dec a0
  have hl := dds_isWritable.l_eq n n
  simp only [hl] at h1
  exact h1.trans h
noncomputable def dds_isWritable.via {R : Type} (n : Nat) (xs : List AV) : (AV → Option R) → Option R := match xs with | [.v (.string a0)] => fun K => (dds_isWritable.F n a0).bind fun p => K (vb p) | _ => fun _ => none
theorem dds_isWritable.tells1 {R : Type} (n : Nat) (xs : List AV) : Tells1 (R := R) Tryz.prog 46 xs (dds_isWritable.via n xs) := by
  unfold dds_isWritable.via
  split
  · exact Tells1.of (fun p hp => (dds_isWritable.hands n _ hp).hands rfl)
  · exact Tells1.none
end Go.Proofs.YtmpglmcjoelciaaGreatDoor.Ev

/- midrange/dds.quoted, out of its evaluation. Printed by the session's own program. -/
namespace Go.Proofs.YtmpglmcjoelciaaGreatDoor.Ev
open Go Go.Proofs Go.Proofs.Ev
set_option linter.unusedVariables false
set_option maxRecDepth 100000
/-! midrange/dds.quoted: function 97 -/
noncomputable def dds_quoted.r2 {R : Type} (n : Nat) (c2 : ByteArray → Int → Option R) (k : Int → Option R) (z1 : ByteArray) (z2 : Int) : Option R :=
  let y1 : Bool := decide (z2 < ((z1.size : Nat) : Int))
  bif y1 then (bif decide ((0 : Int) ≤ z2) && decide (z2 < ((z1.size : Nat) : Int)) then (let y2 : Int := (((z1.data.getD ((z2).toNat) 0).toNat : Nat) : Int)
  bif y2 != 39 then (c2 z1 (IntKind.i64.wrap (z2 + 1))) else (let y3 : Bool := decide ((IntKind.i64.wrap (z2 + 1)) < ((z1.size : Nat) : Int))
  bif y3 then (bif decide ((0 : Int) ≤ IntKind.i64.wrap (z2 + 1)) && decide (IntKind.i64.wrap (z2 + 1) < ((z1.size : Nat) : Int)) then (let y4 : Int := (((z1.data.getD ((IntKind.i64.wrap (z2 + 1)).toNat) 0).toNat : Nat) : Int)
  bif y4 == 39 then (let y5 : Int := IntKind.i64.wrap ((IntKind.i64.wrap (z2 + 1)) + 1)
  c2 z1 y5) else (k (IntKind.i64.wrap (z2 + 1)))) else none) else (k (IntKind.i64.wrap (z2 + 1))))) else none) else (k 0)
noncomputable def dds_quoted.e {R : Type} (n : Nat) (c2 : ByteArray → Int → Option R) (k : Int → Option R) (a0 : ByteArray) : Option R :=
  c2 a0 1
noncomputable def dds_quoted.C {R : Type} (n : Nat) (f : FuncId) (xs : List AV) : (AV → Option R) → Option R :=
  fun _ => none
theorem dds_quoted.tells {R : Type} (n : Nat) : Tells (R := R) Tryz.prog (dds_quoted.C n) := fun _ xs => Tells1.none
noncomputable def dds_quoted.cut (r : Nat) : Option Keep := match r with | 2 => Option.some ⟨[0, 3], []⟩ | _ => none
noncomputable def dds_quoted.t2 : List Item := (todoOf 2 1000 [.code (Tryz.f97.body.getD .skip)]).getD []
noncomputable def dds_quoted.s2 (z1 : ByteArray) (z2 : Int) : St := ⟨[vs z1, .undef, .undef, vi z2, .undef, .undef, .undef, .undef, .undef, .undef, .undef, .undef, .undef, .undef, .undef, .undef, .undef, .undef, .undef, .undef, .undef, .undef, .undef, .undef, .undef, .undef, .undef, .undef, .undef, .undef, .undef, .undef], Mem.ofList [], 0⟩
theorem dds_quoted.e_eq {R : Type} (n : Nat) (rec : List Item → St → Option R) (K : AV → Option R) (a0 : ByteArray) :
    goK G (dds_quoted.C n) dds_quoted.cut (fun S => finK G Tryz.f97.resultTypes.toList Tryz.f97.results.toList S K) rec 1000 [.code (Tryz.f97.body.getD .skip)] (Ev.start Tryz.f97 [vs a0]) = dds_quoted.e n (fun z1 z2 => rec dds_quoted.t2 (dds_quoted.s2 z1 z2)) (fun p => K (vi p)) a0 := by kernel_rfl
theorem dds_quoted.r2_eq {R : Type} (n : Nat) (rec : List Item → St → Option R) (K : AV → Option R) (z1 : ByteArray) (z2 : Int) :
    atK G (dds_quoted.C n) dds_quoted.cut (fun S => finK G Tryz.f97.resultTypes.toList Tryz.f97.results.toList S K) rec dds_quoted.t2 (dds_quoted.s2 z1 z2) = dds_quoted.r2 n (fun z1 z2 => rec dds_quoted.t2 (dds_quoted.s2 z1 z2)) (fun p => K (vi p)) z1 z2 := by kernel_rfl
noncomputable def dds_quoted.l (n : Nat) : Nat → (ByteArray → Int → Option (Int))
  | 0 => (fun _ _ => none)
  | m + 1 => dds_quoted.r2 n (dds_quoted.l n m) Option.some
noncomputable def dds_quoted.F (n : Nat) (a0 : ByteArray) : Option (Int) := dds_quoted.e n (dds_quoted.l n n) Option.some a0
noncomputable def dds_quoted.dec (x : AV) : Option (Int) := match x with | .v (.int .i64 p0) => Option.some p0 | _ => none
theorem dds_quoted.dec_inv {p : Int} (y : AV) (h : dds_quoted.dec y = some p) : y = vi p := by
  unfold dds_quoted.dec at h
  split at h
  · cases h; rfl
  · cases h
theorem dds_quoted.l_eq (n m : Nat) : (∀ (z1 : ByteArray) (z2 : Int), runK G (dds_quoted.C n) dds_quoted.cut (fun S => finK G Tryz.f97.resultTypes.toList Tryz.f97.results.toList S dds_quoted.dec) m dds_quoted.t2 (dds_quoted.s2 z1 z2) = (dds_quoted.l n m) z1 z2) := by
  induction m with
  | zero => exact fun z1 z2 => rfl
  | succ m ih =>
    have h2 := ih
    have e2 : (fun (z1 : ByteArray) (z2 : Int) => runK G (dds_quoted.C n) dds_quoted.cut (fun S => finK G Tryz.f97.resultTypes.toList Tryz.f97.results.toList S dds_quoted.dec) m dds_quoted.t2 (dds_quoted.s2 z1 z2)) = (dds_quoted.l n m) := by funext z1 z2; exact h2 z1 z2
    have q2 : ∀ (z1 : ByteArray) (z2 : Int), runK G (dds_quoted.C n) dds_quoted.cut (fun S => finK G Tryz.f97.resultTypes.toList Tryz.f97.results.toList S dds_quoted.dec) (m + 1) dds_quoted.t2 (dds_quoted.s2 z1 z2) = (dds_quoted.l n (m + 1)) z1 z2 := by
      intro z1 z2
      rw [runK_succ]
      refine (dds_quoted.r2_eq n _ dds_quoted.dec z1 z2).trans ?_
      rw [e2]
      rfl
    exact q2
theorem dds_quoted.hands (n : Nat) (a0 : ByteArray) {p : Int} (h : dds_quoted.F n a0 = some p) : HandsIn Tryz.prog 97 [vs a0] (vi p) := by
  refine hands_of cfg mixed (fun _ => rfl) rfl (dds_quoted.tells n) (fn := Tryz.f97) Tryz.func97 (by kernel_rfl) (by kernel_rfl) (cut := dds_quoted.cut) (K := dds_quoted.dec) (r := p) (n := n) dds_quoted.dec_inv ?_
  rw [funK_getD (by kernel_rfl)]
  have h1 := dds_quoted.e_eq n (runK G (dds_quoted.C n) dds_quoted.cut (fun S => finK G Tryz.f97.resultTypes.toList Tryz.f97.results.toList S dds_quoted.dec) n) dds_quoted.dec a0
  have hl := dds_quoted.l_eq n n
  simp only [hl] at h1
  exact h1.trans h
noncomputable def dds_quoted.via {R : Type} (n : Nat) (xs : List AV) : (AV → Option R) → Option R := match xs with | [.v (.string a0)] => fun K => (dds_quoted.F n a0).bind fun p => K (vi p) | _ => fun _ => none
theorem dds_quoted.tells1 {R : Type} (n : Nat) (xs : List AV) : Tells1 (R := R) Tryz.prog 97 xs (dds_quoted.via n xs) := by
  unfold dds_quoted.via
  split
  · exact Tells1.of (fun p hp => (dds_quoted.hands n _ hp).hands rfl)
  · exact Tells1.none
end Go.Proofs.YtmpglmcjoelciaaGreatDoor.Ev

/- strings.Contains, out of its evaluation. Printed by the session's own program. -/
namespace Go.Proofs.YtmpglmcjoelciaaGreatDoor.Ev
open Go Go.Proofs Go.Proofs.Ev
set_option linter.unusedVariables false
set_option maxRecDepth 100000
/-! strings.Contains: function 98 -/
noncomputable def strings_Contains.e {R : Type} (n : Nat)  (k : Bool → Option R) (a0 : ByteArray) (a1 : ByteArray) : Option R :=
  (strings_Index.F n a0 a1).bind fun p1 =>
  k (decide (p1 ≥ 0))
noncomputable def strings_Contains.C {R : Type} (n : Nat) (f : FuncId) (xs : List AV) : (AV → Option R) → Option R :=
  bif Nat.beq f 106 then strings_Index.via n xs else fun _ => none
theorem strings_Contains.tells {R : Type} (n : Nat) : Tells (R := R) Tryz.prog (strings_Contains.C n) := fun _ xs => tells_at (strings_Index.tells1 n xs) (Tells1.none)
noncomputable def strings_Contains.cut (r : Nat) : Option Keep := match r with  | _ => none
theorem strings_Contains.e_eq {R : Type} (n : Nat) (rec : List Item → St → Option R) (K : AV → Option R) (a0 : ByteArray) (a1 : ByteArray) :
    goK G (strings_Contains.C n) strings_Contains.cut (fun S => finK G Tryz.f98.resultTypes.toList Tryz.f98.results.toList S K) rec 1000 [.code (Tryz.f98.body.getD .skip)] (Ev.start Tryz.f98 [vs a0, vs a1]) = strings_Contains.e n  (fun p => K (vb p)) a0 a1 := by kernel_rfl
noncomputable def strings_Contains.F (n : Nat) (a0 : ByteArray) (a1 : ByteArray) : Option (Bool) := strings_Contains.e n  Option.some a0 a1
noncomputable def strings_Contains.dec (x : AV) : Option (Bool) := match x with | .v (.bool p0) => Option.some p0 | _ => none
theorem strings_Contains.dec_inv {p : Bool} (y : AV) (h : strings_Contains.dec y = some p) : y = vb p := by
  unfold strings_Contains.dec at h
  split at h
  · cases h; rfl
  · cases h
theorem strings_Contains.hands (n : Nat) (a0 : ByteArray) (a1 : ByteArray) {p : Bool} (h : strings_Contains.F n a0 a1 = some p) : HandsIn Tryz.prog 98 [vs a0, vs a1] (vb p) := by
  refine hands_of cfg mixed (fun _ => rfl) rfl (strings_Contains.tells n) (fn := Tryz.f98) Tryz.func98 (by kernel_rfl) (by kernel_rfl) (cut := strings_Contains.cut) (K := strings_Contains.dec) (r := p) (n := n) strings_Contains.dec_inv ?_
  rw [funK_getD (by kernel_rfl)]
  have h1 := strings_Contains.e_eq n (runK G (strings_Contains.C n) strings_Contains.cut (fun S => finK G Tryz.f98.resultTypes.toList Tryz.f98.results.toList S strings_Contains.dec) n) strings_Contains.dec a0 a1
  exact h1.trans h
noncomputable def strings_Contains.via {R : Type} (n : Nat) (xs : List AV) : (AV → Option R) → Option R := match xs with | [.v (.string a0), .v (.string a1)] => fun K => (strings_Contains.F n a0 a1).bind fun p => K (vb p) | _ => fun _ => none
theorem strings_Contains.tells1 {R : Type} (n : Nat) (xs : List AV) : Tells1 (R := R) Tryz.prog 98 xs (strings_Contains.via n xs) := by
  unfold strings_Contains.via
  split
  · exact Tells1.of (fun p hp => (strings_Contains.hands n _ _ hp).hands rfl)
  · exact Tells1.none
end Go.Proofs.YtmpglmcjoelciaaGreatDoor.Ev

/- midrange/dds.word, out of its evaluation. Printed by the session's own program. -/
namespace Go.Proofs.YtmpglmcjoelciaaGreatDoor.Ev
open Go Go.Proofs Go.Proofs.Ev
set_option linter.unusedVariables false
set_option maxRecDepth 100000
/-! midrange/dds.word: function 47 -/
noncomputable def dds_word.r8 {R : Type} (n : Nat) (c8 : Int → Option R) (k : Int → Option R) (z1 : Int) : Option R :=
  k z1
noncomputable def dds_word.e {R : Type} (n : Nat) (c8 : Int → Option R) (k : Int → Option R) (a0 : ByteArray) : Option R :=
  (strings_IndexByte.F n a0 32).bind fun p1 =>
  bif decide (p1 < 0) then (bif decide ((0 : Int) < (a0.size : Nat)) then (let y2 : Int := (((a0.data.getD 0 0).toNat : Nat) : Int)
  bif y2 == 39 then ((dds_quoted.F n a0).bind fun p3 =>
  let y4 : Bool := decide (p3 < ((a0.size : Nat) : Int))
  bif y4 then (bif decide ((0 : Int) ≤ p3) && decide (p3 < ((a0.size : Nat) : Int)) then (let y5 : Int := (((a0.data.getD ((p3).toNat) 0).toNat : Nat) : Int)
  bif y5 != 32 then (k 0) else (c8 p3)) else none) else (c8 p3)) else (bif decide ((0 : Int) ≤ ((a0.size : Nat) : Int)) && decide ((((a0.size : Nat) : Int) : Int) ≤ ((a0.size : Nat) : Int)) then (let y6 : ByteArray := a0.extract 0 (((a0.size : Nat) : Int)).toNat
  (strings_Contains.F n y6 (⟨#[39]⟩ : ByteArray)).bind fun p7 =>
  bif p7 then (k 0) else (k ((a0.size : Nat) : Int))) else none)) else none) else (bif decide ((0 : Int) < (a0.size : Nat)) then (let y8 : Int := (((a0.data.getD 0 0).toNat : Nat) : Int)
  bif y8 == 39 then ((dds_quoted.F n a0).bind fun p9 =>
  let y10 : Bool := decide (p9 < ((a0.size : Nat) : Int))
  bif y10 then (bif decide ((0 : Int) ≤ p9) && decide (p9 < ((a0.size : Nat) : Int)) then (let y11 : Int := (((a0.data.getD ((p9).toNat) 0).toNat : Nat) : Int)
  bif y11 != 32 then (k 0) else (c8 p9)) else none) else (c8 p9)) else (bif decide ((0 : Int) ≤ p1) && decide ((p1 : Int) ≤ ((a0.size : Nat) : Int)) then ((strings_Contains.F n (a0.extract 0 (p1).toNat) (⟨#[39]⟩ : ByteArray)).bind fun p12 =>
  bif p12 then (k 0) else (k p1)) else none)) else none)
noncomputable def dds_word.C {R : Type} (n : Nat) (f : FuncId) (xs : List AV) : (AV → Option R) → Option R :=
  bif Nat.beq f 96 then strings_IndexByte.via n xs else bif Nat.beq f 97 then dds_quoted.via n xs else bif Nat.beq f 98 then strings_Contains.via n xs else fun _ => none
theorem dds_word.tells {R : Type} (n : Nat) : Tells (R := R) Tryz.prog (dds_word.C n) := fun _ xs => tells_at (strings_IndexByte.tells1 n xs) (tells_at (dds_quoted.tells1 n xs) (tells_at (strings_Contains.tells1 n xs) (Tells1.none)))
noncomputable def dds_word.cut (r : Nat) : Option Keep := match r with | 8 => Option.some ⟨[3], []⟩ | _ => none
noncomputable def dds_word.t8 : List Item := (todoOf 8 1000 [.code (Tryz.f47.body.getD .skip)]).getD []
noncomputable def dds_word.s8 (z1 : Int) : St := ⟨[.undef, .undef, .undef, vi z1, .undef, .undef, .undef, .undef, .undef, .undef, .undef, .undef, .undef, .undef, .undef, .undef, .undef, .undef, .undef, .undef, .undef, .undef, .undef, .undef, .undef, .undef, .undef, .undef, .undef, .undef, .undef], Mem.ofList [], 0⟩
theorem dds_word.e_eq {R : Type} (n : Nat) (rec : List Item → St → Option R) (K : AV → Option R) (a0 : ByteArray) :
    goK G (dds_word.C n) dds_word.cut (fun S => finK G Tryz.f47.resultTypes.toList Tryz.f47.results.toList S K) rec 1000 [.code (Tryz.f47.body.getD .skip)] (Ev.start Tryz.f47 [vs a0]) = dds_word.e n (fun z1 => rec dds_word.t8 (dds_word.s8 z1)) (fun p => K (vi p)) a0 := by kernel_rfl
theorem dds_word.r8_eq {R : Type} (n : Nat) (rec : List Item → St → Option R) (K : AV → Option R) (z1 : Int) :
    atK G (dds_word.C n) dds_word.cut (fun S => finK G Tryz.f47.resultTypes.toList Tryz.f47.results.toList S K) rec dds_word.t8 (dds_word.s8 z1) = dds_word.r8 n (fun z1 => rec dds_word.t8 (dds_word.s8 z1)) (fun p => K (vi p)) z1 := by kernel_rfl
noncomputable def dds_word.l (n : Nat) : Nat → (Int → Option (Int))
  | 0 => (fun _ => none)
  | m + 1 => dds_word.r8 n (dds_word.l n m) Option.some
noncomputable def dds_word.F (n : Nat) (a0 : ByteArray) : Option (Int) := dds_word.e n (dds_word.l n n) Option.some a0
noncomputable def dds_word.dec (x : AV) : Option (Int) := match x with | .v (.int .i64 p0) => Option.some p0 | _ => none
theorem dds_word.dec_inv {p : Int} (y : AV) (h : dds_word.dec y = some p) : y = vi p := by
  unfold dds_word.dec at h
  split at h
  · cases h; rfl
  · cases h
theorem dds_word.l_eq (n m : Nat) : (∀ (z1 : Int), runK G (dds_word.C n) dds_word.cut (fun S => finK G Tryz.f47.resultTypes.toList Tryz.f47.results.toList S dds_word.dec) m dds_word.t8 (dds_word.s8 z1) = (dds_word.l n m) z1) := by
  induction m with
  | zero => exact fun z1 => rfl
  | succ m ih =>
    have h8 := ih
    have e8 : (fun (z1 : Int) => runK G (dds_word.C n) dds_word.cut (fun S => finK G Tryz.f47.resultTypes.toList Tryz.f47.results.toList S dds_word.dec) m dds_word.t8 (dds_word.s8 z1)) = (dds_word.l n m) := by funext z1; exact h8 z1
    have q8 : ∀ (z1 : Int), runK G (dds_word.C n) dds_word.cut (fun S => finK G Tryz.f47.resultTypes.toList Tryz.f47.results.toList S dds_word.dec) (m + 1) dds_word.t8 (dds_word.s8 z1) = (dds_word.l n (m + 1)) z1 := by
      intro z1
      rw [runK_succ]
      refine (dds_word.r8_eq n _ dds_word.dec z1).trans ?_
      rw [e8]
      rfl
    exact q8
theorem dds_word.hands (n : Nat) (a0 : ByteArray) {p : Int} (h : dds_word.F n a0 = some p) : HandsIn Tryz.prog 47 [vs a0] (vi p) := by
  refine hands_of cfg mixed (fun _ => rfl) rfl (dds_word.tells n) (fn := Tryz.f47) Tryz.func47 (by kernel_rfl) (by kernel_rfl) (cut := dds_word.cut) (K := dds_word.dec) (r := p) (n := n) dds_word.dec_inv ?_
  rw [funK_getD (by kernel_rfl)]
  have h1 := dds_word.e_eq n (runK G (dds_word.C n) dds_word.cut (fun S => finK G Tryz.f47.resultTypes.toList Tryz.f47.results.toList S dds_word.dec) n) dds_word.dec a0
  have hl := dds_word.l_eq n n
  simp only [hl] at h1
  exact h1.trans h
noncomputable def dds_word.via {R : Type} (n : Nat) (xs : List AV) : (AV → Option R) → Option R := match xs with | [.v (.string a0)] => fun K => (dds_word.F n a0).bind fun p => K (vi p) | _ => fun _ => none
theorem dds_word.tells1 {R : Type} (n : Nat) (xs : List AV) : Tells1 (R := R) Tryz.prog 47 xs (dds_word.via n xs) := by
  unfold dds_word.via
  split
  · exact Tells1.of (fun p hp => (dds_word.hands n _ hp).hands rfl)
  · exact Tells1.none
end Go.Proofs.YtmpglmcjoelciaaGreatDoor.Ev

/- midrange/dds.WordsOf, out of its evaluation. Printed by the session's own program. -/
namespace Go.Proofs.YtmpglmcjoelciaaGreatDoor.Ev
open Go Go.Proofs Go.Proofs.Ev
set_option linter.unusedVariables false
set_option maxRecDepth 100000
/-! midrange/dds.WordsOf: function 13 -/
noncomputable def dds_WordsOf.r5 {R : Type} (n : Nat) (c5 : ByteArray → List AV → Option R) (k : List AV × Int → Option R) (z1 : ByteArray) (z2 : List AV) : Option R :=
  let y6 : Bool := !(z1.toList == (⟨#[]⟩ : ByteArray).toList)
  bif y6 then ((dds_word.F n z1).bind fun p7 =>
  bif p7 == 0 then (k ([], 8)) else (bif decide ((0 : Int) ≤ p7) && decide ((p7 : Int) ≤ ((z1.size : Nat) : Int)) then (let y8 : List AV := [vs (z1.extract 0 (p7).toNat)]
  bif decide (z2.length + y8.length ≤ most) then (let y9 : Bool := p7 == ((z1.size : Nat) : Int)
  bif y9 then (k (z2 ++ y8, 0)) else (bif decide ((0 : Int) ≤ IntKind.i64.wrap (p7 + 1)) && decide ((IntKind.i64.wrap (p7 + 1) : Int) ≤ ((z1.size : Nat) : Int)) then (let y10 : ByteArray := z1.extract (IntKind.i64.wrap (p7 + 1)).toNat z1.size
  let y11 : Bool := y10.toList == (⟨#[]⟩ : ByteArray).toList
  bif y11 then (k ([], 8)) else (c5 y10 (z2 ++ y8))) else none)) else none) else none)) else (k (z2, 0))
noncomputable def dds_WordsOf.e {R : Type} (n : Nat) (c5 : ByteArray → List AV → Option R) (k : List AV × Int → Option R) (a0 : ByteArray) : Option R :=
  let y1 : Bool := decide (((a0.size : Nat) : Int) > 240)
  (dds_cond.F n y1 2).bind fun p2 =>
  (dds_isWritable.F n a0).bind fun p3 =>
  (dds_cond.F n (!p3) 8).bind fun p4 =>
  (dds_first.F n [vi p2, vi p4]).bind fun p5 =>
  bif p5 != 0 then (k ([], p5)) else (c5 a0 [])
noncomputable def dds_WordsOf.C {R : Type} (n : Nat) (f : FuncId) (xs : List AV) : (AV → Option R) → Option R :=
  bif Nat.beq f 44 then dds_first.via n xs else bif Nat.beq f 45 then dds_cond.via n xs else bif Nat.beq f 46 then dds_isWritable.via n xs else bif Nat.beq f 47 then dds_word.via n xs else fun _ => none
theorem dds_WordsOf.tells {R : Type} (n : Nat) : Tells (R := R) Tryz.prog (dds_WordsOf.C n) := fun _ xs => tells_at (dds_first.tells1 n xs) (tells_at (dds_cond.tells1 n xs) (tells_at (dds_isWritable.tells1 n xs) (tells_at (dds_word.tells1 n xs) (Tells1.none))))
noncomputable def dds_WordsOf.cut (r : Nat) : Option Keep := match r with | 5 => Option.some ⟨[0, 5], [(5, none, ⟨true, 9⟩, 1)]⟩ | _ => none
noncomputable def dds_WordsOf.t5 : List Item := (todoOf 5 1000 [.code (Tryz.f13.body.getD .skip)]).getD []
noncomputable def dds_WordsOf.s5 (z1 : ByteArray) (z2 : List AV) : St := ⟨[vs z1, .undef, .undef, .undef, .undef, .own 0 0 none, .undef, .undef, .undef, .undef, .undef, .undef, .undef, .undef, .undef, .undef, .undef, .undef, .undef, .undef, .undef, .undef, .undef, .undef, .undef, .undef, .undef, .undef, .undef, .undef, .undef, .undef, .undef, .undef, .undef, .undef, .undef, .undef, .undef, .undef, .undef, .undef, .undef], Mem.ofList [.row ⟨true, 9⟩ 1 z2], 1⟩
theorem dds_WordsOf.e_eq {R : Type} (n : Nat) (rec : List Item → St → Option R) (K : AV → Option R) (a0 : ByteArray) :
    goK G (dds_WordsOf.C n) dds_WordsOf.cut (fun S => finK G Tryz.f13.resultTypes.toList Tryz.f13.results.toList S K) rec 1000 [.code (Tryz.f13.body.getD .skip)] (Ev.start Tryz.f13 [vs a0]) = dds_WordsOf.e n (fun z1 z2 => rec dds_WordsOf.t5 (dds_WordsOf.s5 z1 z2)) (fun p => K (.tup [.fr ⟨true, 9⟩ 1 p.1, vi p.2])) a0 := by kernel_rfl
theorem dds_WordsOf.r5_eq {R : Type} (n : Nat) (rec : List Item → St → Option R) (K : AV → Option R) (z1 : ByteArray) (z2 : List AV) :
    atK G (dds_WordsOf.C n) dds_WordsOf.cut (fun S => finK G Tryz.f13.resultTypes.toList Tryz.f13.results.toList S K) rec dds_WordsOf.t5 (dds_WordsOf.s5 z1 z2) = dds_WordsOf.r5 n (fun z1 z2 => rec dds_WordsOf.t5 (dds_WordsOf.s5 z1 z2)) (fun p => K (.tup [.fr ⟨true, 9⟩ 1 p.1, vi p.2])) z1 z2 := by kernel_rfl
noncomputable def dds_WordsOf.l (n : Nat) : Nat → (ByteArray → List AV → Option (List AV × Int))
  | 0 => (fun _ _ => none)
  | m + 1 => dds_WordsOf.r5 n (dds_WordsOf.l n m) Option.some
noncomputable def dds_WordsOf.F (n : Nat) (a0 : ByteArray) : Option (List AV × Int) := dds_WordsOf.e n (dds_WordsOf.l n n) Option.some a0
noncomputable def dds_WordsOf.dec (x : AV) : Option (List AV × Int) := match x with | .tup [.fr ⟨true, 9⟩ 1 p0, .v (.int .i64 p1)] => Option.some (p0, p1) | _ => none
theorem dds_WordsOf.dec_inv {p : List AV × Int} (y : AV) (h : dds_WordsOf.dec y = some p) : y = .tup [.fr ⟨true, 9⟩ 1 p.1, vi p.2] := by
  unfold dds_WordsOf.dec at h
  split at h
  · cases h; rfl
  · cases h
theorem dds_WordsOf.l_eq (n m : Nat) : (∀ (z1 : ByteArray) (z2 : List AV), runK G (dds_WordsOf.C n) dds_WordsOf.cut (fun S => finK G Tryz.f13.resultTypes.toList Tryz.f13.results.toList S dds_WordsOf.dec) m dds_WordsOf.t5 (dds_WordsOf.s5 z1 z2) = (dds_WordsOf.l n m) z1 z2) := by
  induction m with
  | zero => exact fun z1 z2 => rfl
  | succ m ih =>
    have h5 := ih
    have e5 : (fun (z1 : ByteArray) (z2 : List AV) => runK G (dds_WordsOf.C n) dds_WordsOf.cut (fun S => finK G Tryz.f13.resultTypes.toList Tryz.f13.results.toList S dds_WordsOf.dec) m dds_WordsOf.t5 (dds_WordsOf.s5 z1 z2)) = (dds_WordsOf.l n m) := by funext z1 z2; exact h5 z1 z2
    have q5 : ∀ (z1 : ByteArray) (z2 : List AV), runK G (dds_WordsOf.C n) dds_WordsOf.cut (fun S => finK G Tryz.f13.resultTypes.toList Tryz.f13.results.toList S dds_WordsOf.dec) (m + 1) dds_WordsOf.t5 (dds_WordsOf.s5 z1 z2) = (dds_WordsOf.l n (m + 1)) z1 z2 := by
      intro z1 z2
      rw [runK_succ]
      refine (dds_WordsOf.r5_eq n _ dds_WordsOf.dec z1 z2).trans ?_
      rw [e5]
      rfl
    exact q5
theorem dds_WordsOf.hands (n : Nat) (a0 : ByteArray) {p : List AV × Int} (h : dds_WordsOf.F n a0 = some p) : HandsIn Tryz.prog 13 [vs a0] (.tup [.fr ⟨true, 9⟩ 1 p.1, vi p.2]) := by
  refine hands_of cfg mixed (fun _ => rfl) rfl (dds_WordsOf.tells n) (fn := Tryz.f13) Tryz.func13 (by kernel_rfl) (by kernel_rfl) (cut := dds_WordsOf.cut) (K := dds_WordsOf.dec) (r := p) (n := n) dds_WordsOf.dec_inv ?_
  rw [funK_getD (by kernel_rfl)]
  have h1 := dds_WordsOf.e_eq n (runK G (dds_WordsOf.C n) dds_WordsOf.cut (fun S => finK G Tryz.f13.resultTypes.toList Tryz.f13.results.toList S dds_WordsOf.dec) n) dds_WordsOf.dec a0
  have hl := dds_WordsOf.l_eq n n
  simp only [hl] at h1
  exact h1.trans h
noncomputable def dds_WordsOf.via {R : Type} (n : Nat) (xs : List AV) : (AV → Option R) → Option R := match xs with | [.v (.string a0)] => fun K => (dds_WordsOf.F n a0).bind fun p => K (.tup [.fr ⟨true, 9⟩ 1 p.1, vi p.2]) | _ => fun _ => none
theorem dds_WordsOf.tells1 {R : Type} (n : Nat) (xs : List AV) : Tells1 (R := R) Tryz.prog 13 xs (dds_WordsOf.via n xs) := by
  unfold dds_WordsOf.via
  split
  · exact Tells1.of (fun p hp => (dds_WordsOf.hands n _ hp).hands rfl)
  · exact Tells1.none
end Go.Proofs.YtmpglmcjoelciaaGreatDoor.Ev

/- midrange/midrangeref25.closed, out of its evaluation. Printed by the session's own program. -/
namespace Go.Proofs.YtmpglmcjoelciaaGreatDoor.Ev
open Go Go.Proofs Go.Proofs.Ev
set_option linter.unusedVariables false
set_option maxRecDepth 100000
/-! midrange/midrangeref25.closed: function 49 -/
noncomputable def midrangeref25_closed.r2 {R : Type} (n : Nat) (c2 : ByteArray → Int → Option R) (k : Int × Bool → Option R) (z1 : ByteArray) (z2 : Int) : Option R :=
  let y1 : Bool := decide (z2 < ((z1.size : Nat) : Int))
  bif y1 then (bif decide ((0 : Int) ≤ z2) && decide (z2 < ((z1.size : Nat) : Int)) then (let y2 : Int := (((z1.data.getD ((z2).toNat) 0).toNat : Nat) : Int)
  bif y2 != 39 then (c2 z1 (IntKind.i64.wrap (z2 + 1))) else (let y3 : Bool := decide ((IntKind.i64.wrap (z2 + 1)) < ((z1.size : Nat) : Int))
  bif y3 then (bif decide ((0 : Int) ≤ IntKind.i64.wrap (z2 + 1)) && decide (IntKind.i64.wrap (z2 + 1) < ((z1.size : Nat) : Int)) then (let y4 : Int := (((z1.data.getD ((IntKind.i64.wrap (z2 + 1)).toNat) 0).toNat : Nat) : Int)
  bif y4 == 39 then (let y5 : Int := IntKind.i64.wrap ((IntKind.i64.wrap (z2 + 1)) + 1)
  c2 z1 y5) else (k (IntKind.i64.wrap (z2 + 1), true))) else none) else (k (IntKind.i64.wrap (z2 + 1), true)))) else none) else (k (0, false))
noncomputable def midrangeref25_closed.e {R : Type} (n : Nat) (c2 : ByteArray → Int → Option R) (k : Int × Bool → Option R) (a0 : ByteArray) : Option R :=
  c2 a0 1
noncomputable def midrangeref25_closed.C {R : Type} (n : Nat) (f : FuncId) (xs : List AV) : (AV → Option R) → Option R :=
  fun _ => none
theorem midrangeref25_closed.tells {R : Type} (n : Nat) : Tells (R := R) Tryz.prog (midrangeref25_closed.C n) := fun _ xs => Tells1.none
noncomputable def midrangeref25_closed.cut (r : Nat) : Option Keep := match r with | 2 => Option.some ⟨[0, 4], []⟩ | _ => none
noncomputable def midrangeref25_closed.t2 : List Item := (todoOf 2 1000 [.code (Tryz.f49.body.getD .skip)]).getD []
noncomputable def midrangeref25_closed.s2 (z1 : ByteArray) (z2 : Int) : St := ⟨[vs z1, .undef, .undef, .undef, vi z2, .undef, .undef, .undef, .undef, .undef, .undef, .undef, .undef, .undef, .undef, .undef, .undef, .undef, .undef, .undef, .undef, .undef, .undef, .undef, .undef, .undef, .undef, .undef, .undef, .undef, .undef], Mem.ofList [], 0⟩
theorem midrangeref25_closed.e_eq {R : Type} (n : Nat) (rec : List Item → St → Option R) (K : AV → Option R) (a0 : ByteArray) :
    goK G (midrangeref25_closed.C n) midrangeref25_closed.cut (fun S => finK G Tryz.f49.resultTypes.toList Tryz.f49.results.toList S K) rec 1000 [.code (Tryz.f49.body.getD .skip)] (Ev.start Tryz.f49 [vs a0]) = midrangeref25_closed.e n (fun z1 z2 => rec midrangeref25_closed.t2 (midrangeref25_closed.s2 z1 z2)) (fun p => K (.tup [vi p.1, vb p.2])) a0 := by kernel_rfl
theorem midrangeref25_closed.r2_eq {R : Type} (n : Nat) (rec : List Item → St → Option R) (K : AV → Option R) (z1 : ByteArray) (z2 : Int) :
    atK G (midrangeref25_closed.C n) midrangeref25_closed.cut (fun S => finK G Tryz.f49.resultTypes.toList Tryz.f49.results.toList S K) rec midrangeref25_closed.t2 (midrangeref25_closed.s2 z1 z2) = midrangeref25_closed.r2 n (fun z1 z2 => rec midrangeref25_closed.t2 (midrangeref25_closed.s2 z1 z2)) (fun p => K (.tup [vi p.1, vb p.2])) z1 z2 := by kernel_rfl
noncomputable def midrangeref25_closed.l (n : Nat) : Nat → (ByteArray → Int → Option (Int × Bool))
  | 0 => (fun _ _ => none)
  | m + 1 => midrangeref25_closed.r2 n (midrangeref25_closed.l n m) Option.some
noncomputable def midrangeref25_closed.F (n : Nat) (a0 : ByteArray) : Option (Int × Bool) := midrangeref25_closed.e n (midrangeref25_closed.l n n) Option.some a0
noncomputable def midrangeref25_closed.dec (x : AV) : Option (Int × Bool) := match x with | .tup [.v (.int .i64 p0), .v (.bool p1)] => Option.some (p0, p1) | _ => none
theorem midrangeref25_closed.dec_inv {p : Int × Bool} (y : AV) (h : midrangeref25_closed.dec y = some p) : y = .tup [vi p.1, vb p.2] := by
  unfold midrangeref25_closed.dec at h
  split at h
  · cases h; rfl
  · cases h
theorem midrangeref25_closed.l_eq (n m : Nat) : (∀ (z1 : ByteArray) (z2 : Int), runK G (midrangeref25_closed.C n) midrangeref25_closed.cut (fun S => finK G Tryz.f49.resultTypes.toList Tryz.f49.results.toList S midrangeref25_closed.dec) m midrangeref25_closed.t2 (midrangeref25_closed.s2 z1 z2) = (midrangeref25_closed.l n m) z1 z2) := by
  induction m with
  | zero => exact fun z1 z2 => rfl
  | succ m ih =>
    have h2 := ih
    have e2 : (fun (z1 : ByteArray) (z2 : Int) => runK G (midrangeref25_closed.C n) midrangeref25_closed.cut (fun S => finK G Tryz.f49.resultTypes.toList Tryz.f49.results.toList S midrangeref25_closed.dec) m midrangeref25_closed.t2 (midrangeref25_closed.s2 z1 z2)) = (midrangeref25_closed.l n m) := by funext z1 z2; exact h2 z1 z2
    have q2 : ∀ (z1 : ByteArray) (z2 : Int), runK G (midrangeref25_closed.C n) midrangeref25_closed.cut (fun S => finK G Tryz.f49.resultTypes.toList Tryz.f49.results.toList S midrangeref25_closed.dec) (m + 1) midrangeref25_closed.t2 (midrangeref25_closed.s2 z1 z2) = (midrangeref25_closed.l n (m + 1)) z1 z2 := by
      intro z1 z2
      rw [runK_succ]
      refine (midrangeref25_closed.r2_eq n _ midrangeref25_closed.dec z1 z2).trans ?_
      rw [e2]
      rfl
    exact q2
theorem midrangeref25_closed.hands (n : Nat) (a0 : ByteArray) {p : Int × Bool} (h : midrangeref25_closed.F n a0 = some p) : HandsIn Tryz.prog 49 [vs a0] (.tup [vi p.1, vb p.2]) := by
  refine hands_of cfg mixed (fun _ => rfl) rfl (midrangeref25_closed.tells n) (fn := Tryz.f49) Tryz.func49 (by kernel_rfl) (by kernel_rfl) (cut := midrangeref25_closed.cut) (K := midrangeref25_closed.dec) (r := p) (n := n) midrangeref25_closed.dec_inv ?_
  rw [funK_getD (by kernel_rfl)]
  have h1 := midrangeref25_closed.e_eq n (runK G (midrangeref25_closed.C n) midrangeref25_closed.cut (fun S => finK G Tryz.f49.resultTypes.toList Tryz.f49.results.toList S midrangeref25_closed.dec) n) midrangeref25_closed.dec a0
  have hl := midrangeref25_closed.l_eq n n
  simp only [hl] at h1
  exact h1.trans h
noncomputable def midrangeref25_closed.via {R : Type} (n : Nat) (xs : List AV) : (AV → Option R) → Option R := match xs with | [.v (.string a0)] => fun K => (midrangeref25_closed.F n a0).bind fun p => K (.tup [vi p.1, vb p.2]) | _ => fun _ => none
theorem midrangeref25_closed.tells1 {R : Type} (n : Nat) (xs : List AV) : Tells1 (R := R) Tryz.prog 49 xs (midrangeref25_closed.via n xs) := by
  unfold midrangeref25_closed.via
  split
  · exact Tells1.of (fun p hp => (midrangeref25_closed.hands n _ hp).hands rfl)
  · exact Tells1.none
end Go.Proofs.YtmpglmcjoelciaaGreatDoor.Ev

/- midrange/midrangeref25.Words, out of its evaluation. Printed by the session's own program. -/
namespace Go.Proofs.YtmpglmcjoelciaaGreatDoor.Ev
open Go Go.Proofs Go.Proofs.Ev
set_option linter.unusedVariables false
set_option maxRecDepth 100000
/-! midrange/midrangeref25.Words: function 14 -/
noncomputable def midrangeref25_Words.r4 {R : Type} (n : Nat) (c4 : ByteArray → Int → Option R) (c12 : ByteArray → Int → List AV → Option R) (c13 : ByteArray → Int → List AV → Option R) (c19 : ByteArray → Int → Int → List AV → Option R) (c23 : ByteArray → Int → Int → List AV → Option R) (k : List AV × Int → Option R) (z1 : ByteArray) (z2 : Int) : Option R :=
  let y2 : Bool := decide (z2 < ((z1.size : Nat) : Int))
  bif y2 then (bif decide ((0 : Int) ≤ z2) && decide (z2 < ((z1.size : Nat) : Int)) then (let y3 : Int := (((z1.data.getD ((z2).toNat) 0).toNat : Nat) : Int)
  (midrangebase_Within.F n (IntKind.i64.wrap y3) 32 126).bind fun p4 =>
  bif !p4 then (k ([], 8)) else (c4 z1 (IntKind.i64.wrap (z2 + 1)))) else none) else (let y5 : Bool := z1.toList == (⟨#[]⟩ : ByteArray).toList
  bif y5 then (k ([], 0)) else (c13 z1 0 []))
noncomputable def midrangeref25_Words.r12 {R : Type} (n : Nat) (c4 : ByteArray → Int → Option R) (c12 : ByteArray → Int → List AV → Option R) (c13 : ByteArray → Int → List AV → Option R) (c19 : ByteArray → Int → Int → List AV → Option R) (c23 : ByteArray → Int → Int → List AV → Option R) (k : List AV × Int → Option R) (z1 : ByteArray) (z2 : Int) (z3 : List AV) : Option R :=
  c13 z1 (IntKind.i64.wrap (z2 + 1)) z3
noncomputable def midrangeref25_Words.r13 {R : Type} (n : Nat) (c4 : ByteArray → Int → Option R) (c12 : ByteArray → Int → List AV → Option R) (c13 : ByteArray → Int → List AV → Option R) (c19 : ByteArray → Int → Int → List AV → Option R) (c23 : ByteArray → Int → Int → List AV → Option R) (k : List AV × Int → Option R) (z1 : ByteArray) (z2 : Int) (z3 : List AV) : Option R :=
  let y6 : Bool := decide (z2 < ((z1.size : Nat) : Int))
  bif y6 then (bif decide ((0 : Int) ≤ z2) && decide (z2 < ((z1.size : Nat) : Int)) then (let y7 : Int := (((z1.data.getD ((z2).toNat) 0).toNat : Nat) : Int)
  bif y7 == 39 then (bif decide ((0 : Int) ≤ z2) && decide ((z2 : Int) ≤ ((z1.size : Nat) : Int)) then (let y8 : ByteArray := z1.extract (z2).toNat z1.size
  (midrangeref25_closed.F n y8).bind fun p9 =>
  bif !p9.2 then (k ([], 8)) else (c23 z1 z2 (IntKind.i64.wrap (z2 + p9.1)) z3)) else none) else (c19 z1 z2 z2 z3)) else none) else (c19 z1 z2 z2 z3)
noncomputable def midrangeref25_Words.r19 {R : Type} (n : Nat) (c4 : ByteArray → Int → Option R) (c12 : ByteArray → Int → List AV → Option R) (c13 : ByteArray → Int → List AV → Option R) (c19 : ByteArray → Int → Int → List AV → Option R) (c23 : ByteArray → Int → Int → List AV → Option R) (k : List AV × Int → Option R) (z1 : ByteArray) (z2 : Int) (z3 : Int) (z4 : List AV) : Option R :=
  let y16 : Bool := decide (z3 < ((z1.size : Nat) : Int))
  bif y16 then (bif decide ((0 : Int) ≤ z3) && decide (z3 < ((z1.size : Nat) : Int)) then (let y17 : Int := (((z1.data.getD ((z3).toNat) 0).toNat : Nat) : Int)
  bif y17 != 32 then (bif decide ((0 : Int) ≤ z3) && decide (z3 < ((z1.size : Nat) : Int)) then (let y18 : Int := (((z1.data.getD ((z3).toNat) 0).toNat : Nat) : Int)
  bif y18 == 39 then (k ([], 8)) else (c19 z1 z2 (IntKind.i64.wrap (z3 + 1)) z4)) else none) else (c23 z1 z2 z3 z4)) else none) else (c23 z1 z2 z3 z4)
noncomputable def midrangeref25_Words.r23 {R : Type} (n : Nat) (c4 : ByteArray → Int → Option R) (c12 : ByteArray → Int → List AV → Option R) (c13 : ByteArray → Int → List AV → Option R) (c19 : ByteArray → Int → Int → List AV → Option R) (c23 : ByteArray → Int → Int → List AV → Option R) (k : List AV × Int → Option R) (z1 : ByteArray) (z2 : Int) (z3 : Int) (z4 : List AV) : Option R :=
  bif z3 == z2 then (k ([], 8)) else (let y10 : Bool := decide (z3 < ((z1.size : Nat) : Int))
  bif y10 then (bif decide ((0 : Int) ≤ z3) && decide (z3 < ((z1.size : Nat) : Int)) then (let y11 : Int := (((z1.data.getD ((z3).toNat) 0).toNat : Nat) : Int)
  bif y11 != 32 then (k ([], 8)) else (bif decide ((0 : Int) ≤ z3) && decide ((z3 : Int) ≤ ((z1.size : Nat) : Int)) then (bif decide ((0 : Int) ≤ z2) && decide ((z2 : Int) ≤ z3) then (let y12 : ByteArray := z1.extract (z2).toNat (z3).toNat
  bif decide (z4.length + [vs y12].length ≤ most) then (let y13 : Bool := z3 == ((z1.size : Nat) : Int)
  bif y13 then (k (z4 ++ [vs y12], 0)) else (c12 z1 z3 (z4 ++ [vs y12]))) else none) else none) else none)) else none) else (bif decide ((0 : Int) ≤ z3) && decide ((z3 : Int) ≤ ((z1.size : Nat) : Int)) then (bif decide ((0 : Int) ≤ z2) && decide ((z2 : Int) ≤ z3) then (let y14 : ByteArray := z1.extract (z2).toNat (z3).toNat
  bif decide (z4.length + [vs y14].length ≤ most) then (let y15 : Bool := z3 == ((z1.size : Nat) : Int)
  bif y15 then (k (z4 ++ [vs y14], 0)) else (c12 z1 z3 (z4 ++ [vs y14]))) else none) else none) else none))
noncomputable def midrangeref25_Words.e {R : Type} (n : Nat) (c4 : ByteArray → Int → Option R) (c12 : ByteArray → Int → List AV → Option R) (c13 : ByteArray → Int → List AV → Option R) (c19 : ByteArray → Int → Int → List AV → Option R) (c23 : ByteArray → Int → Int → List AV → Option R) (k : List AV × Int → Option R) (a0 : ByteArray) : Option R :=
  let y1 : Bool := decide (((a0.size : Nat) : Int) > 240)
  bif y1 then (k ([], 2)) else (c4 a0 0)
noncomputable def midrangeref25_Words.C {R : Type} (n : Nat) (f : FuncId) (xs : List AV) : (AV → Option R) → Option R :=
  bif Nat.beq f 48 then midrangebase_Within.via n xs else bif Nat.beq f 49 then midrangeref25_closed.via n xs else fun _ => none
theorem midrangeref25_Words.tells {R : Type} (n : Nat) : Tells (R := R) Tryz.prog (midrangeref25_Words.C n) := fun _ xs => tells_at (midrangebase_Within.tells1 n xs) (tells_at (midrangeref25_closed.tells1 n xs) (Tells1.none))
noncomputable def midrangeref25_Words.cut (r : Nat) : Option Keep := match r with | 4 => Option.some ⟨[0, 4], []⟩ | 12 => Option.some ⟨[0, 5, 6], []⟩ | 13 => Option.some ⟨[0, 5, 6], [(5, none, ⟨true, 9⟩, 1)]⟩ | 19 => Option.some ⟨[0, 5, 6, 7], []⟩ | 23 => Option.some ⟨[0, 5, 6, 7], []⟩ | _ => none
noncomputable def midrangeref25_Words.t4 : List Item := (todoOf 4 1000 [.code (Tryz.f14.body.getD .skip)]).getD []
noncomputable def midrangeref25_Words.s4 (z1 : ByteArray) (z2 : Int) : St := ⟨[vs z1, .undef, .undef, .undef, vi z2, .undef, .undef, .undef, .undef, .undef, .undef, .undef, .undef, .undef, .undef, .undef, .undef, .undef, .undef, .undef, .undef, .undef, .undef, .undef, .undef, .undef, .undef, .undef, .undef, .undef, .undef, .undef, .undef, .undef, .undef, .undef, .undef, .undef, .undef, .undef, .undef, .undef, .undef, .undef, .undef, .undef, .undef, .undef, .undef, .undef, .undef, .undef, .undef, .undef, .undef, .undef, .undef, .undef, .undef, .undef, .undef, .undef, .undef, .undef, .undef, .undef, .undef, .undef, .undef, .undef, .undef, .undef, .undef, .undef, .undef, .undef, .undef, .undef, .undef, .undef, .undef, .undef, .undef, .undef, .undef, .undef, .undef, .undef, .undef, .undef, .undef, .undef, .undef, .undef, .undef, .undef], Mem.ofList [], 0⟩
noncomputable def midrangeref25_Words.t12 : List Item := (todoOf 12 1000 [.code (Tryz.f14.body.getD .skip)]).getD []
noncomputable def midrangeref25_Words.s12 (z1 : ByteArray) (z2 : Int) (z3 : List AV) : St := ⟨[vs z1, .undef, .undef, .undef, .undef, .own 0 0 none, vi z2, .undef, .undef, .undef, .undef, .undef, .undef, .undef, .undef, .undef, .undef, .undef, .undef, .undef, .undef, .undef, .undef, .undef, .undef, .undef, .undef, .undef, .undef, .undef, .undef, .undef, .undef, .undef, .undef, .undef, .undef, .undef, .undef, .undef, .undef, .undef, .undef, .undef, .undef, .undef, .undef, .undef, .undef, .undef, .undef, .undef, .undef, .undef, .undef, .undef, .undef, .undef, .undef, .undef, .undef, .undef, .undef, .undef, .undef, .undef, .undef, .undef, .undef, .undef, .undef, .undef, .undef, .undef, .undef, .undef, .undef, .undef, .undef, .undef, .undef, .undef, .undef, .undef, .undef, .undef, .undef, .undef, .undef, .undef, .undef, .undef, .undef, .undef, .undef, .undef], Mem.ofList [.row ⟨true, 9⟩ 1 z3], 1⟩
noncomputable def midrangeref25_Words.t13 : List Item := (todoOf 13 1000 [.code (Tryz.f14.body.getD .skip)]).getD []
noncomputable def midrangeref25_Words.s13 (z1 : ByteArray) (z2 : Int) (z3 : List AV) : St := ⟨[vs z1, .undef, .undef, .undef, .undef, .own 0 0 none, vi z2, .undef, .undef, .undef, .undef, .undef, .undef, .undef, .undef, .undef, .undef, .undef, .undef, .undef, .undef, .undef, .undef, .undef, .undef, .undef, .undef, .undef, .undef, .undef, .undef, .undef, .undef, .undef, .undef, .undef, .undef, .undef, .undef, .undef, .undef, .undef, .undef, .undef, .undef, .undef, .undef, .undef, .undef, .undef, .undef, .undef, .undef, .undef, .undef, .undef, .undef, .undef, .undef, .undef, .undef, .undef, .undef, .undef, .undef, .undef, .undef, .undef, .undef, .undef, .undef, .undef, .undef, .undef, .undef, .undef, .undef, .undef, .undef, .undef, .undef, .undef, .undef, .undef, .undef, .undef, .undef, .undef, .undef, .undef, .undef, .undef, .undef, .undef, .undef, .undef], Mem.ofList [.row ⟨true, 9⟩ 1 z3], 1⟩
noncomputable def midrangeref25_Words.t19 : List Item := (todoOf 19 1000 [.code (Tryz.f14.body.getD .skip)]).getD []
noncomputable def midrangeref25_Words.s19 (z1 : ByteArray) (z2 : Int) (z3 : Int) (z4 : List AV) : St := ⟨[vs z1, .undef, .undef, .undef, .undef, .own 0 0 none, vi z2, vi z3, .undef, .undef, .undef, .undef, .undef, .undef, .undef, .undef, .undef, .undef, .undef, .undef, .undef, .undef, .undef, .undef, .undef, .undef, .undef, .undef, .undef, .undef, .undef, .undef, .undef, .undef, .undef, .undef, .undef, .undef, .undef, .undef, .undef, .undef, .undef, .undef, .undef, .undef, .undef, .undef, .undef, .undef, .undef, .undef, .undef, .undef, .undef, .undef, .undef, .undef, .undef, .undef, .undef, .undef, .undef, .undef, .undef, .undef, .undef, .undef, .undef, .undef, .undef, .undef, .undef, .undef, .undef, .undef, .undef, .undef, .undef, .undef, .undef, .undef, .undef, .undef, .undef, .undef, .undef, .undef, .undef, .undef, .undef, .undef, .undef, .undef, .undef, .undef], Mem.ofList [.row ⟨true, 9⟩ 1 z4], 1⟩
noncomputable def midrangeref25_Words.t23 : List Item := (todoOf 23 1000 [.code (Tryz.f14.body.getD .skip)]).getD []
noncomputable def midrangeref25_Words.s23 (z1 : ByteArray) (z2 : Int) (z3 : Int) (z4 : List AV) : St := ⟨[vs z1, .undef, .undef, .undef, .undef, .own 0 0 none, vi z2, vi z3, .undef, .undef, .undef, .undef, .undef, .undef, .undef, .undef, .undef, .undef, .undef, .undef, .undef, .undef, .undef, .undef, .undef, .undef, .undef, .undef, .undef, .undef, .undef, .undef, .undef, .undef, .undef, .undef, .undef, .undef, .undef, .undef, .undef, .undef, .undef, .undef, .undef, .undef, .undef, .undef, .undef, .undef, .undef, .undef, .undef, .undef, .undef, .undef, .undef, .undef, .undef, .undef, .undef, .undef, .undef, .undef, .undef, .undef, .undef, .undef, .undef, .undef, .undef, .undef, .undef, .undef, .undef, .undef, .undef, .undef, .undef, .undef, .undef, .undef, .undef, .undef, .undef, .undef, .undef, .undef, .undef, .undef, .undef, .undef, .undef, .undef, .undef, .undef], Mem.ofList [.row ⟨true, 9⟩ 1 z4], 1⟩
theorem midrangeref25_Words.e_eq {R : Type} (n : Nat) (rec : List Item → St → Option R) (K : AV → Option R) (a0 : ByteArray) :
    goK G (midrangeref25_Words.C n) midrangeref25_Words.cut (fun S => finK G Tryz.f14.resultTypes.toList Tryz.f14.results.toList S K) rec 1000 [.code (Tryz.f14.body.getD .skip)] (Ev.start Tryz.f14 [vs a0]) = midrangeref25_Words.e n (fun z1 z2 => rec midrangeref25_Words.t4 (midrangeref25_Words.s4 z1 z2)) (fun z1 z2 z3 => rec midrangeref25_Words.t12 (midrangeref25_Words.s12 z1 z2 z3)) (fun z1 z2 z3 => rec midrangeref25_Words.t13 (midrangeref25_Words.s13 z1 z2 z3)) (fun z1 z2 z3 z4 => rec midrangeref25_Words.t19 (midrangeref25_Words.s19 z1 z2 z3 z4)) (fun z1 z2 z3 z4 => rec midrangeref25_Words.t23 (midrangeref25_Words.s23 z1 z2 z3 z4)) (fun p => K (.tup [.fr ⟨true, 9⟩ 1 p.1, vi p.2])) a0 := by kernel_rfl
theorem midrangeref25_Words.r4_eq {R : Type} (n : Nat) (rec : List Item → St → Option R) (K : AV → Option R) (z1 : ByteArray) (z2 : Int) :
    atK G (midrangeref25_Words.C n) midrangeref25_Words.cut (fun S => finK G Tryz.f14.resultTypes.toList Tryz.f14.results.toList S K) rec midrangeref25_Words.t4 (midrangeref25_Words.s4 z1 z2) = midrangeref25_Words.r4 n (fun z1 z2 => rec midrangeref25_Words.t4 (midrangeref25_Words.s4 z1 z2)) (fun z1 z2 z3 => rec midrangeref25_Words.t12 (midrangeref25_Words.s12 z1 z2 z3)) (fun z1 z2 z3 => rec midrangeref25_Words.t13 (midrangeref25_Words.s13 z1 z2 z3)) (fun z1 z2 z3 z4 => rec midrangeref25_Words.t19 (midrangeref25_Words.s19 z1 z2 z3 z4)) (fun z1 z2 z3 z4 => rec midrangeref25_Words.t23 (midrangeref25_Words.s23 z1 z2 z3 z4)) (fun p => K (.tup [.fr ⟨true, 9⟩ 1 p.1, vi p.2])) z1 z2 := by kernel_rfl
theorem midrangeref25_Words.r12_eq {R : Type} (n : Nat) (rec : List Item → St → Option R) (K : AV → Option R) (z1 : ByteArray) (z2 : Int) (z3 : List AV) :
    atK G (midrangeref25_Words.C n) midrangeref25_Words.cut (fun S => finK G Tryz.f14.resultTypes.toList Tryz.f14.results.toList S K) rec midrangeref25_Words.t12 (midrangeref25_Words.s12 z1 z2 z3) = midrangeref25_Words.r12 n (fun z1 z2 => rec midrangeref25_Words.t4 (midrangeref25_Words.s4 z1 z2)) (fun z1 z2 z3 => rec midrangeref25_Words.t12 (midrangeref25_Words.s12 z1 z2 z3)) (fun z1 z2 z3 => rec midrangeref25_Words.t13 (midrangeref25_Words.s13 z1 z2 z3)) (fun z1 z2 z3 z4 => rec midrangeref25_Words.t19 (midrangeref25_Words.s19 z1 z2 z3 z4)) (fun z1 z2 z3 z4 => rec midrangeref25_Words.t23 (midrangeref25_Words.s23 z1 z2 z3 z4)) (fun p => K (.tup [.fr ⟨true, 9⟩ 1 p.1, vi p.2])) z1 z2 z3 := by kernel_rfl
theorem midrangeref25_Words.r13_eq {R : Type} (n : Nat) (rec : List Item → St → Option R) (K : AV → Option R) (z1 : ByteArray) (z2 : Int) (z3 : List AV) :
    atK G (midrangeref25_Words.C n) midrangeref25_Words.cut (fun S => finK G Tryz.f14.resultTypes.toList Tryz.f14.results.toList S K) rec midrangeref25_Words.t13 (midrangeref25_Words.s13 z1 z2 z3) = midrangeref25_Words.r13 n (fun z1 z2 => rec midrangeref25_Words.t4 (midrangeref25_Words.s4 z1 z2)) (fun z1 z2 z3 => rec midrangeref25_Words.t12 (midrangeref25_Words.s12 z1 z2 z3)) (fun z1 z2 z3 => rec midrangeref25_Words.t13 (midrangeref25_Words.s13 z1 z2 z3)) (fun z1 z2 z3 z4 => rec midrangeref25_Words.t19 (midrangeref25_Words.s19 z1 z2 z3 z4)) (fun z1 z2 z3 z4 => rec midrangeref25_Words.t23 (midrangeref25_Words.s23 z1 z2 z3 z4)) (fun p => K (.tup [.fr ⟨true, 9⟩ 1 p.1, vi p.2])) z1 z2 z3 := by kernel_rfl
theorem midrangeref25_Words.r19_eq {R : Type} (n : Nat) (rec : List Item → St → Option R) (K : AV → Option R) (z1 : ByteArray) (z2 : Int) (z3 : Int) (z4 : List AV) :
    atK G (midrangeref25_Words.C n) midrangeref25_Words.cut (fun S => finK G Tryz.f14.resultTypes.toList Tryz.f14.results.toList S K) rec midrangeref25_Words.t19 (midrangeref25_Words.s19 z1 z2 z3 z4) = midrangeref25_Words.r19 n (fun z1 z2 => rec midrangeref25_Words.t4 (midrangeref25_Words.s4 z1 z2)) (fun z1 z2 z3 => rec midrangeref25_Words.t12 (midrangeref25_Words.s12 z1 z2 z3)) (fun z1 z2 z3 => rec midrangeref25_Words.t13 (midrangeref25_Words.s13 z1 z2 z3)) (fun z1 z2 z3 z4 => rec midrangeref25_Words.t19 (midrangeref25_Words.s19 z1 z2 z3 z4)) (fun z1 z2 z3 z4 => rec midrangeref25_Words.t23 (midrangeref25_Words.s23 z1 z2 z3 z4)) (fun p => K (.tup [.fr ⟨true, 9⟩ 1 p.1, vi p.2])) z1 z2 z3 z4 := by kernel_rfl
theorem midrangeref25_Words.r23_eq {R : Type} (n : Nat) (rec : List Item → St → Option R) (K : AV → Option R) (z1 : ByteArray) (z2 : Int) (z3 : Int) (z4 : List AV) :
    atK G (midrangeref25_Words.C n) midrangeref25_Words.cut (fun S => finK G Tryz.f14.resultTypes.toList Tryz.f14.results.toList S K) rec midrangeref25_Words.t23 (midrangeref25_Words.s23 z1 z2 z3 z4) = midrangeref25_Words.r23 n (fun z1 z2 => rec midrangeref25_Words.t4 (midrangeref25_Words.s4 z1 z2)) (fun z1 z2 z3 => rec midrangeref25_Words.t12 (midrangeref25_Words.s12 z1 z2 z3)) (fun z1 z2 z3 => rec midrangeref25_Words.t13 (midrangeref25_Words.s13 z1 z2 z3)) (fun z1 z2 z3 z4 => rec midrangeref25_Words.t19 (midrangeref25_Words.s19 z1 z2 z3 z4)) (fun z1 z2 z3 z4 => rec midrangeref25_Words.t23 (midrangeref25_Words.s23 z1 z2 z3 z4)) (fun p => K (.tup [.fr ⟨true, 9⟩ 1 p.1, vi p.2])) z1 z2 z3 z4 := by kernel_rfl
noncomputable def midrangeref25_Words.l (n : Nat) : Nat → (ByteArray → Int → Option (List AV × Int)) × (ByteArray → Int → List AV → Option (List AV × Int)) × (ByteArray → Int → List AV → Option (List AV × Int)) × (ByteArray → Int → Int → List AV → Option (List AV × Int)) × (ByteArray → Int → Int → List AV → Option (List AV × Int))
  | 0 => ((fun _ _ => none), (fun _ _ _ => none), (fun _ _ _ => none), (fun _ _ _ _ => none), (fun _ _ _ _ => none))
  | m + 1 => (midrangeref25_Words.r4 n ((midrangeref25_Words.l n m).1) ((midrangeref25_Words.l n m).2.1) ((midrangeref25_Words.l n m).2.2.1) ((midrangeref25_Words.l n m).2.2.2.1) ((midrangeref25_Words.l n m).2.2.2.2) Option.some, midrangeref25_Words.r12 n ((midrangeref25_Words.l n m).1) ((midrangeref25_Words.l n m).2.1) ((midrangeref25_Words.l n m).2.2.1) ((midrangeref25_Words.l n m).2.2.2.1) ((midrangeref25_Words.l n m).2.2.2.2) Option.some, midrangeref25_Words.r13 n ((midrangeref25_Words.l n m).1) ((midrangeref25_Words.l n m).2.1) ((midrangeref25_Words.l n m).2.2.1) ((midrangeref25_Words.l n m).2.2.2.1) ((midrangeref25_Words.l n m).2.2.2.2) Option.some, midrangeref25_Words.r19 n ((midrangeref25_Words.l n m).1) ((midrangeref25_Words.l n m).2.1) ((midrangeref25_Words.l n m).2.2.1) ((midrangeref25_Words.l n m).2.2.2.1) ((midrangeref25_Words.l n m).2.2.2.2) Option.some, midrangeref25_Words.r23 n ((midrangeref25_Words.l n m).1) ((midrangeref25_Words.l n m).2.1) ((midrangeref25_Words.l n m).2.2.1) ((midrangeref25_Words.l n m).2.2.2.1) ((midrangeref25_Words.l n m).2.2.2.2) Option.some)
noncomputable def midrangeref25_Words.F (n : Nat) (a0 : ByteArray) : Option (List AV × Int) := midrangeref25_Words.e n ((midrangeref25_Words.l n n).1) ((midrangeref25_Words.l n n).2.1) ((midrangeref25_Words.l n n).2.2.1) ((midrangeref25_Words.l n n).2.2.2.1) ((midrangeref25_Words.l n n).2.2.2.2) Option.some a0
noncomputable def midrangeref25_Words.dec (x : AV) : Option (List AV × Int) := match x with | .tup [.fr ⟨true, 9⟩ 1 p0, .v (.int .i64 p1)] => Option.some (p0, p1) | _ => none
theorem midrangeref25_Words.dec_inv {p : List AV × Int} (y : AV) (h : midrangeref25_Words.dec y = some p) : y = .tup [.fr ⟨true, 9⟩ 1 p.1, vi p.2] := by
  unfold midrangeref25_Words.dec at h
  split at h
  · cases h; rfl
  · cases h
theorem midrangeref25_Words.l_eq (n m : Nat) : (∀ (z1 : ByteArray) (z2 : Int), runK G (midrangeref25_Words.C n) midrangeref25_Words.cut (fun S => finK G Tryz.f14.resultTypes.toList Tryz.f14.results.toList S midrangeref25_Words.dec) m midrangeref25_Words.t4 (midrangeref25_Words.s4 z1 z2) = ((midrangeref25_Words.l n m).1) z1 z2) ∧ (∀ (z1 : ByteArray) (z2 : Int) (z3 : List AV), runK G (midrangeref25_Words.C n) midrangeref25_Words.cut (fun S => finK G Tryz.f14.resultTypes.toList Tryz.f14.results.toList S midrangeref25_Words.dec) m midrangeref25_Words.t12 (midrangeref25_Words.s12 z1 z2 z3) = ((midrangeref25_Words.l n m).2.1) z1 z2 z3) ∧ (∀ (z1 : ByteArray) (z2 : Int) (z3 : List AV), runK G (midrangeref25_Words.C n) midrangeref25_Words.cut (fun S => finK G Tryz.f14.resultTypes.toList Tryz.f14.results.toList S midrangeref25_Words.dec) m midrangeref25_Words.t13 (midrangeref25_Words.s13 z1 z2 z3) = ((midrangeref25_Words.l n m).2.2.1) z1 z2 z3) ∧ (∀ (z1 : ByteArray) (z2 : Int) (z3 : Int) (z4 : List AV), runK G (midrangeref25_Words.C n) midrangeref25_Words.cut (fun S => finK G Tryz.f14.resultTypes.toList Tryz.f14.results.toList S midrangeref25_Words.dec) m midrangeref25_Words.t19 (midrangeref25_Words.s19 z1 z2 z3 z4) = ((midrangeref25_Words.l n m).2.2.2.1) z1 z2 z3 z4) ∧ (∀ (z1 : ByteArray) (z2 : Int) (z3 : Int) (z4 : List AV), runK G (midrangeref25_Words.C n) midrangeref25_Words.cut (fun S => finK G Tryz.f14.resultTypes.toList Tryz.f14.results.toList S midrangeref25_Words.dec) m midrangeref25_Words.t23 (midrangeref25_Words.s23 z1 z2 z3 z4) = ((midrangeref25_Words.l n m).2.2.2.2) z1 z2 z3 z4) := by
  induction m with
  | zero => exact ⟨fun z1 z2 => rfl, fun z1 z2 z3 => rfl, fun z1 z2 z3 => rfl, fun z1 z2 z3 z4 => rfl, fun z1 z2 z3 z4 => rfl⟩
  | succ m ih =>
    obtain ⟨h4, h12, h13, h19, h23⟩ := ih
    have e4 : (fun (z1 : ByteArray) (z2 : Int) => runK G (midrangeref25_Words.C n) midrangeref25_Words.cut (fun S => finK G Tryz.f14.resultTypes.toList Tryz.f14.results.toList S midrangeref25_Words.dec) m midrangeref25_Words.t4 (midrangeref25_Words.s4 z1 z2)) = (midrangeref25_Words.l n m).1 := by funext z1 z2; exact h4 z1 z2
    have e12 : (fun (z1 : ByteArray) (z2 : Int) (z3 : List AV) => runK G (midrangeref25_Words.C n) midrangeref25_Words.cut (fun S => finK G Tryz.f14.resultTypes.toList Tryz.f14.results.toList S midrangeref25_Words.dec) m midrangeref25_Words.t12 (midrangeref25_Words.s12 z1 z2 z3)) = (midrangeref25_Words.l n m).2.1 := by funext z1 z2 z3; exact h12 z1 z2 z3
    have e13 : (fun (z1 : ByteArray) (z2 : Int) (z3 : List AV) => runK G (midrangeref25_Words.C n) midrangeref25_Words.cut (fun S => finK G Tryz.f14.resultTypes.toList Tryz.f14.results.toList S midrangeref25_Words.dec) m midrangeref25_Words.t13 (midrangeref25_Words.s13 z1 z2 z3)) = (midrangeref25_Words.l n m).2.2.1 := by funext z1 z2 z3; exact h13 z1 z2 z3
    have e19 : (fun (z1 : ByteArray) (z2 : Int) (z3 : Int) (z4 : List AV) => runK G (midrangeref25_Words.C n) midrangeref25_Words.cut (fun S => finK G Tryz.f14.resultTypes.toList Tryz.f14.results.toList S midrangeref25_Words.dec) m midrangeref25_Words.t19 (midrangeref25_Words.s19 z1 z2 z3 z4)) = (midrangeref25_Words.l n m).2.2.2.1 := by funext z1 z2 z3 z4; exact h19 z1 z2 z3 z4
    have e23 : (fun (z1 : ByteArray) (z2 : Int) (z3 : Int) (z4 : List AV) => runK G (midrangeref25_Words.C n) midrangeref25_Words.cut (fun S => finK G Tryz.f14.resultTypes.toList Tryz.f14.results.toList S midrangeref25_Words.dec) m midrangeref25_Words.t23 (midrangeref25_Words.s23 z1 z2 z3 z4)) = (midrangeref25_Words.l n m).2.2.2.2 := by funext z1 z2 z3 z4; exact h23 z1 z2 z3 z4
    have q4 : ∀ (z1 : ByteArray) (z2 : Int), runK G (midrangeref25_Words.C n) midrangeref25_Words.cut (fun S => finK G Tryz.f14.resultTypes.toList Tryz.f14.results.toList S midrangeref25_Words.dec) (m + 1) midrangeref25_Words.t4 (midrangeref25_Words.s4 z1 z2) = ((midrangeref25_Words.l n (m + 1)).1) z1 z2 := by
      intro z1 z2
      rw [runK_succ]
      refine (midrangeref25_Words.r4_eq n _ midrangeref25_Words.dec z1 z2).trans ?_
      rw [e4, e12, e13, e19, e23]
      rfl
    have q12 : ∀ (z1 : ByteArray) (z2 : Int) (z3 : List AV), runK G (midrangeref25_Words.C n) midrangeref25_Words.cut (fun S => finK G Tryz.f14.resultTypes.toList Tryz.f14.results.toList S midrangeref25_Words.dec) (m + 1) midrangeref25_Words.t12 (midrangeref25_Words.s12 z1 z2 z3) = ((midrangeref25_Words.l n (m + 1)).2.1) z1 z2 z3 := by
      intro z1 z2 z3
      rw [runK_succ]
      refine (midrangeref25_Words.r12_eq n _ midrangeref25_Words.dec z1 z2 z3).trans ?_
      rw [e4, e12, e13, e19, e23]
      rfl
    have q13 : ∀ (z1 : ByteArray) (z2 : Int) (z3 : List AV), runK G (midrangeref25_Words.C n) midrangeref25_Words.cut (fun S => finK G Tryz.f14.resultTypes.toList Tryz.f14.results.toList S midrangeref25_Words.dec) (m + 1) midrangeref25_Words.t13 (midrangeref25_Words.s13 z1 z2 z3) = ((midrangeref25_Words.l n (m + 1)).2.2.1) z1 z2 z3 := by
      intro z1 z2 z3
      rw [runK_succ]
      refine (midrangeref25_Words.r13_eq n _ midrangeref25_Words.dec z1 z2 z3).trans ?_
      rw [e4, e12, e13, e19, e23]
      rfl
    have q19 : ∀ (z1 : ByteArray) (z2 : Int) (z3 : Int) (z4 : List AV), runK G (midrangeref25_Words.C n) midrangeref25_Words.cut (fun S => finK G Tryz.f14.resultTypes.toList Tryz.f14.results.toList S midrangeref25_Words.dec) (m + 1) midrangeref25_Words.t19 (midrangeref25_Words.s19 z1 z2 z3 z4) = ((midrangeref25_Words.l n (m + 1)).2.2.2.1) z1 z2 z3 z4 := by
      intro z1 z2 z3 z4
      rw [runK_succ]
      refine (midrangeref25_Words.r19_eq n _ midrangeref25_Words.dec z1 z2 z3 z4).trans ?_
      rw [e4, e12, e13, e19, e23]
      rfl
    have q23 : ∀ (z1 : ByteArray) (z2 : Int) (z3 : Int) (z4 : List AV), runK G (midrangeref25_Words.C n) midrangeref25_Words.cut (fun S => finK G Tryz.f14.resultTypes.toList Tryz.f14.results.toList S midrangeref25_Words.dec) (m + 1) midrangeref25_Words.t23 (midrangeref25_Words.s23 z1 z2 z3 z4) = ((midrangeref25_Words.l n (m + 1)).2.2.2.2) z1 z2 z3 z4 := by
      intro z1 z2 z3 z4
      rw [runK_succ]
      refine (midrangeref25_Words.r23_eq n _ midrangeref25_Words.dec z1 z2 z3 z4).trans ?_
      rw [e4, e12, e13, e19, e23]
      rfl
    exact ⟨q4, q12, q13, q19, q23⟩
theorem midrangeref25_Words.hands (n : Nat) (a0 : ByteArray) {p : List AV × Int} (h : midrangeref25_Words.F n a0 = some p) : HandsIn Tryz.prog 14 [vs a0] (.tup [.fr ⟨true, 9⟩ 1 p.1, vi p.2]) := by
  refine hands_of cfg mixed (fun _ => rfl) rfl (midrangeref25_Words.tells n) (fn := Tryz.f14) Tryz.func14 (by kernel_rfl) (by kernel_rfl) (cut := midrangeref25_Words.cut) (K := midrangeref25_Words.dec) (r := p) (n := n) midrangeref25_Words.dec_inv ?_
  rw [funK_getD (by kernel_rfl)]
  have h1 := midrangeref25_Words.e_eq n (runK G (midrangeref25_Words.C n) midrangeref25_Words.cut (fun S => finK G Tryz.f14.resultTypes.toList Tryz.f14.results.toList S midrangeref25_Words.dec) n) midrangeref25_Words.dec a0
  have hl := midrangeref25_Words.l_eq n n
  simp only [hl.1, hl.2.1, hl.2.2.1, hl.2.2.2.1, hl.2.2.2.2] at h1
  exact h1.trans h
noncomputable def midrangeref25_Words.via {R : Type} (n : Nat) (xs : List AV) : (AV → Option R) → Option R := match xs with | [.v (.string a0)] => fun K => (midrangeref25_Words.F n a0).bind fun p => K (.tup [.fr ⟨true, 9⟩ 1 p.1, vi p.2]) | _ => fun _ => none
theorem midrangeref25_Words.tells1 {R : Type} (n : Nat) (xs : List AV) : Tells1 (R := R) Tryz.prog 14 xs (midrangeref25_Words.via n xs) := by
  unfold midrangeref25_Words.via
  split
  · exact Tells1.of (fun p hp => (midrangeref25_Words.hands n _ hp).hands rfl)
  · exact Tells1.none
end Go.Proofs.YtmpglmcjoelciaaGreatDoor.Ev

/- midrange/midrangebase.Strings, out of its evaluation. Printed by the session's own program. -/
namespace Go.Proofs.YtmpglmcjoelciaaGreatDoor.Ev
open Go Go.Proofs Go.Proofs.Ev
set_option linter.unusedVariables false
set_option maxRecDepth 100000
/-! midrange/midrangebase.Strings: function 15 -/
noncomputable def midrangebase_Strings.r4 {R : Type} (n : Nat) (c4 : List AV → List AV → Int → Option R) (k : Bool → Option R) (z1 : List AV) (z2 : List AV) (z3 : Int) : Option R :=
  let y2 : Bool := decide (z3 < ((z1.length : Nat) : Int))
  bif y2 then (bif decide ((0 : Int) ≤ z3) && decide (z3 < ((z1.length : Nat) : Int)) then (withCons ((z1.getD ((z3).toNat) .undef).cells) fun h3 r4 =>
  withStr h3 fun s5 =>
  bif decide ((0 : Int) ≤ z3) && decide (z3 < ((z2.length : Nat) : Int)) then (withCons ((z2.getD ((z3).toNat) .undef).cells) fun h6 r7 =>
  withStr h6 fun s8 =>
  bif !(s5.toList == s8.toList) then (k false) else (c4 z1 z2 (IntKind.i64.wrap (z3 + 1)))) else none) else none) else (k true)
noncomputable def midrangebase_Strings.e {R : Type} (n : Nat) (c4 : List AV → List AV → Int → Option R) (k : Bool → Option R) (a0 : List AV) (a1 : List AV) : Option R :=
  let y1 : Bool := ((a0.length : Nat) : Int) != ((a1.length : Nat) : Int)
  bif y1 then (k false) else (c4 a0 a1 0)
noncomputable def midrangebase_Strings.C {R : Type} (n : Nat) (f : FuncId) (xs : List AV) : (AV → Option R) → Option R :=
  fun _ => none
theorem midrangebase_Strings.tells {R : Type} (n : Nat) : Tells (R := R) Tryz.prog (midrangebase_Strings.C n) := fun _ xs => Tells1.none
noncomputable def midrangebase_Strings.cut (r : Nat) : Option Keep := match r with | 4 => Option.some ⟨[0, 1, 5], []⟩ | _ => none
noncomputable def midrangebase_Strings.t4 : List Item := (todoOf 4 1000 [.code (Tryz.f15.body.getD .skip)]).getD []
noncomputable def midrangebase_Strings.s4 (z1 : List AV) (z2 : List AV) (z3 : Int) : St := ⟨[.sl ⟨true, 9⟩ 1 z1, .sl ⟨true, 9⟩ 1 z2, .undef, .undef, .undef, vi z3, .undef, .undef, .undef, .undef, .undef, .undef, .undef, .undef, .undef, .undef, .undef, .undef, .undef, .undef, .undef, .undef, .undef, .undef, .undef, .undef], Mem.ofList [], 0⟩
theorem midrangebase_Strings.e_eq {R : Type} (n : Nat) (rec : List Item → St → Option R) (K : AV → Option R) (a0 : List AV) (a1 : List AV) :
    goK G (midrangebase_Strings.C n) midrangebase_Strings.cut (fun S => finK G Tryz.f15.resultTypes.toList Tryz.f15.results.toList S K) rec 1000 [.code (Tryz.f15.body.getD .skip)] (Ev.start Tryz.f15 [.sl ⟨true, 9⟩ 1 a0, .sl ⟨true, 9⟩ 1 a1]) = midrangebase_Strings.e n (fun z1 z2 z3 => rec midrangebase_Strings.t4 (midrangebase_Strings.s4 z1 z2 z3)) (fun p => K (vb p)) a0 a1 := by kernel_rfl
theorem midrangebase_Strings.r4_eq {R : Type} (n : Nat) (rec : List Item → St → Option R) (K : AV → Option R) (z1 : List AV) (z2 : List AV) (z3 : Int) :
    atK G (midrangebase_Strings.C n) midrangebase_Strings.cut (fun S => finK G Tryz.f15.resultTypes.toList Tryz.f15.results.toList S K) rec midrangebase_Strings.t4 (midrangebase_Strings.s4 z1 z2 z3) = midrangebase_Strings.r4 n (fun z1 z2 z3 => rec midrangebase_Strings.t4 (midrangebase_Strings.s4 z1 z2 z3)) (fun p => K (vb p)) z1 z2 z3 := by kernel_rfl
noncomputable def midrangebase_Strings.l (n : Nat) : Nat → (List AV → List AV → Int → Option (Bool))
  | 0 => (fun _ _ _ => none)
  | m + 1 => midrangebase_Strings.r4 n (midrangebase_Strings.l n m) Option.some
noncomputable def midrangebase_Strings.F (n : Nat) (a0 : List AV) (a1 : List AV) : Option (Bool) := midrangebase_Strings.e n (midrangebase_Strings.l n n) Option.some a0 a1
noncomputable def midrangebase_Strings.dec (x : AV) : Option (Bool) := match x with | .v (.bool p0) => Option.some p0 | _ => none
theorem midrangebase_Strings.dec_inv {p : Bool} (y : AV) (h : midrangebase_Strings.dec y = some p) : y = vb p := by
  unfold midrangebase_Strings.dec at h
  split at h
  · cases h; rfl
  · cases h
theorem midrangebase_Strings.l_eq (n m : Nat) : (∀ (z1 : List AV) (z2 : List AV) (z3 : Int), runK G (midrangebase_Strings.C n) midrangebase_Strings.cut (fun S => finK G Tryz.f15.resultTypes.toList Tryz.f15.results.toList S midrangebase_Strings.dec) m midrangebase_Strings.t4 (midrangebase_Strings.s4 z1 z2 z3) = (midrangebase_Strings.l n m) z1 z2 z3) := by
  induction m with
  | zero => exact fun z1 z2 z3 => rfl
  | succ m ih =>
    have h4 := ih
    have e4 : (fun (z1 : List AV) (z2 : List AV) (z3 : Int) => runK G (midrangebase_Strings.C n) midrangebase_Strings.cut (fun S => finK G Tryz.f15.resultTypes.toList Tryz.f15.results.toList S midrangebase_Strings.dec) m midrangebase_Strings.t4 (midrangebase_Strings.s4 z1 z2 z3)) = (midrangebase_Strings.l n m) := by funext z1 z2 z3; exact h4 z1 z2 z3
    have q4 : ∀ (z1 : List AV) (z2 : List AV) (z3 : Int), runK G (midrangebase_Strings.C n) midrangebase_Strings.cut (fun S => finK G Tryz.f15.resultTypes.toList Tryz.f15.results.toList S midrangebase_Strings.dec) (m + 1) midrangebase_Strings.t4 (midrangebase_Strings.s4 z1 z2 z3) = (midrangebase_Strings.l n (m + 1)) z1 z2 z3 := by
      intro z1 z2 z3
      rw [runK_succ]
      refine (midrangebase_Strings.r4_eq n _ midrangebase_Strings.dec z1 z2 z3).trans ?_
      rw [e4]
      rfl
    exact q4
theorem midrangebase_Strings.hands (n : Nat) (a0 : List AV) (a1 : List AV) {p : Bool} (h : midrangebase_Strings.F n a0 a1 = some p) : HandsIn Tryz.prog 15 [.sl ⟨true, 9⟩ 1 a0, .sl ⟨true, 9⟩ 1 a1] (vb p) := by
  refine hands_of cfg mixed (fun _ => rfl) rfl (midrangebase_Strings.tells n) (fn := Tryz.f15) Tryz.func15 (by kernel_rfl) (by kernel_rfl) (cut := midrangebase_Strings.cut) (K := midrangebase_Strings.dec) (r := p) (n := n) midrangebase_Strings.dec_inv ?_
  rw [funK_getD (by kernel_rfl)]
  have h1 := midrangebase_Strings.e_eq n (runK G (midrangebase_Strings.C n) midrangebase_Strings.cut (fun S => finK G Tryz.f15.resultTypes.toList Tryz.f15.results.toList S midrangebase_Strings.dec) n) midrangebase_Strings.dec a0 a1
  have hl := midrangebase_Strings.l_eq n n
  simp only [hl] at h1
  exact h1.trans h
noncomputable def midrangebase_Strings.via {R : Type} (n : Nat) (xs : List AV) : (AV → Option R) → Option R := match xs with | [.sl ⟨true, 9⟩ 1 a0, .sl ⟨true, 9⟩ 1 a1] => fun K => (midrangebase_Strings.F n a0 a1).bind fun p => K (vb p) | _ => fun _ => none
theorem midrangebase_Strings.tells1 {R : Type} (n : Nat) (xs : List AV) : Tells1 (R := R) Tryz.prog 15 xs (midrangebase_Strings.via n xs) := by
  unfold midrangebase_Strings.via
  split
  · exact Tells1.of (fun p hp => (midrangebase_Strings.hands n _ _ hp).hands rfl)
  · exact Tells1.none
end Go.Proofs.YtmpglmcjoelciaaGreatDoor.Ev

/- midrange/midrangelaw25.DdsWords, out of its evaluation. Printed by the session's own program. -/
namespace Go.Proofs.YtmpglmcjoelciaaGreatDoor.Ev
open Go Go.Proofs Go.Proofs.Ev
set_option linter.unusedVariables false
set_option maxRecDepth 100000
/-! midrange/midrangelaw25.DdsWords: function 3 -/
noncomputable def midrangelaw25_DdsWords.e {R : Type} (n : Nat)  (k : Bool → Option R) (a0 : ByteArray) : Option R :=
  (midrangelaw25_awake.F n ).bind fun p1 =>
  bif !p1 then (k false) else (let y2 : Bool := decide (((a0.size : Nat) : Int) > 300)
  bif y2 then (k true) else ((dds_WordsOf.F n a0).bind fun p3 =>
  (midrangeref25_Words.F n a0).bind fun p4 =>
  bif p3.2 == p4.2 then ((midrangebase_Strings.F n p3.1 p4.1).bind fun p5 =>
  k p5) else (k false)))
noncomputable def midrangelaw25_DdsWords.C {R : Type} (n : Nat) (f : FuncId) (xs : List AV) : (AV → Option R) → Option R :=
  bif Nat.beq f 12 then midrangelaw25_awake.via n xs else bif Nat.beq f 13 then dds_WordsOf.via n xs else bif Nat.beq f 14 then midrangeref25_Words.via n xs else bif Nat.beq f 15 then midrangebase_Strings.via n xs else fun _ => none
theorem midrangelaw25_DdsWords.tells {R : Type} (n : Nat) : Tells (R := R) Tryz.prog (midrangelaw25_DdsWords.C n) := fun _ xs => tells_at (midrangelaw25_awake.tells1 n xs) (tells_at (dds_WordsOf.tells1 n xs) (tells_at (midrangeref25_Words.tells1 n xs) (tells_at (midrangebase_Strings.tells1 n xs) (Tells1.none))))
noncomputable def midrangelaw25_DdsWords.cut (r : Nat) : Option Keep := match r with  | _ => none
theorem midrangelaw25_DdsWords.e_eq {R : Type} (n : Nat) (rec : List Item → St → Option R) (K : AV → Option R) (a0 : ByteArray) :
    goK G (midrangelaw25_DdsWords.C n) midrangelaw25_DdsWords.cut (fun S => finK G Tryz.f3.resultTypes.toList Tryz.f3.results.toList S K) rec 1000 [.code (Tryz.f3.body.getD .skip)] (Ev.start Tryz.f3 [vs a0]) = midrangelaw25_DdsWords.e n  (fun p => K (vb p)) a0 := by kernel_rfl
noncomputable def midrangelaw25_DdsWords.F (n : Nat) (a0 : ByteArray) : Option (Bool) := midrangelaw25_DdsWords.e n  Option.some a0
noncomputable def midrangelaw25_DdsWords.dec (x : AV) : Option (Bool) := match x with | .v (.bool p0) => Option.some p0 | _ => none
theorem midrangelaw25_DdsWords.dec_inv {p : Bool} (y : AV) (h : midrangelaw25_DdsWords.dec y = some p) : y = vb p := by
  unfold midrangelaw25_DdsWords.dec at h
  split at h
  · cases h; rfl
  · cases h
theorem midrangelaw25_DdsWords.hands (n : Nat) (a0 : ByteArray) {p : Bool} (h : midrangelaw25_DdsWords.F n a0 = some p) : HandsIn Tryz.prog 3 [vs a0] (vb p) := by
  refine hands_of cfg mixed (fun _ => rfl) rfl (midrangelaw25_DdsWords.tells n) (fn := Tryz.f3) Tryz.func3 (by kernel_rfl) (by kernel_rfl) (cut := midrangelaw25_DdsWords.cut) (K := midrangelaw25_DdsWords.dec) (r := p) (n := n) midrangelaw25_DdsWords.dec_inv ?_
  rw [funK_getD (by kernel_rfl)]
  have h1 := midrangelaw25_DdsWords.e_eq n (runK G (midrangelaw25_DdsWords.C n) midrangelaw25_DdsWords.cut (fun S => finK G Tryz.f3.resultTypes.toList Tryz.f3.results.toList S midrangelaw25_DdsWords.dec) n) midrangelaw25_DdsWords.dec a0
  exact h1.trans h
end Go.Proofs.YtmpglmcjoelciaaGreatDoor.Ev

/- The words of a line: the program's way. -/
namespace Go.Proofs.YtmpglmcjoelciaaGreatDoor.Ev
open Go Go.Proofs Go.Proofs.Ev
set_option linter.unusedVariables false
/-- Where a byte stands, or the length. -/
def ib (l : List UInt8) (c : UInt8) : Nat := (l.takeWhile (fun x => x != c)).length
theorem ib_le (l : List UInt8) (c : UInt8) : ib l c ≤ l.length := (List.takeWhile_sublist _).length_le
theorem ib_cons (b c : UInt8) (l : List UInt8) : ib (b :: l) c = if b = c then 0 else ib l c + 1 := by
  unfold ib
  rw [List.takeWhile_cons]
  by_cases h : b = c
  · subst h; simp
  · have h2 : (b != c) = true := by simpa using h
    rw [h2, if_neg h]
    simp
theorem ib_eq (c : UInt8) : ∀ l : List UInt8, Lib.indexByte l c = if ib l c < l.length then (ib l c : Int) else -1
  | [] => rfl
  | b :: l => by
    have ih := ib_eq c l
    unfold Lib.indexByte
    rw [ib_cons]
    by_cases h : b = c
    · subst h; simp
    · have h1 : (b == c) = false := by simpa using h
      rw [h1, if_neg h, ih]
      simp only [Bool.false_eq_true, if_false, List.length_cons]
      by_cases h3 : ib l c < l.length
      · have h4 : (((ib l c : Nat) : Int) == -1) = false := by rw [beq_eq_false_iff_ne]; omega
        simp only [if_pos h3, h4, Bool.false_eq_true, if_false]
        rw [if_pos (by omega)]
        simp
      · simp only [if_neg h3]
        rw [if_neg (show ¬ (ib l c + 1 < l.length + 1) by omega)]
        rfl
theorem has_eq (c : UInt8) : ∀ l : List UInt8, decide (0 ≤ Lib.indexByte l c) = l.contains c
  | [] => by simp [Lib.indexByte]
  | b :: l => by
    have ih := has_eq c l
    unfold Lib.indexByte
    rw [List.contains_cons]
    by_cases h : b = c
    · subst h; simp
    · have h1 : (b == c) = false := by simpa using h
      have h2 : (c == b) = false := by simpa using fun e => h e.symm
      have := Lib.indexByte_ge l c
      rw [h1, h2, ← ih]
      simp only [Bool.false_eq_true, if_false, Bool.false_or]
      by_cases h3 : Lib.indexByte l c = -1
      · rw [h3]; rfl
      · have h4 : (Lib.indexByte l c == -1) = false := by simpa using h3
        rw [h4]
        simp only [Bool.false_eq_true, if_false]
        rw [decide_eq_decide]
        omega
theorem contains_eq {n : Nat} (l : List UInt8) (hl : l.length ≤ 100000) : strings_Contains.F n (bs l) (⟨#[39]⟩ : ByteArray) = some (l.contains 39) := by
  unfold strings_Contains.F strings_Contains.e strings_Index.F
  rw [cond_t (by rw [bs_size]; omega), Option.bind_some]
  show some (decide (Lib.index l [39] ≥ 0)) = _
  rw [Lib.index_one, ← has_eq]
/-- Where the string ends that began before: behind the apostrophe that is not followed by one. -/
def qt : List UInt8 → Nat → Option Nat
  | [], _ => none
  | c :: r, i => if c ≠ 39 then qt r (i + 1) else match r with
    | [] => some (i + 1)
    | d :: r' => if d = 39 then qt r' (i + 2) else some (i + 1)
theorem qt_bound : ∀ (r : List UInt8) (i e : Nat), qt r i = some e → i + 1 ≤ e ∧ e ≤ i + r.length
  | [], _, _, h => by cases h
  | [c], i, e, h => by
    unfold qt at h
    by_cases hc : c = 39
    · rw [if_neg (by simp [hc])] at h
      simp only [Option.some.injEq] at h
      subst h
      simp
    · rw [if_pos hc] at h; cases h
  | c :: d :: r, i, e, h => by
    unfold qt at h
    by_cases hc : c = 39
    · rw [if_neg (by simp [hc])] at h
      simp only at h
      by_cases hd : d = 39
      · rw [if_pos hd] at h
        have := qt_bound r (i + 2) e h
        simp only [List.length_cons]
        omega
      · rw [if_neg hd] at h
        simp only [Option.some.injEq] at h
        subst h
        simp only [List.length_cons]
        omega
    · rw [if_pos hc] at h
      have := qt_bound (d :: r) (i + 1) e h
      simp only [List.length_cons] at this ⊢
      omega
theorem byte_ne (c u : UInt8) (k : Nat) (hu : u.toNat = k) : ((((c.toNat : Nat) : Int)) != ((k : Nat) : Int)) = decide (c ≠ u) := by
  have : (((c.toNat : Nat) : Int) = ((k : Nat) : Int)) ↔ c = u := by
    constructor
    · intro h
      apply UInt8.toNat_inj.1
      omega
    · rintro rfl
      omega
  rw [Bool.eq_iff_iff, bne_iff_ne, decide_eq_true_eq]
  exact not_congr this
theorem byte_eq (c u : UInt8) (k : Nat) (hu : u.toNat = k) : ((((c.toNat : Nat) : Int)) == ((k : Nat) : Int)) = decide (c = u) := by
  have : (((c.toNat : Nat) : Int) = ((k : Nat) : Int)) ↔ c = u := by
    constructor
    · intro h
      apply UInt8.toNat_inj.1
      omega
    · rintro rfl
      omega
  rw [Bool.eq_iff_iff, beq_iff_eq, decide_eq_true_eq]
  exact this
theorem quoted_l (n : Nat) (l : List UInt8) (hl : l.length ≤ 100000) : ∀ (d i m : Nat), i + d = l.length → d < m → dds_quoted.l n m (bs l) i = some (((qt (l.drop i) i).getD 0 : Nat) : Int)
  | _, _, 0, _, h => absurd h (by omega)
  | 0, i, m + 1, h, _ => by
    show dds_quoted.r2 n (dds_quoted.l n m) some (bs l) i = _
    unfold dds_quoted.r2
    simp only [bs_size]
    rw [cond_f (by omega), List.drop_of_length_le (by omega)]
    rfl
  | d + 1, i, m + 1, h, hm => by
    have hi : i < l.length := by omega
    show dds_quoted.r2 n (dds_quoted.l n m) some (bs l) i = _
    unfold dds_quoted.r2
    simp only [bs_size, within_t hi, Int.toNat_natCast, getD_at hi, cond_true]
    rw [cond_t (by omega), List.drop_eq_getElem_cons hi, show (39 : Int) = ((39 : Nat) : Int) from rfl, byte_ne _ 39 39 rfl, wsucc (by omega)]
    unfold qt
    by_cases hc : l[i] = 39
    · rw [cond_f (by simp [hc]), if_neg (by simp [hc])]
      by_cases h1 : i + 1 < l.length
      · simp only [within_t h1, Int.toNat_natCast, getD_at h1, cond_true, byte_eq _ 39 39 rfl]
        rw [cond_t (by omega), List.drop_eq_getElem_cons h1]
        simp only
        by_cases hd : l[i + 1] = 39
        · rw [cond_t hd, if_pos hd, wsucc (by omega)]
          cases d with
          | zero => omega
          | succ d => exact quoted_l n l hl d (i + 2) m (by omega) (by omega)
        · rw [cond_f hd, if_neg hd]
          rfl
      · rw [cond_f (by omega), List.drop_of_length_le (by omega)]
        rfl
    · rw [cond_t (by simpa using hc), if_pos hc]
      exact quoted_l n l hl d (i + 1) m (by omega) (by omega)
theorem quoted_eq {n : Nat} (l : List UInt8) (hl : l.length ≤ 100000) (h0 : 1 ≤ l.length) (hn : 100002 ≤ n) : dds_quoted.F n (bs l) = some (((qt (l.drop 1) 1).getD 0 : Nat) : Int) := by
  unfold dds_quoted.F dds_quoted.e
  exact quoted_l n l hl (l.length - 1) 1 n (by omega) (by omega)
/-- How long the word is that a text begins with; 0: there is none. -/
def wrd (l : List UInt8) : Nat := match l with
  | [] => 0
  | c :: r => if c = 39 then (match qt r 1 with
      | none => 0
      | some e => if e < l.length ∧ l.getD e 0 ≠ 32 then 0 else e)
    else if (l.take (ib l 32)).contains 39 then 0 else ib l 32
theorem wrd_cons (c : UInt8) (r : List UInt8) : wrd (c :: r) = if c = 39 then (match qt r 1 with
      | none => 0
      | some e => if e < (c :: r).length ∧ (c :: r).getD e 0 ≠ 32 then 0 else e)
    else if ((c :: r).take (ib (c :: r) 32)).contains 39 then 0 else ib (c :: r) 32 := rfl
theorem wrd_le (l : List UInt8) : wrd l ≤ l.length := by
  unfold wrd
  split
  · exact Nat.zero_le _
  · rename_i c r
    split
    · split
      · exact Nat.zero_le _
      · rename_i e he
        split
        · exact Nat.zero_le _
        · have := qt_bound r 1 e he
          simp only [List.length_cons]
          omega
    · split
      · exact Nat.zero_le _
      · exact ib_le _ _
theorem word_eq {n : Nat} (l : List UInt8) (hl : l.length ≤ 100000) (h0 : l ≠ []) (hn : 100002 ≤ n) : dds_word.F n (bs l) = some ((wrd l : Nat) : Int) := by
  obtain ⟨m, rfl⟩ : ∃ m, n = m + 1 := ⟨n - 1, by omega⟩
  unfold dds_word.F dds_word.e
  have h8 : ∀ z, dds_word.l (m + 1) (m + 1) z = some z := fun z => rfl
  simp only [h8]
  match l, h0 with
  | c :: r, _ =>
    have hpos : 0 < (c :: r).length := by simp
    have hix : strings_IndexByte.F (m + 1) (bs (c :: r)) 32 = some (Lib.indexByte (c :: r) 32) := rfl
    have hle := ib_le (c :: r) 32
    rw [hix, Option.bind_some, ib_eq]
    have e0 : (bs (c :: r)).data.getD 0 0 = c := by rw [getD_at hpos]; rfl
    have hq := quoted_eq (n := m + 1) (c :: r) hl (by simp) hn
    rw [show (c :: r).drop 1 = r from rfl] at hq
    -- a string
    have str : c = 39 → (dds_quoted.F (m + 1) (bs (c :: r))).bind (fun p3 =>
        let y4 : Bool := decide (p3 < (((bs (c :: r)).size : Nat) : Int))
        bif y4 then (bif decide ((0 : Int) ≤ p3) && decide (p3 < (((bs (c :: r)).size : Nat) : Int)) then (let y5 : Int := ((((bs (c :: r)).data.getD ((p3).toNat) 0).toNat : Nat) : Int)
        bif y5 != 32 then (some 0) else (some p3)) else none) else (some p3)) = some ((wrd (c :: r) : Nat) : Int) := by
      intro hc
      subst hc
      rw [hq, Option.bind_some, wrd_cons, if_pos rfl]
      cases hqt : qt r 1 with
      | none =>
        simp only [Option.getD_none, bs_size]
        rw [cond_t (by simp), within_t hpos, cond_true]
        simp only [Int.toNat_natCast, e0]
        rfl
      | some e =>
        have hb := qt_bound r 1 e hqt
        simp only [Option.getD_some, bs_size]
        by_cases he : e < (39 :: r : List UInt8).length
        · rw [cond_t (by omega), within_t he, cond_true]
          simp only [Int.toNat_natCast]
          rw [bs_getD, show (32 : Int) = ((32 : Nat) : Int) from rfl, byte_ne _ 32 32 rfl]
          by_cases h32 : (39 :: r : List UInt8).getD e 0 = 32
          · rw [cond_f (by simpa using h32), if_neg (by rintro ⟨_, h⟩; exact h h32)]
          · rw [cond_t (by simpa using h32), if_pos ⟨he, h32⟩]
            rfl
        · rw [cond_f (by omega), if_neg (by rintro ⟨h, _⟩; exact he h)]
    -- a word
    have wd : c ≠ 39 → ∀ (k : Nat), k = ib (c :: r) 32 → ((strings_Contains.F (m + 1) (bs ((c :: r).take k)) (⟨#[39]⟩ : ByteArray)).bind fun p7 =>
        bif p7 then (some 0) else (some ((k : Nat) : Int))) = some ((wrd (c :: r) : Nat) : Int) := by
      rintro hc k rfl
      rw [contains_eq _ (by rw [List.length_take]; omega), Option.bind_some]
      rw [wrd_cons, if_neg hc]
      cases ((c :: r).take (ib (c :: r) 32)).contains 39 <;> rfl
    have hb39 : ((((c.toNat : Nat) : Int)) == 39) = decide (c = 39) := byte_eq c 39 39 rfl
    by_cases hsp : ib (c :: r) 32 < (c :: r).length
    · rw [if_pos hsp, cond_f (by omega), cond_t (by rw [bs_size]; omega)]
      simp only [e0, hb39]
      by_cases hc : c = 39
      · rw [cond_t hc]
        exact str hc
      · rw [cond_f hc, bs_size, upto_t hle, cond_true, Int.toNat_natCast, bs_take]
        exact wd hc _ rfl
    · rw [if_neg hsp, cond_t (by omega), cond_t (by rw [bs_size]; omega)]
      simp only [e0, hb39]
      by_cases hc : c = 39
      · rw [cond_t hc]
        exact str hc
      · have hkk : (c :: r).length = ib (c :: r) 32 := by omega
        rw [cond_f hc, bs_size, upto_t (Nat.le_refl _), cond_true]
        simp only [Int.toNat_natCast, bs_take]
        exact wd hc _ hkk
/-- The words of a text; none: it has not the form. -/
def wordsP : Nat → List UInt8 → Option (List (List UInt8))
  | 0, _ => none
  | g + 1, l => if wrd l = 0 then none else if wrd l = l.length then some [l] else (wordsP g (l.drop (wrd l + 1))).map fun w => l.take (wrd l) :: w
def Ws (ws : List (List UInt8)) : List AV := ws.map fun w => vs (bs w)
theorem Ws_snoc (a : List (List UInt8)) (w : List UInt8) : Ws a ++ [vs (bs w)] = Ws (a ++ [w]) := by simp [Ws]
theorem Ws_length (a : List (List UInt8)) : (Ws a).length = a.length := by simp [Ws]
def wres (out : List (List UInt8)) (x : Option (List (List UInt8))) : List AV × Int := match x with
  | some ws => (Ws (out ++ ws), 0)
  | none => ([], 8)
theorem wres_map (out : List (List UInt8)) (w : List UInt8) (x : Option (List (List UInt8))) : wres out (x.map fun ws => w :: ws) = wres (out ++ [w]) x := by
  cases x <;> simp [wres]
theorem wordsOf_l {n : Nat} (hn : 100002 ≤ n) : ∀ (g : Nat) (l : List UInt8) (out : List (List UInt8)) (m : Nat), l ≠ [] → l.length < g → g < m → l.length ≤ 1000 → out.length + l.length ≤ 100000 →
    dds_WordsOf.l n m (bs l) (Ws out) = some (wres out (wordsP g l))
  | 0, _, _, _, _, h, _, _, _ => absurd h (by omega)
  | g + 1, _, _, 0, _, _, h, _, _ => absurd h (by omega)
  | g + 1, l, out, m + 1, h0, hg, hm, hl, ho => by
    have hle := wrd_le l
    have hpos : 0 < l.length := List.length_pos_iff.2 h0
    have hmost : most = 1000000000 := rfl
    show dds_WordsOf.r5 n (dds_WordsOf.l n m) some (bs l) (Ws out) = _
    unfold dds_WordsOf.r5 wordsP
    simp only [empty_eq]
    have : (!decide (l = [])) = true := by simpa using h0
    rw [this, cond_true, word_eq l (by omega) h0 hn, Option.bind_some, beq_int]
    by_cases hw : wrd l = 0
    · rw [cond_t (by omega), if_pos hw]
      rfl
    · rw [cond_f (by omega), if_neg hw, bs_size, upto_t hle, cond_true]
      simp only [Int.toNat_natCast, bs_take, Ws_length]
      rw [cond_t (by simp; omega), beq_int]
      by_cases he : wrd l = l.length
      · rw [cond_t (by omega), if_pos he, Ws_snoc, he, List.take_length]
        rfl
      · rw [cond_f (by omega), if_neg he, wsucc (by omega), upto_t (by omega), cond_true]
        have e7 : (bs l).extract (wrd l + 1) l.length = bs (l.drop (wrd l + 1)) := by
          have := bs_drop l (wrd l + 1)
          rwa [bs_size] at this
        simp only [Int.toNat_natCast, e7, empty_eq]
        rw [wres_map]
        by_cases hd : l.drop (wrd l + 1) = []
        · rw [cond_t hd, hd]
          have : wordsP g [] = none := by cases g <;> rfl
          rw [this]
          rfl
        · have hlen : (l.drop (wrd l + 1)).length ≤ l.length - 2 := by rw [List.length_drop]; omega
          rw [cond_f hd, Ws_snoc]
          exact wordsOf_l hn g (l.drop (wrd l + 1)) (out ++ [l.take (wrd l)]) m hd (by omega) (by omega) (by omega) (by simp; omega)
def okc (c : UInt8) : Bool := decide (32 ≤ c.toNat) && decide (c.toNat ≤ 126)
theorem writable_l (n : Nat) (l : List UInt8) (hl : l.length ≤ 100000) : ∀ (d i m : Nat), i + d = l.length → d < m → dds_isWritable.l n m l.length i (l.map fun b => vu b.toNat) = some ((l.drop i).all okc)
  | _, _, 0, _, h => absurd h (by omega)
  | 0, i, m + 1, h, _ => by
    show dds_isWritable.r2 n (dds_isWritable.l n m) some l.length i _ = _
    unfold dds_isWritable.r2
    rw [cond_f (by omega), List.drop_of_length_le (by omega)]
    rfl
  | d + 1, i, m + 1, h, hm => by
    have hi : i < l.length := by omega
    have ih := writable_l n l hl d (i + 1) m (by omega) (by omega)
    show dds_isWritable.r2 n (dds_isWritable.l n m) some l.length i _ = _
    unfold dds_isWritable.r2
    have e : (l.map fun b => vu b.toNat).getD (((i : Nat) : Int)).toNat AV.undef = vu l[i].toNat := by simp [List.getD_eq_getElem?_getD, hi]
    rw [cond_t (by omega), List.length_map, within_t hi, cond_true, e, List.drop_eq_getElem_cons hi, List.all_cons]
    show (bif decide (((l[i].toNat : Nat) : Int) < 32) then some false else bif decide (((l[i].toNat : Nat) : Int) > 126) then some false else _) = _
    by_cases h1 : l[i].toNat < 32
    · rw [cond_t (by omega)]
      have : okc l[i] = false := by simp [okc]; omega
      rw [this]; rfl
    · rw [cond_f (by omega)]
      by_cases h2 : l[i].toNat > 126
      · rw [cond_t (by omega)]
        have : okc l[i] = false := by simp [okc]; omega
        rw [this]; rfl
      · rw [cond_f (by omega)]
        have : okc l[i] = true := by simp [okc]; omega
        rw [this, wsucc (by omega), ih, Bool.true_and]
theorem writable_eq {n : Nat} (l : List UInt8) (hl : l.length ≤ 100000) (hn : 100002 ≤ n) : dds_isWritable.F n (bs l) = some (l.all okc) := by
  unfold dds_isWritable.F dds_isWritable.e
  simp only [bs_toList, List.length_map]
  exact writable_l n l hl l.length 0 n (by omega) (by omega)
/-- What both hand back. -/
def wordsR (l : List UInt8) : List AV × Int :=
  if l.length > 240 then ([], 2) else if l.all okc = false then ([], 8) else if l = [] then ([], 0) else wres [] (wordsP (l.length + 1) l)
theorem wordsOf_eq {n : Nat} (hn : 200002 ≤ n) (l : List UInt8) (hl : l.length ≤ 1000) : dds_WordsOf.F n (bs l) = some (wordsR l) := by
  unfold dds_WordsOf.F dds_WordsOf.e
  simp only [bs_size]
  rw [cond_eq, Option.bind_some, writable_eq l (by omega) (by omega), Option.bind_some, cond_eq, Option.bind_some, first2 (by omega), Option.bind_some]
  unfold wordsR
  by_cases h1 : l.length > 240
  · have : decide (((l.length : Nat) : Int) > 240) = true := by rw [decide_eq_true_eq]; omega
    rw [this, if_pos h1]
    rfl
  · have : decide (((l.length : Nat) : Int) > 240) = false := by rw [decide_eq_false_iff_not]; omega
    rw [this, if_neg h1]
    cases hw : l.all okc with
    | false => rfl
    | true =>
      simp only [Bool.not_true, Bool.false_eq_true, if_false, ne_eq, not_true_eq_false]
      show (bif (0 : Int) != 0 then _ else _) = _
      rw [show ((0 : Int) != 0) = false from rfl, cond_false]
      by_cases h0 : l = []
      · subst h0
        obtain ⟨m, rfl⟩ : ∃ m, n = m + 1 := ⟨n - 1, by omega⟩
        show dds_WordsOf.r5 (m + 1) (dds_WordsOf.l (m + 1) m) some (bs []) [] = _
        unfold dds_WordsOf.r5
        simp only [empty_eq]
        rfl
      · rw [if_neg (by simp), if_neg h0]
        exact wordsOf_l (by omega) (l.length + 1) l [] n h0 (by omega) (by omega) hl (by simp; omega)
end Go.Proofs.YtmpglmcjoelciaaGreatDoor.Ev

/- P25.1: the words of a line are as specified. -/
namespace Go.Proofs.YtmpglmcjoelciaaGreatDoor.Ev
open Go Go.Proofs Go.Proofs.Ev
set_option linter.unusedVariables false
def c2o (x : Option Nat) : Int × Bool := match x with
  | none => (0, false)
  | some e => ((e : Int), true)
theorem closed_l (n : Nat) (l : List UInt8) (hl : l.length ≤ 100000) : ∀ (d i m : Nat), i + d = l.length → d < m → midrangeref25_closed.l n m (bs l) i = some (c2o (qt (l.drop i) i))
  | _, _, 0, _, h => absurd h (by omega)
  | 0, i, m + 1, h, _ => by
    show midrangeref25_closed.r2 n (midrangeref25_closed.l n m) some (bs l) i = _
    unfold midrangeref25_closed.r2
    simp only [bs_size]
    rw [cond_f (by omega), List.drop_of_length_le (by omega)]
    rfl
  | d + 1, i, m + 1, h, hm => by
    have hi : i < l.length := by omega
    show midrangeref25_closed.r2 n (midrangeref25_closed.l n m) some (bs l) i = _
    unfold midrangeref25_closed.r2
    simp only [bs_size, within_t hi, Int.toNat_natCast, getD_at hi, cond_true]
    rw [cond_t (by omega), List.drop_eq_getElem_cons hi, show (39 : Int) = ((39 : Nat) : Int) from rfl, byte_ne _ 39 39 rfl, wsucc (by omega)]
    unfold qt
    by_cases hc : l[i] = 39
    · rw [cond_f (by simp [hc]), if_neg (by simp [hc])]
      by_cases h1 : i + 1 < l.length
      · simp only [within_t h1, Int.toNat_natCast, getD_at h1, cond_true, byte_eq _ 39 39 rfl]
        rw [cond_t (by omega), List.drop_eq_getElem_cons h1]
        simp only
        by_cases hd : l[i + 1] = 39
        · rw [cond_t hd, if_pos hd, wsucc (by omega)]
          cases d with
          | zero => omega
          | succ d => exact closed_l n l hl d (i + 2) m (by omega) (by omega)
        · rw [cond_f hd, if_neg hd]
          rfl
      · rw [cond_f (by omega), List.drop_of_length_le (by omega)]
        rfl
    · rw [cond_t (by simpa using hc), if_pos hc]
      exact closed_l n l hl d (i + 1) m (by omega) (by omega)
theorem closed_eq {n : Nat} (l : List UInt8) (hl : l.length ≤ 100000) (h0 : 1 ≤ l.length) (hn : 100002 ≤ n) : midrangeref25_closed.F n (bs l) = some (c2o (qt (l.drop 1) 1)) := by
  unfold midrangeref25_closed.F midrangeref25_closed.e
  exact closed_l n l hl (l.length - 1) 1 n (by omega) (by omega)
/-- How far a word goes that is no string. -/
def run (l : List UInt8) : Nat := (l.takeWhile (fun x => x != 32 && x != 39)).length
theorem run_le (l : List UInt8) : run l ≤ l.length := (List.takeWhile_sublist _).length_le
theorem run_end {l : List UInt8} (h : run l < l.length) : l[run l] = 32 ∨ l[run l] = 39 := by
  have hd : l.dropWhile (fun x => x != 32 && x != 39) = l.drop (run l) := by
    have : (l.takeWhile (fun x => x != 32 && x != 39) ++ l.dropWhile (fun x => x != 32 && x != 39)).drop (run l) = l.dropWhile (fun x => x != 32 && x != 39) := by rw [run, List.drop_left]
    rw [List.takeWhile_append_dropWhile] at this
    exact this.symm
  have h2 := List.head?_dropWhile_not (fun x : UInt8 => x != 32 && x != 39) l
  rw [hd, List.head?_drop, List.getElem?_eq_getElem h] at h2
  simp only [Bool.and_eq_false_iff, bne_eq_false_iff_eq] at h2
  exact h2
theorem run_cons {c : UInt8} (h1 : c ≠ 32) (h2 : c ≠ 39) (r : List UInt8) : run (c :: r) = run r + 1 := by simp [run, h1, h2]
/-- Such a word, by it. -/
theorem wrd_run : ∀ (l : List UInt8), (∀ c r, l = c :: r → c ≠ 39) → wrd l = if l.getD (run l) 0 = 39 then 0 else run l
  | [], _ => by rfl
  | c :: r, h => by
    have hc := h c r rfl
    have key : ∀ l : List UInt8, ((l.take (ib l 32)).contains 39 = decide (l.getD (run l) 0 = 39)) ∧ (l.getD (run l) 0 ≠ 39 → run l = ib l 32) := by
      intro l
      induction l with
      | nil => exact ⟨by rfl, fun _ => rfl⟩
      | cons b l ih =>
        by_cases hb : b = 32
        · subst hb
          have e1 : ib ((32 : UInt8) :: l) 32 = 0 := by simp [ib]
          have e2 : run ((32 : UInt8) :: l) = 0 := by simp [run]
          rw [e1, e2]
          exact ⟨by simp, fun _ => rfl⟩
        · have e1 : ib (b :: l) 32 = ib l 32 + 1 := by rw [ib_cons, if_neg hb]
          by_cases h39 : b = 39
          · subst h39
            have e2 : run ((39 : UInt8) :: l) = 0 := by simp [run]
            rw [e1, e2]
            exact ⟨by simp [List.take_succ_cons], fun h => absurd rfl h⟩
          · have e2 : run (b :: l) = run l + 1 := run_cons hb h39 l
            rw [e1, e2, List.take_succ_cons, List.contains_cons, List.getD_cons_succ, ih.1]
            have : ((39 : UInt8) == b) = false := by simpa using fun e : (39 : UInt8) = b => h39 e.symm
            rw [this, Bool.false_or]
            exact ⟨rfl, fun h => by rw [ih.2 h]⟩
    obtain ⟨k1, k2⟩ := key (c :: r)
    rw [wrd_cons, if_neg hc, k1]
    by_cases h39 : (c :: r).getD (run (c :: r)) 0 = 39
    · simp only [h39, decide_true, if_true]
    · simp only [h39, decide_false, Bool.false_eq_true, if_false]
      exact (k2 h39).symm
section
variable {n : Nat} {L : List UInt8}
theorem scan_l (hL : L.length ≤ 1000) (out : List (List UInt8)) (a : Nat) : ∀ (d e m : Nat), e + d = L.length → d < m →
    (midrangeref25_Words.l n m).2.2.2.1 (bs L) a e (Ws out) = if (L.drop e).getD (run (L.drop e)) 0 = 39 then some ([], 8) else (midrangeref25_Words.l n (m - run (L.drop e) - 1)).2.2.2.2 (bs L) a ((e + run (L.drop e) : Nat) : Int) (Ws out)
  | _, _, 0, _, h => absurd h (by omega)
  | 0, e, m + 1, h, _ => by
    show midrangeref25_Words.r19 n (midrangeref25_Words.l n m).1 (midrangeref25_Words.l n m).2.1 (midrangeref25_Words.l n m).2.2.1 (midrangeref25_Words.l n m).2.2.2.1 (midrangeref25_Words.l n m).2.2.2.2 some (bs L) a e (Ws out) = _
    unfold midrangeref25_Words.r19
    simp only [bs_size]
    rw [cond_f (by omega), List.drop_of_length_le (by omega)]
    rfl
  | d + 1, e, m + 1, h, hm => by
    have he : e < L.length := by omega
    have ih := scan_l hL out a d (e + 1) m (by omega) (by omega)
    show midrangeref25_Words.r19 n (midrangeref25_Words.l n m).1 (midrangeref25_Words.l n m).2.1 (midrangeref25_Words.l n m).2.2.1 (midrangeref25_Words.l n m).2.2.2.1 (midrangeref25_Words.l n m).2.2.2.2 some (bs L) a e (Ws out) = _
    unfold midrangeref25_Words.r19
    simp only [bs_size, within_t he, Int.toNat_natCast, getD_at he, cond_true]
    rw [cond_t (by omega), List.drop_eq_getElem_cons he, show (32 : Int) = ((32 : Nat) : Int) from rfl, byte_ne _ 32 32 rfl, show (39 : Int) = ((39 : Nat) : Int) from rfl, byte_eq _ 39 39 rfl, wsucc (by omega)]
    by_cases h32 : L[e] = 32
    · have e2 : run (L[e] :: L.drop (e + 1)) = 0 := by simp [run, h32]
      rw [cond_f (by simpa using h32), e2, List.getD_cons_zero, if_neg (by rw [h32]; decide)]
      rfl
    · by_cases h39 : L[e] = 39
      · have e2 : run (L[e] :: L.drop (e + 1)) = 0 := by simp [run, h39]
        rw [cond_t (by simpa using h32), cond_t h39, e2, List.getD_cons_zero, if_pos h39]
      · have e2 : run (L[e] :: L.drop (e + 1)) = run (L.drop (e + 1)) + 1 := run_cons h32 h39 _
        rw [cond_t (by simpa using h32), cond_f h39, e2, List.getD_cons_succ, ih, show m + 1 - (run (L.drop (e + 1)) + 1) - 1 = m - run (L.drop (e + 1)) - 1 by omega, show e + (run (L.drop (e + 1)) + 1) = e + 1 + run (L.drop (e + 1)) by omega]
theorem words_l (hn : 100002 ≤ n) (hL : L.length ≤ 1000) : ∀ (g a : Nat) (out : List (List UInt8)) (m : Nat), a ≤ L.length → L.length - a < g → 4 * (L.length - a) + 10 ≤ m → out.length + (L.length - a) ≤ 100000 →
    (midrangeref25_Words.l n m).2.2.1 (bs L) a (Ws out) = some (wres out (wordsP g (L.drop a)))
  | 0, _, _, _, _, h, _, _ => absurd h (by omega)
  | g + 1, a, out, m, ha, hg, hm, ho => by
    obtain ⟨m, rfl⟩ : ∃ q, m = q + 1 := ⟨m - 1, by omega⟩
    have hle := wrd_le (L.drop a)
    have hlen : (L.drop a).length = L.length - a := List.length_drop ..
    have hmost : most = 1000000000 := rfl
    -- behind the word
    have fin : ∀ (q e : Nat), a < e → e ≤ L.length → 4 * (L.length - e) + 11 ≤ q → (e < L.length → L.getD e 0 = 32) → wrd (L.drop a) = e - a →
        (midrangeref25_Words.l n q).2.2.2.2 (bs L) a e (Ws out) = some (wres out (wordsP (g + 1) (L.drop a))) := by
      intro q e h1 h2 hq h32 hw
      obtain ⟨q, rfl⟩ : ∃ r, q = r + 2 := ⟨q - 2, by omega⟩
      show midrangeref25_Words.r23 n (midrangeref25_Words.l n (q + 1)).1 (midrangeref25_Words.l n (q + 1)).2.1 (midrangeref25_Words.l n (q + 1)).2.2.1 (midrangeref25_Words.l n (q + 1)).2.2.2.1 (midrangeref25_Words.l n (q + 1)).2.2.2.2 some (bs L) a e (Ws out) = _
      have h12 : (midrangeref25_Words.l n (q + 1)).2.1 (bs L) e = fun o => (midrangeref25_Words.l n q).2.2.1 (bs L) ((e + 1 : Nat) : Int) o := by
        funext o
        show midrangeref25_Words.r12 n (midrangeref25_Words.l n q).1 (midrangeref25_Words.l n q).2.1 (midrangeref25_Words.l n q).2.2.1 (midrangeref25_Words.l n q).2.2.2.1 (midrangeref25_Words.l n q).2.2.2.2 some (bs L) e o = _
        unfold midrangeref25_Words.r12
        rw [wsucc (by omega)]
      unfold midrangeref25_Words.r23 wordsP
      have ex : (bs L).extract a e = bs ((L.drop a).take (e - a)) := bs_extract L a e
      have hw0 : ¬ e - a = 0 := by omega
      rw [beq_int, cond_f (by omega)]
      simp only [bs_size, Int.toNat_natCast, upto_t h2, upto_t (Nat.le_of_lt h1), cond_true, ex, Ws_length, beq_int, h12, Ws_snoc, hw, hw0, if_false]
      by_cases he : e < L.length
      · rw [cond_t (by omega), within_t he, cond_true, bs_getD, h32 he, show ((((32 : UInt8).toNat : Nat) : Int) != 32) = false from rfl, cond_false, cond_t (by simp; omega), cond_f (by omega), if_neg (by omega)]
        rw [wres_map, List.drop_drop, show a + (e - a + 1) = e + 1 by omega]
        exact words_l hn hL g (e + 1) (out ++ [(L.drop a).take (e - a)]) q (by omega) (by omega) (by omega) (by simp; omega)
      · have hee : e = L.length := by omega
        rw [cond_f (by omega), cond_t (by simp; omega), cond_t (by omega), if_pos (by omega)]
        rw [List.take_of_length_le (by omega)]
        rfl
    have bad : wrd (L.drop a) = 0 → some (([] : List AV), (8 : Int)) = some (wres out (wordsP (g + 1) (L.drop a))) := by
      intro h
      unfold wordsP
      rw [if_pos h]
      rfl
    -- a word that is no string
    have plainW : (∀ c r, L.drop a = c :: r → c ≠ 39) → (midrangeref25_Words.l n m).2.2.2.1 (bs L) a a (Ws out) = some (wres out (wordsP (g + 1) (L.drop a))) := by
      intro hne
      have hr := run_le (L.drop a)
      have hw := wrd_run (L.drop a) hne
      rw [scan_l hL out a (L.length - a) a m (by omega) (by omega)]
      by_cases h39 : (L.drop a).getD (run (L.drop a)) 0 = 39
      · rw [if_pos h39] at hw ⊢
        exact bad hw
      · rw [if_neg h39] at hw ⊢
        by_cases h0 : run (L.drop a) = 0
        · rw [h0] at hw ⊢
          obtain ⟨q, hq⟩ : ∃ q, m - 0 - 1 = q + 1 := ⟨m - 2, by omega⟩
          rw [hq]
          show midrangeref25_Words.r23 n (midrangeref25_Words.l n q).1 (midrangeref25_Words.l n q).2.1 (midrangeref25_Words.l n q).2.2.1 (midrangeref25_Words.l n q).2.2.2.1 (midrangeref25_Words.l n q).2.2.2.2 some (bs L) a ((a + 0 : Nat) : Int) (Ws out) = _
          unfold midrangeref25_Words.r23
          rw [beq_int, cond_t (by omega)]
          exact bad hw
        · refine fin _ (a + run (L.drop a)) (by omega) (by omega) (by omega) (fun he => ?_) (by omega)
          have h1 : run (L.drop a) < (L.drop a).length := by omega
          have h2 := run_end h1
          have e1 : (L.drop a).getD (run (L.drop a)) 0 = (L.drop a)[run (L.drop a)] := by rw [List.getD_eq_getElem?_getD, List.getElem?_eq_getElem h1]; rfl
          rw [e1] at h39
          have e2 : L.getD (a + run (L.drop a)) 0 = (L.drop a)[run (L.drop a)] := by rw [List.getElem_drop, List.getD_eq_getElem?_getD, List.getElem?_eq_getElem he]; rfl
          rw [e2]
          exact h2.resolve_right h39
    show midrangeref25_Words.r13 n (midrangeref25_Words.l n m).1 (midrangeref25_Words.l n m).2.1 (midrangeref25_Words.l n m).2.2.1 (midrangeref25_Words.l n m).2.2.2.1 (midrangeref25_Words.l n m).2.2.2.2 some (bs L) a (Ws out) = _
    unfold midrangeref25_Words.r13
    simp only [bs_size]
    by_cases h1 : a < L.length
    · simp only [within_t h1, Int.toNat_natCast, getD_at h1, cond_true]
      rw [cond_t (by omega), show (39 : Int) = ((39 : Nat) : Int) from rfl, byte_eq _ 39 39 rfl]
      have hcons := List.drop_eq_getElem_cons h1
      by_cases h39 : L[a] = 39
      · have e7 : (bs L).extract a L.length = bs (L.drop a) := by
          have := bs_drop L a
          rwa [bs_size] at this
        rw [cond_t h39, upto_t (by omega), cond_true, e7, closed_eq _ (by omega) (by omega) hn, Option.bind_some]
        have hw : wrd (L.drop a) = match qt (L.drop (a + 1)) 1 with
          | none => 0
          | some e => if e < (L.drop a).length ∧ (L.drop a).getD e 0 ≠ 32 then 0 else e := by
          rw [hcons]
          refine (wrd_cons _ _).trans ((if_pos h39).trans ?_)
          cases qt (L.drop (a + 1)) 1 <;> rfl
        rw [show (L.drop a).drop 1 = L.drop (a + 1) from by rw [List.drop_drop]]
        cases hqt : qt (L.drop (a + 1)) 1 with
        | none =>
          rw [hqt] at hw
          exact bad hw
        | some e =>
          rw [hqt] at hw
          have hb := qt_bound _ _ _ hqt
          rw [List.length_drop] at hb
          simp only [c2o, Bool.not_true, cond_false]
          rw [w64 (by omega) (by omega), show (a : Int) + (e : Int) = ((a + e : Nat) : Int) by omega]
          have eD : (L.drop a).getD e 0 = L.getD (a + e) 0 := by simp [List.getD_eq_getElem?_getD]
          simp only [hlen, eD] at hw
          by_cases hbad : e < L.length - a ∧ L.getD (a + e) 0 ≠ 32
          · rw [if_pos hbad] at hw
            obtain ⟨q, rfl⟩ : ∃ q, m = q + 1 := ⟨m - 1, by omega⟩
            show midrangeref25_Words.r23 n (midrangeref25_Words.l n q).1 (midrangeref25_Words.l n q).2.1 (midrangeref25_Words.l n q).2.2.1 (midrangeref25_Words.l n q).2.2.2.1 (midrangeref25_Words.l n q).2.2.2.2 some (bs L) a ((a + e : Nat) : Int) (Ws out) = _
            unfold midrangeref25_Words.r23
            have hlt : a + e < L.length := by omega
            rw [beq_int, cond_f (by omega)]
            simp only [bs_size, within_t hlt, cond_true, Int.toNat_natCast]
            rw [cond_t (by omega), bs_getD, show (32 : Int) = ((32 : Nat) : Int) from rfl, byte_ne _ 32 32 rfl, cond_t (by exact hbad.2)]
            exact bad hw
          · rw [if_neg hbad] at hw
            refine fin m (a + e) (by omega) (by omega) (by omega) (fun he => ?_) (by omega)
            by_cases h32 : L.getD (a + e) 0 = 32
            · exact h32
            · exact absurd ⟨by omega, h32⟩ hbad
      · rw [cond_f h39]
        exact plainW (fun c r h => by rw [hcons] at h; injection h with h2 h3; rw [← h2]; exact h39)
    · rw [cond_f (by omega)]
      exact plainW (fun c r h => by rw [List.drop_of_length_le (by omega)] at h; cases h)
theorem wordsC_l (hn : 100002 ≤ n) (hL : L.length ≤ 1000) : ∀ (d i m : Nat), i + d = L.length → d + 5000 ≤ m →
    (midrangeref25_Words.l n m).1 (bs L) i = some (if (L.drop i).all okc = false then ([], 8) else if L = [] then ([], 0) else wres [] (wordsP (L.length + 1) L))
  | 0, i, m, h, hm => by
    obtain ⟨m, rfl⟩ : ∃ q, m = q + 1 := ⟨m - 1, by omega⟩
    show midrangeref25_Words.r4 n (midrangeref25_Words.l n m).1 (midrangeref25_Words.l n m).2.1 (midrangeref25_Words.l n m).2.2.1 (midrangeref25_Words.l n m).2.2.2.1 (midrangeref25_Words.l n m).2.2.2.2 some (bs L) i = _
    unfold midrangeref25_Words.r4
    simp only [bs_size, empty_eq]
    rw [cond_f (by omega), List.drop_of_length_le (by omega), if_neg (by simp)]
    by_cases h0 : L = []
    · rw [cond_t h0, if_pos h0]
    · rw [cond_f h0, if_neg h0]
      have := words_l hn hL (L.length + 1) 0 [] m (by omega) (by omega) (by omega) (by simp; omega)
      rw [List.drop_zero] at this
      exact this
  | d + 1, i, m, h, hm => by
    obtain ⟨m, rfl⟩ : ∃ q, m = q + 1 := ⟨m - 1, by omega⟩
    have hi : i < L.length := by omega
    have ih := wordsC_l hn hL d (i + 1) m (by omega) (by omega)
    show midrangeref25_Words.r4 n (midrangeref25_Words.l n m).1 (midrangeref25_Words.l n m).2.1 (midrangeref25_Words.l n m).2.2.1 (midrangeref25_Words.l n m).2.2.2.1 (midrangeref25_Words.l n m).2.2.2.2 some (bs L) i = _
    have hb := L[i].toNat_lt
    unfold midrangeref25_Words.r4
    simp only [bs_size, within_t hi, Int.toNat_natCast, getD_at hi, cond_true]
    rw [cond_t (by omega), Within_eq, Option.bind_some, w64 (by omega) (by omega), List.drop_eq_getElem_cons hi, List.all_cons, wsucc (by omega), ih]
    have e : decide ((32 : Int) ≤ ((L[i].toNat : Nat) : Int) ∧ ((L[i].toNat : Nat) : Int) ≤ 126) = okc L[i] := by
      unfold okc
      rw [← Bool.decide_and, decide_eq_decide]
      omega
    rw [e]
    cases okc L[i] <;> rfl
theorem wordsRef_eq (hn : 200002 ≤ n) (hL : L.length ≤ 1000) : midrangeref25_Words.F n (bs L) = some (wordsR L) := by
  unfold midrangeref25_Words.F midrangeref25_Words.e wordsR
  simp only [bs_size]
  by_cases h1 : L.length > 240
  · rw [cond_t (by omega), if_pos h1]
  · rw [cond_f (by omega), if_neg h1]
    have := wordsC_l (n := n) (by omega) hL L.length 0 n (by omega) (by omega)
    rw [List.drop_zero] at this
    exact this
end
theorem strings_l {n : Nat} (ws : List (List UInt8)) (hw : ws.length ≤ 100000) : ∀ (d i m : Nat), i + d = ws.length → d < m → midrangebase_Strings.l n m (Ws ws) (Ws ws) i = some true
  | _, _, 0, _, h => absurd h (by omega)
  | 0, i, m + 1, h, _ => by
    show midrangebase_Strings.r4 n (midrangebase_Strings.l n m) some (Ws ws) (Ws ws) i = _
    unfold midrangebase_Strings.r4
    simp only [Ws_length]
    rw [cond_f (by omega)]
  | d + 1, i, m + 1, h, hm => by
    have hi : i < ws.length := by omega
    have ih := strings_l (n := n) ws hw d (i + 1) m (by omega) (by omega)
    show midrangebase_Strings.r4 n (midrangebase_Strings.l n m) some (Ws ws) (Ws ws) i = _
    unfold midrangebase_Strings.r4
    have e : (Ws ws).getD (((i : Nat) : Int)).toNat AV.undef = vs (bs ws[i]) := by simp [Ws, List.getD_eq_getElem?_getD, hi]
    simp only [Ws_length, within_t hi, cond_true, e]
    rw [cond_t (by omega)]
    show (bif !((bs ws[i]).toList == (bs ws[i]).toList) then _ else _) = _
    rw [beq_self_eq_true, wsucc (by omega)]
    exact ih
theorem wordsP_len : ∀ (g : Nat) (l : List UInt8) (ws : List (List UInt8)), wordsP g l = some ws → ws.length ≤ l.length + 1
  | 0, _, _, h => by cases h
  | g + 1, l, ws, h => by
    unfold wordsP at h
    split at h
    · cases h
    · split at h
      · cases h; simp
      · rename_i h1 h2
        rw [Option.map_eq_some_iff] at h
        obtain ⟨w, hw, rfl⟩ := h
        have := wordsP_len g _ _ hw
        rw [List.length_drop] at this
        have := wrd_le l
        simp only [List.length_cons]
        omega
/-- P25.1: words. -/
theorem words_law {n : Nat} (hn : 1000002 ≤ n) (s : ByteArray) : midrangelaw25_DdsWords.F n s = some true := by
  obtain ⟨l, rfl⟩ : ∃ l, s = bs l := ⟨s.data.toList, rfl⟩
  unfold midrangelaw25_DdsWords.F midrangelaw25_DdsWords.e
  rw [awake_eq, Option.bind_some]
  show (bif false then _ else _) = _
  rw [cond_false]
  simp only [bs_size]
  by_cases h3 : ((l.length : Nat) : Int) > 300
  · rw [cond_t h3]
  · rw [cond_f h3, wordsOf_eq (by omega) l (by omega), Option.bind_some, wordsRef_eq (by omega) (by omega), Option.bind_some, beq_self_eq_true, cond_true]
    have : ∃ ws : List (List UInt8), (wordsR l).1 = Ws ws ∧ ws.length ≤ 100000 := by
      unfold wordsR
      split
      · exact ⟨[], rfl, by simp⟩
      · split
        · exact ⟨[], rfl, by simp⟩
        · split
          · exact ⟨[], rfl, by simp⟩
          · cases hp : wordsP (l.length + 1) l with
            | none => exact ⟨[], rfl, by simp⟩
            | some ws =>
              have := wordsP_len _ _ _ hp
              exact ⟨ws, by simp [wres], by omega⟩
    obtain ⟨ws, h1, h2⟩ := this
    rw [h1]
    have hs : midrangebase_Strings.F n (Ws ws) (Ws ws) = some true := by
      unfold midrangebase_Strings.F midrangebase_Strings.e
      simp only [bne_self_eq_false, cond_false]
      exact strings_l ws h2 ws.length 0 n (by omega) (by omega)
    rw [hs]
    rfl
end Go.Proofs.YtmpglmcjoelciaaGreatDoor.Ev
