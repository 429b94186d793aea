/- The table of the program's types, and that it is right. Printed by the session's own program. -/
import Derived.Test.YtmpglmcjoelciaaGreatDoorOTVc
import Derived.Test.YtmpglmcjoelciaaGreatDoorProg
import Derived.KernelRfl
import Derived.Shelf.Strings.Builder1
import Derived.Shelf.Strings.Builder2
import Derived.Shelf.Strings.Trim
import Derived.Shelf.Small.Utf8
import Derived.Shelf.Small.Strs
import Derived.Shelf.Strings.BuilderF
import Derived.Shelf.Utf8.RuneCount
import Derived.Shelf.Strconv.Atoi
import Derived.Shelf.Strconv.Itoa0
import Derived.Shelf.Strconv.Itoa1
import Derived.Shelf.LaysM
import Derived.Shelf.Strconv.Itoa2
import Derived.Shelf.Strconv.Itoa3
import Derived.Shelf.Strconv.AtoiErrFast
import Derived.Shelf.Strconv.ParseIntEmpty
import Derived.Shelf.Strconv.AtoiFail
import Derived.Shelf.Strconv.Clone
import Derived.Shelf.Strconv.SyntaxError
import Derived.Shelf.LaysC
import Derived.Shelf.Strconv.ToError
import Derived.Shelf.Strconv.Lower
import Derived.Shelf.Strconv.ParseUint10
import Derived.Shelf.Strconv.ParseUint10Empty
import Derived.Shelf.Strconv.ParseUint10Any
import Derived.Shelf.Strconv.ParseInt10
import Derived.Shelf.Strconv.AtoiLong
import Derived.Shelf.Strconv.AtoiInnerAll
import Derived.Shelf.Strconv.RangeError
import Derived.Shelf.Strconv.ToErrorRange
import Derived.Shelf.Strconv.AtoiAll
import Derived.Shelf.Strconv.ErrVarAll
import Derived.Shelf.Strings.Search1
import Derived.Shelf.Strings.Search2
import Derived.Shelf.Strings.Search3
import Derived.Shelf.Strings.Cut
import Derived.Shelf.Strings.Count
import Derived.Shelf.Strings.Shaped
import Derived.Shelf.Strings.Split
import Derived.Shelf.Strings.Replace
import Derived.Shelf.Strings.SplitShaped
import Derived.Shelf.Unicode.Decode
import Derived.Shelf.Strings.Runes
import Derived.Shelf.Strings.RuneCount
import Derived.Shelf.Strings.AsciiSet
import Derived.Shelf.Unicode.DecodeSlow
import Derived.Shelf.Unicode.DecodeAny
import Derived.Shelf.Strings.SlTrimAscii
import Derived.PlainAid
import Derived.IntWalk
import Derived.Laws.Strings
import Derived.Lib.AtoiTie

namespace Go.Proofs.YtmpglmcjoelciaaGreatDoor.Ev
open Go Go.Proofs Go.Proofs.Ev
set_option linter.unusedVariables false
set_option maxRecDepth 100000
noncomputable def tabL : List (Option TI) := [
  none,
  Option.some ⟨.other, 1, 8, false, [.any], [.nilFunc], 1⟩,
  Option.some ⟨.int .i64, 1, 8, false, [(.int .i64)], [.int .i64 0], 2⟩,
  Option.some ⟨.int .i64, 1, 8, false, [(.int .i64)], [.int .i64 0], 3⟩,
  Option.some ⟨.bool, 1, 1, false, [.bool], [.bool false], 4⟩,
  Option.some ⟨.int .u8, 1, 1, false, [(.int .u8)], [.int .u8 0], 5⟩,
  none,
  none,
  none,
  Option.some ⟨.string, 1, 16, false, [.str], [.string ⟨#[]⟩], 9⟩,
  none,
  none,
  Option.some ⟨.int .u64, 1, 8, false, [(.int .u64)], [.int .u64 0], 12⟩,
  none,
  none,
  Option.some ⟨.ptr 258, 1, 8, false, [.any], [.pointer none], 15⟩,
  Option.some ⟨.ptr 261, 1, 8, false, [.any], [.pointer none], 16⟩,
  Option.some ⟨.ptr 269, 1, 8, false, [.any], [.pointer none], 17⟩,
  none,
  none,
  Option.some ⟨.iface, 1, 16, false, [.any], [.nilIface], 20⟩,
  Option.some ⟨.int .i32, 1, 4, false, [(.int .i32)], [.int .i32 0], 21⟩,
  Option.some ⟨.other, 1, 8, false, [.any], [.nilFunc], 22⟩,
  Option.some ⟨.slice 9, 1, 24, false, [(.slice ⟨true, 9⟩ 1)], [.slice none 0 0], 23⟩,
  Option.some ⟨.int .i64, 1, 8, false, [(.int .i64)], [.int .i64 0], 24⟩,
  none,
  Option.some ⟨.other, 1, 8, false, [.any], [.nilFunc], 26⟩,
  none,
  Option.some ⟨.other, 1, 8, false, [.any], [.nilFunc], 28⟩,
  Option.some ⟨.other, 1, 8, false, [.any], [.nilFunc], 29⟩,
  Option.some ⟨.other, 1, 8, false, [.any], [.nilFunc], 30⟩,
  Option.some ⟨.slice 95, 1, 24, false, [(.slice ⟨true, 95⟩ 3)], [.slice none 0 0], 31⟩,
  Option.some ⟨.slice 97, 1, 24, false, [(.slice ⟨true, 97⟩ 4)], [.slice none 0 0], 32⟩,
  Option.some ⟨.slice 111, 1, 24, false, [(.slice ⟨true, 111⟩ 2)], [.slice none 0 0], 33⟩,
  Option.some ⟨.slice 100, 1, 24, false, [(.slice ⟨false, 100⟩ 2)], [.slice none 0 0], 34⟩,
  Option.some ⟨.struct [(9, 0), (9, 1), (23, 2), (31, 3), (32, 4), (33, 5), (4, 6), (34, 7)], 8, 160, true, [.str, .str, (.slice ⟨true, 9⟩ 1), (.slice ⟨true, 95⟩ 3), (.slice ⟨true, 97⟩ 4), (.slice ⟨true, 111⟩ 2), .bool, (.slice ⟨false, 100⟩ 2)], [.string ⟨#[]⟩, .string ⟨#[]⟩, .slice none 0 0, .slice none 0 0, .slice none 0 0, .slice none 0 0, .bool false, .slice none 0 0], 35⟩,
  Option.some ⟨.struct [(9, 0), (9, 1), (23, 2), (31, 3), (32, 4), (33, 5), (4, 6), (34, 7)], 8, 160, true, [.str, .str, (.slice ⟨true, 9⟩ 1), (.slice ⟨true, 95⟩ 3), (.slice ⟨true, 97⟩ 4), (.slice ⟨true, 111⟩ 2), .bool, (.slice ⟨false, 100⟩ 2)], [.string ⟨#[]⟩, .string ⟨#[]⟩, .slice none 0 0, .slice none 0 0, .slice none 0 0, .slice none 0 0, .bool false, .slice none 0 0], 36⟩,
  Option.some ⟨.other, 1, 8, false, [.any], [.nilFunc], 37⟩,
  none,
  Option.some ⟨.other, 1, 8, false, [.any], [.nilFunc], 39⟩,
  Option.some ⟨.other, 1, 8, false, [.any], [.nilFunc], 40⟩,
  none,
  Option.some ⟨.other, 1, 8, false, [.any], [.nilFunc], 42⟩,
  Option.some ⟨.other, 1, 8, false, [.any], [.nilFunc], 43⟩,
  Option.some ⟨.slice 125, 1, 24, false, [(.slice ⟨true, 125⟩ 4)], [.slice none 0 0], 44⟩,
  Option.some ⟨.struct [(9, 0), (44, 1)], 2, 40, true, [.str, (.slice ⟨true, 125⟩ 4)], [.string ⟨#[]⟩, .slice none 0 0], 45⟩,
  Option.some ⟨.struct [(9, 0), (44, 1)], 2, 40, true, [.str, (.slice ⟨true, 125⟩ 4)], [.string ⟨#[]⟩, .slice none 0 0], 46⟩,
  Option.some ⟨.struct [(9, 0), (46, 1), (33, 3), (4, 4)], 5, 88, true, [.str, .str, (.slice ⟨true, 125⟩ 4), (.slice ⟨true, 111⟩ 2), .bool], [.string ⟨#[]⟩, .string ⟨#[]⟩, .slice none 0 0, .slice none 0 0, .bool false], 47⟩,
  Option.some ⟨.struct [(9, 0), (46, 1), (33, 3), (4, 4)], 5, 88, true, [.str, .str, (.slice ⟨true, 125⟩ 4), (.slice ⟨true, 111⟩ 2), .bool], [.string ⟨#[]⟩, .string ⟨#[]⟩, .slice none 0 0, .slice none 0 0, .bool false], 48⟩,
  Option.some ⟨.struct [(4, 0), (48, 1), (36, 6)], 14, 256, true, [.bool, .str, .str, (.slice ⟨true, 125⟩ 4), (.slice ⟨true, 111⟩ 2), .bool, .str, .str, (.slice ⟨true, 9⟩ 1), (.slice ⟨true, 95⟩ 3), (.slice ⟨true, 97⟩ 4), (.slice ⟨true, 111⟩ 2), .bool, (.slice ⟨false, 100⟩ 2)], [.bool false, .string ⟨#[]⟩, .string ⟨#[]⟩, .slice none 0 0, .slice none 0 0, .bool false, .string ⟨#[]⟩, .string ⟨#[]⟩, .slice none 0 0, .slice none 0 0, .slice none 0 0, .slice none 0 0, .bool false, .slice none 0 0], 49⟩,
  Option.some ⟨.struct [(4, 0), (48, 1), (36, 6)], 14, 256, true, [.bool, .str, .str, (.slice ⟨true, 125⟩ 4), (.slice ⟨true, 111⟩ 2), .bool, .str, .str, (.slice ⟨true, 9⟩ 1), (.slice ⟨true, 95⟩ 3), (.slice ⟨true, 97⟩ 4), (.slice ⟨true, 111⟩ 2), .bool, (.slice ⟨false, 100⟩ 2)], [.bool false, .string ⟨#[]⟩, .string ⟨#[]⟩, .slice none 0 0, .slice none 0 0, .bool false, .string ⟨#[]⟩, .string ⟨#[]⟩, .slice none 0 0, .slice none 0 0, .slice none 0 0, .slice none 0 0, .bool false, .slice none 0 0], 50⟩,
  none,
  Option.some ⟨.other, 1, 8, false, [.any], [.nilFunc], 52⟩,
  Option.some ⟨.other, 1, 8, false, [.any], [.nilFunc], 53⟩,
  none,
  Option.some ⟨.other, 1, 8, false, [.any], [.nilFunc], 55⟩,
  Option.some ⟨.other, 1, 8, false, [.any], [.nilFunc], 56⟩,
  Option.some ⟨.other, 1, 8, false, [.any], [.nilFunc], 57⟩,
  Option.some ⟨.other, 1, 8, false, [.any], [.nilFunc], 58⟩,
  Option.some ⟨.other, 1, 8, false, [.any], [.nilFunc], 59⟩,
  Option.some ⟨.other, 1, 8, false, [.any], [.nilFunc], 60⟩,
  Option.some ⟨.other, 1, 8, false, [.any], [.nilFunc], 61⟩,
  Option.some ⟨.struct [(3, 0), (3, 1), (3, 2)], 3, 24, true, [(.int .i64), (.int .i64), (.int .i64)], [.int .i64 0, .int .i64 0, .int .i64 0], 62⟩,
  Option.some ⟨.struct [(3, 0), (3, 1), (3, 2)], 3, 24, true, [(.int .i64), (.int .i64), (.int .i64)], [.int .i64 0, .int .i64 0, .int .i64 0], 63⟩,
  none,
  Option.some ⟨.other, 1, 8, false, [.any], [.nilFunc], 65⟩,
  none,
  Option.some ⟨.other, 1, 8, false, [.any], [.nilFunc], 67⟩,
  Option.some ⟨.other, 1, 8, false, [.any], [.nilFunc], 68⟩,
  none,
  Option.some ⟨.other, 1, 8, false, [.any], [.nilFunc], 70⟩,
  Option.some ⟨.other, 1, 8, false, [.any], [.nilFunc], 71⟩,
  Option.some ⟨.other, 1, 8, false, [.any], [.nilFunc], 72⟩,
  Option.some ⟨.other, 1, 8, false, [.any], [.nilFunc], 73⟩,
  Option.some ⟨.slice 48, 1, 24, false, [(.slice ⟨false, 48⟩ 5)], [.slice none 0 0], 74⟩,
  Option.some ⟨.other, 1, 8, false, [.any], [.nilFunc], 75⟩,
  none,
  Option.some ⟨.other, 1, 8, false, [.any], [.nilFunc], 77⟩,
  Option.some ⟨.other, 1, 8, false, [.any], [.nilFunc], 78⟩,
  Option.some ⟨.other, 1, 8, false, [.any], [.nilFunc], 79⟩,
  Option.some ⟨.other, 1, 8, false, [.any], [.nilFunc], 80⟩,
  Option.some ⟨.other, 1, 8, false, [.any], [.nilFunc], 81⟩,
  Option.some ⟨.other, 1, 8, false, [.any], [.nilFunc], 82⟩,
  Option.some ⟨.other, 1, 8, false, [.any], [.nilFunc], 83⟩,
  Option.some ⟨.other, 1, 8, false, [.any], [.nilFunc], 84⟩,
  Option.some ⟨.other, 1, 8, false, [.any], [.nilFunc], 85⟩,
  Option.some ⟨.other, 1, 8, false, [.any], [.nilFunc], 86⟩,
  Option.some ⟨.other, 1, 8, false, [.any], [.nilFunc], 87⟩,
  Option.some ⟨.other, 1, 8, false, [.any], [.nilFunc], 88⟩,
  Option.some ⟨.other, 1, 8, false, [.any], [.nilFunc], 89⟩,
  Option.some ⟨.other, 1, 8, false, [.any], [.nilFunc], 90⟩,
  none,
  Option.some ⟨.other, 1, 8, false, [.any], [.nilFunc], 92⟩,
  Option.some ⟨.other, 1, 8, false, [.any], [.nilFunc], 93⟩,
  Option.some ⟨.struct [(9, 0), (3, 1), (9, 2)], 3, 40, true, [.str, (.int .i64), .str], [.string ⟨#[]⟩, .int .i64 0, .string ⟨#[]⟩], 94⟩,
  Option.some ⟨.struct [(9, 0), (3, 1), (9, 2)], 3, 40, true, [.str, (.int .i64), .str], [.string ⟨#[]⟩, .int .i64 0, .string ⟨#[]⟩], 95⟩,
  Option.some ⟨.struct [(3, 0), (9, 1), (3, 2), (9, 3)], 4, 48, true, [(.int .i64), .str, (.int .i64), .str], [.int .i64 0, .string ⟨#[]⟩, .int .i64 0, .string ⟨#[]⟩], 96⟩,
  Option.some ⟨.struct [(3, 0), (9, 1), (3, 2), (9, 3)], 4, 48, true, [(.int .i64), .str, (.int .i64), .str], [.int .i64 0, .string ⟨#[]⟩, .int .i64 0, .string ⟨#[]⟩], 97⟩,
  Option.some ⟨.slice 104, 1, 24, false, [(.slice ⟨true, 104⟩ 4)], [.slice none 0 0], 98⟩,
  Option.some ⟨.struct [(4, 0), (98, 1)], 2, 32, true, [.bool, (.slice ⟨true, 104⟩ 4)], [.bool false, .slice none 0 0], 99⟩,
  Option.some ⟨.struct [(4, 0), (98, 1)], 2, 32, true, [.bool, (.slice ⟨true, 104⟩ 4)], [.bool false, .slice none 0 0], 100⟩,
  Option.some ⟨.struct [(3, 0), (9, 1)], 2, 24, true, [(.int .i64), .str], [.int .i64 0, .string ⟨#[]⟩], 101⟩,
  Option.some ⟨.struct [(3, 0), (9, 1)], 2, 24, true, [(.int .i64), .str], [.int .i64 0, .string ⟨#[]⟩], 102⟩,
  Option.some ⟨.struct [(9, 0), (3, 1), (102, 2)], 4, 48, true, [.str, (.int .i64), (.int .i64), .str], [.string ⟨#[]⟩, .int .i64 0, .int .i64 0, .string ⟨#[]⟩], 103⟩,
  Option.some ⟨.struct [(9, 0), (3, 1), (102, 2)], 4, 48, true, [.str, (.int .i64), (.int .i64), .str], [.string ⟨#[]⟩, .int .i64 0, .int .i64 0, .string ⟨#[]⟩], 104⟩,
  Option.some ⟨.other, 1, 8, false, [.any], [.nilFunc], 105⟩,
  Option.some ⟨.other, 1, 8, false, [.any], [.nilFunc], 106⟩,
  Option.some ⟨.slice 39, 1, 24, false, [(.slice ⟨false, 39⟩ 1)], [.slice none 0 0], 107⟩,
  Option.some ⟨.other, 1, 8, false, [.any], [.nilFunc], 108⟩,
  Option.some ⟨.other, 1, 8, false, [.any], [.nilFunc], 109⟩,
  Option.some ⟨.struct [(9, 0), (4, 1)], 2, 24, true, [.str, .bool], [.string ⟨#[]⟩, .bool false], 110⟩,
  Option.some ⟨.struct [(9, 0), (4, 1)], 2, 24, true, [.str, .bool], [.string ⟨#[]⟩, .bool false], 111⟩,
  Option.some ⟨.other, 1, 8, false, [.any], [.nilFunc], 112⟩,
  Option.some ⟨.ptr 115, 1, 8, false, [.any], [.pointer none], 113⟩,
  Option.some ⟨.struct [(50, 0), (3, 14)], 15, 264, true, [.bool, .str, .str, (.slice ⟨true, 125⟩ 4), (.slice ⟨true, 111⟩ 2), .bool, .str, .str, (.slice ⟨true, 9⟩ 1), (.slice ⟨true, 95⟩ 3), (.slice ⟨true, 97⟩ 4), (.slice ⟨true, 111⟩ 2), .bool, (.slice ⟨false, 100⟩ 2), (.int .i64)], [.bool false, .string ⟨#[]⟩, .string ⟨#[]⟩, .slice none 0 0, .slice none 0 0, .bool false, .string ⟨#[]⟩, .string ⟨#[]⟩, .slice none 0 0, .slice none 0 0, .slice none 0 0, .slice none 0 0, .bool false, .slice none 0 0, .int .i64 0], 114⟩,
  Option.some ⟨.struct [(50, 0), (3, 14)], 15, 264, true, [.bool, .str, .str, (.slice ⟨true, 125⟩ 4), (.slice ⟨true, 111⟩ 2), .bool, .str, .str, (.slice ⟨true, 9⟩ 1), (.slice ⟨true, 95⟩ 3), (.slice ⟨true, 97⟩ 4), (.slice ⟨true, 111⟩ 2), .bool, (.slice ⟨false, 100⟩ 2), (.int .i64)], [.bool false, .string ⟨#[]⟩, .string ⟨#[]⟩, .slice none 0 0, .slice none 0 0, .bool false, .string ⟨#[]⟩, .string ⟨#[]⟩, .slice none 0 0, .slice none 0 0, .slice none 0 0, .slice none 0 0, .bool false, .slice none 0 0, .int .i64 0], 115⟩,
  Option.some ⟨.other, 1, 8, false, [.any], [.nilFunc], 116⟩,
  Option.some ⟨.other, 1, 8, false, [.any], [.nilFunc], 117⟩,
  Option.some ⟨.ptr 50, 1, 8, false, [.any], [.pointer none], 118⟩,
  Option.some ⟨.other, 1, 8, false, [.any], [.nilFunc], 119⟩,
  Option.some ⟨.other, 1, 8, false, [.any], [.nilFunc], 120⟩,
  Option.some ⟨.other, 1, 8, false, [.any], [.nilFunc], 121⟩,
  Option.some ⟨.other, 1, 8, false, [.any], [.nilFunc], 122⟩,
  Option.some ⟨.other, 1, 8, false, [.any], [.nilFunc], 123⟩,
  Option.some ⟨.struct [(9, 0), (63, 1)], 4, 40, true, [.str, (.int .i64), (.int .i64), (.int .i64)], [.string ⟨#[]⟩, .int .i64 0, .int .i64 0, .int .i64 0], 124⟩,
  Option.some ⟨.struct [(9, 0), (63, 1)], 4, 40, true, [.str, (.int .i64), (.int .i64), (.int .i64)], [.string ⟨#[]⟩, .int .i64 0, .int .i64 0, .int .i64 0], 125⟩,
  Option.some ⟨.other, 1, 8, false, [.any], [.nilFunc], 126⟩,
  Option.some ⟨.other, 1, 8, false, [.any], [.nilFunc], 127⟩,
  none,
  Option.some ⟨.other, 1, 8, false, [.any], [.nilFunc], 129⟩,
  Option.some ⟨.other, 1, 8, false, [.any], [.nilFunc], 130⟩,
  Option.some ⟨.other, 1, 8, false, [.any], [.nilFunc], 131⟩,
  Option.some ⟨.other, 1, 8, false, [.any], [.nilFunc], 132⟩,
  Option.some ⟨.slice 3, 1, 24, false, [(.slice ⟨true, 3⟩ 1)], [.slice none 0 0], 133⟩,
  Option.some ⟨.other, 1, 8, false, [.any], [.nilFunc], 134⟩,
  Option.some ⟨.other, 1, 8, false, [.any], [.nilFunc], 135⟩,
  Option.some ⟨.other, 1, 8, false, [.any], [.nilFunc], 136⟩,
  none,
  Option.some ⟨.other, 1, 8, false, [.any], [.nilFunc], 138⟩,
  Option.some ⟨.other, 1, 8, false, [.any], [.nilFunc], 139⟩,
  Option.some ⟨.other, 1, 8, false, [.any], [.nilFunc], 140⟩,
  Option.some ⟨.other, 1, 8, false, [.any], [.nilFunc], 141⟩,
  Option.some ⟨.other, 1, 8, false, [.any], [.nilFunc], 142⟩,
  Option.some ⟨.other, 1, 8, false, [.any], [.nilFunc], 143⟩,
  Option.some ⟨.slice 24, 1, 24, false, [(.slice ⟨true, 24⟩ 1)], [.slice none 0 0], 144⟩,
  Option.some ⟨.slice 5, 1, 24, false, [(.slice ⟨true, 5⟩ 1)], [.slice none 0 0], 145⟩,
  Option.some ⟨.other, 1, 8, false, [.any], [.nilFunc], 146⟩,
  Option.some ⟨.other, 1, 8, false, [.any], [.nilFunc], 147⟩,
  Option.some ⟨.other, 1, 8, false, [.any], [.nilFunc], 148⟩,
  Option.some ⟨.slice 4, 1, 24, false, [(.slice ⟨true, 4⟩ 1)], [.slice none 0 0], 149⟩,
  Option.some ⟨.other, 1, 8, false, [.any], [.nilFunc], 150⟩,
  Option.some ⟨.other, 1, 8, false, [.any], [.nilFunc], 151⟩,
  Option.some ⟨.other, 1, 8, false, [.any], [.nilFunc], 152⟩,
  Option.some ⟨.other, 1, 8, false, [.any], [.nilFunc], 153⟩,
  Option.some ⟨.other, 1, 8, false, [.any], [.nilFunc], 154⟩,
  Option.some ⟨.slice 43, 1, 24, false, [(.slice ⟨false, 43⟩ 1)], [.slice none 0 0], 155⟩,
  Option.some ⟨.other, 1, 8, false, [.any], [.nilFunc], 156⟩,
  Option.some ⟨.other, 1, 8, false, [.any], [.nilFunc], 157⟩,
  Option.some ⟨.other, 1, 8, false, [.any], [.nilFunc], 158⟩,
  Option.some ⟨.other, 1, 8, false, [.any], [.nilFunc], 159⟩,
  Option.some ⟨.other, 1, 8, false, [.any], [.nilFunc], 160⟩,
  Option.some ⟨.other, 1, 8, false, [.any], [.nilFunc], 161⟩,
  Option.some ⟨.other, 1, 8, false, [.any], [.nilFunc], 162⟩,
  Option.some ⟨.other, 1, 8, false, [.any], [.nilFunc], 163⟩,
  none,
  Option.some ⟨.other, 1, 8, false, [.any], [.nilFunc], 165⟩,
  Option.some ⟨.other, 1, 8, false, [.any], [.nilFunc], 166⟩,
  Option.some ⟨.other, 1, 8, false, [.any], [.nilFunc], 167⟩,
  Option.some ⟨.other, 1, 8, false, [.any], [.nilFunc], 168⟩,
  Option.some ⟨.other, 1, 8, false, [.any], [.nilFunc], 169⟩,
  Option.some ⟨.other, 1, 8, false, [.any], [.nilFunc], 170⟩,
  Option.some ⟨.other, 1, 8, false, [.any], [.nilFunc], 171⟩,
  Option.some ⟨.other, 1, 8, false, [.any], [.nilFunc], 172⟩,
  Option.some ⟨.other, 1, 8, false, [.any], [.nilFunc], 173⟩,
  Option.some ⟨.other, 1, 8, false, [.any], [.nilFunc], 174⟩,
  none,
  Option.some ⟨.other, 1, 8, false, [.any], [.nilFunc], 176⟩,
  Option.some ⟨.other, 1, 8, false, [.any], [.nilFunc], 177⟩,
  Option.some ⟨.other, 1, 8, false, [.any], [.nilFunc], 178⟩,
  Option.some ⟨.iface, 1, 16, false, [.any], [.nilIface], 179⟩,
  Option.some ⟨.iface, 1, 16, false, [.any], [.nilIface], 180⟩,
  none,
  Option.some ⟨.other, 1, 8, false, [.any], [.nilFunc], 182⟩,
  Option.some ⟨.other, 1, 8, false, [.any], [.nilFunc], 183⟩,
  Option.some ⟨.other, 1, 8, false, [.any], [.nilFunc], 184⟩,
  Option.some ⟨.other, 1, 8, false, [.any], [.nilFunc], 185⟩,
  Option.some ⟨.other, 1, 8, false, [.any], [.nilFunc], 186⟩,
  Option.some ⟨.other, 1, 8, false, [.any], [.nilFunc], 187⟩,
  Option.some ⟨.other, 1, 8, false, [.any], [.nilFunc], 188⟩,
  Option.some ⟨.int .u64, 1, 8, false, [(.int .u64)], [.int .u64 0], 189⟩,
  Option.some ⟨.struct [(3, 0), (3, 1)], 2, 16, true, [(.int .i64), (.int .i64)], [.int .i64 0, .int .i64 0], 190⟩,
  Option.some ⟨.struct [(3, 0), (3, 1)], 2, 16, true, [(.int .i64), (.int .i64)], [.int .i64 0, .int .i64 0], 191⟩,
  none,
  Option.some ⟨.other, 1, 8, false, [.any], [.nilFunc], 193⟩,
  Option.some ⟨.arr 24 5, 24, 24, true, [(.int .u8), (.int .u8), (.int .u8), (.int .u8), (.int .u8), (.int .u8), (.int .u8), (.int .u8), (.int .u8), (.int .u8), (.int .u8), (.int .u8), (.int .u8), (.int .u8), (.int .u8), (.int .u8), (.int .u8), (.int .u8), (.int .u8), (.int .u8), (.int .u8), (.int .u8), (.int .u8), (.int .u8)], [.int .u8 0, .int .u8 0, .int .u8 0, .int .u8 0, .int .u8 0, .int .u8 0, .int .u8 0, .int .u8 0, .int .u8 0, .int .u8 0, .int .u8 0, .int .u8 0, .int .u8 0, .int .u8 0, .int .u8 0, .int .u8 0, .int .u8 0, .int .u8 0, .int .u8 0, .int .u8 0, .int .u8 0, .int .u8 0, .int .u8 0, .int .u8 0], 194⟩,
  Option.some ⟨.int .u64, 1, 8, false, [(.int .u64)], [.int .u64 0], 195⟩,
  Option.some ⟨.other, 1, 8, false, [.any], [.nilFunc], 196⟩,
  Option.some ⟨.other, 1, 8, false, [.any], [.nilFunc], 197⟩,
  none,
  Option.some ⟨.other, 1, 8, false, [.any], [.nilFunc], 199⟩,
  Option.some ⟨.ptr 202, 1, 8, false, [.any], [.pointer none], 200⟩,
  Option.some ⟨.struct [(200, 0), (145, 1)], 2, 32, true, [.any, (.slice ⟨true, 5⟩ 1)], [.pointer none, .slice none 0 0], 201⟩,
  Option.some ⟨.struct [(200, 0), (145, 1)], 2, 32, true, [.any, (.slice ⟨true, 5⟩ 1)], [.pointer none, .slice none 0 0], 202⟩,
  Option.some ⟨.other, 1, 8, false, [.any], [.nilFunc], 203⟩,
  none,
  Option.some ⟨.other, 1, 8, false, [.any], [.nilFunc], 205⟩,
  Option.some ⟨.other, 1, 8, false, [.any], [.nilFunc], 206⟩,
  Option.some ⟨.other, 1, 8, false, [.any], [.nilFunc], 207⟩,
  Option.some ⟨.int .u32, 1, 4, false, [(.int .u32)], [.int .u32 0], 208⟩,
  none,
  Option.some ⟨.other, 1, 8, false, [.any], [.nilFunc], 210⟩,
  none,
  Option.some ⟨.other, 1, 8, false, [.any], [.nilFunc], 212⟩,
  none,
  Option.some ⟨.other, 1, 8, false, [.any], [.nilFunc], 214⟩,
  Option.some ⟨.other, 1, 8, false, [.any], [.nilFunc], 215⟩,
  Option.some ⟨.arr 20 195, 20, 160, true, [(.int .u64), (.int .u64), (.int .u64), (.int .u64), (.int .u64), (.int .u64), (.int .u64), (.int .u64), (.int .u64), (.int .u64), (.int .u64), (.int .u64), (.int .u64), (.int .u64), (.int .u64), (.int .u64), (.int .u64), (.int .u64), (.int .u64), (.int .u64)], [.int .u64 0, .int .u64 0, .int .u64 0, .int .u64 0, .int .u64 0, .int .u64 0, .int .u64 0, .int .u64 0, .int .u64 0, .int .u64 0, .int .u64 0, .int .u64 0, .int .u64 0, .int .u64 0, .int .u64 0, .int .u64 0, .int .u64 0, .int .u64 0, .int .u64 0, .int .u64 0], 216⟩,
  Option.some ⟨.arr 65 5, 65, 65, true, [(.int .u8), (.int .u8), (.int .u8), (.int .u8), (.int .u8), (.int .u8), (.int .u8), (.int .u8), (.int .u8), (.int .u8), (.int .u8), (.int .u8), (.int .u8), (.int .u8), (.int .u8), (.int .u8), (.int .u8), (.int .u8), (.int .u8), (.int .u8), (.int .u8), (.int .u8), (.int .u8), (.int .u8), (.int .u8), (.int .u8), (.int .u8), (.int .u8), (.int .u8), (.int .u8), (.int .u8), (.int .u8), (.int .u8), (.int .u8), (.int .u8), (.int .u8), (.int .u8), (.int .u8), (.int .u8), (.int .u8), (.int .u8), (.int .u8), (.int .u8), (.int .u8), (.int .u8), (.int .u8), (.int .u8), (.int .u8), (.int .u8), (.int .u8), (.int .u8), (.int .u8), (.int .u8), (.int .u8), (.int .u8), (.int .u8), (.int .u8), (.int .u8), (.int .u8), (.int .u8), (.int .u8), (.int .u8), (.int .u8), (.int .u8), (.int .u8)], [.int .u8 0, .int .u8 0, .int .u8 0, .int .u8 0, .int .u8 0, .int .u8 0, .int .u8 0, .int .u8 0, .int .u8 0, .int .u8 0, .int .u8 0, .int .u8 0, .int .u8 0, .int .u8 0, .int .u8 0, .int .u8 0, .int .u8 0, .int .u8 0, .int .u8 0, .int .u8 0, .int .u8 0, .int .u8 0, .int .u8 0, .int .u8 0, .int .u8 0, .int .u8 0, .int .u8 0, .int .u8 0, .int .u8 0, .int .u8 0, .int .u8 0, .int .u8 0, .int .u8 0, .int .u8 0, .int .u8 0, .int .u8 0, .int .u8 0, .int .u8 0, .int .u8 0, .int .u8 0, .int .u8 0, .int .u8 0, .int .u8 0, .int .u8 0, .int .u8 0, .int .u8 0, .int .u8 0, .int .u8 0, .int .u8 0, .int .u8 0, .int .u8 0, .int .u8 0, .int .u8 0, .int .u8 0, .int .u8 0, .int .u8 0, .int .u8 0, .int .u8 0, .int .u8 0, .int .u8 0, .int .u8 0, .int .u8 0, .int .u8 0, .int .u8 0, .int .u8 0], 217⟩,
  Option.some ⟨.other, 1, 8, false, [.any], [.nilFunc], 218⟩,
  Option.some ⟨.ptr 5, 1, 8, false, [.any], [.pointer none], 219⟩,
  none,
  none,
  Option.some ⟨.other, 1, 8, false, [.any], [.nilFunc], 222⟩,
  Option.some ⟨.ptr 245, 1, 8, false, [.any], [.pointer none], 223⟩,
  Option.some ⟨.other, 1, 8, false, [.any], [.nilFunc], 224⟩,
  Option.some ⟨.other, 1, 8, false, [.any], [.nilFunc], 225⟩,
  Option.some ⟨.other, 1, 8, false, [.any], [.nilFunc], 226⟩,
  Option.some ⟨.other, 1, 8, false, [.any], [.nilFunc], 227⟩,
  Option.some ⟨.arr 256 4, 256, 256, true, [.bool, .bool, .bool, .bool, .bool, .bool, .bool, .bool, .bool, .bool, .bool, .bool, .bool, .bool, .bool, .bool, .bool, .bool, .bool, .bool, .bool, .bool, .bool, .bool, .bool, .bool, .bool, .bool, .bool, .bool, .bool, .bool, .bool, .bool, .bool, .bool, .bool, .bool, .bool, .bool, .bool, .bool, .bool, .bool, .bool, .bool, .bool, .bool, .bool, .bool, .bool, .bool, .bool, .bool, .bool, .bool, .bool, .bool, .bool, .bool, .bool, .bool, .bool, .bool, .bool, .bool, .bool, .bool, .bool, .bool, .bool, .bool, .bool, .bool, .bool, .bool, .bool, .bool, .bool, .bool, .bool, .bool, .bool, .bool, .bool, .bool, .bool, .bool, .bool, .bool, .bool, .bool, .bool, .bool, .bool, .bool, .bool, .bool, .bool, .bool, .bool, .bool, .bool, .bool, .bool, .bool, .bool, .bool, .bool, .bool, .bool, .bool, .bool, .bool, .bool, .bool, .bool, .bool, .bool, .bool, .bool, .bool, .bool, .bool, .bool, .bool, .bool, .bool, .bool, .bool, .bool, .bool, .bool, .bool, .bool, .bool, .bool, .bool, .bool, .bool, .bool, .bool, .bool, .bool, .bool, .bool, .bool, .bool, .bool, .bool, .bool, .bool, .bool, .bool, .bool, .bool, .bool, .bool, .bool, .bool, .bool, .bool, .bool, .bool, .bool, .bool, .bool, .bool, .bool, .bool, .bool, .bool, .bool, .bool, .bool, .bool, .bool, .bool, .bool, .bool, .bool, .bool, .bool, .bool, .bool, .bool, .bool, .bool, .bool, .bool, .bool, .bool, .bool, .bool, .bool, .bool, .bool, .bool, .bool, .bool, .bool, .bool, .bool, .bool, .bool, .bool, .bool, .bool, .bool, .bool, .bool, .bool, .bool, .bool, .bool, .bool, .bool, .bool, .bool, .bool, .bool, .bool, .bool, .bool, .bool, .bool, .bool, .bool, .bool, .bool, .bool, .bool, .bool, .bool, .bool, .bool, .bool, .bool, .bool, .bool, .bool, .bool, .bool, .bool, .bool, .bool, .bool, .bool, .bool, .bool, .bool, .bool, .bool, .bool, .bool, .bool], [.bool false, .bool false, .bool false, .bool false, .bool false, .bool false, .bool false, .bool false, .bool false, .bool false, .bool false, .bool false, .bool false, .bool false, .bool false, .bool false, .bool false, .bool false, .bool false, .bool false, .bool false, .bool false, .bool false, .bool false, .bool false, .bool false, .bool false, .bool false, .bool false, .bool false, .bool false, .bool false, .bool false, .bool false, .bool false, .bool false, .bool false, .bool false, .bool false, .bool false, .bool false, .bool false, .bool false, .bool false, .bool false, .bool false, .bool false, .bool false, .bool false, .bool false, .bool false, .bool false, .bool false, .bool false, .bool false, .bool false, .bool false, .bool false, .bool false, .bool false, .bool false, .bool false, .bool false, .bool false, .bool false, .bool false, .bool false, .bool false, .bool false, .bool false, .bool false, .bool false, .bool false, .bool false, .bool false, .bool false, .bool false, .bool false, .bool false, .bool false, .bool false, .bool false, .bool false, .bool false, .bool false, .bool false, .bool false, .bool false, .bool false, .bool false, .bool false, .bool false, .bool false, .bool false, .bool false, .bool false, .bool false, .bool false, .bool false, .bool false, .bool false, .bool false, .bool false, .bool false, .bool false, .bool false, .bool false, .bool false, .bool false, .bool false, .bool false, .bool false, .bool false, .bool false, .bool false, .bool false, .bool false, .bool false, .bool false, .bool false, .bool false, .bool false, .bool false, .bool false, .bool false, .bool false, .bool false, .bool false, .bool false, .bool false, .bool false, .bool false, .bool false, .bool false, .bool false, .bool false, .bool false, .bool false, .bool false, .bool false, .bool false, .bool false, .bool false, .bool false, .bool false, .bool false, .bool false, .bool false, .bool false, .bool false, .bool false, .bool false, .bool false, .bool false, .bool false, .bool false, .bool false, .bool false, .bool false, .bool false, .bool false, .bool false, .bool false, .bool false, .bool false, .bool false, .bool false, .bool false, .bool false, .bool false, .bool false, .bool false, .bool false, .bool false, .bool false, .bool false, .bool false, .bool false, .bool false, .bool false, .bool false, .bool false, .bool false, .bool false, .bool false, .bool false, .bool false, .bool false, .bool false, .bool false, .bool false, .bool false, .bool false, .bool false, .bool false, .bool false, .bool false, .bool false, .bool false, .bool false, .bool false, .bool false, .bool false, .bool false, .bool false, .bool false, .bool false, .bool false, .bool false, .bool false, .bool false, .bool false, .bool false, .bool false, .bool false, .bool false, .bool false, .bool false, .bool false, .bool false, .bool false, .bool false, .bool false, .bool false, .bool false, .bool false, .bool false, .bool false, .bool false, .bool false, .bool false, .bool false, .bool false, .bool false, .bool false, .bool false, .bool false, .bool false, .bool false, .bool false, .bool false, .bool false, .bool false, .bool false, .bool false, .bool false, .bool false, .bool false, .bool false, .bool false, .bool false, .bool false, .bool false, .bool false, .bool false, .bool false], 228⟩,
  Option.some ⟨.arr 256 4, 256, 256, true, [.bool, .bool, .bool, .bool, .bool, .bool, .bool, .bool, .bool, .bool, .bool, .bool, .bool, .bool, .bool, .bool, .bool, .bool, .bool, .bool, .bool, .bool, .bool, .bool, .bool, .bool, .bool, .bool, .bool, .bool, .bool, .bool, .bool, .bool, .bool, .bool, .bool, .bool, .bool, .bool, .bool, .bool, .bool, .bool, .bool, .bool, .bool, .bool, .bool, .bool, .bool, .bool, .bool, .bool, .bool, .bool, .bool, .bool, .bool, .bool, .bool, .bool, .bool, .bool, .bool, .bool, .bool, .bool, .bool, .bool, .bool, .bool, .bool, .bool, .bool, .bool, .bool, .bool, .bool, .bool, .bool, .bool, .bool, .bool, .bool, .bool, .bool, .bool, .bool, .bool, .bool, .bool, .bool, .bool, .bool, .bool, .bool, .bool, .bool, .bool, .bool, .bool, .bool, .bool, .bool, .bool, .bool, .bool, .bool, .bool, .bool, .bool, .bool, .bool, .bool, .bool, .bool, .bool, .bool, .bool, .bool, .bool, .bool, .bool, .bool, .bool, .bool, .bool, .bool, .bool, .bool, .bool, .bool, .bool, .bool, .bool, .bool, .bool, .bool, .bool, .bool, .bool, .bool, .bool, .bool, .bool, .bool, .bool, .bool, .bool, .bool, .bool, .bool, .bool, .bool, .bool, .bool, .bool, .bool, .bool, .bool, .bool, .bool, .bool, .bool, .bool, .bool, .bool, .bool, .bool, .bool, .bool, .bool, .bool, .bool, .bool, .bool, .bool, .bool, .bool, .bool, .bool, .bool, .bool, .bool, .bool, .bool, .bool, .bool, .bool, .bool, .bool, .bool, .bool, .bool, .bool, .bool, .bool, .bool, .bool, .bool, .bool, .bool, .bool, .bool, .bool, .bool, .bool, .bool, .bool, .bool, .bool, .bool, .bool, .bool, .bool, .bool, .bool, .bool, .bool, .bool, .bool, .bool, .bool, .bool, .bool, .bool, .bool, .bool, .bool, .bool, .bool, .bool, .bool, .bool, .bool, .bool, .bool, .bool, .bool, .bool, .bool, .bool, .bool, .bool, .bool, .bool, .bool, .bool, .bool, .bool, .bool, .bool, .bool, .bool, .bool], [.bool false, .bool false, .bool false, .bool false, .bool false, .bool false, .bool false, .bool false, .bool false, .bool false, .bool false, .bool false, .bool false, .bool false, .bool false, .bool false, .bool false, .bool false, .bool false, .bool false, .bool false, .bool false, .bool false, .bool false, .bool false, .bool false, .bool false, .bool false, .bool false, .bool false, .bool false, .bool false, .bool false, .bool false, .bool false, .bool false, .bool false, .bool false, .bool false, .bool false, .bool false, .bool false, .bool false, .bool false, .bool false, .bool false, .bool false, .bool false, .bool false, .bool false, .bool false, .bool false, .bool false, .bool false, .bool false, .bool false, .bool false, .bool false, .bool false, .bool false, .bool false, .bool false, .bool false, .bool false, .bool false, .bool false, .bool false, .bool false, .bool false, .bool false, .bool false, .bool false, .bool false, .bool false, .bool false, .bool false, .bool false, .bool false, .bool false, .bool false, .bool false, .bool false, .bool false, .bool false, .bool false, .bool false, .bool false, .bool false, .bool false, .bool false, .bool false, .bool false, .bool false, .bool false, .bool false, .bool false, .bool false, .bool false, .bool false, .bool false, .bool false, .bool false, .bool false, .bool false, .bool false, .bool false, .bool false, .bool false, .bool false, .bool false, .bool false, .bool false, .bool false, .bool false, .bool false, .bool false, .bool false, .bool false, .bool false, .bool false, .bool false, .bool false, .bool false, .bool false, .bool false, .bool false, .bool false, .bool false, .bool false, .bool false, .bool false, .bool false, .bool false, .bool false, .bool false, .bool false, .bool false, .bool false, .bool false, .bool false, .bool false, .bool false, .bool false, .bool false, .bool false, .bool false, .bool false, .bool false, .bool false, .bool false, .bool false, .bool false, .bool false, .bool false, .bool false, .bool false, .bool false, .bool false, .bool false, .bool false, .bool false, .bool false, .bool false, .bool false, .bool false, .bool false, .bool false, .bool false, .bool false, .bool false, .bool false, .bool false, .bool false, .bool false, .bool false, .bool false, .bool false, .bool false, .bool false, .bool false, .bool false, .bool false, .bool false, .bool false, .bool false, .bool false, .bool false, .bool false, .bool false, .bool false, .bool false, .bool false, .bool false, .bool false, .bool false, .bool false, .bool false, .bool false, .bool false, .bool false, .bool false, .bool false, .bool false, .bool false, .bool false, .bool false, .bool false, .bool false, .bool false, .bool false, .bool false, .bool false, .bool false, .bool false, .bool false, .bool false, .bool false, .bool false, .bool false, .bool false, .bool false, .bool false, .bool false, .bool false, .bool false, .bool false, .bool false, .bool false, .bool false, .bool false, .bool false, .bool false, .bool false, .bool false, .bool false, .bool false, .bool false, .bool false, .bool false, .bool false, .bool false, .bool false, .bool false, .bool false, .bool false, .bool false, .bool false, .bool false, .bool false, .bool false, .bool false, .bool false, .bool false, .bool false, .bool false, .bool false], 229⟩,
  none,
  Option.some ⟨.other, 1, 8, false, [.any], [.nilFunc], 231⟩,
  Option.some ⟨.other, 1, 8, false, [.any], [.nilFunc], 232⟩,
  Option.some ⟨.ptr 229, 1, 8, false, [.any], [.pointer none], 233⟩,
  Option.some ⟨.other, 1, 8, false, [.any], [.nilFunc], 234⟩,
  none,
  Option.some ⟨.other, 1, 8, false, [.any], [.nilFunc], 236⟩,
  Option.some ⟨.other, 1, 8, false, [.any], [.nilFunc], 237⟩,
  Option.some ⟨.arr 256 5, 256, 256, true, [(.int .u8), (.int .u8), (.int .u8), (.int .u8), (.int .u8), (.int .u8), (.int .u8), (.int .u8), (.int .u8), (.int .u8), (.int .u8), (.int .u8), (.int .u8), (.int .u8), (.int .u8), (.int .u8), (.int .u8), (.int .u8), (.int .u8), (.int .u8), (.int .u8), (.int .u8), (.int .u8), (.int .u8), (.int .u8), (.int .u8), (.int .u8), (.int .u8), (.int .u8), (.int .u8), (.int .u8), (.int .u8), (.int .u8), (.int .u8), (.int .u8), (.int .u8), (.int .u8), (.int .u8), (.int .u8), (.int .u8), (.int .u8), (.int .u8), (.int .u8), (.int .u8), (.int .u8), (.int .u8), (.int .u8), (.int .u8), (.int .u8), (.int .u8), (.int .u8), (.int .u8), (.int .u8), (.int .u8), (.int .u8), (.int .u8), (.int .u8), (.int .u8), (.int .u8), (.int .u8), (.int .u8), (.int .u8), (.int .u8), (.int .u8), (.int .u8), (.int .u8), (.int .u8), (.int .u8), (.int .u8), (.int .u8), (.int .u8), (.int .u8), (.int .u8), (.int .u8), (.int .u8), (.int .u8), (.int .u8), (.int .u8), (.int .u8), (.int .u8), (.int .u8), (.int .u8), (.int .u8), (.int .u8), (.int .u8), (.int .u8), (.int .u8), (.int .u8), (.int .u8), (.int .u8), (.int .u8), (.int .u8), (.int .u8), (.int .u8), (.int .u8), (.int .u8), (.int .u8), (.int .u8), (.int .u8), (.int .u8), (.int .u8), (.int .u8), (.int .u8), (.int .u8), (.int .u8), (.int .u8), (.int .u8), (.int .u8), (.int .u8), (.int .u8), (.int .u8), (.int .u8), (.int .u8), (.int .u8), (.int .u8), (.int .u8), (.int .u8), (.int .u8), (.int .u8), (.int .u8), (.int .u8), (.int .u8), (.int .u8), (.int .u8), (.int .u8), (.int .u8), (.int .u8), (.int .u8), (.int .u8), (.int .u8), (.int .u8), (.int .u8), (.int .u8), (.int .u8), (.int .u8), (.int .u8), (.int .u8), (.int .u8), (.int .u8), (.int .u8), (.int .u8), (.int .u8), (.int .u8), (.int .u8), (.int .u8), (.int .u8), (.int .u8), (.int .u8), (.int .u8), (.int .u8), (.int .u8), (.int .u8), (.int .u8), (.int .u8), (.int .u8), (.int .u8), (.int .u8), (.int .u8), (.int .u8), (.int .u8), (.int .u8), (.int .u8), (.int .u8), (.int .u8), (.int .u8), (.int .u8), (.int .u8), (.int .u8), (.int .u8), (.int .u8), (.int .u8), (.int .u8), (.int .u8), (.int .u8), (.int .u8), (.int .u8), (.int .u8), (.int .u8), (.int .u8), (.int .u8), (.int .u8), (.int .u8), (.int .u8), (.int .u8), (.int .u8), (.int .u8), (.int .u8), (.int .u8), (.int .u8), (.int .u8), (.int .u8), (.int .u8), (.int .u8), (.int .u8), (.int .u8), (.int .u8), (.int .u8), (.int .u8), (.int .u8), (.int .u8), (.int .u8), (.int .u8), (.int .u8), (.int .u8), (.int .u8), (.int .u8), (.int .u8), (.int .u8), (.int .u8), (.int .u8), (.int .u8), (.int .u8), (.int .u8), (.int .u8), (.int .u8), (.int .u8), (.int .u8), (.int .u8), (.int .u8), (.int .u8), (.int .u8), (.int .u8), (.int .u8), (.int .u8), (.int .u8), (.int .u8), (.int .u8), (.int .u8), (.int .u8), (.int .u8), (.int .u8), (.int .u8), (.int .u8), (.int .u8), (.int .u8), (.int .u8), (.int .u8), (.int .u8), (.int .u8), (.int .u8), (.int .u8), (.int .u8), (.int .u8), (.int .u8), (.int .u8), (.int .u8), (.int .u8), (.int .u8), (.int .u8), (.int .u8), (.int .u8), (.int .u8), (.int .u8), (.int .u8), (.int .u8), (.int .u8)], [.int .u8 0, .int .u8 0, .int .u8 0, .int .u8 0, .int .u8 0, .int .u8 0, .int .u8 0, .int .u8 0, .int .u8 0, .int .u8 0, .int .u8 0, .int .u8 0, .int .u8 0, .int .u8 0, .int .u8 0, .int .u8 0, .int .u8 0, .int .u8 0, .int .u8 0, .int .u8 0, .int .u8 0, .int .u8 0, .int .u8 0, .int .u8 0, .int .u8 0, .int .u8 0, .int .u8 0, .int .u8 0, .int .u8 0, .int .u8 0, .int .u8 0, .int .u8 0, .int .u8 0, .int .u8 0, .int .u8 0, .int .u8 0, .int .u8 0, .int .u8 0, .int .u8 0, .int .u8 0, .int .u8 0, .int .u8 0, .int .u8 0, .int .u8 0, .int .u8 0, .int .u8 0, .int .u8 0, .int .u8 0, .int .u8 0, .int .u8 0, .int .u8 0, .int .u8 0, .int .u8 0, .int .u8 0, .int .u8 0, .int .u8 0, .int .u8 0, .int .u8 0, .int .u8 0, .int .u8 0, .int .u8 0, .int .u8 0, .int .u8 0, .int .u8 0, .int .u8 0, .int .u8 0, .int .u8 0, .int .u8 0, .int .u8 0, .int .u8 0, .int .u8 0, .int .u8 0, .int .u8 0, .int .u8 0, .int .u8 0, .int .u8 0, .int .u8 0, .int .u8 0, .int .u8 0, .int .u8 0, .int .u8 0, .int .u8 0, .int .u8 0, .int .u8 0, .int .u8 0, .int .u8 0, .int .u8 0, .int .u8 0, .int .u8 0, .int .u8 0, .int .u8 0, .int .u8 0, .int .u8 0, .int .u8 0, .int .u8 0, .int .u8 0, .int .u8 0, .int .u8 0, .int .u8 0, .int .u8 0, .int .u8 0, .int .u8 0, .int .u8 0, .int .u8 0, .int .u8 0, .int .u8 0, .int .u8 0, .int .u8 0, .int .u8 0, .int .u8 0, .int .u8 0, .int .u8 0, .int .u8 0, .int .u8 0, .int .u8 0, .int .u8 0, .int .u8 0, .int .u8 0, .int .u8 0, .int .u8 0, .int .u8 0, .int .u8 0, .int .u8 0, .int .u8 0, .int .u8 0, .int .u8 0, .int .u8 0, .int .u8 0, .int .u8 0, .int .u8 0, .int .u8 0, .int .u8 0, .int .u8 0, .int .u8 0, .int .u8 0, .int .u8 0, .int .u8 0, .int .u8 0, .int .u8 0, .int .u8 0, .int .u8 0, .int .u8 0, .int .u8 0, .int .u8 0, .int .u8 0, .int .u8 0, .int .u8 0, .int .u8 0, .int .u8 0, .int .u8 0, .int .u8 0, .int .u8 0, .int .u8 0, .int .u8 0, .int .u8 0, .int .u8 0, .int .u8 0, .int .u8 0, .int .u8 0, .int .u8 0, .int .u8 0, .int .u8 0, .int .u8 0, .int .u8 0, .int .u8 0, .int .u8 0, .int .u8 0, .int .u8 0, .int .u8 0, .int .u8 0, .int .u8 0, .int .u8 0, .int .u8 0, .int .u8 0, .int .u8 0, .int .u8 0, .int .u8 0, .int .u8 0, .int .u8 0, .int .u8 0, .int .u8 0, .int .u8 0, .int .u8 0, .int .u8 0, .int .u8 0, .int .u8 0, .int .u8 0, .int .u8 0, .int .u8 0, .int .u8 0, .int .u8 0, .int .u8 0, .int .u8 0, .int .u8 0, .int .u8 0, .int .u8 0, .int .u8 0, .int .u8 0, .int .u8 0, .int .u8 0, .int .u8 0, .int .u8 0, .int .u8 0, .int .u8 0, .int .u8 0, .int .u8 0, .int .u8 0, .int .u8 0, .int .u8 0, .int .u8 0, .int .u8 0, .int .u8 0, .int .u8 0, .int .u8 0, .int .u8 0, .int .u8 0, .int .u8 0, .int .u8 0, .int .u8 0, .int .u8 0, .int .u8 0, .int .u8 0, .int .u8 0, .int .u8 0, .int .u8 0, .int .u8 0, .int .u8 0, .int .u8 0, .int .u8 0, .int .u8 0, .int .u8 0, .int .u8 0, .int .u8 0, .int .u8 0, .int .u8 0, .int .u8 0, .int .u8 0, .int .u8 0, .int .u8 0, .int .u8 0, .int .u8 0, .int .u8 0, .int .u8 0, .int .u8 0, .int .u8 0, .int .u8 0, .int .u8 0, .int .u8 0, .int .u8 0, .int .u8 0, .int .u8 0, .int .u8 0, .int .u8 0, .int .u8 0, .int .u8 0, .int .u8 0], 238⟩,
  Option.some ⟨.struct [(5, 0), (5, 1)], 2, 2, true, [(.int .u8), (.int .u8)], [.int .u8 0, .int .u8 0], 239⟩,
  Option.some ⟨.struct [(5, 0), (5, 1)], 2, 2, true, [(.int .u8), (.int .u8)], [.int .u8 0, .int .u8 0], 240⟩,
  Option.some ⟨.arr 16 240, 32, 32, true, [(.int .u8), (.int .u8), (.int .u8), (.int .u8), (.int .u8), (.int .u8), (.int .u8), (.int .u8), (.int .u8), (.int .u8), (.int .u8), (.int .u8), (.int .u8), (.int .u8), (.int .u8), (.int .u8), (.int .u8), (.int .u8), (.int .u8), (.int .u8), (.int .u8), (.int .u8), (.int .u8), (.int .u8), (.int .u8), (.int .u8), (.int .u8), (.int .u8), (.int .u8), (.int .u8), (.int .u8), (.int .u8)], [.int .u8 0, .int .u8 0, .int .u8 0, .int .u8 0, .int .u8 0, .int .u8 0, .int .u8 0, .int .u8 0, .int .u8 0, .int .u8 0, .int .u8 0, .int .u8 0, .int .u8 0, .int .u8 0, .int .u8 0, .int .u8 0, .int .u8 0, .int .u8 0, .int .u8 0, .int .u8 0, .int .u8 0, .int .u8 0, .int .u8 0, .int .u8 0, .int .u8 0, .int .u8 0, .int .u8 0, .int .u8 0, .int .u8 0, .int .u8 0, .int .u8 0, .int .u8 0], 241⟩,
  none,
  Option.some ⟨.other, 1, 8, false, [.any], [.nilFunc], 243⟩,
  Option.some ⟨.struct [(9, 0), (9, 1), (180, 2)], 3, 48, true, [.str, .str, .any], [.string ⟨#[]⟩, .string ⟨#[]⟩, .nilIface], 244⟩,
  Option.some ⟨.struct [(9, 0), (9, 1), (180, 2)], 3, 48, true, [.str, .str, .any], [.string ⟨#[]⟩, .string ⟨#[]⟩, .nilIface], 245⟩,
  Option.some ⟨.other, 1, 8, false, [.any], [.nilFunc], 246⟩,
  Option.some ⟨.other, 1, 8, false, [.any], [.nilFunc], 247⟩,
  Option.some ⟨.other, 1, 8, false, [.any], [.nilFunc], 248⟩,
  Option.some ⟨.arr 32 5, 32, 32, true, [(.int .u8), (.int .u8), (.int .u8), (.int .u8), (.int .u8), (.int .u8), (.int .u8), (.int .u8), (.int .u8), (.int .u8), (.int .u8), (.int .u8), (.int .u8), (.int .u8), (.int .u8), (.int .u8), (.int .u8), (.int .u8), (.int .u8), (.int .u8), (.int .u8), (.int .u8), (.int .u8), (.int .u8), (.int .u8), (.int .u8), (.int .u8), (.int .u8), (.int .u8), (.int .u8), (.int .u8), (.int .u8)], [.int .u8 0, .int .u8 0, .int .u8 0, .int .u8 0, .int .u8 0, .int .u8 0, .int .u8 0, .int .u8 0, .int .u8 0, .int .u8 0, .int .u8 0, .int .u8 0, .int .u8 0, .int .u8 0, .int .u8 0, .int .u8 0, .int .u8 0, .int .u8 0, .int .u8 0, .int .u8 0, .int .u8 0, .int .u8 0, .int .u8 0, .int .u8 0, .int .u8 0, .int .u8 0, .int .u8 0, .int .u8 0, .int .u8 0, .int .u8 0, .int .u8 0, .int .u8 0], 249⟩,
  Option.some ⟨.arr 64 5, 64, 64, true, [(.int .u8), (.int .u8), (.int .u8), (.int .u8), (.int .u8), (.int .u8), (.int .u8), (.int .u8), (.int .u8), (.int .u8), (.int .u8), (.int .u8), (.int .u8), (.int .u8), (.int .u8), (.int .u8), (.int .u8), (.int .u8), (.int .u8), (.int .u8), (.int .u8), (.int .u8), (.int .u8), (.int .u8), (.int .u8), (.int .u8), (.int .u8), (.int .u8), (.int .u8), (.int .u8), (.int .u8), (.int .u8), (.int .u8), (.int .u8), (.int .u8), (.int .u8), (.int .u8), (.int .u8), (.int .u8), (.int .u8), (.int .u8), (.int .u8), (.int .u8), (.int .u8), (.int .u8), (.int .u8), (.int .u8), (.int .u8), (.int .u8), (.int .u8), (.int .u8), (.int .u8), (.int .u8), (.int .u8), (.int .u8), (.int .u8), (.int .u8), (.int .u8), (.int .u8), (.int .u8), (.int .u8), (.int .u8), (.int .u8), (.int .u8)], [.int .u8 0, .int .u8 0, .int .u8 0, .int .u8 0, .int .u8 0, .int .u8 0, .int .u8 0, .int .u8 0, .int .u8 0, .int .u8 0, .int .u8 0, .int .u8 0, .int .u8 0, .int .u8 0, .int .u8 0, .int .u8 0, .int .u8 0, .int .u8 0, .int .u8 0, .int .u8 0, .int .u8 0, .int .u8 0, .int .u8 0, .int .u8 0, .int .u8 0, .int .u8 0, .int .u8 0, .int .u8 0, .int .u8 0, .int .u8 0, .int .u8 0, .int .u8 0, .int .u8 0, .int .u8 0, .int .u8 0, .int .u8 0, .int .u8 0, .int .u8 0, .int .u8 0, .int .u8 0, .int .u8 0, .int .u8 0, .int .u8 0, .int .u8 0, .int .u8 0, .int .u8 0, .int .u8 0, .int .u8 0, .int .u8 0, .int .u8 0, .int .u8 0, .int .u8 0, .int .u8 0, .int .u8 0, .int .u8 0, .int .u8 0, .int .u8 0, .int .u8 0, .int .u8 0, .int .u8 0, .int .u8 0, .int .u8 0, .int .u8 0, .int .u8 0], 250⟩,
  Option.some ⟨.other, 1, 8, false, [.any], [.nilFunc], 251⟩,
  Option.some ⟨.ptr 254, 1, 8, false, [.any], [.pointer none], 252⟩,
  Option.some ⟨.struct [(9, 0)], 1, 16, true, [.str], [.string ⟨#[]⟩], 253⟩,
  Option.some ⟨.struct [(9, 0)], 1, 16, true, [.str], [.string ⟨#[]⟩], 254⟩,
  Option.some ⟨.other, 1, 8, false, [.any], [.nilFunc], 255⟩,
  Option.some ⟨.other, 1, 8, false, [.any], [.nilFunc], 256⟩,
  none,
  none,
  Option.some ⟨.arr 0 16, 0, 0, true, [], [], 259⟩,
  none,
  none,
  Option.some ⟨.other, 1, 8, false, [.any], [.nilFunc], 262⟩,
  none,
  none,
  Option.some ⟨.other, 1, 8, false, [.any], [.nilFunc], 265⟩,
  none,
  none,
  none,
  none]
noncomputable def params (f : FuncId) : List TypeId := match f with | 0 => [] | 1 => [] | 2 => [] | 3 => [9] | 4 => [36] | 5 => [23] | 6 => [50] | 7 => [50, 23] | 8 => [9, 63] | 9 => [63, 63, 9] | 10 => [36, 74, 23] | 11 => [36, 74] | 12 => [] | 13 => [9] | 14 => [9] | 15 => [23, 23] | 16 => [36] | 17 => [36] | 18 => [36] | 19 => [36] | 20 => [23] | 21 => [23] | 22 => [23] | 23 => [23] | 24 => [50, 50] | 25 => [50] | 26 => [50] | 27 => [50] | 28 => [50] | 29 => [50] | 30 => [9] | 31 => [9] | 32 => [63] | 33 => [63] | 34 => [63] | 35 => [74] | 36 => [36, 74] | 37 => [74] | 38 => [48] | 39 => [36, 74] | 40 => [36, 74] | 41 => [46, 46] | 42 => [36, 74] | 43 => [] | 44 => [144] | 45 => [4, 24] | 46 => [9] | 47 => [9] | 48 => [3, 3, 3] | 49 => [9] | 50 => [33] | 51 => [9] | 52 => [36] | 53 => [36] | 54 => [36] | 55 => [36] | 56 => [33, 23] | 57 => [36] | 58 => [36] | 59 => [9] | 60 => [23, 9] | 61 => [36, 9] | 62 => [36] | 63 => [36, 100] | 64 => [113, 23] | 65 => [113, 23] | 66 => [50] | 67 => [118, 23, 3] | 68 => [50] | 69 => [48, 48] | 70 => [36, 36] | 71 => [48] | 72 => [50] | 73 => [9, 9, 9, 4] | 74 => [63] | 75 => [33] | 76 => [3] | 77 => [100] | 78 => [23, 30] | 79 => [9] | 80 => [48] | 81 => [3] | 82 => [100] | 83 => [9] | 84 => [63] | 85 => [] | 86 => [9] | 87 => [3] | 88 => [4] | 89 => [36, 74] | 90 => [48] | 91 => [48] | 92 => [74, 9] | 93 => [36, 74, 3, 9] | 94 => [63, 102] | 95 => [46] | 96 => [9, 5] | 97 => [9] | 98 => [9, 9] | 99 => [9, 23] | 100 => [3, 3, 3] | 101 => [149, 4] | 102 => [23, 9] | 103 => [104, 23] | 104 => [5] | 105 => [5] | 106 => [9, 9] | 107 => [113, 23] | 108 => [113, 23] | 109 => [113, 23] | 110 => [113, 23] | 111 => [113, 23] | 112 => [113, 23] | 113 => [23] | 114 => [36] | 115 => [48] | 116 => [9] | 117 => [9] | 118 => [118, 23] | 119 => [118, 23] | 120 => [33, 33] | 121 => [3] | 122 => [9, 9, 9] | 123 => [23, 30] | 124 => [] | 125 => [9] | 126 => [9] | 127 => [3, 3, 3] | 128 => [144] | 129 => [4, 24] | 130 => [9] | 131 => [74] | 132 => [74, 122] | 133 => [48] | 134 => [48, 9] | 135 => [97, 74] | 136 => [102, 63] | 137 => [44] | 138 => [46] | 139 => [48] | 140 => [46, 9] | 141 => [63, 102] | 142 => [63] | 143 => [9, 5] | 144 => [149, 4] | 145 => [23, 9] | 146 => [9, 9] | 147 => [9] | 148 => [9] | 149 => [9] | 150 => [9] | 151 => [2, 3] | 152 => [9, 9, 9, 3] | 153 => [9] | 154 => [74, 122] | 155 => [48] | 156 => [44, 185] | 157 => [125] | 158 => [63, 102] | 159 => [63] | 160 => [46] | 161 => [63] | 162 => [9, 5] | 163 => [9, 9] | 164 => [3] | 165 => [9, 9] | 166 => [9] | 167 => [9] | 168 => [3] | 169 => [195] | 170 => [145, 195] | 171 => [145, 195, 3, 4, 4] | 172 => [9, 9] | 173 => [200, 3] | 174 => [200, 9] | 175 => [9] | 176 => [200] | 177 => [9] | 178 => [9, 9, 3, 3, 180] | 179 => [3] | 180 => [63] | 181 => [3] | 182 => [9] | 183 => [9] | 184 => [9, 9] | 185 => [9, 9] | 186 => [3] | 187 => [195] | 188 => [4] | 189 => [3] | 190 => [189] | 191 => [9] | 192 => [9, 5] | 193 => [200] | 194 => [200, 3] | 195 => [9] | 196 => [9, 3, 3] | 197 => [9, 9] | 198 => [9, 9] | 199 => [9, 9, 3] | 200 => [9, 9, 3] | 201 => [9, 3] | 202 => [9, 9] | 203 => [9, 5] | 204 => [9] | 205 => [9, 233] | 206 => [9, 9] | 207 => [208] | 208 => [195] | 210 => [3] | 211 => [9, 3, 3] | 212 => [9] | 213 => [9] | 214 => [9, 3] | 215 => [233, 5] | 216 => [9, 21] | 217 => [5] | 218 => [9] | 219 => [9, 21] | 220 => [21] | 221 => [8] | 222 => [8] | 223 => [10] | 224 => [10] | 225 => [11] | 226 => [11] | 227 => [14] | 228 => [14] | 229 => [15] | 230 => [15] | 231 => [16] | 232 => [16] | 233 => [17] | 234 => [19] | 235 => [19] | 236 => [200] | 237 => [220] | 238 => [223] | 239 => [252] | 240 => [264] | 241 => [] | 242 => [] | 243 => [] | 244 => [] | 245 => [] | 246 => [] | 247 => [] | 248 => [] | 249 => [] | 250 => [] | 251 => [] | 252 => [] | _ => []
noncomputable def G : Cfg := ⟨fun t => (tabL[t]?).join, fun _ => none, params, 0⟩
theorem mixed : Tryz.prog.follows .mixedOrders = true := by kernel_rfl
/-- The variables that hold errors, and those that hold tables, when a law is entered. -/
instance rooted : Rooted Tryz.prog := stents Tryz.prog ["strconv.ErrSyntax", "strconv.ErrRange"] [("internal/strconv.uint64pow10", .u64, Lib.pow10Tab)]
theorem tabL_len : tabL.length = 270 := by kernel_rfl
theorem tabG : G.tab = fun t => (tabL[t]?).join := rfl
theorem cfg : CfgOk Tryz.prog G := by
  refine cfgOk_of (n := 270) (fun t ht => ?_) (by kernel_rfl)
  have h : tabL[t]? = none := List.getElem?_eq_none (by rw [tabL_len]; exact ht)
  rw [tabG]
  simp only [h]
  rfl
end Go.Proofs.YtmpglmcjoelciaaGreatDoor.Ev

/-
  DERIVED: THE SHELF's CONTRACTS AT THIS DUMP, IN PLAIN WORDS (tools/lay-plain.mjs out of 'YtmpglmcjoelciaaGreatDoorS.lean', which tools/lay-shelf.mjs wrote): THE SAME DECLARATIONS UNDER THE SAME NAMES: 'import', 'namespace', 'open', 'def', 'theorem' AND NOTHING ELSE: no command of the shelf's: FOR A HAND-IN. Each laying: the table of numbers ('.._ren') and one theorem, a field a fact of the dump's own or the kernel's comparison; each contract: ONE APPLICATION.
-/
namespace Go.Proofs
open Go.Shelf
def Tryz.lays137_ren : Go.Shelf.Ren := ⟨fun | 137 => 96 | 217 => 143 | 266 => 162 | n => n, fun | 9 => 9 | 5 => 5 | 3 => 3 | n => n, fun | n => n⟩
theorem Tryz.lays137 : Go.Proofs.Lays.n137 Tryz.prog Tryz.lays137_ren := {
  mixed := by kernel_rfl
  f137 := Tryz.func96.trans (congrArg some (by kernel_rfl))
  f217 := Tryz.func143.trans (congrArg some (by kernel_rfl))
  f266 := Tryz.func162.trans (congrArg some (by kernel_rfl))
  t3 := Tryz.underlying3
  a3 := Tryz.isAgg3
  z3 := Tryz.sizeOf3
  v3 := Tryz.zeroValue3
  t5 := Tryz.underlying5
  a5 := Tryz.isAgg5
  z5 := Tryz.sizeOf5
  v5 := Tryz.zeroValue5
  t9 := Tryz.underlying9
  a9 := Tryz.isAgg9
  z9 := Tryz.sizeOf9
  v9 := Tryz.zeroValue9 }
open Go.RowKit in
theorem Tryz.strings_IndexByte (s : ByteArray) (c : Int) (w : World) :
    Calls Tryz.prog 96 #[.string s, .int .u8 c] w fun e w' => e = .returned (.int .i64 (Lib.indexByte s.data.toList c.toNat.toUInt8)) ∧ w' = w := Any.strings_IndexByte Tryz.lays137 s c w
def Tryz.laysM171_ren : Go.Shelf.Ren := ⟨fun | 171 => 76 | 243 => 121 | 246 => 151 | 283 => 168 | 284 => 169 | 285 => 170 | 286 => 171 | 129 => 187 | 317 => 186 | 318 => 188 | 319 => 189 | 320 => 190 | 337 => 207 | 338 => 208 | n => n, fun | 3 => 3 | 9 => 9 | 2 => 2 | 4 => 4 | 171 => 194 | 0 => 0 | 53 => 195 | 37 => 145 | 5 => 5 | 173 => 198 | 212 => 216 | 51 => 208 | 20 => 20 | 213 => 217 | 46 => 189 | 232 => 249 | 233 => 250 | n => n, fun | 17 => 2 | 18 => 7 | 19 => 8 | n => n⟩
theorem Tryz.laysM171 : Go.Proofs.LaysM.n171 Tryz.prog Tryz.laysM171_ren := {
  mixed := by kernel_rfl
  f129 := Tryz.func187.trans (congrArg some (by kernel_rfl))
  f171 := Tryz.func76.trans (congrArg some (by kernel_rfl))
  f243 := Tryz.func121.trans (congrArg some (by kernel_rfl))
  f246 := Tryz.func151.trans (congrArg some (by kernel_rfl))
  f283 := Tryz.func168.trans (congrArg some (by kernel_rfl))
  f284 := Tryz.func169.trans (congrArg some (by kernel_rfl))
  f285 := Tryz.func170.trans (congrArg some (by kernel_rfl))
  f286 := Tryz.func171.trans (congrArg some (by kernel_rfl))
  f317 := Tryz.func186.trans (congrArg some (by kernel_rfl))
  f318 := Tryz.func188.trans (congrArg some (by kernel_rfl))
  f319 := Tryz.func189.trans (congrArg some (by kernel_rfl))
  f320 := Tryz.func190.trans (congrArg some (by kernel_rfl))
  f337 := Tryz.func207.trans (congrArg some (by kernel_rfl))
  f338 := Tryz.func208.trans (congrArg some (by kernel_rfl))
  t0 := Tryz.underlying0
  a0 := Tryz.isAgg0
  z0 := Tryz.sizeOf0
  v0 := Tryz.zeroValue0
  t2 := Tryz.underlying2
  a2 := Tryz.isAgg2
  z2 := Tryz.sizeOf2
  v2 := Tryz.zeroValue2
  t3 := Tryz.underlying3
  a3 := Tryz.isAgg3
  z3 := Tryz.sizeOf3
  v3 := Tryz.zeroValue3
  t4 := Tryz.underlying4
  a4 := Tryz.isAgg4
  z4 := Tryz.sizeOf4
  v4 := Tryz.zeroValue4
  t5 := Tryz.underlying5
  a5 := Tryz.isAgg5
  z5 := Tryz.sizeOf5
  v5 := Tryz.zeroValue5
  t9 := Tryz.underlying9
  a9 := Tryz.isAgg9
  z9 := Tryz.sizeOf9
  v9 := Tryz.zeroValue9
  t20 := Tryz.underlying20
  a20 := Tryz.isAgg20
  z20 := Tryz.sizeOf20
  v20 := Tryz.zeroValue20
  t37 := Tryz.underlying145
  a37 := Tryz.isAgg145
  z37 := Tryz.sizeOf145
  v37 := Tryz.zeroValue145
  t46 := Tryz.underlying189
  a46 := Tryz.isAgg189
  z46 := Tryz.sizeOf189
  v46 := Tryz.zeroValue189
  t51 := Tryz.underlying208
  a51 := Tryz.isAgg208
  z51 := Tryz.sizeOf208
  v51 := Tryz.zeroValue208
  t53 := Tryz.underlying195
  a53 := Tryz.isAgg195
  z53 := Tryz.sizeOf195
  v53 := Tryz.zeroValue195
  t171 := Tryz.underlying194
  a171 := Tryz.isAgg194
  z171 := Tryz.sizeOf194
  v171 := Tryz.zeroValue194
  t173 := Tryz.underlying198
  a173 := Tryz.isAgg198
  z173 := Tryz.sizeOf198
  v173 := Tryz.zeroValue198
  t212 := Tryz.underlying216
  a212 := Tryz.isAgg216
  z212 := Tryz.sizeOf216
  v212 := Tryz.zeroValue216
  t213 := Tryz.underlying217
  a213 := Tryz.isAgg217
  z213 := Tryz.sizeOf217
  t232 := Tryz.underlying249
  a232 := Tryz.isAgg249
  z232 := Tryz.sizeOf249
  v232 := Tryz.zeroValue249
  t233 := Tryz.underlying250
  a233 := Tryz.isAgg250
  z233 := Tryz.sizeOf250
  v233 := Tryz.zeroValue250
  g17 := by kernel_rfl
  g18 := by kernel_rfl
  g19 := by kernel_rfl
  i0 := by kernel_rfl
  i2 := by kernel_rfl
  i3 := by kernel_rfl
  i4 := by kernel_rfl
  i5 := by kernel_rfl
  i9 := by kernel_rfl
  i20 := by kernel_rfl
  i37 := by kernel_rfl
  i46 := by kernel_rfl
  i51 := by kernel_rfl
  i53 := by kernel_rfl
  i171 := by kernel_rfl
  i173 := by kernel_rfl
  i212 := by kernel_rfl
  i232 := by kernel_rfl
  i233 := by kernel_rfl
  m17 := by kernel_rfl
  m18 := by kernel_rfl
  m19 := by kernel_rfl }
open Go.RowKit Go.Sort Go.Lib in
theorem Tryz.strconv_Itoa (n : Int) (h0 : -9223372036854775808 ≤ n) (h1 : n ≤ 9223372036854775807) (w : World) (htab : Lib.TabIs Tryz.prog w "internal/strconv.uint64pow10" .u64 Lib.pow10Tab) :
    Calls Tryz.prog 76 #[.int .i64 n] w fun e w' => e = .returned (.string ⟨(Lib.itoa n).toArray⟩) ∧ ∃ k os, w' = grow (w.drewN k) os := Any.strconv_Itoa Tryz.laysM171 n h0 h1 w htab
def Tryz.laysM145_ren : Go.Shelf.Ren := ⟨fun | 145 => 184 | 220 => 202 | 219 => 146 | 217 => 143 | 225 => 163 | 224 => 164 | 267 => 165 | 266 => 162 | 314 => 182 | n => n, fun | 9 => 9 | 4 => 4 | 59 => 213 | 3 => 3 | 5 => 5 | 46 => 189 | 146 => 209 | 51 => 208 | n => n, fun | 1 => 1 | n => n⟩
theorem Tryz.laysM145 : Go.Proofs.LaysM.n145 Tryz.prog Tryz.laysM145_ren := {
  mixed := by kernel_rfl
  f145 := Tryz.func184.trans (congrArg some (by kernel_rfl))
  f217 := Tryz.func143.trans (congrArg some (by kernel_rfl))
  f219 := Tryz.func146.trans (congrArg some (by kernel_rfl))
  f220 := Tryz.func202.trans (congrArg some (by kernel_rfl))
  f224 := Tryz.func164.trans (congrArg some (by kernel_rfl))
  f225 := Tryz.func163.trans (congrArg some (by kernel_rfl))
  f266 := Tryz.func162.trans (congrArg some (by kernel_rfl))
  f267 := Tryz.func165.trans (congrArg some (by kernel_rfl))
  f314 := Tryz.func182.trans (congrArg some (by kernel_rfl))
  t3 := Tryz.underlying3
  a3 := Tryz.isAgg3
  z3 := Tryz.sizeOf3
  v3 := Tryz.zeroValue3
  t4 := Tryz.underlying4
  a4 := Tryz.isAgg4
  z4 := Tryz.sizeOf4
  v4 := Tryz.zeroValue4
  t5 := Tryz.underlying5
  a5 := Tryz.isAgg5
  z5 := Tryz.sizeOf5
  v5 := Tryz.zeroValue5
  t9 := Tryz.underlying9
  a9 := Tryz.isAgg9
  z9 := Tryz.sizeOf9
  v9 := Tryz.zeroValue9
  t46 := Tryz.underlying189
  a46 := Tryz.isAgg189
  z46 := Tryz.sizeOf189
  v46 := Tryz.zeroValue189
  t51 := Tryz.underlying208
  a51 := Tryz.isAgg208
  z51 := Tryz.sizeOf208
  v51 := Tryz.zeroValue208
  t59 := Tryz.underlying213
  a59 := Tryz.isAgg213
  z59 := Tryz.sizeOf213
  v59 := Tryz.zeroValue213
  t146 := Tryz.underlying209
  a146 := Tryz.isAgg209
  z146 := Tryz.sizeOf209
  v146 := Tryz.zeroValue209
  g1 := by kernel_rfl
  i3 := by kernel_rfl
  i4 := by kernel_rfl
  i5 := by kernel_rfl
  i9 := by kernel_rfl
  i46 := by kernel_rfl
  i51 := by kernel_rfl
  i59 := by kernel_rfl
  i146 := by kernel_rfl
  m1 := by kernel_rfl
  s1_3 := fun w h => Go.Proofs.cell_of_shapedOpen_int (zero := #[.int .i64 0]) (t := 3) h (of_decide_eq_true (by kernel_rfl)) (by kernel_rfl) rfl (by kernel_rfl) (by kernel_rfl) Tryz.underlying3 }
open Go.RowKit Go.Lib in
theorem Tryz.strings_Cut_shaped (s sep : ByteArray) (w : World) (h : w.ShapedOpen Tryz.prog) (hs : s.size < 4294967281) :
    Calls Tryz.prog 184 #[.string s, .string sep] w fun e w' => e = .returned (.tuple #[.string ⟨(Lib.cut s.data.toList sep.data.toList).1.toArray⟩, .string ⟨(Lib.cut s.data.toList sep.data.toList).2.1.toArray⟩, .bool (Lib.cut s.data.toList sep.data.toList).2.2]) ∧ ∃ n, w' = w.drewN n := Any.strings_Cut_shaped Tryz.laysM145 s sep w h hs
def Tryz.laysM143_ren : Go.Shelf.Ren := ⟨fun | 143 => 106 | 219 => 146 | 217 => 143 | 225 => 163 | 224 => 164 | 267 => 165 | 266 => 162 | 314 => 182 | n => n, fun | 9 => 9 | 3 => 3 | 4 => 4 | 5 => 5 | 46 => 189 | 146 => 209 | 51 => 208 | n => n, fun | 1 => 1 | n => n⟩
theorem Tryz.laysM143 : Go.Proofs.LaysM.n143 Tryz.prog Tryz.laysM143_ren := {
  mixed := by kernel_rfl
  f143 := Tryz.func106.trans (congrArg some (by kernel_rfl))
  f217 := Tryz.func143.trans (congrArg some (by kernel_rfl))
  f219 := Tryz.func146.trans (congrArg some (by kernel_rfl))
  f224 := Tryz.func164.trans (congrArg some (by kernel_rfl))
  f225 := Tryz.func163.trans (congrArg some (by kernel_rfl))
  f266 := Tryz.func162.trans (congrArg some (by kernel_rfl))
  f267 := Tryz.func165.trans (congrArg some (by kernel_rfl))
  f314 := Tryz.func182.trans (congrArg some (by kernel_rfl))
  t3 := Tryz.underlying3
  a3 := Tryz.isAgg3
  z3 := Tryz.sizeOf3
  v3 := Tryz.zeroValue3
  t4 := Tryz.underlying4
  a4 := Tryz.isAgg4
  z4 := Tryz.sizeOf4
  v4 := Tryz.zeroValue4
  t5 := Tryz.underlying5
  a5 := Tryz.isAgg5
  z5 := Tryz.sizeOf5
  v5 := Tryz.zeroValue5
  t9 := Tryz.underlying9
  a9 := Tryz.isAgg9
  z9 := Tryz.sizeOf9
  v9 := Tryz.zeroValue9
  t46 := Tryz.underlying189
  a46 := Tryz.isAgg189
  z46 := Tryz.sizeOf189
  v46 := Tryz.zeroValue189
  t51 := Tryz.underlying208
  a51 := Tryz.isAgg208
  z51 := Tryz.sizeOf208
  v51 := Tryz.zeroValue208
  t146 := Tryz.underlying209
  a146 := Tryz.isAgg209
  z146 := Tryz.sizeOf209
  v146 := Tryz.zeroValue209
  g1 := by kernel_rfl
  i3 := by kernel_rfl
  i4 := by kernel_rfl
  i5 := by kernel_rfl
  i9 := by kernel_rfl
  i46 := by kernel_rfl
  i51 := by kernel_rfl
  i146 := by kernel_rfl
  m1 := by kernel_rfl
  s1_3 := fun w h => Go.Proofs.cell_of_shapedOpen_int (zero := #[.int .i64 0]) (t := 3) h (of_decide_eq_true (by kernel_rfl)) (by kernel_rfl) rfl (by kernel_rfl) (by kernel_rfl) Tryz.underlying3 }
open Go.RowKit Go.Lib in
theorem Tryz.strings_Index_shaped (s sub : ByteArray) (w : World) (h : w.ShapedOpen Tryz.prog) (hs : s.size < 4294967281) :
    Calls Tryz.prog 106 #[.string s, .string sub] w fun e w' => e = .returned (.int .i64 (Lib.index s.data.toList sub.data.toList)) ∧ w' = w := Any.strings_Index_shaped Tryz.laysM143 s sub w h hs
def Tryz.laysC172_ren : Go.Shelf.Ren := ⟨fun | 172 => 153 | 244 => 177 | 245 => 178 | 247 => 196 | 279 => 197 | 280 => 198 | 281 => 199 | 282 => 200 | 287 => 211 | 316 => 212 | 171 => 76 | 205 => 213 | 321 => 217 | 322 => 218 | 243 => 121 | 246 => 151 | 283 => 168 | 284 => 169 | 285 => 170 | 286 => 171 | 129 => 187 | 317 => 186 | 318 => 188 | 319 => 189 | 320 => 190 | 337 => 207 | 338 => 208 | n => n, fun | 9 => 9 | 3 => 3 | 75 => 180 | 76 => 181 | 4 => 4 | 5 => 5 | 167 => 220 | 37 => 145 | 0 => 0 | 85 => 221 | 2 => 2 | 168 => 223 | 53 => 195 | 175 => 242 | 46 => 189 | 210 => 245 | 127 => 219 | 145 => 254 | 143 => 252 | 21 => 21 | 171 => 194 | 173 => 198 | 212 => 216 | 51 => 208 | 20 => 20 | 213 => 217 | 232 => 249 | 233 => 250 | 80 => 206 | n => n, fun | 15 => 5 | 16 => 6 | 17 => 2 | 18 => 7 | 19 => 8 | n => n⟩
theorem Tryz.laysC172 : Go.Proofs.LaysC.n172 Tryz.prog Tryz.laysC172_ren := {
  mixed := by kernel_rfl
  f129 := Tryz.func187.trans (congrArg some (by kernel_rfl))
  f171 := Tryz.func76.trans (congrArg some (by kernel_rfl))
  f172 := Tryz.func153.trans (congrArg some (by kernel_rfl))
  f205 := Tryz.func213.trans (congrArg some (by kernel_rfl))
  f243 := Tryz.func121.trans (congrArg some (by kernel_rfl))
  f244 := Tryz.func177.trans (congrArg some (by kernel_rfl))
  f245 := Tryz.func178.trans (congrArg some (by kernel_rfl))
  f246 := Tryz.func151.trans (congrArg some (by kernel_rfl))
  f247 := Tryz.func196.trans (congrArg some (by kernel_rfl))
  f279 := Tryz.func197.trans (congrArg some (by kernel_rfl))
  f280 := Tryz.func198.trans (congrArg some (by kernel_rfl))
  f281 := Tryz.func199.trans (congrArg some (by kernel_rfl))
  f282 := Tryz.func200.trans (congrArg some (by kernel_rfl))
  f283 := Tryz.func168.trans (congrArg some (by kernel_rfl))
  f284 := Tryz.func169.trans (congrArg some (by kernel_rfl))
  f285 := Tryz.func170.trans (congrArg some (by kernel_rfl))
  f286 := Tryz.func171.trans (congrArg some (by kernel_rfl))
  f287 := Tryz.func211.trans (congrArg some (by kernel_rfl))
  f316 := Tryz.func212.trans (congrArg some (by kernel_rfl))
  f317 := Tryz.func186.trans (congrArg some (by kernel_rfl))
  f318 := Tryz.func188.trans (congrArg some (by kernel_rfl))
  f319 := Tryz.func189.trans (congrArg some (by kernel_rfl))
  f320 := Tryz.func190.trans (congrArg some (by kernel_rfl))
  f321 := Tryz.func217.trans (congrArg some (by kernel_rfl))
  f322 := Tryz.func218.trans (congrArg some (by kernel_rfl))
  f337 := Tryz.func207.trans (congrArg some (by kernel_rfl))
  f338 := Tryz.func208.trans (congrArg some (by kernel_rfl))
  t0 := Tryz.underlying0
  a0 := Tryz.isAgg0
  z0 := Tryz.sizeOf0
  v0 := Tryz.zeroValue0
  t2 := Tryz.underlying2
  a2 := Tryz.isAgg2
  z2 := Tryz.sizeOf2
  v2 := Tryz.zeroValue2
  t3 := Tryz.underlying3
  a3 := Tryz.isAgg3
  z3 := Tryz.sizeOf3
  v3 := Tryz.zeroValue3
  t4 := Tryz.underlying4
  a4 := Tryz.isAgg4
  z4 := Tryz.sizeOf4
  v4 := Tryz.zeroValue4
  t5 := Tryz.underlying5
  a5 := Tryz.isAgg5
  z5 := Tryz.sizeOf5
  v5 := Tryz.zeroValue5
  t9 := Tryz.underlying9
  a9 := Tryz.isAgg9
  z9 := Tryz.sizeOf9
  v9 := Tryz.zeroValue9
  t20 := Tryz.underlying20
  a20 := Tryz.isAgg20
  z20 := Tryz.sizeOf20
  v20 := Tryz.zeroValue20
  t21 := Tryz.underlying21
  a21 := Tryz.isAgg21
  z21 := Tryz.sizeOf21
  v21 := Tryz.zeroValue21
  t37 := Tryz.underlying145
  a37 := Tryz.isAgg145
  z37 := Tryz.sizeOf145
  v37 := Tryz.zeroValue145
  t46 := Tryz.underlying189
  a46 := Tryz.isAgg189
  z46 := Tryz.sizeOf189
  v46 := Tryz.zeroValue189
  t51 := Tryz.underlying208
  a51 := Tryz.isAgg208
  z51 := Tryz.sizeOf208
  v51 := Tryz.zeroValue208
  t53 := Tryz.underlying195
  a53 := Tryz.isAgg195
  z53 := Tryz.sizeOf195
  v53 := Tryz.zeroValue195
  t75 := Tryz.underlying180
  a75 := Tryz.isAgg180
  z75 := Tryz.sizeOf180
  v75 := Tryz.zeroValue180
  t76 := Tryz.underlying181
  a76 := Tryz.isAgg181
  z76 := Tryz.sizeOf181
  v76 := Tryz.zeroValue181
  t85 := Tryz.underlying221
  a85 := Tryz.isAgg221
  z85 := Tryz.sizeOf221
  v85 := Tryz.zeroValue221
  t127 := Tryz.underlying219
  a127 := Tryz.isAgg219
  z127 := Tryz.sizeOf219
  v127 := Tryz.zeroValue219
  t143 := Tryz.underlying252
  a143 := Tryz.isAgg252
  z143 := Tryz.sizeOf252
  v143 := Tryz.zeroValue252
  t145 := Tryz.underlying254
  a145 := Tryz.isAgg254
  z145 := Tryz.sizeOf254
  v145 := Tryz.zeroValue254
  t167 := Tryz.underlying220
  a167 := Tryz.isAgg220
  z167 := Tryz.sizeOf220
  v167 := Tryz.zeroValue220
  t168 := Tryz.underlying223
  a168 := Tryz.isAgg223
  z168 := Tryz.sizeOf223
  v168 := Tryz.zeroValue223
  t171 := Tryz.underlying194
  a171 := Tryz.isAgg194
  z171 := Tryz.sizeOf194
  v171 := Tryz.zeroValue194
  t173 := Tryz.underlying198
  a173 := Tryz.isAgg198
  z173 := Tryz.sizeOf198
  v173 := Tryz.zeroValue198
  t175 := Tryz.underlying242
  a175 := Tryz.isAgg242
  z175 := Tryz.sizeOf242
  v175 := Tryz.zeroValue242
  t210 := Tryz.underlying245
  a210 := Tryz.isAgg245
  z210 := Tryz.sizeOf245
  v210 := Tryz.zeroValue245
  t212 := Tryz.underlying216
  a212 := Tryz.isAgg216
  z212 := Tryz.sizeOf216
  v212 := Tryz.zeroValue216
  t213 := Tryz.underlying217
  a213 := Tryz.isAgg217
  z213 := Tryz.sizeOf217
  t232 := Tryz.underlying249
  a232 := Tryz.isAgg249
  z232 := Tryz.sizeOf249
  v232 := Tryz.zeroValue249
  t233 := Tryz.underlying250
  a233 := Tryz.isAgg250
  z233 := Tryz.sizeOf250
  v233 := Tryz.zeroValue250
  g15 := by kernel_rfl
  g16 := by kernel_rfl
  g17 := by kernel_rfl
  g18 := by kernel_rfl
  g19 := by kernel_rfl
  t80 := Tryz.underlying206
  a80 := Tryz.isAgg206
  z80 := Tryz.sizeOf206
  v80 := Tryz.zeroValue206
  i0 := by kernel_rfl
  i2 := by kernel_rfl
  i3 := by kernel_rfl
  i4 := by kernel_rfl
  i5 := by kernel_rfl
  i9 := by kernel_rfl
  i20 := by kernel_rfl
  i21 := by kernel_rfl
  i37 := by kernel_rfl
  i46 := by kernel_rfl
  i51 := by kernel_rfl
  i53 := by kernel_rfl
  i75 := by kernel_rfl
  i76 := by kernel_rfl
  i80 := by kernel_rfl
  i85 := by kernel_rfl
  i127 := by kernel_rfl
  i143 := by kernel_rfl
  i145 := by kernel_rfl
  i167 := by kernel_rfl
  i168 := by kernel_rfl
  i171 := by kernel_rfl
  i173 := by kernel_rfl
  i175 := by kernel_rfl
  i210 := by kernel_rfl
  i212 := by kernel_rfl
  i232 := by kernel_rfl
  i233 := by kernel_rfl
  m15 := by kernel_rfl
  m16 := by kernel_rfl
  m17 := by kernel_rfl
  m18 := by kernel_rfl
  m19 := by kernel_rfl
  c0 := by kernel_rfl
  c2 := by kernel_rfl
  c3 := by kernel_rfl
  c4 := by kernel_rfl
  c5 := by kernel_rfl
  c9 := by kernel_rfl
  c20 := by kernel_rfl
  c21 := by kernel_rfl
  c37 := by kernel_rfl
  c46 := by kernel_rfl
  c51 := by kernel_rfl
  c53 := by kernel_rfl
  c75 := by kernel_rfl
  c76 := by kernel_rfl
  c80 := by kernel_rfl
  c85 := by kernel_rfl
  c127 := by kernel_rfl
  c143 := by kernel_rfl
  c145 := by kernel_rfl
  c167 := by kernel_rfl
  c168 := by kernel_rfl
  c171 := by kernel_rfl
  c173 := by kernel_rfl
  c175 := by kernel_rfl
  c210 := by kernel_rfl
  c212 := by kernel_rfl
  c213 := by kernel_rfl
  c232 := by kernel_rfl
  c233 := by kernel_rfl }
def Tryz.lays161_ren : Go.Shelf.Ren := ⟨fun | 161 => 185 | 231 => 203 | 227 => 204 | 233 => 205 | 235 => 206 | 228 => 215 | 197 => 175 | 151 => 216 | 260 => 195 | 152 => 219 | 137 => 96 | 119 => 220 | 224 => 164 | 225 => 163 | 217 => 143 | 266 => 162 | n => n, fun | 9 => 9 | 4 => 4 | 3 => 3 | 5 => 5 | 117 => 230 | 116 => 229 | 0 => 0 | 124 => 233 | 105 => 204 | 21 => 21 | 119 => 238 | 46 => 189 | 139 => 241 | 138 => 240 | n => n, fun | 3 => 3 | 4 => 4 | n => n⟩
theorem Tryz.lays161 : Go.Proofs.Lays.n161 Tryz.prog Tryz.lays161_ren := {
  mixed := by kernel_rfl
  f119 := Tryz.func220.trans (congrArg some (by kernel_rfl))
  f137 := Tryz.func96.trans (congrArg some (by kernel_rfl))
  f151 := Tryz.func216.trans (congrArg some (by kernel_rfl))
  f152 := Tryz.func219.trans (congrArg some (by kernel_rfl))
  f161 := Tryz.func185.trans (congrArg some (by kernel_rfl))
  f197 := Tryz.func175.trans (congrArg some (by kernel_rfl))
  f217 := Tryz.func143.trans (congrArg some (by kernel_rfl))
  f224 := Tryz.func164.trans (congrArg some (by kernel_rfl))
  f225 := Tryz.func163.trans (congrArg some (by kernel_rfl))
  f227 := Tryz.func204.trans (congrArg some (by kernel_rfl))
  f228 := Tryz.func215.trans (congrArg some (by kernel_rfl))
  f231 := Tryz.func203.trans (congrArg some (by kernel_rfl))
  f233 := Tryz.func205.trans (congrArg some (by kernel_rfl))
  f235 := Tryz.func206.trans (congrArg some (by kernel_rfl))
  f260 := Tryz.func195.trans (congrArg some (by kernel_rfl))
  f266 := Tryz.func162.trans (congrArg some (by kernel_rfl))
  t0 := Tryz.underlying0
  a0 := Tryz.isAgg0
  z0 := Tryz.sizeOf0
  v0 := Tryz.zeroValue0
  t3 := Tryz.underlying3
  a3 := Tryz.isAgg3
  z3 := Tryz.sizeOf3
  v3 := Tryz.zeroValue3
  t4 := Tryz.underlying4
  a4 := Tryz.isAgg4
  z4 := Tryz.sizeOf4
  v4 := Tryz.zeroValue4
  t5 := Tryz.underlying5
  a5 := Tryz.isAgg5
  z5 := Tryz.sizeOf5
  v5 := Tryz.zeroValue5
  t9 := Tryz.underlying9
  a9 := Tryz.isAgg9
  z9 := Tryz.sizeOf9
  v9 := Tryz.zeroValue9
  t21 := Tryz.underlying21
  a21 := Tryz.isAgg21
  z21 := Tryz.sizeOf21
  v21 := Tryz.zeroValue21
  t46 := Tryz.underlying189
  a46 := Tryz.isAgg189
  z46 := Tryz.sizeOf189
  v46 := Tryz.zeroValue189
  t105 := Tryz.underlying204
  a105 := Tryz.isAgg204
  z105 := Tryz.sizeOf204
  v105 := Tryz.zeroValue204
  t116 := Tryz.underlying229
  a116 := Tryz.isAgg229
  z116 := Tryz.sizeOf229
  t117 := Tryz.underlying230
  a117 := Tryz.isAgg230
  z117 := Tryz.sizeOf230
  v117 := Tryz.zeroValue230
  t119 := Tryz.underlying238
  a119 := Tryz.isAgg238
  z119 := Tryz.sizeOf238
  t124 := Tryz.underlying233
  a124 := Tryz.isAgg233
  z124 := Tryz.sizeOf233
  v124 := Tryz.zeroValue233
  t138 := Tryz.underlying240
  a138 := Tryz.isAgg240
  z138 := Tryz.sizeOf240
  v138 := Tryz.zeroValue240
  t139 := Tryz.underlying241
  a139 := Tryz.isAgg241
  z139 := Tryz.sizeOf241
  v139 := Tryz.zeroValue241
  g3 := by kernel_rfl
  g4 := by kernel_rfl }
open Go.RowKit in
theorem Tryz.strings_TrimLeft_one (s : ByteArray) (c : UInt8) (hc : c.toNat < 128) (w : World) :
    Calls Tryz.prog 185 #[.string s, .string ⟨#[c]⟩] w fun e w' => e = .returned (.string ⟨(Lib.trimLeftB s.data.toList c).toArray⟩) ∧ w' = w := Any.strings_TrimLeft_one Tryz.lays161 s c hc w
def Tryz.laysM155_ren : Go.Shelf.Ren := ⟨fun | 155 => 122 | 154 => 152 | 138 => 172 | 165 => 173 | 143 => 106 | 166 => 174 | 197 => 175 | 169 => 176 | 195 => 191 | 218 => 192 | 240 => 193 | 241 => 194 | 219 => 146 | 260 => 195 | 276 => 209 | 277 => 210 | 217 => 143 | 225 => 163 | 224 => 164 | 267 => 165 | 266 => 162 | 314 => 182 | n => n, fun | 9 => 9 | 3 => 3 | 4 => 4 | 72 => 202 | 0 => 0 | 76 => 181 | 105 => 204 | 21 => 21 | 5 => 5 | 70 => 200 | 20 => 20 | 37 => 145 | 75 => 180 | 127 => 219 | 164 => 235 | 46 => 189 | 119 => 238 | 139 => 241 | 138 => 240 | 146 => 209 | 51 => 208 | 80 => 206 | n => n, fun | 1 => 1 | 3 => 3 | 4 => 4 | n => n⟩
theorem Tryz.laysM155 : Go.Proofs.LaysM.n155 Tryz.prog Tryz.laysM155_ren := {
  mixed := by kernel_rfl
  f138 := Tryz.func172.trans (congrArg some (by kernel_rfl))
  f143 := Tryz.func106.trans (congrArg some (by kernel_rfl))
  f154 := Tryz.func152.trans (congrArg some (by kernel_rfl))
  f155 := Tryz.func122.trans (congrArg some (by kernel_rfl))
  f165 := Tryz.func173.trans (congrArg some (by kernel_rfl))
  f166 := Tryz.func174.trans (congrArg some (by kernel_rfl))
  f169 := Tryz.func176.trans (congrArg some (by kernel_rfl))
  f195 := Tryz.func191.trans (congrArg some (by kernel_rfl))
  f197 := Tryz.func175.trans (congrArg some (by kernel_rfl))
  f217 := Tryz.func143.trans (congrArg some (by kernel_rfl))
  f218 := Tryz.func192.trans (congrArg some (by kernel_rfl))
  f219 := Tryz.func146.trans (congrArg some (by kernel_rfl))
  f224 := Tryz.func164.trans (congrArg some (by kernel_rfl))
  f225 := Tryz.func163.trans (congrArg some (by kernel_rfl))
  f240 := Tryz.func193.trans (congrArg some (by kernel_rfl))
  f241 := Tryz.func194.trans (congrArg some (by kernel_rfl))
  f260 := Tryz.func195.trans (congrArg some (by kernel_rfl))
  f266 := Tryz.func162.trans (congrArg some (by kernel_rfl))
  f267 := Tryz.func165.trans (congrArg some (by kernel_rfl))
  f276 := Tryz.func209.trans (congrArg some (by kernel_rfl))
  f277 := Tryz.func210.trans (congrArg some (by kernel_rfl))
  f314 := Tryz.func182.trans (congrArg some (by kernel_rfl))
  t0 := Tryz.underlying0
  a0 := Tryz.isAgg0
  z0 := Tryz.sizeOf0
  v0 := Tryz.zeroValue0
  t3 := Tryz.underlying3
  a3 := Tryz.isAgg3
  z3 := Tryz.sizeOf3
  v3 := Tryz.zeroValue3
  t4 := Tryz.underlying4
  a4 := Tryz.isAgg4
  z4 := Tryz.sizeOf4
  v4 := Tryz.zeroValue4
  t5 := Tryz.underlying5
  a5 := Tryz.isAgg5
  z5 := Tryz.sizeOf5
  v5 := Tryz.zeroValue5
  t9 := Tryz.underlying9
  a9 := Tryz.isAgg9
  z9 := Tryz.sizeOf9
  v9 := Tryz.zeroValue9
  t20 := Tryz.underlying20
  a20 := Tryz.isAgg20
  z20 := Tryz.sizeOf20
  v20 := Tryz.zeroValue20
  t21 := Tryz.underlying21
  a21 := Tryz.isAgg21
  z21 := Tryz.sizeOf21
  v21 := Tryz.zeroValue21
  t37 := Tryz.underlying145
  a37 := Tryz.isAgg145
  z37 := Tryz.sizeOf145
  v37 := Tryz.zeroValue145
  t46 := Tryz.underlying189
  a46 := Tryz.isAgg189
  z46 := Tryz.sizeOf189
  v46 := Tryz.zeroValue189
  t51 := Tryz.underlying208
  a51 := Tryz.isAgg208
  z51 := Tryz.sizeOf208
  v51 := Tryz.zeroValue208
  t70 := Tryz.underlying200
  a70 := Tryz.isAgg200
  z70 := Tryz.sizeOf200
  v70 := Tryz.zeroValue200
  t72 := Tryz.underlying202
  a72 := Tryz.isAgg202
  z72 := Tryz.sizeOf202
  v72 := Tryz.zeroValue202
  t75 := Tryz.underlying180
  a75 := Tryz.isAgg180
  z75 := Tryz.sizeOf180
  v75 := Tryz.zeroValue180
  t76 := Tryz.underlying181
  a76 := Tryz.isAgg181
  z76 := Tryz.sizeOf181
  v76 := Tryz.zeroValue181
  t105 := Tryz.underlying204
  a105 := Tryz.isAgg204
  z105 := Tryz.sizeOf204
  v105 := Tryz.zeroValue204
  t119 := Tryz.underlying238
  a119 := Tryz.isAgg238
  z119 := Tryz.sizeOf238
  t127 := Tryz.underlying219
  a127 := Tryz.isAgg219
  z127 := Tryz.sizeOf219
  v127 := Tryz.zeroValue219
  t138 := Tryz.underlying240
  a138 := Tryz.isAgg240
  z138 := Tryz.sizeOf240
  v138 := Tryz.zeroValue240
  t139 := Tryz.underlying241
  a139 := Tryz.isAgg241
  z139 := Tryz.sizeOf241
  v139 := Tryz.zeroValue241
  t146 := Tryz.underlying209
  a146 := Tryz.isAgg209
  z146 := Tryz.sizeOf209
  v146 := Tryz.zeroValue209
  t164 := Tryz.underlying235
  a164 := Tryz.isAgg235
  z164 := Tryz.sizeOf235
  v164 := Tryz.zeroValue235
  g1 := by kernel_rfl
  g3 := by kernel_rfl
  g4 := by kernel_rfl
  t80 := Tryz.underlying206
  a80 := Tryz.isAgg206
  z80 := Tryz.sizeOf206
  v80 := Tryz.zeroValue206
  i0 := by kernel_rfl
  i3 := by kernel_rfl
  i4 := by kernel_rfl
  i5 := by kernel_rfl
  i9 := by kernel_rfl
  i20 := by kernel_rfl
  i21 := by kernel_rfl
  i37 := by kernel_rfl
  i46 := by kernel_rfl
  i51 := by kernel_rfl
  i70 := by kernel_rfl
  i72 := by kernel_rfl
  i75 := by kernel_rfl
  i76 := by kernel_rfl
  i80 := by kernel_rfl
  i105 := by kernel_rfl
  i127 := by kernel_rfl
  i138 := by kernel_rfl
  i139 := by kernel_rfl
  i146 := by kernel_rfl
  i164 := by kernel_rfl
  m1 := by kernel_rfl
  s1_3 := fun w h => Go.Proofs.cell_of_shapedOpen_int (zero := #[.int .i64 0]) (t := 3) h (of_decide_eq_true (by kernel_rfl)) (by kernel_rfl) rfl (by kernel_rfl) (by kernel_rfl) Tryz.underlying3
  m3 := by kernel_rfl
  m4 := by kernel_rfl }
theorem Tryz.Builder_Extra_M155 : Builder.Extra Tryz.prog Tryz.laysM155_ren := {
  sizeBuilder := by kernel_rfl
  liesBuilder := by kernel_rfl
  t5 := Tryz.underlying5
  a5 := Tryz.isAgg5
  z5 := Tryz.sizeOf5
  v5 := Tryz.zeroValue5
  infoByte := by kernel_rfl
  cellsByte := by kernel_rfl
  sizeByte := by kernel_rfl
  neB5 := by decide }
open Go.RowKit Go.Lib in
theorem Tryz.strings_ReplaceAll_shaped (s old new : ByteArray) (w : World) (h : w.ShapedOpen Tryz.prog) (hs : s.size < 4294967281) (h1 : 1 ≤ old.size) (hlen : s.size + Lib.countB s old * new.size ≤ 140737488355328) :
    Calls Tryz.prog 122 #[.string s, .string old, .string new] w fun e w' =>
      e = .returned (.string ⟨(Lib.replaceAll s.data.toList old.data.toList new.data.toList).toArray⟩) ∧ Below w.heap.size w w' := Any.strings_ReplaceAll_shaped Tryz.laysM155 Tryz.Builder_Extra_M155 s old new w h hs h1 hlen
end Go.Proofs

/- strconv.Itoa, out of the library's contract. Printed by the session's own program. -/
namespace Go.Proofs.YtmpglmcjoelciaaGreatDoor.Ev
open Go Go.Proofs Go.Proofs.Ev
set_option linter.unusedVariables false
set_option maxRecDepth 100000
noncomputable def strconv_Itoa.F (n : Nat) (c : Int) : Option (ByteArray) := bif decide (-9223372036854775808 ≤ c) && decide (c ≤ 9223372036854775807) then Option.some (⟨(Lib.itoa c).toArray⟩) else none
theorem strconv_Itoa.hands (n : Nat) (c : Int) {p : ByteArray} (h : strconv_Itoa.F n c = some p) : HandsIn Tryz.prog 76 [.v (.int .i64 c)] (.v (.string p)) := by
  unfold strconv_Itoa.F at h
  cases hc : (decide (-9223372036854775808 ≤ c) && decide (c ≤ 9223372036854775807)) with
  | false => rw [hc] at h; cases h
  | true =>
    rw [hc] at h
    cases h
    refine hands_calls (fn := Tryz.f76) Tryz.func76 (by kernel_rfl) (by kernel_rfl) fun w F vals hQ hF hl hr => ?_
    obtain ⟨u0, rfl, h0⟩ := vals1 hl hr
    obtain rfl := rel_v h0
    rw [Bool.and_eq_true] at hc
    refine (Tryz.strconv_Itoa c (of_decide_eq_true hc.1) (of_decide_eq_true hc.2) w (hQ.2 _ (List.mem_cons_self ..))).mono ?_
    rintro e w' ⟨rfl, k, os, rfl⟩
    exact ⟨F, fun _ => none, Came.of_below hF (below_grew w k os), .v _ rfl⟩
noncomputable def strconv_Itoa.via {R : Type} (n : Nat) (ys : List AV) : (AV → Option R) → Option R := match ys with | [.v (.int .i64 c)] => fun K => (strconv_Itoa.F n c).bind fun p => K (.v (.string p)) | _ => fun _ => none
theorem strconv_Itoa.tells1 {R : Type} (n : Nat) (ys : List AV) : Tells1 (R := R) Tryz.prog 76 ys (strconv_Itoa.via n ys) := by
  unfold strconv_Itoa.via
  split
  · exact Tells1.of (fun p hp => (strconv_Itoa.hands n _ hp).hands rfl)
  · exact Tells1.none
end Go.Proofs.YtmpglmcjoelciaaGreatDoor.Ev

/- strings.IndexByte, out of the library's contract. Printed by the session's own program. -/
namespace Go.Proofs.YtmpglmcjoelciaaGreatDoor.Ev
open Go Go.Proofs Go.Proofs.Ev
set_option linter.unusedVariables false
set_option maxRecDepth 100000
noncomputable def strings_IndexByte.F (n : Nat) (s : ByteArray) (c : Int) : Option (Int) := bif true then Option.some (Lib.indexByte s.data.toList c.toNat.toUInt8) else none
theorem strings_IndexByte.hands (n : Nat) (s : ByteArray) (c : Int) {p : Int} (h : strings_IndexByte.F n s c = some p) : HandsIn Tryz.prog 96 [.v (.string s), .v (.int .u8 c)] (.v (.int .i64 p)) := by
  unfold strings_IndexByte.F at h
  cases hc : (true) with
  | false => rw [hc] at h; cases h
  | true =>
    rw [hc] at h
    cases h
    refine hands_calls (fn := Tryz.f96) Tryz.func96 (by kernel_rfl) (by kernel_rfl) fun w F vals hQ hF hl hr => ?_
    obtain ⟨u0, u1, rfl, h0, h1⟩ := vals2 hl hr
    obtain rfl := rel_v h0
    obtain rfl := rel_v h1
    refine (Tryz.strings_IndexByte s c w).mono ?_
    rintro e w' ⟨rfl, rfl⟩
    exact ⟨F, fun _ => none, Came.same hF, .v _ rfl⟩
noncomputable def strings_IndexByte.via {R : Type} (n : Nat) (ys : List AV) : (AV → Option R) → Option R := match ys with | [.v (.string s), .v (.int .u8 c)] => fun K => (strings_IndexByte.F n s c).bind fun p => K (.v (.int .i64 p)) | _ => fun _ => none
theorem strings_IndexByte.tells1 {R : Type} (n : Nat) (ys : List AV) : Tells1 (R := R) Tryz.prog 96 ys (strings_IndexByte.via n ys) := by
  unfold strings_IndexByte.via
  split
  · exact Tells1.of (fun p hp => (strings_IndexByte.hands n _ _ hp).hands rfl)
  · exact Tells1.none
end Go.Proofs.YtmpglmcjoelciaaGreatDoor.Ev

/- strings.Index, out of the library's contract. Printed by the session's own program. -/
namespace Go.Proofs.YtmpglmcjoelciaaGreatDoor.Ev
open Go Go.Proofs Go.Proofs.Ev
set_option linter.unusedVariables false
set_option maxRecDepth 100000
noncomputable def strings_Index.F (n : Nat) (s : ByteArray) (t : ByteArray) : Option (Int) := bif decide (s.size < 4294967281) then Option.some (Lib.index s.data.toList t.data.toList) else none
theorem strings_Index.hands (n : Nat) (s : ByteArray) (t : ByteArray) {p : Int} (h : strings_Index.F n s t = some p) : HandsIn Tryz.prog 106 [vs s, vs t] (.v (.int .i64 p)) := by
  unfold strings_Index.F at h
  cases hc : (decide (s.size < 4294967281)) with
  | false => rw [hc] at h; cases h
  | true =>
    rw [hc] at h
    cases h
    refine hands_calls (fn := Tryz.f106) Tryz.func106 (by kernel_rfl) (by kernel_rfl) fun w F vals hQ hF hl hr => ?_
    obtain ⟨u, v, rfl, hu, hv⟩ := vals2 hl hr
    obtain rfl := rel_v hu
    obtain rfl := rel_v hv
    refine (Tryz.strings_Index_shaped s t w (Rooted.opened _ hQ) (of_decide_eq_true hc)).mono ?_
    rintro e w' ⟨rfl, rfl⟩
    exact ⟨F, fun _ => none, Came.same hF, .v _ rfl⟩
noncomputable def strings_Index.via {R : Type} (n : Nat) (ys : List AV) : (AV → Option R) → Option R := match ys with | [.v (.string s), .v (.string t)] => fun K => (strings_Index.F n s t).bind fun p => K (.v (.int .i64 p)) | _ => fun _ => none
theorem strings_Index.tells1 {R : Type} (n : Nat) (ys : List AV) : Tells1 (R := R) Tryz.prog 106 ys (strings_Index.via n ys) := by
  unfold strings_Index.via
  split
  · exact Tells1.of (fun p hp => (strings_Index.hands n _ _ hp).hands rfl)
  · exact Tells1.none
end Go.Proofs.YtmpglmcjoelciaaGreatDoor.Ev

/- strings.ReplaceAll, out of the library's contract. Printed by the session's own program. -/
namespace Go.Proofs.YtmpglmcjoelciaaGreatDoor.Ev
open Go Go.Proofs Go.Proofs.Ev
set_option linter.unusedVariables false
set_option maxRecDepth 100000
noncomputable def strings_ReplaceAll.F (n : Nat) (s : ByteArray) (t : ByteArray) (u : ByteArray) : Option (ByteArray) := bif (decide (s.size < 4294967281) && decide (1 ≤ t.size)) && decide (s.size + Lib.countB s t * u.size ≤ 140737488355328) then Option.some (⟨(Lib.replaceAll s.data.toList t.data.toList u.data.toList).toArray⟩) else none
theorem strings_ReplaceAll.hands (n : Nat) (s : ByteArray) (t : ByteArray) (u : ByteArray) {p : ByteArray} (h : strings_ReplaceAll.F n s t u = some p) : HandsIn Tryz.prog 122 [.v (.string s), .v (.string t), .v (.string u)] (.v (.string p)) := by
  unfold strings_ReplaceAll.F at h
  cases hc : ((decide (s.size < 4294967281) && decide (1 ≤ t.size)) && decide (s.size + Lib.countB s t * u.size ≤ 140737488355328)) with
  | false => rw [hc] at h; cases h
  | true =>
    rw [hc] at h
    cases h
    refine hands_calls (fn := Tryz.f122) Tryz.func122 (by kernel_rfl) (by kernel_rfl) fun w F vals hQ hF hl hr => ?_
    obtain ⟨u0, u1, u2, rfl, h0, h1, h2⟩ := vals3 hl hr
    obtain rfl := rel_v h0
    obtain rfl := rel_v h1
    obtain rfl := rel_v h2
    rw [Bool.and_eq_true, Bool.and_eq_true] at hc
    refine (Tryz.strings_ReplaceAll_shaped s t u w (Rooted.opened _ hQ) (of_decide_eq_true hc.1.1) (of_decide_eq_true hc.1.2) (of_decide_eq_true hc.2)).mono ?_
    rintro e w' ⟨rfl, hB⟩
    exact ⟨F, fun _ => none, Came.of_below hF hB, .v _ rfl⟩
noncomputable def strings_ReplaceAll.via {R : Type} (n : Nat) (ys : List AV) : (AV → Option R) → Option R := match ys with | [.v (.string s), .v (.string t), .v (.string u)] => fun K => (strings_ReplaceAll.F n s t u).bind fun p => K (.v (.string p)) | _ => fun _ => none
theorem strings_ReplaceAll.tells1 {R : Type} (n : Nat) (ys : List AV) : Tells1 (R := R) Tryz.prog 122 ys (strings_ReplaceAll.via n ys) := by
  unfold strings_ReplaceAll.via
  split
  · exact Tells1.of (fun p hp => (strings_ReplaceAll.hands n _ _ _ hp).hands rfl)
  · exact Tells1.none
end Go.Proofs.YtmpglmcjoelciaaGreatDoor.Ev

/- strconv.Atoi, out of the library's contract. Printed by the session's own program. -/
namespace Go.Proofs.YtmpglmcjoelciaaGreatDoor.Ev
open Go Go.Proofs Go.Proofs.Ev
set_option linter.unusedVariables false
set_option maxRecDepth 100000
noncomputable def strconv_Atoi.F (n : Nat) (s : ByteArray) : Option (Int × Bool) := bif decide (s.size ≤ 281474976710656) then Option.some (atoiR s.data.toList) else none
theorem strconv_Atoi.hands (n : Nat) (s : ByteArray) {p : Int × Bool} (h : strconv_Atoi.F n s = some p) : HandsIn Tryz.prog 153 [.v (.string s)] (.tup [.v (.int .i64 p.1), .err p.2]) := by
  unfold strconv_Atoi.F at h
  cases hc : (decide (s.size ≤ 281474976710656)) with
  | false => rw [hc] at h; cases h
  | true =>
    rw [hc] at h
    cases h
    refine hands_calls (fn := Tryz.f153) Tryz.func153 (by kernel_rfl) (by kernel_rfl) fun w F vals hQ hF hl hr => ?_
    obtain ⟨u0, rfl, h0⟩ := vals1 hl hr
    obtain rfl := rel_v h0
    exact atoi_calls Tryz.laysC172 hF s (of_decide_eq_true hc) (Sents.at hQ.1 rfl) (Sents.at hQ.1 rfl)
noncomputable def strconv_Atoi.via {R : Type} (n : Nat) (ys : List AV) : (AV → Option R) → Option R := match ys with | [.v (.string s)] => fun K => (strconv_Atoi.F n s).bind fun p => K (.tup [.v (.int .i64 p.1), .err p.2]) | _ => fun _ => none
theorem strconv_Atoi.tells1 {R : Type} (n : Nat) (ys : List AV) : Tells1 (R := R) Tryz.prog 153 ys (strconv_Atoi.via n ys) := by
  unfold strconv_Atoi.via
  split
  · exact Tells1.of (fun p hp => (strconv_Atoi.hands n _ hp).hands rfl)
  · exact Tells1.none
end Go.Proofs.YtmpglmcjoelciaaGreatDoor.Ev

/- strings.Cut, out of the library's contract. Printed by the session's own program. -/
namespace Go.Proofs.YtmpglmcjoelciaaGreatDoor.Ev
open Go Go.Proofs Go.Proofs.Ev
set_option linter.unusedVariables false
set_option maxRecDepth 100000
noncomputable def strings_Cut.F (n : Nat) (s : ByteArray) (t : ByteArray) : Option (ByteArray × ByteArray × Bool) := bif decide (s.size < 4294967281) then Option.some ((⟨(Lib.cut s.data.toList t.data.toList).1.toArray⟩, ⟨(Lib.cut s.data.toList t.data.toList).2.1.toArray⟩, (Lib.cut s.data.toList t.data.toList).2.2)) else none
theorem strings_Cut.hands (n : Nat) (s : ByteArray) (t : ByteArray) {p : ByteArray × ByteArray × Bool} (h : strings_Cut.F n s t = some p) : HandsIn Tryz.prog 184 [.v (.string s), .v (.string t)] (.tup [.v (.string p.1), .v (.string p.2.1), .v (.bool p.2.2)]) := by
  unfold strings_Cut.F at h
  cases hc : (decide (s.size < 4294967281)) with
  | false => rw [hc] at h; cases h
  | true =>
    rw [hc] at h
    cases h
    refine hands_calls (fn := Tryz.f184) Tryz.func184 (by kernel_rfl) (by kernel_rfl) fun w F vals hQ hF hl hr => ?_
    obtain ⟨u0, u1, rfl, h0, h1⟩ := vals2 hl hr
    obtain rfl := rel_v h0
    obtain rfl := rel_v h1
    refine (Tryz.strings_Cut_shaped s t w (Rooted.opened _ hQ) (of_decide_eq_true hc)).mono ?_
    rintro e w' ⟨rfl, n, rfl⟩
    exact ⟨F, fun _ => none, Came.of_below hF ⟨rfl, rfl, rfl, Nat.le_refl _, fun _ _ => rfl⟩, #[_, _, _], rfl, rfl, .v _ rfl, .v _ rfl, .v _ rfl, trivial⟩
noncomputable def strings_Cut.via {R : Type} (n : Nat) (ys : List AV) : (AV → Option R) → Option R := match ys with | [.v (.string s), .v (.string t)] => fun K => (strings_Cut.F n s t).bind fun p => K (.tup [.v (.string p.1), .v (.string p.2.1), .v (.bool p.2.2)]) | _ => fun _ => none
theorem strings_Cut.tells1 {R : Type} (n : Nat) (ys : List AV) : Tells1 (R := R) Tryz.prog 184 ys (strings_Cut.via n ys) := by
  unfold strings_Cut.via
  split
  · exact Tells1.of (fun p hp => (strings_Cut.hands n _ _ hp).hands rfl)
  · exact Tells1.none
end Go.Proofs.YtmpglmcjoelciaaGreatDoor.Ev

/- strings.TrimLeft, out of the library's contract. Printed by the session's own program. -/
namespace Go.Proofs.YtmpglmcjoelciaaGreatDoor.Ev
open Go Go.Proofs Go.Proofs.Ev
set_option linter.unusedVariables false
set_option maxRecDepth 100000
noncomputable def strings_TrimLeft.F (n : Nat) (s : ByteArray) (t : ByteArray) : Option (ByteArray) := bif Nat.beq t.data.toList.length 1 && decide ((t.data.toList.headD 0).toNat < 128) then Option.some (⟨(Lib.trimLeftB s.data.toList (t.data.toList.headD 0)).toArray⟩) else none
theorem strings_TrimLeft.hands (n : Nat) (s : ByteArray) (t : ByteArray) {p : ByteArray} (h : strings_TrimLeft.F n s t = some p) : HandsIn Tryz.prog 185 [.v (.string s), .v (.string t)] (.v (.string p)) := by
  unfold strings_TrimLeft.F at h
  cases hc : (Nat.beq t.data.toList.length 1 && decide ((t.data.toList.headD 0).toNat < 128)) with
  | false => rw [hc] at h; cases h
  | true =>
    rw [hc] at h
    cases h
    refine hands_calls (fn := Tryz.f185) Tryz.func185 (by kernel_rfl) (by kernel_rfl) fun w F vals hQ hF hl hr => ?_
    obtain ⟨u0, u1, rfl, h0, h1⟩ := vals2 hl hr
    obtain rfl := rel_v h0
    obtain rfl := rel_v h1
    rw [Bool.and_eq_true] at hc
    have ht := one_byte (Nat.eq_of_beq_eq_true hc.1)
    have := Tryz.strings_TrimLeft_one s (t.data.toList.headD 0) (of_decide_eq_true hc.2) w
    rw [← ht] at this
    refine this.mono ?_
    rintro e w' ⟨rfl, rfl⟩
    exact ⟨F, fun _ => none, Came.same hF, .v _ rfl⟩
noncomputable def strings_TrimLeft.via {R : Type} (n : Nat) (ys : List AV) : (AV → Option R) → Option R := match ys with | [.v (.string s), .v (.string t)] => fun K => (strings_TrimLeft.F n s t).bind fun p => K (.v (.string p)) | _ => fun _ => none
theorem strings_TrimLeft.tells1 {R : Type} (n : Nat) (ys : List AV) : Tells1 (R := R) Tryz.prog 185 ys (strings_TrimLeft.via n ys) := by
  unfold strings_TrimLeft.via
  split
  · exact Tells1.of (fun p hp => (strings_TrimLeft.hands n _ _ hp).hands rfl)
  · exact Tells1.none
end Go.Proofs.YtmpglmcjoelciaaGreatDoor.Ev

/- midrange/midrangelaw25.awake, by evaluation. Printed by the session's own program. -/
namespace Go.Proofs.YtmpglmcjoelciaaGreatDoor.Ev
open Go Go.Proofs Go.Proofs.Ev
set_option linter.unusedVariables false
set_option maxRecDepth 100000
noncomputable def midrangelaw25_awake.own (f : FuncId) : Bool := Nat.beq f 76 || Nat.beq f 96 || Nat.beq f 106 || Nat.beq f 122 || Nat.beq f 153 || Nat.beq f 184 || Nat.beq f 185
noncomputable def midrangelaw25_awake.C0 {R : Type} (f : FuncId) (xs : List AV) : (AV → Option R) → Option R := bif Nat.beq f 76 then strconv_Itoa.via 0 xs else bif Nat.beq f 96 then strings_IndexByte.via 0 xs else bif Nat.beq f 106 then strings_Index.via 0 xs else bif Nat.beq f 122 then strings_ReplaceAll.via 0 xs else bif Nat.beq f 153 then strconv_Atoi.via 0 xs else bif Nat.beq f 184 then strings_Cut.via 0 xs else bif Nat.beq f 185 then strings_TrimLeft.via 0 xs else fun _ => none
theorem midrangelaw25_awake.tells0 {R : Type} : Tells (R := R) Tryz.prog midrangelaw25_awake.C0 := fun _ xs => tells_at (strconv_Itoa.tells1 0 xs) (tells_at (strings_IndexByte.tells1 0 xs) (tells_at (strings_Index.tells1 0 xs) (tells_at (strings_ReplaceAll.tells1 0 xs) (tells_at (strconv_Atoi.tells1 0 xs) (tells_at (strings_Cut.tells1 0 xs) (tells_at (strings_TrimLeft.tells1 0 xs) (Tells1.none)))))))
noncomputable def midrangelaw25_awake.F (n : Nat) : Option Bool := Option.some true
theorem midrangelaw25_awake.run : interp Tryz.prog G midrangelaw25_awake.own midrangelaw25_awake.C0 (fun _ _ => none) 1000 100 12 [] = Option.some (vb true) := by kernel_rfl
noncomputable def midrangelaw25_awake.via {R : Type} (n : Nat) (ys : List AV) : (AV → Option R) → Option R := match ys with | [] => fun K => (midrangelaw25_awake.F n).bind fun p => K (.v (.bool p)) | _ => fun _ => none
theorem midrangelaw25_awake.tells1 {R : Type} (n : Nat) (ys : List AV) : Tells1 (R := R) Tryz.prog 12 ys (midrangelaw25_awake.via n ys) := by
  unfold midrangelaw25_awake.via
  split
  · exact Tells1.of (fun p hp => by cases hp; exact interp_tells cfg mixed (fun _ => rfl) rfl midrangelaw25_awake.tells0 100 _ _ _ midrangelaw25_awake.run)
  · exact Tells1.none
end Go.Proofs.YtmpglmcjoelciaaGreatDoor.Ev

/- midrange/dds.first, out of its evaluation. Printed by the session's own program. -/
namespace Go.Proofs.YtmpglmcjoelciaaGreatDoor.Ev
open Go Go.Proofs Go.Proofs.Ev
set_option linter.unusedVariables false
set_option maxRecDepth 100000
/-! midrange/dds.first: function 44 -/
noncomputable def dds_first.r2 {R : Type} (n : Nat) (c2 : List AV → Int → Int → Option R) (k : Int → Option R) (z1 : List AV) (z2 : Int) (z3 : Int) : Option R :=
  bif decide (z3 < z2) then (bif decide ((0 : Int) ≤ z3) && decide (z3 < ((z1.length : Nat) : Int)) then (withCons ((z1.getD ((z3).toNat) .undef).cells) fun h1 r2 =>
  withInt .i64 h1 fun x3 =>
  bif x3 != 0 then (k x3) else (c2 z1 z2 (IntKind.i64.wrap (z3 + 1)))) else none) else (k 0)
noncomputable def dds_first.e {R : Type} (n : Nat) (c2 : List AV → Int → Int → Option R) (k : Int → Option R) (a0 : List AV) : Option R :=
  c2 a0 ((a0.length : Nat) : Int) 0
noncomputable def dds_first.C {R : Type} (n : Nat) (f : FuncId) (xs : List AV) : (AV → Option R) → Option R :=
  fun _ => none
theorem dds_first.tells {R : Type} (n : Nat) : Tells (R := R) Tryz.prog (dds_first.C n) := fun _ xs => Tells1.none
noncomputable def dds_first.cut (r : Nat) : Option Keep := match r with | 2 => Option.some ⟨[5, 6, 7], []⟩ | _ => none
noncomputable def dds_first.t2 : List Item := (todoOf 2 1000 [.code (Tryz.f44.body.getD .skip)]).getD []
noncomputable def dds_first.s2 (z1 : List AV) (z2 : Int) (z3 : Int) : St := ⟨[.undef, .undef, .undef, .undef, .undef, .sl ⟨true, 24⟩ 1 z1, vi z2, vi z3, .undef, .undef, .undef, .undef, .undef, .undef, .undef], Mem.ofList [], 0⟩
theorem dds_first.e_eq {R : Type} (n : Nat) (rec : List Item → St → Option R) (K : AV → Option R) (a0 : List AV) :
    goK G (dds_first.C n) dds_first.cut (fun S => finK G Tryz.f44.resultTypes.toList Tryz.f44.results.toList S K) rec 1000 [.code (Tryz.f44.body.getD .skip)] (Ev.start Tryz.f44 [.sl ⟨true, 24⟩ 1 a0]) = dds_first.e n (fun z1 z2 z3 => rec dds_first.t2 (dds_first.s2 z1 z2 z3)) (fun p => K (vi p)) a0 := by kernel_rfl
theorem dds_first.r2_eq {R : Type} (n : Nat) (rec : List Item → St → Option R) (K : AV → Option R) (z1 : List AV) (z2 : Int) (z3 : Int) :
    atK G (dds_first.C n) dds_first.cut (fun S => finK G Tryz.f44.resultTypes.toList Tryz.f44.results.toList S K) rec dds_first.t2 (dds_first.s2 z1 z2 z3) = dds_first.r2 n (fun z1 z2 z3 => rec dds_first.t2 (dds_first.s2 z1 z2 z3)) (fun p => K (vi p)) z1 z2 z3 := by kernel_rfl
noncomputable def dds_first.l (n : Nat) : Nat → (List AV → Int → Int → Option (Int))
  | 0 => (fun _ _ _ => none)
  | m + 1 => dds_first.r2 n (dds_first.l n m) Option.some
noncomputable def dds_first.F (n : Nat) (a0 : List AV) : Option (Int) := dds_first.e n (dds_first.l n n) Option.some a0
noncomputable def dds_first.dec (x : AV) : Option (Int) := match x with | .v (.int .i64 p0) => Option.some p0 | _ => none
theorem dds_first.dec_inv {p : Int} (y : AV) (h : dds_first.dec y = some p) : y = vi p := by
  unfold dds_first.dec at h
  split at h
  · cases h; rfl
  · cases h
theorem dds_first.l_eq (n m : Nat) : (∀ (z1 : List AV) (z2 : Int) (z3 : Int), runK G (dds_first.C n) dds_first.cut (fun S => finK G Tryz.f44.resultTypes.toList Tryz.f44.results.toList S dds_first.dec) m dds_first.t2 (dds_first.s2 z1 z2 z3) = (dds_first.l n m) z1 z2 z3) := by
  induction m with
  | zero => exact fun z1 z2 z3 => rfl
  | succ m ih =>
    have h2 := ih
    have e2 : (fun (z1 : List AV) (z2 : Int) (z3 : Int) => runK G (dds_first.C n) dds_first.cut (fun S => finK G Tryz.f44.resultTypes.toList Tryz.f44.results.toList S dds_first.dec) m dds_first.t2 (dds_first.s2 z1 z2 z3)) = (dds_first.l n m) := by funext z1 z2 z3; exact h2 z1 z2 z3
    have q2 : ∀ (z1 : List AV) (z2 : Int) (z3 : Int), runK G (dds_first.C n) dds_first.cut (fun S => finK G Tryz.f44.resultTypes.toList Tryz.f44.results.toList S dds_first.dec) (m + 1) dds_first.t2 (dds_first.s2 z1 z2 z3) = (dds_first.l n (m + 1)) z1 z2 z3 := by
      intro z1 z2 z3
      rw [runK_succ]
      refine (dds_first.r2_eq n _ dds_first.dec z1 z2 z3).trans ?_
      rw [e2]
      rfl
    exact q2
theorem dds_first.hands (n : Nat) (a0 : List AV) {p : Int} (h : dds_first.F n a0 = some p) : HandsIn Tryz.prog 44 [.sl ⟨true, 24⟩ 1 a0] (vi p) := by
  refine hands_of cfg mixed (fun _ => rfl) rfl (dds_first.tells n) (fn := Tryz.f44) Tryz.func44 (by kernel_rfl) (by kernel_rfl) (cut := dds_first.cut) (K := dds_first.dec) (r := p) (n := n) dds_first.dec_inv ?_
  rw [funK_getD (by kernel_rfl)]
  have h1 := dds_first.e_eq n (runK G (dds_first.C n) dds_first.cut (fun S => finK G Tryz.f44.resultTypes.toList Tryz.f44.results.toList S dds_first.dec) n) dds_first.dec a0
  have hl := dds_first.l_eq n n
  simp only [hl] at h1
  exact h1.trans h
noncomputable def dds_first.via {R : Type} (n : Nat) (xs : List AV) : (AV → Option R) → Option R := match xs with | [.sl ⟨true, 24⟩ 1 a0] => fun K => (dds_first.F n a0).bind fun p => K (vi p) | _ => fun _ => none
theorem dds_first.tells1 {R : Type} (n : Nat) (xs : List AV) : Tells1 (R := R) Tryz.prog 44 xs (dds_first.via n xs) := by
  unfold dds_first.via
  split
  · exact Tells1.of (fun p hp => (dds_first.hands n _ hp).hands rfl)
  · exact Tells1.none
end Go.Proofs.YtmpglmcjoelciaaGreatDoor.Ev

/- midrange/dds.cond, out of its evaluation. Printed by the session's own program. -/
namespace Go.Proofs.YtmpglmcjoelciaaGreatDoor.Ev
open Go Go.Proofs Go.Proofs.Ev
set_option linter.unusedVariables false
set_option maxRecDepth 100000
/-! midrange/dds.cond: function 45 -/
noncomputable def dds_cond.e {R : Type} (n : Nat)  (k : Int → Option R) (a0 : Bool) (a1 : Int) : Option R :=
  bif a0 then (k a1) else (k 0)
noncomputable def dds_cond.C {R : Type} (n : Nat) (f : FuncId) (xs : List AV) : (AV → Option R) → Option R :=
  fun _ => none
theorem dds_cond.tells {R : Type} (n : Nat) : Tells (R := R) Tryz.prog (dds_cond.C n) := fun _ xs => Tells1.none
noncomputable def dds_cond.cut (r : Nat) : Option Keep := match r with  | _ => none
theorem dds_cond.e_eq {R : Type} (n : Nat) (rec : List Item → St → Option R) (K : AV → Option R) (a0 : Bool) (a1 : Int) :
    goK G (dds_cond.C n) dds_cond.cut (fun S => finK G Tryz.f45.resultTypes.toList Tryz.f45.results.toList S K) rec 1000 [.code (Tryz.f45.body.getD .skip)] (Ev.start Tryz.f45 [vb a0, vi a1]) = dds_cond.e n  (fun p => K (vi p)) a0 a1 := by kernel_rfl
noncomputable def dds_cond.F (n : Nat) (a0 : Bool) (a1 : Int) : Option (Int) := dds_cond.e n  Option.some a0 a1
noncomputable def dds_cond.dec (x : AV) : Option (Int) := match x with | .v (.int .i64 p0) => Option.some p0 | _ => none
theorem dds_cond.dec_inv {p : Int} (y : AV) (h : dds_cond.dec y = some p) : y = vi p := by
  unfold dds_cond.dec at h
  split at h
  · cases h; rfl
  · cases h
theorem dds_cond.hands (n : Nat) (a0 : Bool) (a1 : Int) {p : Int} (h : dds_cond.F n a0 a1 = some p) : HandsIn Tryz.prog 45 [vb a0, vi a1] (vi p) := by
  refine hands_of cfg mixed (fun _ => rfl) rfl (dds_cond.tells n) (fn := Tryz.f45) Tryz.func45 (by kernel_rfl) (by kernel_rfl) (cut := dds_cond.cut) (K := dds_cond.dec) (r := p) (n := n) dds_cond.dec_inv ?_
  rw [funK_getD (by kernel_rfl)]
  have h1 := dds_cond.e_eq n (runK G (dds_cond.C n) dds_cond.cut (fun S => finK G Tryz.f45.resultTypes.toList Tryz.f45.results.toList S dds_cond.dec) n) dds_cond.dec a0 a1
  exact h1.trans h
noncomputable def dds_cond.via {R : Type} (n : Nat) (xs : List AV) : (AV → Option R) → Option R := match xs with | [.v (.bool a0), .v (.int .i64 a1)] => fun K => (dds_cond.F n a0 a1).bind fun p => K (vi p) | _ => fun _ => none
theorem dds_cond.tells1 {R : Type} (n : Nat) (xs : List AV) : Tells1 (R := R) Tryz.prog 45 xs (dds_cond.via n xs) := by
  unfold dds_cond.via
  split
  · exact Tells1.of (fun p hp => (dds_cond.hands n _ _ hp).hands rfl)
  · exact Tells1.none
end Go.Proofs.YtmpglmcjoelciaaGreatDoor.Ev

/- midrange/dds.number, out of its evaluation. Printed by the session's own program. -/
namespace Go.Proofs.YtmpglmcjoelciaaGreatDoor.Ev
open Go Go.Proofs Go.Proofs.Ev
set_option linter.unusedVariables false
set_option maxRecDepth 100000
/-! midrange/dds.number: function 126 -/
noncomputable def dds_number.r2 {R : Type} (n : Nat) (c2 : ByteArray → Int → Option R) (c4 : ByteArray → Int → Option R) (c5 : Unit → Option R) (k : Int × ByteArray × Bool → Option R) (z1 : ByteArray) (z2 : Int) : Option R :=
  let y1 : Bool := decide (z2 < ((z1.size : Nat) : Int))
  bif y1 then (bif decide ((0 : Int) ≤ z2) && decide (z2 < ((z1.size : Nat) : Int)) then (let y2 : Int := (((z1.data.getD ((z2).toNat) 0).toNat : Nat) : Int)
  bif decide ((48 : Int) ≤ y2) then (bif decide ((0 : Int) ≤ z2) && decide (z2 < ((z1.size : Nat) : Int)) then (let y3 : Int := (((z1.data.getD ((z2).toNat) 0).toNat : Nat) : Int)
  bif decide (y3 ≤ 57) then (c2 z1 (IntKind.i64.wrap (z2 + 1))) else (c4 z1 z2)) else none) else (c4 z1 z2)) else none) else (c4 z1 z2)
noncomputable def dds_number.r4 {R : Type} (n : Nat) (c2 : ByteArray → Int → Option R) (c4 : ByteArray → Int → Option R) (c5 : Unit → Option R) (k : Int × ByteArray × Bool → Option R) (z1 : ByteArray) (z2 : Int) : Option R :=
  bif z2 == 0 then (c5 ()) else (bif decide (z2 > 3) then (c5 ()) else (bif decide (z2 > 1) then (bif decide ((0 : Int) < (z1.size : Nat)) then (let y4 : Int := (((z1.data.getD 0 0).toNat : Nat) : Int)
  bif y4 == 48 then (c5 ()) else (bif decide ((0 : Int) ≤ z2) && decide ((z2 : Int) ≤ ((z1.size : Nat) : Int)) then ((strconv_Atoi.F n (z1.extract 0 (z2).toNat)).bind fun p5 =>
  bif decide ((0 : Int) ≤ z2) && decide ((z2 : Int) ≤ ((z1.size : Nat) : Int)) then (let y6 : ByteArray := z1.extract (z2).toNat z1.size
  k (p5.1, y6, true)) else none) else none)) else none) else (bif decide ((0 : Int) ≤ z2) && decide ((z2 : Int) ≤ ((z1.size : Nat) : Int)) then ((strconv_Atoi.F n (z1.extract 0 (z2).toNat)).bind fun p7 =>
  bif decide ((0 : Int) ≤ z2) && decide ((z2 : Int) ≤ ((z1.size : Nat) : Int)) then (let y8 : ByteArray := z1.extract (z2).toNat z1.size
  k (p7.1, y8, true)) else none) else none)))
noncomputable def dds_number.r5 {R : Type} (n : Nat) (c2 : ByteArray → Int → Option R) (c4 : ByteArray → Int → Option R) (c5 : Unit → Option R) (k : Int × ByteArray × Bool → Option R) (_ : Unit) : Option R :=
  k (0, (⟨#[]⟩ : ByteArray), false)
noncomputable def dds_number.e {R : Type} (n : Nat) (c2 : ByteArray → Int → Option R) (c4 : ByteArray → Int → Option R) (c5 : Unit → Option R) (k : Int × ByteArray × Bool → Option R) (a0 : ByteArray) : Option R :=
  c2 a0 0
noncomputable def dds_number.C {R : Type} (n : Nat) (f : FuncId) (xs : List AV) : (AV → Option R) → Option R :=
  bif Nat.beq f 153 then strconv_Atoi.via n xs else fun _ => none
theorem dds_number.tells {R : Type} (n : Nat) : Tells (R := R) Tryz.prog (dds_number.C n) := fun _ xs => tells_at (strconv_Atoi.tells1 n xs) (Tells1.none)
noncomputable def dds_number.cut (r : Nat) : Option Keep := match r with | 2 => Option.some ⟨[0, 5], []⟩ | 4 => Option.some ⟨[0, 5], []⟩ | 5 => Option.some ⟨[], []⟩ | _ => none
noncomputable def dds_number.t2 : List Item := (todoOf 2 1000 [.code (Tryz.f126.body.getD .skip)]).getD []
noncomputable def dds_number.s2 (z1 : ByteArray) (z2 : Int) : St := ⟨[vs z1, .undef, .undef, .undef, .undef, vi z2, .undef, .undef, .undef, .undef, .undef, .undef, .undef, .undef, .undef, .undef, .undef, .undef, .undef, .undef, .undef, .undef, .undef, .undef, .undef, .undef, .undef, .undef, .undef, .undef, .undef, .undef, .undef, .undef, .undef, .undef, .undef, .undef, .undef, .undef, .undef, .undef, .undef, .undef, .undef, .undef, .undef, .undef, .undef, .undef, .undef, .undef], Mem.ofList [], 0⟩
noncomputable def dds_number.t4 : List Item := (todoOf 4 1000 [.code (Tryz.f126.body.getD .skip)]).getD []
noncomputable def dds_number.s4 (z1 : ByteArray) (z2 : Int) : St := ⟨[vs z1, .undef, .undef, .undef, .undef, vi z2, .undef, .undef, .undef, .undef, .undef, .undef, .undef, .undef, .undef, .undef, .undef, .undef, .undef, .undef, .undef, .undef, .undef, .undef, .undef, .undef, .undef, .undef, .undef, .undef, .undef, .undef, .undef, .undef, .undef, .undef, .undef, .undef, .undef, .undef, .undef, .undef, .undef, .undef, .undef, .undef, .undef, .undef, .undef, .undef, .undef, .undef], Mem.ofList [], 0⟩
noncomputable def dds_number.t5 : List Item := (todoOf 5 1000 [.code (Tryz.f126.body.getD .skip)]).getD []
noncomputable def dds_number.s5 (_ : Unit) : St := ⟨[.undef, .undef, .undef, .undef, .undef, .undef, .undef, .undef, .undef, .undef, .undef, .undef, .undef, .undef, .undef, .undef, .undef, .undef, .undef, .undef, .undef, .undef, .undef, .undef, .undef, .undef, .undef, .undef, .undef, .undef, .undef, .undef, .undef, .undef, .undef, .undef, .undef, .undef, .undef, .undef, .undef, .undef, .undef, .undef, .undef, .undef, .undef, .undef, .undef, .undef, .undef, .undef], Mem.ofList [], 0⟩
theorem dds_number.e_eq {R : Type} (n : Nat) (rec : List Item → St → Option R) (K : AV → Option R) (a0 : ByteArray) :
    goK G (dds_number.C n) dds_number.cut (fun S => finK G Tryz.f126.resultTypes.toList Tryz.f126.results.toList S K) rec 1000 [.code (Tryz.f126.body.getD .skip)] (Ev.start Tryz.f126 [vs a0]) = dds_number.e n (fun z1 z2 => rec dds_number.t2 (dds_number.s2 z1 z2)) (fun z1 z2 => rec dds_number.t4 (dds_number.s4 z1 z2)) (fun _ => rec dds_number.t5 (dds_number.s5 ())) (fun p => K (.tup [vi p.1, vs p.2.1, vb p.2.2])) a0 := by kernel_rfl
theorem dds_number.r2_eq {R : Type} (n : Nat) (rec : List Item → St → Option R) (K : AV → Option R) (z1 : ByteArray) (z2 : Int) :
    atK G (dds_number.C n) dds_number.cut (fun S => finK G Tryz.f126.resultTypes.toList Tryz.f126.results.toList S K) rec dds_number.t2 (dds_number.s2 z1 z2) = dds_number.r2 n (fun z1 z2 => rec dds_number.t2 (dds_number.s2 z1 z2)) (fun z1 z2 => rec dds_number.t4 (dds_number.s4 z1 z2)) (fun _ => rec dds_number.t5 (dds_number.s5 ())) (fun p => K (.tup [vi p.1, vs p.2.1, vb p.2.2])) z1 z2 := by kernel_rfl
theorem dds_number.r4_eq {R : Type} (n : Nat) (rec : List Item → St → Option R) (K : AV → Option R) (z1 : ByteArray) (z2 : Int) :
    atK G (dds_number.C n) dds_number.cut (fun S => finK G Tryz.f126.resultTypes.toList Tryz.f126.results.toList S K) rec dds_number.t4 (dds_number.s4 z1 z2) = dds_number.r4 n (fun z1 z2 => rec dds_number.t2 (dds_number.s2 z1 z2)) (fun z1 z2 => rec dds_number.t4 (dds_number.s4 z1 z2)) (fun _ => rec dds_number.t5 (dds_number.s5 ())) (fun p => K (.tup [vi p.1, vs p.2.1, vb p.2.2])) z1 z2 := by kernel_rfl
theorem dds_number.r5_eq {R : Type} (n : Nat) (rec : List Item → St → Option R) (K : AV → Option R) (_ : Unit) :
    atK G (dds_number.C n) dds_number.cut (fun S => finK G Tryz.f126.resultTypes.toList Tryz.f126.results.toList S K) rec dds_number.t5 (dds_number.s5 ()) = dds_number.r5 n (fun z1 z2 => rec dds_number.t2 (dds_number.s2 z1 z2)) (fun z1 z2 => rec dds_number.t4 (dds_number.s4 z1 z2)) (fun _ => rec dds_number.t5 (dds_number.s5 ())) (fun p => K (.tup [vi p.1, vs p.2.1, vb p.2.2])) () := by kernel_rfl
noncomputable def dds_number.l (n : Nat) : Nat → (ByteArray → Int → Option (Int × ByteArray × Bool)) × (ByteArray → Int → Option (Int × ByteArray × Bool)) × (Unit → Option (Int × ByteArray × Bool))
  | 0 => ((fun _ _ => none), (fun _ _ => none), (fun _ => none))
  | m + 1 => (dds_number.r2 n ((dds_number.l n m).1) ((dds_number.l n m).2.1) ((dds_number.l n m).2.2) Option.some, dds_number.r4 n ((dds_number.l n m).1) ((dds_number.l n m).2.1) ((dds_number.l n m).2.2) Option.some, dds_number.r5 n ((dds_number.l n m).1) ((dds_number.l n m).2.1) ((dds_number.l n m).2.2) Option.some)
noncomputable def dds_number.F (n : Nat) (a0 : ByteArray) : Option (Int × ByteArray × Bool) := dds_number.e n ((dds_number.l n n).1) ((dds_number.l n n).2.1) ((dds_number.l n n).2.2) Option.some a0
noncomputable def dds_number.dec (x : AV) : Option (Int × ByteArray × Bool) := match x with | .tup [.v (.int .i64 p0), .v (.string p1), .v (.bool p2)] => Option.some (p0, p1, p2) | _ => none
theorem dds_number.dec_inv {p : Int × ByteArray × Bool} (y : AV) (h : dds_number.dec y = some p) : y = .tup [vi p.1, vs p.2.1, vb p.2.2] := by
  unfold dds_number.dec at h
  split at h
  · cases h; rfl
  · cases h
theorem dds_number.l_eq (n m : Nat) : (∀ (z1 : ByteArray) (z2 : Int), runK G (dds_number.C n) dds_number.cut (fun S => finK G Tryz.f126.resultTypes.toList Tryz.f126.results.toList S dds_number.dec) m dds_number.t2 (dds_number.s2 z1 z2) = ((dds_number.l n m).1) z1 z2) ∧ (∀ (z1 : ByteArray) (z2 : Int), runK G (dds_number.C n) dds_number.cut (fun S => finK G Tryz.f126.resultTypes.toList Tryz.f126.results.toList S dds_number.dec) m dds_number.t4 (dds_number.s4 z1 z2) = ((dds_number.l n m).2.1) z1 z2) ∧ (∀ z : Unit, runK G (dds_number.C n) dds_number.cut (fun S => finK G Tryz.f126.resultTypes.toList Tryz.f126.results.toList S dds_number.dec) m dds_number.t5 (dds_number.s5 z) = ((dds_number.l n m).2.2) z) := by
  induction m with
  | zero => exact ⟨fun z1 z2 => rfl, fun z1 z2 => rfl, fun _ => rfl⟩
  | succ m ih =>
    obtain ⟨h2, h4, h5⟩ := ih
    have e2 : (fun (z1 : ByteArray) (z2 : Int) => runK G (dds_number.C n) dds_number.cut (fun S => finK G Tryz.f126.resultTypes.toList Tryz.f126.results.toList S dds_number.dec) m dds_number.t2 (dds_number.s2 z1 z2)) = (dds_number.l n m).1 := by funext z1 z2; exact h2 z1 z2
    have e4 : (fun (z1 : ByteArray) (z2 : Int) => runK G (dds_number.C n) dds_number.cut (fun S => finK G Tryz.f126.resultTypes.toList Tryz.f126.results.toList S dds_number.dec) m dds_number.t4 (dds_number.s4 z1 z2)) = (dds_number.l n m).2.1 := by funext z1 z2; exact h4 z1 z2
    have e5 : (fun (_ : Unit) => runK G (dds_number.C n) dds_number.cut (fun S => finK G Tryz.f126.resultTypes.toList Tryz.f126.results.toList S dds_number.dec) m dds_number.t5 (dds_number.s5 ())) = (dds_number.l n m).2.2 := by funext z; exact h5 z
    have q2 : ∀ (z1 : ByteArray) (z2 : Int), runK G (dds_number.C n) dds_number.cut (fun S => finK G Tryz.f126.resultTypes.toList Tryz.f126.results.toList S dds_number.dec) (m + 1) dds_number.t2 (dds_number.s2 z1 z2) = ((dds_number.l n (m + 1)).1) z1 z2 := by
      intro z1 z2
      rw [runK_succ]
      refine (dds_number.r2_eq n _ dds_number.dec z1 z2).trans ?_
      rw [e2, e4, e5]
      rfl
    have q4 : ∀ (z1 : ByteArray) (z2 : Int), runK G (dds_number.C n) dds_number.cut (fun S => finK G Tryz.f126.resultTypes.toList Tryz.f126.results.toList S dds_number.dec) (m + 1) dds_number.t4 (dds_number.s4 z1 z2) = ((dds_number.l n (m + 1)).2.1) z1 z2 := by
      intro z1 z2
      rw [runK_succ]
      refine (dds_number.r4_eq n _ dds_number.dec z1 z2).trans ?_
      rw [e2, e4, e5]
      rfl
    have q5 : ∀ z : Unit, runK G (dds_number.C n) dds_number.cut (fun S => finK G Tryz.f126.resultTypes.toList Tryz.f126.results.toList S dds_number.dec) (m + 1) dds_number.t5 (dds_number.s5 z) = ((dds_number.l n (m + 1)).2.2) z := by
      intro z
      rw [runK_succ]
      refine (dds_number.r5_eq n _ dds_number.dec ()).trans ?_
      rw [e2, e4, e5]
      rfl
    exact ⟨q2, q4, q5⟩
theorem dds_number.hands (n : Nat) (a0 : ByteArray) {p : Int × ByteArray × Bool} (h : dds_number.F n a0 = some p) : HandsIn Tryz.prog 126 [vs a0] (.tup [vi p.1, vs p.2.1, vb p.2.2]) := by
  refine hands_of cfg mixed (fun _ => rfl) rfl (dds_number.tells n) (fn := Tryz.f126) Tryz.func126 (by kernel_rfl) (by kernel_rfl) (cut := dds_number.cut) (K := dds_number.dec) (r := p) (n := n) dds_number.dec_inv ?_
  rw [funK_getD (by kernel_rfl)]
  have h1 := dds_number.e_eq n (runK G (dds_number.C n) dds_number.cut (fun S => finK G Tryz.f126.resultTypes.toList Tryz.f126.results.toList S dds_number.dec) n) dds_number.dec a0
  have hl := dds_number.l_eq n n
  simp only [hl.1, hl.2.1, hl.2.2] at h1
  exact h1.trans h
noncomputable def dds_number.via {R : Type} (n : Nat) (xs : List AV) : (AV → Option R) → Option R := match xs with | [.v (.string a0)] => fun K => (dds_number.F n a0).bind fun p => K (.tup [vi p.1, vs p.2.1, vb p.2.2]) | _ => fun _ => none
theorem dds_number.tells1 {R : Type} (n : Nat) (xs : List AV) : Tells1 (R := R) Tryz.prog 126 xs (dds_number.via n xs) := by
  unfold dds_number.via
  split
  · exact Tells1.of (fun p hp => (dds_number.hands n _ hp).hands rfl)
  · exact Tells1.none
end Go.Proofs.YtmpglmcjoelciaaGreatDoor.Ev

/- midrange/dds.typeOf, out of its evaluation. Printed by the session's own program. -/
namespace Go.Proofs.YtmpglmcjoelciaaGreatDoor.Ev
open Go Go.Proofs Go.Proofs.Ev
set_option linter.unusedVariables false
set_option maxRecDepth 100000
/-! midrange/dds.typeOf: function 83 -/
noncomputable def dds_typeOf.e {R : Type} (n : Nat)  (k : Int × Int × Int × Bool → Option R) (a0 : ByteArray) : Option R :=
  (dds_number.F n a0).bind fun p1 =>
  bif !p1.2.2 then (k (0, 0, 0, false)) else (let y2 : Bool := p1.2.1.toList == (⟨#[]⟩ : ByteArray).toList
  bif y2 then (k (0, 0, 0, false)) else (bif decide ((0 : Int) < (p1.2.1.size : Nat)) then (let y3 : Int := (((p1.2.1.data.getD 0 0).toNat : Nat) : Int)
  (strings_IndexByte.F n (⟨#[65, 80, 83, 66]⟩ : ByteArray) y3).bind fun p4 =>
  bif p4 == 0 then (bif decide (p4 ≥ 0) then (let y5 : Bool := ((p1.2.1.size : Nat) : Int) == 1
  k (p4, p1.1, 0, y5)) else (k (p4, p1.1, 0, false))) else (bif decide (p4 < 0) then (bif decide (p4 ≥ 0) then (let y6 : Bool := ((p1.2.1.size : Nat) : Int) == 1
  k (p4, p1.1, 0, y6)) else (k (p4, p1.1, 0, false))) else (bif decide ((0 : Int) ≤ 1) && decide ((1 : Int) ≤ ((p1.2.1.size : Nat) : Int)) then ((dds_number.F n (p1.2.1.extract 1 p1.2.1.size)).bind fun p7 =>
  bif p7.2.2 then (let y8 : Bool := p7.2.1.toList == (⟨#[]⟩ : ByteArray).toList
  k (p4, p1.1, p7.1, y8)) else (k (p4, p1.1, p7.1, false))) else none))) else none))
noncomputable def dds_typeOf.C {R : Type} (n : Nat) (f : FuncId) (xs : List AV) : (AV → Option R) → Option R :=
  bif Nat.beq f 96 then strings_IndexByte.via n xs else bif Nat.beq f 126 then dds_number.via n xs else fun _ => none
theorem dds_typeOf.tells {R : Type} (n : Nat) : Tells (R := R) Tryz.prog (dds_typeOf.C n) := fun _ xs => tells_at (strings_IndexByte.tells1 n xs) (tells_at (dds_number.tells1 n xs) (Tells1.none))
noncomputable def dds_typeOf.cut (r : Nat) : Option Keep := match r with  | _ => none
theorem dds_typeOf.e_eq {R : Type} (n : Nat) (rec : List Item → St → Option R) (K : AV → Option R) (a0 : ByteArray) :
    goK G (dds_typeOf.C n) dds_typeOf.cut (fun S => finK G Tryz.f83.resultTypes.toList Tryz.f83.results.toList S K) rec 1000 [.code (Tryz.f83.body.getD .skip)] (Ev.start Tryz.f83 [vs a0]) = dds_typeOf.e n  (fun p => K (.tup [.agg [vi p.1, vi p.2.1, vi p.2.2.1], vb p.2.2.2])) a0 := by kernel_rfl
noncomputable def dds_typeOf.F (n : Nat) (a0 : ByteArray) : Option (Int × Int × Int × Bool) := dds_typeOf.e n  Option.some a0
noncomputable def dds_typeOf.dec (x : AV) : Option (Int × Int × Int × Bool) := match x with | .tup [.agg [.v (.int .i64 p0), .v (.int .i64 p1), .v (.int .i64 p2)], .v (.bool p3)] => Option.some (p0, p1, p2, p3) | _ => none
theorem dds_typeOf.dec_inv {p : Int × Int × Int × Bool} (y : AV) (h : dds_typeOf.dec y = some p) : y = .tup [.agg [vi p.1, vi p.2.1, vi p.2.2.1], vb p.2.2.2] := by
  unfold dds_typeOf.dec at h
  split at h
  · cases h; rfl
  · cases h
theorem dds_typeOf.hands (n : Nat) (a0 : ByteArray) {p : Int × Int × Int × Bool} (h : dds_typeOf.F n a0 = some p) : HandsIn Tryz.prog 83 [vs a0] (.tup [.agg [vi p.1, vi p.2.1, vi p.2.2.1], vb p.2.2.2]) := by
  refine hands_of cfg mixed (fun _ => rfl) rfl (dds_typeOf.tells n) (fn := Tryz.f83) Tryz.func83 (by kernel_rfl) (by kernel_rfl) (cut := dds_typeOf.cut) (K := dds_typeOf.dec) (r := p) (n := n) dds_typeOf.dec_inv ?_
  rw [funK_getD (by kernel_rfl)]
  have h1 := dds_typeOf.e_eq n (runK G (dds_typeOf.C n) dds_typeOf.cut (fun S => finK G Tryz.f83.resultTypes.toList Tryz.f83.results.toList S dds_typeOf.dec) n) dds_typeOf.dec a0
  exact h1.trans h
noncomputable def dds_typeOf.via {R : Type} (n : Nat) (xs : List AV) : (AV → Option R) → Option R := match xs with | [.v (.string a0)] => fun K => (dds_typeOf.F n a0).bind fun p => K (.tup [.agg [vi p.1, vi p.2.1, vi p.2.2.1], vb p.2.2.2]) | _ => fun _ => none
theorem dds_typeOf.tells1 {R : Type} (n : Nat) (xs : List AV) : Tells1 (R := R) Tryz.prog 83 xs (dds_typeOf.via n xs) := by
  unfold dds_typeOf.via
  split
  · exact Tells1.of (fun p hp => (dds_typeOf.hands n _ hp).hands rfl)
  · exact Tells1.none
end Go.Proofs.YtmpglmcjoelciaaGreatDoor.Ev

/- midrange/numeric.in, out of its evaluation. Printed by the session's own program. -/
namespace Go.Proofs.YtmpglmcjoelciaaGreatDoor.Ev
open Go Go.Proofs Go.Proofs.Ev
set_option linter.unusedVariables false
set_option maxRecDepth 100000
/-! midrange/numeric.in: function 127 -/
noncomputable def numeric_in.e {R : Type} (n : Nat)  (k : Bool → Option R) (a0 : Int) (a1 : Int) (a2 : Int) : Option R :=
  bif decide (a1 ≤ a0) then (k (decide (a0 ≤ a2))) else (k false)
noncomputable def numeric_in.C {R : Type} (n : Nat) (f : FuncId) (xs : List AV) : (AV → Option R) → Option R :=
  fun _ => none
theorem numeric_in.tells {R : Type} (n : Nat) : Tells (R := R) Tryz.prog (numeric_in.C n) := fun _ xs => Tells1.none
noncomputable def numeric_in.cut (r : Nat) : Option Keep := match r with  | _ => none
theorem numeric_in.e_eq {R : Type} (n : Nat) (rec : List Item → St → Option R) (K : AV → Option R) (a0 : Int) (a1 : Int) (a2 : Int) :
    goK G (numeric_in.C n) numeric_in.cut (fun S => finK G Tryz.f127.resultTypes.toList Tryz.f127.results.toList S K) rec 1000 [.code (Tryz.f127.body.getD .skip)] (Ev.start Tryz.f127 [vi a0, vi a1, vi a2]) = numeric_in.e n  (fun p => K (vb p)) a0 a1 a2 := by kernel_rfl
noncomputable def numeric_in.F (n : Nat) (a0 : Int) (a1 : Int) (a2 : Int) : Option (Bool) := numeric_in.e n  Option.some a0 a1 a2
noncomputable def numeric_in.dec (x : AV) : Option (Bool) := match x with | .v (.bool p0) => Option.some p0 | _ => none
theorem numeric_in.dec_inv {p : Bool} (y : AV) (h : numeric_in.dec y = some p) : y = vb p := by
  unfold numeric_in.dec at h
  split at h
  · cases h; rfl
  · cases h
theorem numeric_in.hands (n : Nat) (a0 : Int) (a1 : Int) (a2 : Int) {p : Bool} (h : numeric_in.F n a0 a1 a2 = some p) : HandsIn Tryz.prog 127 [vi a0, vi a1, vi a2] (vb p) := by
  refine hands_of cfg mixed (fun _ => rfl) rfl (numeric_in.tells n) (fn := Tryz.f127) Tryz.func127 (by kernel_rfl) (by kernel_rfl) (cut := numeric_in.cut) (K := numeric_in.dec) (r := p) (n := n) numeric_in.dec_inv ?_
  rw [funK_getD (by kernel_rfl)]
  have h1 := numeric_in.e_eq n (runK G (numeric_in.C n) numeric_in.cut (fun S => finK G Tryz.f127.resultTypes.toList Tryz.f127.results.toList S numeric_in.dec) n) numeric_in.dec a0 a1 a2
  exact h1.trans h
noncomputable def numeric_in.via {R : Type} (n : Nat) (xs : List AV) : (AV → Option R) → Option R := match xs with | [.v (.int .i64 a0), .v (.int .i64 a1), .v (.int .i64 a2)] => fun K => (numeric_in.F n a0 a1 a2).bind fun p => K (vb p) | _ => fun _ => none
theorem numeric_in.tells1 {R : Type} (n : Nat) (xs : List AV) : Tells1 (R := R) Tryz.prog 127 xs (numeric_in.via n xs) := by
  unfold numeric_in.via
  split
  · exact Tells1.of (fun p hp => (numeric_in.hands n _ _ _ hp).hands rfl)
  · exact Tells1.none
end Go.Proofs.YtmpglmcjoelciaaGreatDoor.Ev

/- midrange/numeric.first, out of its evaluation. Printed by the session's own program. -/
namespace Go.Proofs.YtmpglmcjoelciaaGreatDoor.Ev
open Go Go.Proofs Go.Proofs.Ev
set_option linter.unusedVariables false
set_option maxRecDepth 100000
/-! midrange/numeric.first: function 128 -/
noncomputable def numeric_first.r2 {R : Type} (n : Nat) (c2 : List AV → Int → Int → Option R) (k : Int → Option R) (z1 : List AV) (z2 : Int) (z3 : Int) : Option R :=
  bif decide (z3 < z2) then (bif decide ((0 : Int) ≤ z3) && decide (z3 < ((z1.length : Nat) : Int)) then (withCons ((z1.getD ((z3).toNat) .undef).cells) fun h1 r2 =>
  withInt .i64 h1 fun x3 =>
  bif x3 != 0 then (k x3) else (c2 z1 z2 (IntKind.i64.wrap (z3 + 1)))) else none) else (k 0)
noncomputable def numeric_first.e {R : Type} (n : Nat) (c2 : List AV → Int → Int → Option R) (k : Int → Option R) (a0 : List AV) : Option R :=
  c2 a0 ((a0.length : Nat) : Int) 0
noncomputable def numeric_first.C {R : Type} (n : Nat) (f : FuncId) (xs : List AV) : (AV → Option R) → Option R :=
  fun _ => none
theorem numeric_first.tells {R : Type} (n : Nat) : Tells (R := R) Tryz.prog (numeric_first.C n) := fun _ xs => Tells1.none
noncomputable def numeric_first.cut (r : Nat) : Option Keep := match r with | 2 => Option.some ⟨[5, 6, 7], []⟩ | _ => none
noncomputable def numeric_first.t2 : List Item := (todoOf 2 1000 [.code (Tryz.f128.body.getD .skip)]).getD []
noncomputable def numeric_first.s2 (z1 : List AV) (z2 : Int) (z3 : Int) : St := ⟨[.undef, .undef, .undef, .undef, .undef, .sl ⟨true, 24⟩ 1 z1, vi z2, vi z3, .undef, .undef, .undef, .undef, .undef, .undef, .undef], Mem.ofList [], 0⟩
theorem numeric_first.e_eq {R : Type} (n : Nat) (rec : List Item → St → Option R) (K : AV → Option R) (a0 : List AV) :
    goK G (numeric_first.C n) numeric_first.cut (fun S => finK G Tryz.f128.resultTypes.toList Tryz.f128.results.toList S K) rec 1000 [.code (Tryz.f128.body.getD .skip)] (Ev.start Tryz.f128 [.sl ⟨true, 24⟩ 1 a0]) = numeric_first.e n (fun z1 z2 z3 => rec numeric_first.t2 (numeric_first.s2 z1 z2 z3)) (fun p => K (vi p)) a0 := by kernel_rfl
theorem numeric_first.r2_eq {R : Type} (n : Nat) (rec : List Item → St → Option R) (K : AV → Option R) (z1 : List AV) (z2 : Int) (z3 : Int) :
    atK G (numeric_first.C n) numeric_first.cut (fun S => finK G Tryz.f128.resultTypes.toList Tryz.f128.results.toList S K) rec numeric_first.t2 (numeric_first.s2 z1 z2 z3) = numeric_first.r2 n (fun z1 z2 z3 => rec numeric_first.t2 (numeric_first.s2 z1 z2 z3)) (fun p => K (vi p)) z1 z2 z3 := by kernel_rfl
noncomputable def numeric_first.l (n : Nat) : Nat → (List AV → Int → Int → Option (Int))
  | 0 => (fun _ _ _ => none)
  | m + 1 => numeric_first.r2 n (numeric_first.l n m) Option.some
noncomputable def numeric_first.F (n : Nat) (a0 : List AV) : Option (Int) := numeric_first.e n (numeric_first.l n n) Option.some a0
noncomputable def numeric_first.dec (x : AV) : Option (Int) := match x with | .v (.int .i64 p0) => Option.some p0 | _ => none
theorem numeric_first.dec_inv {p : Int} (y : AV) (h : numeric_first.dec y = some p) : y = vi p := by
  unfold numeric_first.dec at h
  split at h
  · cases h; rfl
  · cases h
theorem numeric_first.l_eq (n m : Nat) : (∀ (z1 : List AV) (z2 : Int) (z3 : Int), runK G (numeric_first.C n) numeric_first.cut (fun S => finK G Tryz.f128.resultTypes.toList Tryz.f128.results.toList S numeric_first.dec) m numeric_first.t2 (numeric_first.s2 z1 z2 z3) = (numeric_first.l n m) z1 z2 z3) := by
  induction m with
  | zero => exact fun z1 z2 z3 => rfl
  | succ m ih =>
    have h2 := ih
    have e2 : (fun (z1 : List AV) (z2 : Int) (z3 : Int) => runK G (numeric_first.C n) numeric_first.cut (fun S => finK G Tryz.f128.resultTypes.toList Tryz.f128.results.toList S numeric_first.dec) m numeric_first.t2 (numeric_first.s2 z1 z2 z3)) = (numeric_first.l n m) := by funext z1 z2 z3; exact h2 z1 z2 z3
    have q2 : ∀ (z1 : List AV) (z2 : Int) (z3 : Int), runK G (numeric_first.C n) numeric_first.cut (fun S => finK G Tryz.f128.resultTypes.toList Tryz.f128.results.toList S numeric_first.dec) (m + 1) numeric_first.t2 (numeric_first.s2 z1 z2 z3) = (numeric_first.l n (m + 1)) z1 z2 z3 := by
      intro z1 z2 z3
      rw [runK_succ]
      refine (numeric_first.r2_eq n _ numeric_first.dec z1 z2 z3).trans ?_
      rw [e2]
      rfl
    exact q2
theorem numeric_first.hands (n : Nat) (a0 : List AV) {p : Int} (h : numeric_first.F n a0 = some p) : HandsIn Tryz.prog 128 [.sl ⟨true, 24⟩ 1 a0] (vi p) := by
  refine hands_of cfg mixed (fun _ => rfl) rfl (numeric_first.tells n) (fn := Tryz.f128) Tryz.func128 (by kernel_rfl) (by kernel_rfl) (cut := numeric_first.cut) (K := numeric_first.dec) (r := p) (n := n) numeric_first.dec_inv ?_
  rw [funK_getD (by kernel_rfl)]
  have h1 := numeric_first.e_eq n (runK G (numeric_first.C n) numeric_first.cut (fun S => finK G Tryz.f128.resultTypes.toList Tryz.f128.results.toList S numeric_first.dec) n) numeric_first.dec a0
  have hl := numeric_first.l_eq n n
  simp only [hl] at h1
  exact h1.trans h
noncomputable def numeric_first.via {R : Type} (n : Nat) (xs : List AV) : (AV → Option R) → Option R := match xs with | [.sl ⟨true, 24⟩ 1 a0] => fun K => (numeric_first.F n a0).bind fun p => K (vi p) | _ => fun _ => none
theorem numeric_first.tells1 {R : Type} (n : Nat) (xs : List AV) : Tells1 (R := R) Tryz.prog 128 xs (numeric_first.via n xs) := by
  unfold numeric_first.via
  split
  · exact Tells1.of (fun p hp => (numeric_first.hands n _ hp).hands rfl)
  · exact Tells1.none
end Go.Proofs.YtmpglmcjoelciaaGreatDoor.Ev

/- midrange/numeric.cond, out of its evaluation. Printed by the session's own program. -/
namespace Go.Proofs.YtmpglmcjoelciaaGreatDoor.Ev
open Go Go.Proofs Go.Proofs.Ev
set_option linter.unusedVariables false
set_option maxRecDepth 100000
/-! midrange/numeric.cond: function 129 -/
noncomputable def numeric_cond.e {R : Type} (n : Nat)  (k : Int → Option R) (a0 : Bool) (a1 : Int) : Option R :=
  bif a0 then (k a1) else (k 0)
noncomputable def numeric_cond.C {R : Type} (n : Nat) (f : FuncId) (xs : List AV) : (AV → Option R) → Option R :=
  fun _ => none
theorem numeric_cond.tells {R : Type} (n : Nat) : Tells (R := R) Tryz.prog (numeric_cond.C n) := fun _ xs => Tells1.none
noncomputable def numeric_cond.cut (r : Nat) : Option Keep := match r with  | _ => none
theorem numeric_cond.e_eq {R : Type} (n : Nat) (rec : List Item → St → Option R) (K : AV → Option R) (a0 : Bool) (a1 : Int) :
    goK G (numeric_cond.C n) numeric_cond.cut (fun S => finK G Tryz.f129.resultTypes.toList Tryz.f129.results.toList S K) rec 1000 [.code (Tryz.f129.body.getD .skip)] (Ev.start Tryz.f129 [vb a0, vi a1]) = numeric_cond.e n  (fun p => K (vi p)) a0 a1 := by kernel_rfl
noncomputable def numeric_cond.F (n : Nat) (a0 : Bool) (a1 : Int) : Option (Int) := numeric_cond.e n  Option.some a0 a1
noncomputable def numeric_cond.dec (x : AV) : Option (Int) := match x with | .v (.int .i64 p0) => Option.some p0 | _ => none
theorem numeric_cond.dec_inv {p : Int} (y : AV) (h : numeric_cond.dec y = some p) : y = vi p := by
  unfold numeric_cond.dec at h
  split at h
  · cases h; rfl
  · cases h
theorem numeric_cond.hands (n : Nat) (a0 : Bool) (a1 : Int) {p : Int} (h : numeric_cond.F n a0 a1 = some p) : HandsIn Tryz.prog 129 [vb a0, vi a1] (vi p) := by
  refine hands_of cfg mixed (fun _ => rfl) rfl (numeric_cond.tells n) (fn := Tryz.f129) Tryz.func129 (by kernel_rfl) (by kernel_rfl) (cut := numeric_cond.cut) (K := numeric_cond.dec) (r := p) (n := n) numeric_cond.dec_inv ?_
  rw [funK_getD (by kernel_rfl)]
  have h1 := numeric_cond.e_eq n (runK G (numeric_cond.C n) numeric_cond.cut (fun S => finK G Tryz.f129.resultTypes.toList Tryz.f129.results.toList S numeric_cond.dec) n) numeric_cond.dec a0 a1
  exact h1.trans h
noncomputable def numeric_cond.via {R : Type} (n : Nat) (xs : List AV) : (AV → Option R) → Option R := match xs with | [.v (.bool a0), .v (.int .i64 a1)] => fun K => (numeric_cond.F n a0 a1).bind fun p => K (vi p) | _ => fun _ => none
theorem numeric_cond.tells1 {R : Type} (n : Nat) (xs : List AV) : Tells1 (R := R) Tryz.prog 129 xs (numeric_cond.via n xs) := by
  unfold numeric_cond.via
  split
  · exact Tells1.of (fun p hp => (numeric_cond.hands n _ _ hp).hands rfl)
  · exact Tells1.none
end Go.Proofs.YtmpglmcjoelciaaGreatDoor.Ev

/- midrange/numeric.CheckType, out of its evaluation. Printed by the session's own program. -/
namespace Go.Proofs.YtmpglmcjoelciaaGreatDoor.Ev
open Go Go.Proofs Go.Proofs.Ev
set_option linter.unusedVariables false
set_option maxRecDepth 100000
/-! midrange/numeric.CheckType: function 84 -/
noncomputable def numeric_CheckType.r13 {R : Type} (n : Nat) (c13 : Bool → Bool → Option R) (k : Int → Option R) (z1 : Bool) (z2 : Bool) : Option R :=
  (numeric_cond.F n (!z1) 18).bind fun p8 =>
  (numeric_cond.F n (!z2) 3).bind fun p9 =>
  (numeric_first.F n [vi p8, vi p9]).bind fun p10 =>
  k p10
noncomputable def numeric_CheckType.e {R : Type} (n : Nat) (c13 : Bool → Bool → Option R) (k : Int → Option R) (a0 : Int) (a1 : Int) (a2 : Int) : Option R :=
  bif a0 == 0 then ((numeric_in.F n a1 1 256).bind fun p1 =>
  c13 p1 (a2 == 0)) else (bif a0 == 1 then ((numeric_in.F n a1 1 15).bind fun p2 =>
  (numeric_in.F n a2 0 a1).bind fun p3 =>
  c13 p2 p3) else (bif a0 == 2 then ((numeric_in.F n a1 1 15).bind fun p4 =>
  (numeric_in.F n a2 0 a1).bind fun p5 =>
  c13 p4 p5) else (bif a0 == 3 then (bif a1 == 4 then ((numeric_in.F n a2 0 a1).bind fun p6 =>
  c13 true p6) else ((numeric_in.F n a2 0 a1).bind fun p7 =>
  c13 (a1 == 9) p7)) else (bif a0 == 4 then (c13 (a1 == 0) (a2 == 0)) else (k 4)))))
noncomputable def numeric_CheckType.C {R : Type} (n : Nat) (f : FuncId) (xs : List AV) : (AV → Option R) → Option R :=
  bif Nat.beq f 127 then numeric_in.via n xs else bif Nat.beq f 128 then numeric_first.via n xs else bif Nat.beq f 129 then numeric_cond.via n xs else fun _ => none
theorem numeric_CheckType.tells {R : Type} (n : Nat) : Tells (R := R) Tryz.prog (numeric_CheckType.C n) := fun _ xs => tells_at (numeric_in.tells1 n xs) (tells_at (numeric_first.tells1 n xs) (tells_at (numeric_cond.tells1 n xs) (Tells1.none)))
noncomputable def numeric_CheckType.cut (r : Nat) : Option Keep := match r with | 13 => Option.some ⟨[3, 4], []⟩ | _ => none
noncomputable def numeric_CheckType.t13 : List Item := (todoOf 13 1000 [.code (Tryz.f84.body.getD .skip)]).getD []
noncomputable def numeric_CheckType.s13 (z1 : Bool) (z2 : Bool) : St := ⟨[.undef, .undef, .undef, vb z1, vb z2, .undef, .undef, .undef, .undef, .undef, .undef, .undef, .undef, .undef, .undef, .undef, .undef, .undef, .undef, .undef, .undef, .undef, .undef, .undef, .undef, .undef, .undef, .undef, .undef, .undef, .undef, .undef, .undef, .undef, .undef, .undef, .undef, .undef, .undef, .undef, .undef, .undef, .undef, .undef, .undef, .undef, .undef, .undef, .undef, .undef, .undef, .undef, .undef, .undef], Mem.ofList [], 0⟩
theorem numeric_CheckType.e_eq {R : Type} (n : Nat) (rec : List Item → St → Option R) (K : AV → Option R) (a0 : Int) (a1 : Int) (a2 : Int) :
    goK G (numeric_CheckType.C n) numeric_CheckType.cut (fun S => finK G Tryz.f84.resultTypes.toList Tryz.f84.results.toList S K) rec 1000 [.code (Tryz.f84.body.getD .skip)] (Ev.start Tryz.f84 [AV.agg [vi a0, vi a1, vi a2]]) = numeric_CheckType.e n (fun z1 z2 => rec numeric_CheckType.t13 (numeric_CheckType.s13 z1 z2)) (fun p => K (vi p)) a0 a1 a2 := by kernel_rfl
theorem numeric_CheckType.r13_eq {R : Type} (n : Nat) (rec : List Item → St → Option R) (K : AV → Option R) (z1 : Bool) (z2 : Bool) :
    atK G (numeric_CheckType.C n) numeric_CheckType.cut (fun S => finK G Tryz.f84.resultTypes.toList Tryz.f84.results.toList S K) rec numeric_CheckType.t13 (numeric_CheckType.s13 z1 z2) = numeric_CheckType.r13 n (fun z1 z2 => rec numeric_CheckType.t13 (numeric_CheckType.s13 z1 z2)) (fun p => K (vi p)) z1 z2 := by kernel_rfl
noncomputable def numeric_CheckType.l (n : Nat) : Nat → (Bool → Bool → Option (Int))
  | 0 => (fun _ _ => none)
  | m + 1 => numeric_CheckType.r13 n (numeric_CheckType.l n m) Option.some
noncomputable def numeric_CheckType.F (n : Nat) (a0 : Int) (a1 : Int) (a2 : Int) : Option (Int) := numeric_CheckType.e n (numeric_CheckType.l n n) Option.some a0 a1 a2
noncomputable def numeric_CheckType.dec (x : AV) : Option (Int) := match x with | .v (.int .i64 p0) => Option.some p0 | _ => none
theorem numeric_CheckType.dec_inv {p : Int} (y : AV) (h : numeric_CheckType.dec y = some p) : y = vi p := by
  unfold numeric_CheckType.dec at h
  split at h
  · cases h; rfl
  · cases h
theorem numeric_CheckType.l_eq (n m : Nat) : (∀ (z1 : Bool) (z2 : Bool), runK G (numeric_CheckType.C n) numeric_CheckType.cut (fun S => finK G Tryz.f84.resultTypes.toList Tryz.f84.results.toList S numeric_CheckType.dec) m numeric_CheckType.t13 (numeric_CheckType.s13 z1 z2) = (numeric_CheckType.l n m) z1 z2) := by
  induction m with
  | zero => exact fun z1 z2 => rfl
  | succ m ih =>
    have h13 := ih
    have e13 : (fun (z1 : Bool) (z2 : Bool) => runK G (numeric_CheckType.C n) numeric_CheckType.cut (fun S => finK G Tryz.f84.resultTypes.toList Tryz.f84.results.toList S numeric_CheckType.dec) m numeric_CheckType.t13 (numeric_CheckType.s13 z1 z2)) = (numeric_CheckType.l n m) := by funext z1 z2; exact h13 z1 z2
    have q13 : ∀ (z1 : Bool) (z2 : Bool), runK G (numeric_CheckType.C n) numeric_CheckType.cut (fun S => finK G Tryz.f84.resultTypes.toList Tryz.f84.results.toList S numeric_CheckType.dec) (m + 1) numeric_CheckType.t13 (numeric_CheckType.s13 z1 z2) = (numeric_CheckType.l n (m + 1)) z1 z2 := by
      intro z1 z2
      rw [runK_succ]
      refine (numeric_CheckType.r13_eq n _ numeric_CheckType.dec z1 z2).trans ?_
      rw [e13]
      rfl
    exact q13
theorem numeric_CheckType.hands (n : Nat) (a0 : Int) (a1 : Int) (a2 : Int) {p : Int} (h : numeric_CheckType.F n a0 a1 a2 = some p) : HandsIn Tryz.prog 84 [AV.agg [vi a0, vi a1, vi a2]] (vi p) := by
  refine hands_of cfg mixed (fun _ => rfl) rfl (numeric_CheckType.tells n) (fn := Tryz.f84) Tryz.func84 (by kernel_rfl) (by kernel_rfl) (cut := numeric_CheckType.cut) (K := numeric_CheckType.dec) (r := p) (n := n) numeric_CheckType.dec_inv ?_
  rw [funK_getD (by kernel_rfl)]
  have h1 := numeric_CheckType.e_eq n (runK G (numeric_CheckType.C n) numeric_CheckType.cut (fun S => finK G Tryz.f84.resultTypes.toList Tryz.f84.results.toList S numeric_CheckType.dec) n) numeric_CheckType.dec a0 a1 a2
  have hl := numeric_CheckType.l_eq n n
  simp only [hl] at h1
  exact h1.trans h
noncomputable def numeric_CheckType.via {R : Type} (n : Nat) (xs : List AV) : (AV → Option R) → Option R := match xs with | [.agg [.v (.int .i64 a0), .v (.int .i64 a1), .v (.int .i64 a2)]] => fun K => (numeric_CheckType.F n a0 a1 a2).bind fun p => K (vi p) | _ => fun _ => none
theorem numeric_CheckType.tells1 {R : Type} (n : Nat) (xs : List AV) : Tells1 (R := R) Tryz.prog 84 xs (numeric_CheckType.via n xs) := by
  unfold numeric_CheckType.via
  split
  · exact Tells1.of (fun p hp => (numeric_CheckType.hands n _ _ _ hp).hands rfl)
  · exact Tells1.none
end Go.Proofs.YtmpglmcjoelciaaGreatDoor.Ev

/- midrange/dds.CheckType, out of its evaluation. Printed by the session's own program. -/
namespace Go.Proofs.YtmpglmcjoelciaaGreatDoor.Ev
open Go Go.Proofs Go.Proofs.Ev
set_option linter.unusedVariables false
set_option maxRecDepth 100000
/-! midrange/dds.CheckType: function 30 -/
noncomputable def dds_CheckType.e {R : Type} (n : Nat)  (k : Int × Int × Int × Int → Option R) (a0 : ByteArray) : Option R :=
  (dds_typeOf.F n a0).bind fun p1 =>
  (dds_cond.F n (!p1.2.2.2) 8).bind fun p2 =>
  (numeric_CheckType.F n p1.1 p1.2.1 p1.2.2.1).bind fun p3 =>
  (dds_first.F n [vi p2, vi p3]).bind fun p4 =>
  bif p4 != 0 then (k (0, 0, 0, p4)) else (k (p1.1, p1.2.1, p1.2.2.1, 0))
noncomputable def dds_CheckType.C {R : Type} (n : Nat) (f : FuncId) (xs : List AV) : (AV → Option R) → Option R :=
  bif Nat.beq f 44 then dds_first.via n xs else bif Nat.beq f 45 then dds_cond.via n xs else bif Nat.beq f 83 then dds_typeOf.via n xs else bif Nat.beq f 84 then numeric_CheckType.via n xs else fun _ => none
theorem dds_CheckType.tells {R : Type} (n : Nat) : Tells (R := R) Tryz.prog (dds_CheckType.C n) := fun _ xs => tells_at (dds_first.tells1 n xs) (tells_at (dds_cond.tells1 n xs) (tells_at (dds_typeOf.tells1 n xs) (tells_at (numeric_CheckType.tells1 n xs) (Tells1.none))))
noncomputable def dds_CheckType.cut (r : Nat) : Option Keep := match r with  | _ => none
theorem dds_CheckType.e_eq {R : Type} (n : Nat) (rec : List Item → St → Option R) (K : AV → Option R) (a0 : ByteArray) :
    goK G (dds_CheckType.C n) dds_CheckType.cut (fun S => finK G Tryz.f30.resultTypes.toList Tryz.f30.results.toList S K) rec 1000 [.code (Tryz.f30.body.getD .skip)] (Ev.start Tryz.f30 [vs a0]) = dds_CheckType.e n  (fun p => K (.tup [.agg [vi p.1, vi p.2.1, vi p.2.2.1], vi p.2.2.2])) a0 := by kernel_rfl
noncomputable def dds_CheckType.F (n : Nat) (a0 : ByteArray) : Option (Int × Int × Int × Int) := dds_CheckType.e n  Option.some a0
noncomputable def dds_CheckType.dec (x : AV) : Option (Int × Int × Int × Int) := match x with | .tup [.agg [.v (.int .i64 p0), .v (.int .i64 p1), .v (.int .i64 p2)], .v (.int .i64 p3)] => Option.some (p0, p1, p2, p3) | _ => none
theorem dds_CheckType.dec_inv {p : Int × Int × Int × Int} (y : AV) (h : dds_CheckType.dec y = some p) : y = .tup [.agg [vi p.1, vi p.2.1, vi p.2.2.1], vi p.2.2.2] := by
  unfold dds_CheckType.dec at h
  split at h
  · cases h; rfl
  · cases h
theorem dds_CheckType.hands (n : Nat) (a0 : ByteArray) {p : Int × Int × Int × Int} (h : dds_CheckType.F n a0 = some p) : HandsIn Tryz.prog 30 [vs a0] (.tup [.agg [vi p.1, vi p.2.1, vi p.2.2.1], vi p.2.2.2]) := by
  refine hands_of cfg mixed (fun _ => rfl) rfl (dds_CheckType.tells n) (fn := Tryz.f30) Tryz.func30 (by kernel_rfl) (by kernel_rfl) (cut := dds_CheckType.cut) (K := dds_CheckType.dec) (r := p) (n := n) dds_CheckType.dec_inv ?_
  rw [funK_getD (by kernel_rfl)]
  have h1 := dds_CheckType.e_eq n (runK G (dds_CheckType.C n) dds_CheckType.cut (fun S => finK G Tryz.f30.resultTypes.toList Tryz.f30.results.toList S dds_CheckType.dec) n) dds_CheckType.dec a0
  exact h1.trans h
noncomputable def dds_CheckType.via {R : Type} (n : Nat) (xs : List AV) : (AV → Option R) → Option R := match xs with | [.v (.string a0)] => fun K => (dds_CheckType.F n a0).bind fun p => K (.tup [.agg [vi p.1, vi p.2.1, vi p.2.2.1], vi p.2.2.2]) | _ => fun _ => none
theorem dds_CheckType.tells1 {R : Type} (n : Nat) (xs : List AV) : Tells1 (R := R) Tryz.prog 30 xs (dds_CheckType.via n xs) := by
  unfold dds_CheckType.via
  split
  · exact Tells1.of (fun p hp => (dds_CheckType.hands n _ hp).hands rfl)
  · exact Tells1.none
end Go.Proofs.YtmpglmcjoelciaaGreatDoor.Ev

/- midrange/dds.typeText, out of its evaluation. Printed by the session's own program. -/
namespace Go.Proofs.YtmpglmcjoelciaaGreatDoor.Ev
open Go Go.Proofs Go.Proofs.Ev
set_option linter.unusedVariables false
set_option maxRecDepth 100000
/-! midrange/dds.typeText: function 74 -/
noncomputable def dds_typeText.e {R : Type} (n : Nat)  (k : ByteArray → Option R) (a0 : Int) (a1 : Int) (a2 : Int) : Option R :=
  (strconv_Itoa.F n a1).bind fun p1 =>
  bif decide ((0 : Int) ≤ IntKind.i64.wrap (a0 + 1)) && decide ((IntKind.i64.wrap (a0 + 1) : Int) ≤ 4) then (bif decide ((0 : Int) ≤ a0) && decide ((a0 : Int) ≤ IntKind.i64.wrap (a0 + 1)) then (let y2 : ByteArray := (⟨#[65, 80, 83, 66]⟩ : ByteArray).extract (a0).toNat (IntKind.i64.wrap (a0 + 1)).toNat
  chk (decide (p1.size + y2.size ≤ 9223372036854775807)) (bif a0 == 0 then (k (p1 ++ y2)) else ((strconv_Itoa.F n a2).bind fun p3 =>
  chk (decide ((p1 ++ y2).size + p3.size ≤ 9223372036854775807)) (k ((p1 ++ y2) ++ p3))))) else none) else none
noncomputable def dds_typeText.C {R : Type} (n : Nat) (f : FuncId) (xs : List AV) : (AV → Option R) → Option R :=
  bif Nat.beq f 76 then strconv_Itoa.via n xs else fun _ => none
theorem dds_typeText.tells {R : Type} (n : Nat) : Tells (R := R) Tryz.prog (dds_typeText.C n) := fun _ xs => tells_at (strconv_Itoa.tells1 n xs) (Tells1.none)
noncomputable def dds_typeText.cut (r : Nat) : Option Keep := match r with  | _ => none
theorem dds_typeText.e_eq {R : Type} (n : Nat) (rec : List Item → St → Option R) (K : AV → Option R) (a0 : Int) (a1 : Int) (a2 : Int) :
    goK G (dds_typeText.C n) dds_typeText.cut (fun S => finK G Tryz.f74.resultTypes.toList Tryz.f74.results.toList S K) rec 1000 [.code (Tryz.f74.body.getD .skip)] (Ev.start Tryz.f74 [AV.agg [vi a0, vi a1, vi a2]]) = dds_typeText.e n  (fun p => K (vs p)) a0 a1 a2 := by kernel_rfl
noncomputable def dds_typeText.F (n : Nat) (a0 : Int) (a1 : Int) (a2 : Int) : Option (ByteArray) := dds_typeText.e n  Option.some a0 a1 a2
noncomputable def dds_typeText.dec (x : AV) : Option (ByteArray) := match x with | .v (.string p0) => Option.some p0 | _ => none
theorem dds_typeText.dec_inv {p : ByteArray} (y : AV) (h : dds_typeText.dec y = some p) : y = vs p := by
  unfold dds_typeText.dec at h
  split at h
  · cases h; rfl
  · cases h
theorem dds_typeText.hands (n : Nat) (a0 : Int) (a1 : Int) (a2 : Int) {p : ByteArray} (h : dds_typeText.F n a0 a1 a2 = some p) : HandsIn Tryz.prog 74 [AV.agg [vi a0, vi a1, vi a2]] (vs p) := by
  refine hands_of cfg mixed (fun _ => rfl) rfl (dds_typeText.tells n) (fn := Tryz.f74) Tryz.func74 (by kernel_rfl) (by kernel_rfl) (cut := dds_typeText.cut) (K := dds_typeText.dec) (r := p) (n := n) dds_typeText.dec_inv ?_
  rw [funK_getD (by kernel_rfl)]
  have h1 := dds_typeText.e_eq n (runK G (dds_typeText.C n) dds_typeText.cut (fun S => finK G Tryz.f74.resultTypes.toList Tryz.f74.results.toList S dds_typeText.dec) n) dds_typeText.dec a0 a1 a2
  exact h1.trans h
noncomputable def dds_typeText.via {R : Type} (n : Nat) (xs : List AV) : (AV → Option R) → Option R := match xs with | [.agg [.v (.int .i64 a0), .v (.int .i64 a1), .v (.int .i64 a2)]] => fun K => (dds_typeText.F n a0 a1 a2).bind fun p => K (vs p) | _ => fun _ => none
theorem dds_typeText.tells1 {R : Type} (n : Nat) (xs : List AV) : Tells1 (R := R) Tryz.prog 74 xs (dds_typeText.via n xs) := by
  unfold dds_typeText.via
  split
  · exact Tells1.of (fun p hp => (dds_typeText.hands n _ _ _ hp).hands rfl)
  · exact Tells1.none
end Go.Proofs.YtmpglmcjoelciaaGreatDoor.Ev

/- midrange/dds.FormatType, out of its evaluation. Printed by the session's own program. -/
namespace Go.Proofs.YtmpglmcjoelciaaGreatDoor.Ev
open Go Go.Proofs Go.Proofs.Ev
set_option linter.unusedVariables false
set_option maxRecDepth 100000
/-! midrange/dds.FormatType: function 33 -/
noncomputable def dds_FormatType.e {R : Type} (n : Nat)  (k : ByteArray × Int → Option R) (a0 : Int) (a1 : Int) (a2 : Int) : Option R :=
  (numeric_CheckType.F n a0 a1 a2).bind fun p1 =>
  (dds_cond.F n (a0 == 4) 17).bind fun p2 =>
  (dds_first.F n [vi p1, vi p2]).bind fun p3 =>
  bif p3 != 0 then (k ((⟨#[]⟩ : ByteArray), p3)) else ((dds_typeText.F n a0 a1 a2).bind fun p4 =>
  k (p4, 0))
noncomputable def dds_FormatType.C {R : Type} (n : Nat) (f : FuncId) (xs : List AV) : (AV → Option R) → Option R :=
  bif Nat.beq f 44 then dds_first.via n xs else bif Nat.beq f 45 then dds_cond.via n xs else bif Nat.beq f 74 then dds_typeText.via n xs else bif Nat.beq f 84 then numeric_CheckType.via n xs else fun _ => none
theorem dds_FormatType.tells {R : Type} (n : Nat) : Tells (R := R) Tryz.prog (dds_FormatType.C n) := fun _ xs => tells_at (dds_first.tells1 n xs) (tells_at (dds_cond.tells1 n xs) (tells_at (dds_typeText.tells1 n xs) (tells_at (numeric_CheckType.tells1 n xs) (Tells1.none))))
noncomputable def dds_FormatType.cut (r : Nat) : Option Keep := match r with  | _ => none
theorem dds_FormatType.e_eq {R : Type} (n : Nat) (rec : List Item → St → Option R) (K : AV → Option R) (a0 : Int) (a1 : Int) (a2 : Int) :
    goK G (dds_FormatType.C n) dds_FormatType.cut (fun S => finK G Tryz.f33.resultTypes.toList Tryz.f33.results.toList S K) rec 1000 [.code (Tryz.f33.body.getD .skip)] (Ev.start Tryz.f33 [AV.agg [vi a0, vi a1, vi a2]]) = dds_FormatType.e n  (fun p => K (.tup [vs p.1, vi p.2])) a0 a1 a2 := by kernel_rfl
noncomputable def dds_FormatType.F (n : Nat) (a0 : Int) (a1 : Int) (a2 : Int) : Option (ByteArray × Int) := dds_FormatType.e n  Option.some a0 a1 a2
noncomputable def dds_FormatType.dec (x : AV) : Option (ByteArray × Int) := match x with | .tup [.v (.string p0), .v (.int .i64 p1)] => Option.some (p0, p1) | _ => none
theorem dds_FormatType.dec_inv {p : ByteArray × Int} (y : AV) (h : dds_FormatType.dec y = some p) : y = .tup [vs p.1, vi p.2] := by
  unfold dds_FormatType.dec at h
  split at h
  · cases h; rfl
  · cases h
theorem dds_FormatType.hands (n : Nat) (a0 : Int) (a1 : Int) (a2 : Int) {p : ByteArray × Int} (h : dds_FormatType.F n a0 a1 a2 = some p) : HandsIn Tryz.prog 33 [AV.agg [vi a0, vi a1, vi a2]] (.tup [vs p.1, vi p.2]) := by
  refine hands_of cfg mixed (fun _ => rfl) rfl (dds_FormatType.tells n) (fn := Tryz.f33) Tryz.func33 (by kernel_rfl) (by kernel_rfl) (cut := dds_FormatType.cut) (K := dds_FormatType.dec) (r := p) (n := n) dds_FormatType.dec_inv ?_
  rw [funK_getD (by kernel_rfl)]
  have h1 := dds_FormatType.e_eq n (runK G (dds_FormatType.C n) dds_FormatType.cut (fun S => finK G Tryz.f33.resultTypes.toList Tryz.f33.results.toList S dds_FormatType.dec) n) dds_FormatType.dec a0 a1 a2
  exact h1.trans h
noncomputable def dds_FormatType.via {R : Type} (n : Nat) (xs : List AV) : (AV → Option R) → Option R := match xs with | [.agg [.v (.int .i64 a0), .v (.int .i64 a1), .v (.int .i64 a2)]] => fun K => (dds_FormatType.F n a0 a1 a2).bind fun p => K (.tup [vs p.1, vi p.2]) | _ => fun _ => none
theorem dds_FormatType.tells1 {R : Type} (n : Nat) (xs : List AV) : Tells1 (R := R) Tryz.prog 33 xs (dds_FormatType.via n xs) := by
  unfold dds_FormatType.via
  split
  · exact Tells1.of (fun p hp => (dds_FormatType.hands n _ _ _ hp).hands rfl)
  · exact Tells1.none
end Go.Proofs.YtmpglmcjoelciaaGreatDoor.Ev

/- Plain words on numbers and bytes; numbers of at most three digits, as chapter 25 and its reference read and write them. -/
namespace Go.Proofs.YtmpglmcjoelciaaGreatDoor.Ev
open Go Go.Proofs Go.Proofs.Ev
set_option linter.unusedVariables false
theorem w64 {x : Int} (h1 : -9223372036854775808 ≤ x) (h2 : x ≤ 9223372036854775807) : IntKind.i64.wrap x = x := by rw [IntKind.wrap_i64]; omega
theorem cond_t {α : Type} {p : Prop} [Decidable p] (h : p) (x y : α) : (bif decide p then x else y) = x := by simp [h]
theorem cond_f {α : Type} {p : Prop} [Decidable p] (h : ¬ p) (x y : α) : (bif decide p then x else y) = y := by simp [h]
theorem chk_t {R : Type} {p : Prop} [Decidable p] (h : p) (K : Option R) : chk (decide p) K = K := by simp [chk, h]
theorem within_t {i : Nat} {len : Nat} (h : i < len) : (decide ((0 : Int) ≤ (i : Int)) && decide ((i : Int) < (len : Int))) = true := by
  rw [Bool.and_eq_true, decide_eq_true_eq, decide_eq_true_eq]; omega
theorem upto_t {i : Nat} {len : Nat} (h : i ≤ len) : (decide ((0 : Int) ≤ (i : Int)) && decide ((i : Int) ≤ (len : Int))) = true := by
  rw [Bool.and_eq_true, decide_eq_true_eq, decide_eq_true_eq]; omega
theorem wsucc {i : Nat} (h : i ≤ 1000000000) : IntKind.i64.wrap ((i : Int) + 1) = ((i + 1 : Nat) : Int) := by rw [w64] <;> omega
abbrev bs (l : List UInt8) : ByteArray := ⟨l.toArray⟩
theorem bs_of (s : ByteArray) : s = bs s.data.toList := rfl
theorem bs_append (a b : List UInt8) : bs a ++ bs b = bs (a ++ b) := by
  apply ByteArray.ext
  rw [ByteArray.data_append]
  simp
theorem bs_size (l : List UInt8) : (bs l).size = l.length := rfl
theorem extract_list (s : ByteArray) (a b : Nat) : (s.extract a b).data.toList = (s.data.toList.drop a).take (b - a) := by
  rw [ByteArray.data_extract, Array.toList_extract, List.extract_eq_take_drop]
theorem bs_extract (l : List UInt8) (a b : Nat) : (bs l).extract a b = bs ((l.drop a).take (b - a)) := by
  rw [bs_of ((bs l).extract a b), extract_list]
theorem bs_take (l : List UInt8) (b : Nat) : (bs l).extract 0 b = bs (l.take b) := by rw [bs_extract]; simp
theorem bs_drop (l : List UInt8) (a : Nat) : (bs l).extract a (bs l).size = bs (l.drop a) := by
  rw [bs_extract, bs_size, List.take_of_length_le (by simp)]
theorem bs_getD (l : List UInt8) (i : Nat) : (bs l).data.getD i 0 = l.getD i 0 := by
  rw [Array.getD_eq_getD_getElem?, List.getD_eq_getElem?_getD]
  simp
theorem getD_at {l : List UInt8} {i : Nat} (hi : i < l.length) : (bs l).data.getD i 0 = l[i] := by
  rw [bs_getD]; simp [List.getD_eq_getElem?_getD, hi]
theorem bs_toList (l : List UInt8) : (bs l).toList = l := by rw [ByteArray.toList_eq]
def isD (c : UInt8) : Bool := decide (48 ≤ c.toNat) && decide (c.toNat ≤ 57)
theorem isD_iff (c : UInt8) : isD c = true ↔ 48 ≤ c.toNat ∧ c.toNat ≤ 57 := by simp [isD]
def valA (a : Nat) (l : List UInt8) : Nat := l.foldl (fun a b => a * 10 + (b.toNat - 48)) a
theorem valA_cons (a : Nat) (b : UInt8) (l : List UInt8) : valA a (b :: l) = valA (a * 10 + (b.toNat - 48)) l := by unfold valA; rw [List.foldl_cons]
theorem valA_ge : ∀ (l : List UInt8) (a : Nat), a ≤ valA a l
  | [], a => Nat.le_refl _
  | b :: l, a => by rw [valA_cons]; have := valA_ge l (a * 10 + (b.toNat - 48)); omega
theorem valA_lt : ∀ (l : List UInt8) (a : Nat), l.all isD = true → valA a l < (a + 1) * 10 ^ l.length
  | [], a, _ => by simp [valA]
  | b :: l, a, h => by
    simp only [List.all_cons, Bool.and_eq_true] at h
    have hb := (isD_iff b).1 h.1
    rw [valA_cons, List.length_cons, Nat.pow_succ]
    have h1 := valA_lt l (a * 10 + (b.toNat - 48)) h.2
    have h3 : (a * 10 + (b.toNat - 48) + 1) * 10 ^ l.length ≤ (a * 10 + 10) * 10 ^ l.length := Nat.mul_le_mul_right _ (by omega)
    have h2 : (a + 1) * (10 ^ l.length * 10) = (a * 10 + 10) * 10 ^ l.length := by
      rw [Nat.mul_comm (10 ^ l.length) 10, ← Nat.mul_assoc, Nat.add_mul, Nat.one_mul]
    omega
abbrev valD (l : List UInt8) : Nat := valA 0 l
theorem parseUint_eq : ∀ (l : List UInt8) (a : Nat), l.all isD = true → a < 18446744073709551616 → Lib.parseUint10 a l = if valA a l < 18446744073709551616 then .ok (valA a l) else .range
  | [], a, _, ha => by rw [show valA a [] = a from rfl, if_pos ha]; rfl
  | c :: l, a, h, ha => by
    simp only [List.all_cons, Bool.and_eq_true] at h
    have hc := (isD_iff c).1 h.1
    have hge := valA_ge l (a * 10 + (c.toNat - 48))
    unfold Lib.parseUint10
    rw [if_pos hc, valA_cons]
    by_cases h1 : 1844674407370955162 ≤ a
    · rw [if_pos h1, if_neg (by omega)]
    · rw [if_neg h1]
      by_cases h2 : 18446744073709551616 ≤ a * 10 + (c.toNat - 48)
      · rw [if_pos h2, if_neg (by omega)]
      · rw [if_neg h2, parseUint_eq l _ h.2 (by omega)]
theorem atoiR_digs {l : List UInt8} (h0 : l ≠ []) (hall : l.all isD = true) (hv : valD l < 9223372036854775808) : atoiR l = ((valD l : Int), false) := by
  cases l with
  | nil => exact absurd rfl h0
  | cons c r =>
    have hc := hall
    simp only [List.all_cons, Bool.and_eq_true] at hc
    have hc := (isD_iff c).1 hc.1
    have e : Lib.parseMag (c :: r) = .ok (valD (c :: r)) := by
      unfold Lib.parseMag
      rw [if_neg (by simp), parseUint_eq _ _ hall (by omega), if_pos (by show valD (c :: r) < _; omega)]
    have n1 : ¬ c.toNat = 43 := by omega
    have n2 : ¬ c.toNat = 45 := by omega
    have key : Lib.atoiAll (c :: r) = .ok (valD (c :: r) : Int) := by
      unfold Lib.atoiAll
      simp only [n1, n2, or_self, if_false, e, not_false_eq_true, true_and, false_and]
      rw [if_neg (by omega)]
    unfold atoiR
    rw [key]
/-- A text of one to three digits, without a superfluous zero. -/
def num3 (l : List UInt8) : Bool := (decide (1 ≤ l.length) && decide (l.length ≤ 3)) && (l.all isD && !(decide (1 < l.length) && l.getD 0 0 == 48))
theorem num3_iff (l : List UInt8) : num3 l = true ↔ 1 ≤ l.length ∧ l.length ≤ 3 ∧ l.all isD = true ∧ ¬ (1 < l.length ∧ l.getD 0 0 = 48) := by
  unfold num3
  simp only [Bool.and_eq_true, decide_eq_true_eq, Bool.not_eq_true', Bool.and_eq_false_iff, decide_eq_false_iff_not, beq_eq_false_iff_ne, and_assoc]
  constructor
  · rintro ⟨h1, h2, h3, h4⟩; exact ⟨h1, h2, h3, fun ⟨a, b⟩ => by rcases h4 with h | h; exact h a; exact h b⟩
  · rintro ⟨h1, h2, h3, h4⟩
    refine ⟨h1, h2, h3, ?_⟩
    by_cases h : 1 < l.length
    · exact .inr fun e => h4 ⟨h, e⟩
    · exact .inl h
theorem num3_val {l : List UInt8} (h : num3 l = true) : valD l < 1000 := by
  obtain ⟨h1, h2, h3, _⟩ := (num3_iff l).1 h
  have := valA_lt l 0 h3
  have hp : 10 ^ l.length ≤ 10 ^ 3 := Nat.pow_le_pow_right (by omega) h2
  show valA 0 l < 1000
  omega
/-- How many digits stand ahead. -/
def lead (l : List UInt8) : Nat := (l.takeWhile isD).length
theorem lead_le (l : List UInt8) : lead l ≤ l.length := (List.takeWhile_sublist _).length_le
theorem lead_take (l : List UInt8) : l.take (lead l) = l.takeWhile isD := by
  have : (l.takeWhile isD ++ l.dropWhile isD).take (lead l) = l.takeWhile isD := by rw [lead, List.take_left]
  rwa [List.takeWhile_append_dropWhile] at this
theorem lead_drop (l : List UInt8) : l.drop (lead l) = l.dropWhile isD := by
  have : (l.takeWhile isD ++ l.dropWhile isD).drop (lead l) = l.dropWhile isD := by rw [lead, List.drop_left]
  rwa [List.takeWhile_append_dropWhile] at this
theorem lead_all (l : List UInt8) : (l.take (lead l)).all isD = true := by rw [lead_take]; exact List.all_takeWhile
theorem lead_dig {l : List UInt8} {i : Nat} (hi : i < lead l) : isD (l[i]'(Nat.lt_of_lt_of_le hi (lead_le l))) = true := by
  have h := lead_all l
  have hl := lead_le l
  have : l[i]'(by omega) ∈ l.take (lead l) := by
    rw [List.mem_take_iff_getElem]
    exact ⟨i, by omega, rfl⟩
  exact List.all_eq_true.1 h _ this
theorem lead_end {l : List UInt8} (hi : lead l < l.length) : isD l[lead l] = false := by
  have h := List.head?_dropWhile_not isD l
  rw [← lead_drop] at h
  have e : (l.drop (lead l)).head? = some l[lead l] := by rw [List.head?_drop, List.getElem?_eq_getElem hi]
  rw [e] at h
  exact h
theorem number_l (n : Nat) (l : List UInt8) (hl : l.length ≤ 100000) : ∀ (d i m : Nat), i + d = lead l → d < m → (dds_number.l n m).1 (bs l) i = (dds_number.l n (m - d - 1)).2.1 (bs l) (lead l)
  | _, _, 0, _, h => absurd h (by omega)
  | 0, i, m + 1, h, _ => by
    have hi : i = lead l := by omega
    subst hi
    show dds_number.r2 n (dds_number.l n m).1 (dds_number.l n m).2.1 (dds_number.l n m).2.2 some _ _ = _
    unfold dds_number.r2
    simp only [bs_size]
    by_cases h1 : lead l < l.length
    · rw [cond_t (by omega), within_t h1, cond_true]
      simp only [Int.toNat_natCast, getD_at h1]
      have hd := lead_end h1
      by_cases h2 : 48 ≤ l[lead l].toNat
      · have h3 : ¬ l[lead l].toNat ≤ 57 := fun h3 => by rw [(isD_iff _).2 ⟨h2, h3⟩] at hd; cases hd
        rw [cond_t (by omega), cond_true, cond_f (by omega)]
        rfl
      · rw [cond_f (by omega)]; rfl
    · rw [cond_f (by omega)]; rfl
  | d + 1, i, m + 1, h, hm => by
    have hi : i < lead l := by omega
    have hil : i < l.length := Nat.lt_of_lt_of_le hi (lead_le l)
    have ih := number_l n l hl d (i + 1) m (by omega) (by omega)
    have hd := (isD_iff _).1 (lead_dig hi)
    show dds_number.r2 n (dds_number.l n m).1 (dds_number.l n m).2.1 (dds_number.l n m).2.2 some _ _ = _
    unfold dds_number.r2
    simp only [bs_size]
    rw [cond_t (by omega), within_t hil, cond_true]
    simp only [Int.toNat_natCast, getD_at hil]
    rw [cond_t (by omega), cond_true, cond_t (by omega), wsucc (by omega), show m + 1 - (d + 1) - 1 = m - d - 1 by omega]
    exact ih
/-- The number that a text begins with. -/
theorem number_eq {n : Nat} (l : List UInt8) (hl : l.length ≤ 100000) (hn : 200000 ≤ n) : dds_number.F n (bs l) = some (if num3 (l.take (lead l)) then ((valD (l.take (lead l)) : Int), bs (l.drop (lead l)), true) else (0, bs [], false)) := by
  unfold dds_number.F dds_number.e
  have hle := lead_le l
  rw [show (0 : Int) = ((0 : Nat) : Int) from rfl, number_l n l hl (lead l) 0 n (by omega) (by omega)]
  obtain ⟨m, hm⟩ : ∃ m, n - lead l - 1 = m + 2 := ⟨n - lead l - 3, by omega⟩
  rw [hm]
  show dds_number.r4 n (dds_number.l n (m + 1)).1 (dds_number.l n (m + 1)).2.1 (dds_number.l n (m + 1)).2.2 some _ _ = _
  have hc5 : (dds_number.l n (m + 1)).2.2 () = some (0, bs [], false) := rfl
  unfold dds_number.r4
  simp only [bs_size]
  have htl : (l.take (lead l)).length = lead l := by rw [List.length_take]; omega
  have hall := lead_all l
  have bad : num3 (l.take (lead l)) = false → some (0, bs [], false) = some (if num3 (l.take (lead l)) then ((valD (l.take (lead l)) : Int), bs (l.drop (lead l)), true) else (0, bs [], false)) := by
    intro h; rw [h]; rfl
  have ok : num3 (l.take (lead l)) = true → (bif decide ((0 : Int) ≤ ((lead l : Nat) : Int)) && decide (((lead l : Nat) : Int) ≤ ((l.length : Nat) : Int)) then ((strconv_Atoi.F n ((bs l).extract 0 (((lead l : Nat) : Int)).toNat)).bind fun p5 =>
      bif decide ((0 : Int) ≤ ((lead l : Nat) : Int)) && decide (((lead l : Nat) : Int) ≤ ((l.length : Nat) : Int)) then (let y6 : ByteArray := (bs l).extract (((lead l : Nat) : Int)).toNat l.length
      some (p5.1, y6, true)) else none) else none) = some (if num3 (l.take (lead l)) then ((valD (l.take (lead l)) : Int), bs (l.drop (lead l)), true) else (0, bs [], false)) := by
    intro h
    obtain ⟨h1, h2, h3, h4⟩ := (num3_iff _).1 h
    have hv := num3_val h
    rw [upto_t hle, cond_true, Int.toNat_natCast, bs_take, h]
    have ha : strconv_Atoi.F n (bs (l.take (lead l))) = some ((valD (l.take (lead l)) : Int), false) := by
      unfold strconv_Atoi.F
      rw [cond_t (by rw [bs_size]; omega)]
      show some (atoiR (l.take (lead l))) = _
      rw [atoiR_digs (by intro e; rw [e] at h1; simp at h1) h3 (by omega)]
    rw [ha, Option.bind_some, cond_true]
    have := bs_drop l (lead l)
    rw [bs_size] at this
    simp only [this]
    rfl
  by_cases h0 : lead l = 0
  · have : (((lead l : Nat) : Int) == 0) = true := by rw [h0]; rfl
    rw [this, cond_true, hc5]
    refine bad ?_
    rw [← Bool.not_eq_true, num3_iff]
    rintro ⟨h1, _⟩
    omega
  · have : (((lead l : Nat) : Int) == 0) = false := by rw [beq_eq_false_iff_ne]; omega
    rw [this, cond_false]
    by_cases h3 : lead l > 3
    · rw [cond_t (by omega), hc5]
      refine bad ?_
      rw [← Bool.not_eq_true, num3_iff]
      rintro ⟨_, h2, _⟩
      omega
    · rw [cond_f (by omega)]
      have hpos : 0 < l.length := by omega
      by_cases h1 : lead l > 1
      · rw [cond_t (by omega), cond_t (by omega)]
        simp only [getD_at hpos]
        have e0 : (l.take (lead l)).getD 0 0 = l[0] := by simp [List.getD_eq_getElem?_getD, show 0 < lead l by omega, hpos]
        by_cases h48 : l[0].toNat = 48
        · have : ((((l[0].toNat : Nat) : Int)) == 48) = true := by rw [h48]; rfl
          rw [this, cond_true, hc5]
          refine bad ?_
          rw [← Bool.not_eq_true, num3_iff]
          rintro ⟨_, _, _, h4⟩
          exact h4 ⟨by omega, by rw [e0]; exact UInt8.toNat_inj.1 h48⟩
        · have : ((((l[0].toNat : Nat) : Int)) == 48) = false := by rw [beq_eq_false_iff_ne]; omega
          rw [this, cond_false]
          refine ok ((num3_iff _).2 ⟨by omega, by omega, hall, ?_⟩)
          rintro ⟨_, e⟩
          rw [e0] at e
          exact h48 (by rw [e]; rfl)
      · rw [cond_f (by omega)]
        exact ok ((num3_iff _).2 ⟨by omega, by omega, hall, fun ⟨h, _⟩ => by omega⟩)
end Go.Proofs.YtmpglmcjoelciaaGreatDoor.Ev

/- The types of chapter 25: what reads a text as a type, the program's way and the reference's. -/
namespace Go.Proofs.YtmpglmcjoelciaaGreatDoor.Ev
open Go Go.Proofs Go.Proofs.Ev
set_option linter.unusedVariables false
theorem cond_eq (n : Nat) (b : Bool) (e : Int) : dds_cond.F n b e = some (if b then e else 0) := by cases b <;> rfl
theorem ncond_eq (n : Nat) (b : Bool) (e : Int) : numeric_cond.F n b e = some (if b then e else 0) := by cases b <;> rfl
theorem in_eq (n : Nat) (a b c : Int) : numeric_in.F n a b c = some (decide (b ≤ a ∧ a ≤ c)) := by
  unfold numeric_in.F numeric_in.e
  by_cases h : b ≤ a
  · rw [cond_t h]; simp [h]
  · rw [cond_f h]; simp [h]
/-- The first that is not 0. -/
def fz : List Int → Int
  | [] => 0
  | x :: r => if x ≠ 0 then x else fz r
theorem first_l (n : Nat) (xs : List Int) (hx : xs.length ≤ 1000) : ∀ (d i m : Nat), i + d = xs.length → d < m → dds_first.l n m (xs.map vi) xs.length i = some (fz (xs.drop i))
  | _, _, 0, _, h => absurd h (by omega)
  | 0, i, m + 1, h, _ => by
    show dds_first.r2 n (dds_first.l n m) some _ _ _ = _
    unfold dds_first.r2
    rw [cond_f (by omega), List.drop_of_length_le (by omega)]
    rfl
  | d + 1, i, m + 1, h, hm => by
    have hi : i < xs.length := by omega
    have ih := first_l n xs hx d (i + 1) m (by omega) (by omega)
    show dds_first.r2 n (dds_first.l n m) some _ _ _ = _
    unfold dds_first.r2
    rw [cond_t (by omega), List.length_map, within_t hi, cond_true]
    have e : (xs.map vi).getD (((i : Nat) : Int)).toNat AV.undef = vi xs[i] := by simp [List.getD_eq_getElem?_getD, hi]
    rw [e, List.drop_eq_getElem_cons hi]
    show (bif xs[i] != 0 then some xs[i] else _) = _
    by_cases h0 : xs[i] = 0
    · have : (xs[i] != 0) = false := by simp [h0]
      rw [this, cond_false, wsucc (by omega), ih]
      simp [fz, h0]
    · have : (xs[i] != 0) = true := by simp [h0]
      rw [this, cond_true]
      simp [fz, h0]
theorem first_eq {n : Nat} (xs : List Int) (hx : xs.length ≤ 1000) (hn : 1001 ≤ n) : dds_first.F n (xs.map vi) = some (fz xs) := by
  unfold dds_first.F dds_first.e
  rw [List.length_map]
  exact first_l n xs hx xs.length 0 n (by omega) (by omega)
theorem first2 {n : Nat} (hn : 1001 ≤ n) (a b : Int) : dds_first.F n [vi a, vi b] = some (if a ≠ 0 then a else b) := by
  have := first_eq (n := n) [a, b] (by simp) hn
  rw [show ([a, b] : List Int).map vi = [vi a, vi b] from rfl] at this
  rw [this]
  by_cases h : a = 0 <;> by_cases h2 : b = 0 <;> simp [fz, h, h2]
theorem nfirst_l (n : Nat) (xs : List Int) (hx : xs.length ≤ 1000) : ∀ (d i m : Nat), i + d = xs.length → d < m → numeric_first.l n m (xs.map vi) xs.length i = some (fz (xs.drop i))
  | _, _, 0, _, h => absurd h (by omega)
  | 0, i, m + 1, h, _ => by
    show numeric_first.r2 n (numeric_first.l n m) some _ _ _ = _
    unfold numeric_first.r2
    rw [cond_f (by omega), List.drop_of_length_le (by omega)]
    rfl
  | d + 1, i, m + 1, h, hm => by
    have hi : i < xs.length := by omega
    have ih := nfirst_l n xs hx d (i + 1) m (by omega) (by omega)
    show numeric_first.r2 n (numeric_first.l n m) some _ _ _ = _
    unfold numeric_first.r2
    rw [cond_t (by omega), List.length_map, within_t hi, cond_true]
    have e : (xs.map vi).getD (((i : Nat) : Int)).toNat AV.undef = vi xs[i] := by simp [List.getD_eq_getElem?_getD, hi]
    rw [e, List.drop_eq_getElem_cons hi]
    show (bif xs[i] != 0 then some xs[i] else _) = _
    by_cases h0 : xs[i] = 0
    · have : (xs[i] != 0) = false := by simp [h0]
      rw [this, cond_false, wsucc (by omega), ih]
      simp [fz, h0]
    · have : (xs[i] != 0) = true := by simp [h0]
      rw [this, cond_true]
      simp [fz, h0]
theorem nfirst_eq {n : Nat} (xs : List Int) (hx : xs.length ≤ 1000) (hn : 1001 ≤ n) : numeric_first.F n (xs.map vi) = some (fz xs) := by
  unfold numeric_first.F numeric_first.e
  rw [List.length_map]
  exact nfirst_l n xs hx xs.length 0 n (by omega) (by omega)
theorem nfirst2 {n : Nat} (hn : 1001 ≤ n) (a b : Int) : numeric_first.F n [vi a, vi b] = some (if a ≠ 0 then a else b) := by
  have := nfirst_eq (n := n) [a, b] (by simp) hn
  rw [show ([a, b] : List Int).map vi = [vi a, vi b] from rfl] at this
  rw [this]
  by_cases h : a = 0 <;> by_cases h2 : b = 0 <;> simp [fz, h, h2]
/-- The error of a type. -/
def chkT (k a b : Int) : Int :=
  if k = 0 then (if ¬ (1 ≤ a ∧ a ≤ 256) then 18 else if b ≠ 0 then 3 else 0)
  else if k = 1 ∨ k = 2 then (if ¬ (1 ≤ a ∧ a ≤ 15) then 18 else if ¬ (0 ≤ b ∧ b ≤ a) then 3 else 0)
  else if k = 3 then (if ¬ (a = 4 ∨ a = 9) then 18 else if ¬ (0 ≤ b ∧ b ≤ a) then 3 else 0)
  else if k = 4 then (if a ≠ 0 then 18 else if b ≠ 0 then 3 else 0)
  else 4
theorem beq_int (a b : Int) : (a == b) = decide (a = b) := rfl
theorem r13_eq {n : Nat} (hn : 1001 ≤ n) (c : Bool → Bool → Option Int) (x y : Bool) : numeric_CheckType.r13 n c some x y = some (if !x then 18 else if !y then 3 else 0) := by
  unfold numeric_CheckType.r13
  rw [ncond_eq, Option.bind_some, ncond_eq, Option.bind_some, nfirst2 hn, Option.bind_some]
  cases x <;> cases y <;> rfl
theorem check_eq {n : Nat} (hn : 1001 ≤ n) (k a b : Int) : numeric_CheckType.F n k a b = some (chkT k a b) := by
  obtain ⟨m, rfl⟩ : ∃ m, n = m + 1 := ⟨n - 1, by omega⟩
  unfold numeric_CheckType.F numeric_CheckType.e chkT
  have hl : ∀ x y, numeric_CheckType.l (m + 1) (m + 1) x y = some (if !x then 18 else if !y then 3 else 0) := fun x y => r13_eq hn _ x y
  simp only [hl, in_eq, Option.bind_some, beq_int]
  by_cases h0 : k = 0
  · rw [cond_t h0]
    by_cases h1 : 1 ≤ a ∧ a ≤ 256 <;> by_cases h2 : b = 0 <;> simp only [h0, h1, h2] <;> (try simp) <;> (try (first | omega | (split <;> split <;> omega)))
  · rw [cond_f h0]
    by_cases h1 : k = 1
    · rw [cond_t h1]
      by_cases h2 : 1 ≤ a ∧ a ≤ 15 <;> by_cases h3 : 0 ≤ b ∧ b ≤ a <;> simp only [h1, h2, h3] <;> (try simp) <;> (try (first | omega | (split <;> split <;> omega)))
    · rw [cond_f h1]
      by_cases h2 : k = 2
      · rw [cond_t h2]
        by_cases h4 : 1 ≤ a ∧ a ≤ 15 <;> by_cases h3 : 0 ≤ b ∧ b ≤ a <;> simp only [h2, h4, h3] <;> (try simp) <;> (try (first | omega | (split <;> split <;> omega)))
      · rw [cond_f h2]
        by_cases h3 : k = 3
        · rw [cond_t h3]
          by_cases ha : a = 4
          · rw [cond_t ha]
            by_cases h5 : 0 ≤ b ∧ b ≤ a <;> simp only [h3, h5] <;> (try simp [ha]) <;> (try (first | omega | (split <;> split <;> omega)))
          · rw [cond_f ha]
            by_cases h6 : a = 9 <;> by_cases h5 : 0 ≤ b ∧ b ≤ a <;> simp only [h3, h5, h6, ha] <;> (try simp) <;> (try (first | omega | (split <;> split <;> omega)))
        · rw [cond_f h3]
          by_cases h4 : k = 4
          · rw [cond_t h4]
            by_cases h5 : a = 0 <;> by_cases h6 : b = 0 <;> simp only [h4, h5, h6] <;> (try simp) <;> (try (first | omega | (split <;> split <;> omega)))
          · rw [cond_f h4]
            simp [h0, h1, h2, h3, h4]
/-- The kind with a letter. -/
def kd (c : UInt8) : Int := Lib.indexByte [65, 80, 83, 66] c
theorem kd_eq (c : UInt8) : kd c = if c = 65 then 0 else if c = 80 then 1 else if c = 83 then 2 else if c = 66 then 3 else -1 := by
  have : ∀ k : Fin 256, kd (UInt8.ofNat k.1) = if (UInt8.ofNat k.1) = 65 then 0 else if (UInt8.ofNat k.1) = 80 then 1 else if (UInt8.ofNat k.1) = 83 then 2 else if (UInt8.ofNat k.1) = 66 then 3 else -1 := by decide +kernel
  have h := this ⟨c.toNat, c.toNat_lt⟩
  simpa using h
theorem kd_range (c : UInt8) : kd c = -1 ∨ (0 ≤ kd c ∧ kd c ≤ 3) := by
  rw [kd_eq]; split <;> (try split) <;> (try split) <;> (try split) <;> omega
/-- The type with a text; none: it has not the form of one. -/
def typeP (l : List UInt8) : Option (Int × Int × Int) :=
  if num3 (l.take (lead l)) then match l.drop (lead l) with
    | [] => none
    | c :: r => if kd c = 0 then (if r = [] then some (0, valD (l.take (lead l)), 0) else none)
      else if kd c < 0 then none
      else if num3 r then some (kd c, valD (l.take (lead l)), valD r) else none
  else none
theorem lead_full : ∀ r : List UInt8, r.all isD = true → lead r = r.length
  | [], _ => rfl
  | c :: r, h => by
    simp only [List.all_cons, Bool.and_eq_true] at h
    have := lead_full r h.2
    unfold lead at this ⊢
    rw [List.takeWhile_cons, if_pos h.1, List.length_cons, List.length_cons, this]
theorem num3_lead {r : List UInt8} : (num3 (r.take (lead r)) = true ∧ r.drop (lead r) = []) ↔ num3 r = true := by
  constructor
  · rintro ⟨h1, h2⟩
    have : r.take (lead r) = r := by
      have := List.take_append_drop (lead r) r
      rw [h2, List.append_nil] at this
      exact this
    rwa [this] at h1
  · intro h
    obtain ⟨_, _, h3, _⟩ := (num3_iff r).1 h
    have e : lead r = r.length := lead_full r h3
    rw [e, List.take_length, List.drop_length]
    exact ⟨h, rfl⟩
theorem size_cons (c : UInt8) (r : List UInt8) : (bs (c :: r)).size = r.length + 1 := by rw [bs_size]; simp
theorem empty_eq (l : List UInt8) : ((bs l).toList == (⟨#[]⟩ : ByteArray).toList) = decide (l = []) := by
  rw [bs_toList, show (⟨#[]⟩ : ByteArray).toList = ([] : List UInt8) from bs_toList []]
  cases l <;> rfl
theorem typeOf_eq {n : Nat} (hn : 200000 ≤ n) (l : List UInt8) (hl : l.length ≤ 100000) : ∃ x, dds_typeOf.F n (bs l) = some x ∧ x.2.2.2 = (typeP l).isSome ∧ ∀ t, typeP l = some t → x = (t.1, t.2.1, t.2.2, true) := by
  unfold dds_typeOf.F dds_typeOf.e typeP
  rw [number_eq l hl hn, Option.bind_some]
  cases hnum : num3 (l.take (lead l)) with
  | false => exact ⟨_, rfl, rfl, by intro t ht; cases ht⟩
  | true =>
    simp only [if_true, Bool.not_true, cond_false, empty_eq]
    cases hd : l.drop (lead l) with
    | nil => exact ⟨_, by rw [cond_t rfl], rfl, by intro t ht; cases ht⟩
    | cons c r =>
      rw [cond_f (by simp), cond_t (by rw [size_cons]; omega)]
      have e0 : (bs (c :: r)).data.getD 0 0 = c := by rw [getD_at (by simp)]; rfl
      have ei : strings_IndexByte.F n (⟨#[65, 80, 83, 66]⟩ : ByteArray) ((c.toNat : Nat) : Int) = some (kd c) := by
        unfold strings_IndexByte.F kd
        have : ((c.toNat : Nat) : Int).toNat.toUInt8 = c := by simp
        rw [this]
        rfl
      simp only [e0, ei, Option.bind_some, beq_int, size_cons]
      have hr : r.length ≤ 100000 := by
        have h1 : (l.drop (lead l)).length ≤ l.length := by simp
        rw [hd] at h1
        simp at h1
        omega
      rcases kd_range c with hk | hk
      · rw [hk, cond_f (by omega), cond_t (by omega), cond_f (by omega), if_neg (by omega), if_pos (by omega)]
        exact ⟨_, rfl, rfl, by intro t ht; cases ht⟩
      · by_cases h0 : kd c = 0
        · rw [cond_t h0, cond_t (by omega), if_pos h0, h0]
          by_cases hr0 : r = []
          · subst hr0
            exact ⟨_, rfl, rfl, by intro t ht; simp at ht; subst ht; rfl⟩
          · rw [if_neg hr0]
            have : r.length ≠ 0 := fun e => hr0 (List.length_eq_zero_iff.1 e)
            refine ⟨_, rfl, ?_, by intro t ht; cases ht⟩
            simp; omega
        · rw [cond_f h0, cond_f (by omega), if_neg h0, if_neg (by omega)]
          have e1 : (decide ((0 : Int) ≤ 1) && decide ((1 : Int) ≤ ((r.length + 1 : Nat) : Int))) = true := by rw [Bool.and_eq_true, decide_eq_true_eq, decide_eq_true_eq]; omega
          rw [e1, cond_true]
          have e2 : (bs (c :: r)).extract 1 (r.length + 1) = bs r := by
            have := bs_drop (c :: r) 1
            rw [size_cons] at this
            rw [this]; rfl
          rw [e2, number_eq r hr hn, Option.bind_some]
          cases h3 : num3 (r.take (lead r)) with
          | false =>
            have : num3 r = false := by rw [← Bool.not_eq_true, ← num3_lead, h3]; simp
            rw [this]
            exact ⟨_, rfl, rfl, by intro t ht; cases ht⟩
          | true =>
            simp only [if_true, cond_true, empty_eq]
            by_cases h4 : r.drop (lead r) = []
            · have h5 := num3_lead.1 ⟨h3, h4⟩
              rw [h5]
              have h6 : r.take (lead r) = r := by
                have := List.take_append_drop (lead r) r
                rw [h4, List.append_nil] at this
                exact this
              refine ⟨_, rfl, ?_, ?_⟩
              · simp [h4]
              · intro t ht; simp at ht; subst ht; simp [h4, h6]
            · have : num3 r = false := by rw [← Bool.not_eq_true, ← num3_lead]; exact fun h => h4 h.2
              rw [this]
              exact ⟨_, rfl, by simp [h4], by intro t ht; cases ht⟩
/-- What CheckType hands back. -/
theorem checkType_eq {n : Nat} (hn : 200000 ≤ n) (l : List UInt8) (hl : l.length ≤ 100000) : dds_CheckType.F n (bs l) = some (match typeP l with
    | none => (0, 0, 0, 8)
    | some t => if chkT t.1 t.2.1 t.2.2 ≠ 0 then (0, 0, 0, chkT t.1 t.2.1 t.2.2) else (t.1, t.2.1, t.2.2, 0)) := by
  unfold dds_CheckType.F dds_CheckType.e
  obtain ⟨x, h1, h2, h3⟩ := typeOf_eq hn l hl
  rw [h1, Option.bind_some, cond_eq, Option.bind_some, check_eq (by omega), Option.bind_some, first2 (by omega), Option.bind_some]
  cases ht : typeP l with
  | none =>
    rw [ht] at h2
    rw [h2]
    rfl
  | some t =>
    rw [ht] at h2
    rw [h3 t ht]
    simp only [Bool.not_true, Bool.false_eq_true, if_false, ne_eq, not_true_eq_false]
    by_cases hc : chkT t.1 t.2.1 t.2.2 = 0
    · have : (chkT t.1 t.2.1 t.2.2 != 0) = false := by simp [hc]
      rw [this, cond_false, if_neg (by simp [hc])]
    · have : (chkT t.1 t.2.1 t.2.2 != 0) = true := by simp [hc]
      rw [this, cond_true, if_pos hc]
end Go.Proofs.YtmpglmcjoelciaaGreatDoor.Ev

/- P25.1, types: the type with a text and the text of a type are as specified. -/
namespace Go.Proofs.YtmpglmcjoelciaaGreatDoor.Ev
open Go Go.Proofs Go.Proofs.Ev
set_option linter.unusedVariables false
theorem dec1 {k : Nat} (h : k < 10) : Lib.decDigits k = [UInt8.ofNat (48 + k)] := by rw [Lib.decDigits, dif_pos h]
theorem decS {k : Nat} (h : ¬ k < 10) : Lib.decDigits k = Lib.decDigits (k / 10) ++ [UInt8.ofNat (48 + k % 10)] := by rw [Lib.decDigits, dif_neg h]
theorem dec_len : ∀ (m k : Nat), k < 10 ^ (m + 1) → 1 ≤ (Lib.decDigits k).length ∧ (Lib.decDigits k).length ≤ m + 1
  | m, k, h => by
    by_cases h1 : k < 10
    · rw [dec1 h1]; simp
    · rw [decS h1]
      cases m with
      | zero => omega
      | succ m =>
        have := dec_len m (k / 10) (by rw [Nat.pow_succ] at h; omega)
        simp only [List.length_append, List.length_cons, List.length_nil]
        omega
theorem itoa_eq (n k : Nat) (h : k < 10 ^ 18) : strconv_Itoa.F n k = some (bs (Lib.decDigits k)) := by
  unfold strconv_Itoa.F
  have : (decide ((-9223372036854775808 : Int) ≤ (k : Int)) && decide ((k : Int) ≤ 9223372036854775807)) = true := by rw [Bool.and_eq_true, decide_eq_true_eq, decide_eq_true_eq]; omega
  rw [this, cond_true, Lib.itoa, if_neg (by omega), Int.toNat_natCast]
/-- The letter of a kind. -/
def ltr (k : Int) : UInt8 := if k = 0 then 65 else if k = 1 then 80 else if k = 2 then 83 else 66
/-- The text of a right type. -/
def tText (k a b : Int) : List UInt8 := Lib.decDigits a.toNat ++ ([ltr k] ++ (if k = 0 then [] else Lib.decDigits b.toNat))
/-- What is right of a type that has a text. -/
theorem chkT_ok {k a b : Int} (h : chkT k a b = 0) (h4 : k ≠ 4) : (k = 0 ∨ k = 1 ∨ k = 2 ∨ k = 3) ∧ 1 ≤ a ∧ a ≤ 256 ∧ 0 ≤ b ∧ b ≤ 15 ∧ (k = 0 → b = 0) := by
  unfold chkT at h
  split at h
  · split at h
    · cases h
    · split at h
      · cases h
      · omega
  · split at h
    · split at h
      · cases h
      · split at h
        · cases h
        · omega
    · split at h
      · split at h
        · cases h
        · split at h
          · cases h
          · omega
      · exact absurd h (by decide)
theorem ltr_ext (k : Int) (h : k = 0 ∨ k = 1 ∨ k = 2 ∨ k = 3) : (decide ((0 : Int) ≤ IntKind.i64.wrap (k + 1)) && decide ((IntKind.i64.wrap (k + 1) : Int) ≤ 4)) = true ∧
    (decide ((0 : Int) ≤ k) && decide (k ≤ IntKind.i64.wrap (k + 1))) = true ∧ (⟨#[65, 80, 83, 66]⟩ : ByteArray).extract k.toNat (IntKind.i64.wrap (k + 1)).toNat = bs [ltr k] := by
  rcases h with rfl | rfl | rfl | rfl <;> exact ⟨by decide, by decide, by rw [show (⟨#[65, 80, 83, 66]⟩ : ByteArray) = bs [65, 80, 83, 66] from rfl, bs_extract]; rfl⟩
theorem dec_small {a : Int} (h0 : 0 ≤ a) (h : a ≤ 256) : ∃ x : Nat, a = x ∧ x ≤ 256 ∧ (Lib.decDigits a.toNat).length ≤ 3 := by
  refine ⟨a.toNat, by omega, by omega, (dec_len 2 a.toNat (by omega)).2⟩
theorem typeText_eq {n : Nat} {k a b : Int} (hk : k = 0 ∨ k = 1 ∨ k = 2 ∨ k = 3) (ha : 0 ≤ a) (ha2 : a ≤ 256) (hb : 0 ≤ b) (hb2 : b ≤ 15) : dds_typeText.F n k a b = some (bs (tText k a b)) := by
  obtain ⟨x, rfl, hx, hxl⟩ := dec_small ha ha2
  obtain ⟨y, rfl, hy, hyl⟩ := dec_small hb (by omega)
  obtain ⟨e1, e2, e3⟩ := ltr_ext k hk
  rw [Int.toNat_natCast] at hxl hyl
  unfold dds_typeText.F dds_typeText.e
  rw [itoa_eq n x (by omega), Option.bind_some, e1, cond_true, e2, cond_true]
  simp only [e3]
  rw [chk_t (by rw [bs_size, bs_size]; simp; omega), bs_append]
  unfold tText
  rw [Int.toNat_natCast, Int.toNat_natCast, beq_int]
  by_cases h0 : k = 0
  · rw [cond_t h0, if_pos h0]; simp
  · rw [cond_f h0, if_neg h0, itoa_eq n y (by omega), Option.bind_some, chk_t (by rw [bs_size, bs_size]; simp; omega), bs_append, List.append_assoc]
/-- What FormatType hands back. -/
theorem formatType_eq {n : Nat} (hn : 1001 ≤ n) (k a b : Int) : dds_FormatType.F n k a b = some (if chkT k a b ≠ 0 then (bs [], chkT k a b) else if k = 4 then (bs [], 17) else (bs (tText k a b), 0)) := by
  unfold dds_FormatType.F dds_FormatType.e
  rw [check_eq hn, Option.bind_some, cond_eq, Option.bind_some, first2 hn, Option.bind_some]
  by_cases hc : chkT k a b = 0
  · by_cases h4 : k = 4
    · subst h4
      simp [hc]
    · obtain ⟨h1, h2, h3, h5, h6, _⟩ := chkT_ok hc h4
      have hb : (k == 4) = false := by rw [beq_int]; simp [h4]
      simp only [hc, hb, ne_eq, not_true_eq_false, if_false, Bool.false_eq_true, h4]
      show (bif (0 : Int) != 0 then _ else _) = _
      rw [show ((0 : Int) != 0) = false from rfl, cond_false, typeText_eq h1 (by omega) h3 h5 h6]
      rfl
  · have : (chkT k a b != 0) = true := by simp [hc]
    simp only [hc, ne_eq, not_false_eq_true, if_true, this, cond_true]
theorem awake_eq (n : Nat) : midrangelaw25_awake.F n = some true := rfl
end Go.Proofs.YtmpglmcjoelciaaGreatDoor.Ev

/- midrange/midrangelaw25.DdsOneText, out of its evaluation. Printed by the session's own program. -/
namespace Go.Proofs.YtmpglmcjoelciaaGreatDoor.Ev
open Go Go.Proofs Go.Proofs.Ev
set_option linter.unusedVariables false
set_option maxRecDepth 100000
/-! midrange/midrangelaw25.DdsOneText: function 9 -/
noncomputable def midrangelaw25_DdsOneText.r13 {R : Type} (n : Nat) (c13 : ByteArray → Option R) (k : Bool → Option R) (z1 : ByteArray) : Option R :=
  (dds_CheckType.F n z1).bind fun p9 =>
  bif p9.2.2.2 != 0 then (k true) else ((dds_FormatType.F n p9.1 p9.2.1 p9.2.2.1).bind fun p10 =>
  bif p10.2 == 0 then (k (p10.1.toList == z1.toList)) else (k false))
noncomputable def midrangelaw25_DdsOneText.e {R : Type} (n : Nat) (c13 : ByteArray → Option R) (k : Bool → Option R) (a0 : Int) (a1 : Int) (a2 : Int) (a3 : Int) (a4 : Int) (a5 : Int) (a6 : ByteArray) : Option R :=
  (midrangelaw25_awake.F n ).bind fun p1 =>
  bif !p1 then (k false) else (let y2 : Bool := decide (((a6.size : Nat) : Int) > 300)
  bif y2 then (k true) else ((dds_FormatType.F n a0 a1 a2).bind fun p3 =>
  (dds_FormatType.F n a3 a4 a5).bind fun p4 =>
  bif p3.2 == 0 then ((dds_CheckType.F n p3.1).bind fun p5 =>
  bif p5.2.2.2 != 0 then (k false) else (let y6 : Bool := !((p5.1 == a0) && ((p5.2.1 == a1) && ((p5.2.2.1 == a2) && true)))
  bif y6 then (k false) else (bif p4.2 == 0 then (let y7 : Bool := ((a0 == a3) && ((a1 == a4) && ((a2 == a5) && true)))
  let y8 : Bool := !((p3.1.toList == p4.1.toList) == y7)
  bif y8 then (k false) else (c13 a6)) else (c13 a6)))) else (c13 a6)))
noncomputable def midrangelaw25_DdsOneText.C {R : Type} (n : Nat) (f : FuncId) (xs : List AV) : (AV → Option R) → Option R :=
  bif Nat.beq f 12 then midrangelaw25_awake.via n xs else bif Nat.beq f 30 then dds_CheckType.via n xs else bif Nat.beq f 33 then dds_FormatType.via n xs else fun _ => none
theorem midrangelaw25_DdsOneText.tells {R : Type} (n : Nat) : Tells (R := R) Tryz.prog (midrangelaw25_DdsOneText.C n) := fun _ xs => tells_at (midrangelaw25_awake.tells1 n xs) (tells_at (dds_CheckType.tells1 n xs) (tells_at (dds_FormatType.tells1 n xs) (Tells1.none)))
noncomputable def midrangelaw25_DdsOneText.cut (r : Nat) : Option Keep := match r with | 13 => Option.some ⟨[2], []⟩ | _ => none
noncomputable def midrangelaw25_DdsOneText.t13 : List Item := (todoOf 13 1000 [.code (Tryz.f9.body.getD .skip)]).getD []
noncomputable def midrangelaw25_DdsOneText.s13 (z1 : ByteArray) : St := ⟨[.undef, .undef, vs z1, .undef, .undef, .undef, .undef, .undef, .undef, .undef, .undef, .undef, .undef, .undef, .undef, .undef, .undef, .undef, .undef, .undef, .undef, .undef, .undef, .undef, .undef, .undef, .undef, .undef, .undef, .undef, .undef, .undef, .undef, .undef, .undef, .undef, .undef, .undef, .undef, .undef, .undef, .undef, .undef, .undef, .undef, .undef, .undef, .undef, .undef, .undef, .undef, .undef, .undef, .undef, .undef, .undef, .undef, .undef, .undef, .undef, .undef, .undef, .undef, .undef, .undef, .undef, .undef, .undef, .undef, .undef, .undef, .undef, .undef, .undef, .undef, .undef], Mem.ofList [], 0⟩
theorem midrangelaw25_DdsOneText.e_eq {R : Type} (n : Nat) (rec : List Item → St → Option R) (K : AV → Option R) (a0 : Int) (a1 : Int) (a2 : Int) (a3 : Int) (a4 : Int) (a5 : Int) (a6 : ByteArray) :
    goK G (midrangelaw25_DdsOneText.C n) midrangelaw25_DdsOneText.cut (fun S => finK G Tryz.f9.resultTypes.toList Tryz.f9.results.toList S K) rec 1000 [.code (Tryz.f9.body.getD .skip)] (Ev.start Tryz.f9 [AV.agg [vi a0, vi a1, vi a2], .agg [vi a3, vi a4, vi a5], vs a6]) = midrangelaw25_DdsOneText.e n (fun z1 => rec midrangelaw25_DdsOneText.t13 (midrangelaw25_DdsOneText.s13 z1)) (fun p => K (vb p)) a0 a1 a2 a3 a4 a5 a6 := by kernel_rfl
theorem midrangelaw25_DdsOneText.r13_eq {R : Type} (n : Nat) (rec : List Item → St → Option R) (K : AV → Option R) (z1 : ByteArray) :
    atK G (midrangelaw25_DdsOneText.C n) midrangelaw25_DdsOneText.cut (fun S => finK G Tryz.f9.resultTypes.toList Tryz.f9.results.toList S K) rec midrangelaw25_DdsOneText.t13 (midrangelaw25_DdsOneText.s13 z1) = midrangelaw25_DdsOneText.r13 n (fun z1 => rec midrangelaw25_DdsOneText.t13 (midrangelaw25_DdsOneText.s13 z1)) (fun p => K (vb p)) z1 := by kernel_rfl
noncomputable def midrangelaw25_DdsOneText.l (n : Nat) : Nat → (ByteArray → Option (Bool))
  | 0 => (fun _ => none)
  | m + 1 => midrangelaw25_DdsOneText.r13 n (midrangelaw25_DdsOneText.l n m) Option.some
noncomputable def midrangelaw25_DdsOneText.F (n : Nat) (a0 : Int) (a1 : Int) (a2 : Int) (a3 : Int) (a4 : Int) (a5 : Int) (a6 : ByteArray) : Option (Bool) := midrangelaw25_DdsOneText.e n (midrangelaw25_DdsOneText.l n n) Option.some a0 a1 a2 a3 a4 a5 a6
noncomputable def midrangelaw25_DdsOneText.dec (x : AV) : Option (Bool) := match x with | .v (.bool p0) => Option.some p0 | _ => none
theorem midrangelaw25_DdsOneText.dec_inv {p : Bool} (y : AV) (h : midrangelaw25_DdsOneText.dec y = some p) : y = vb p := by
  unfold midrangelaw25_DdsOneText.dec at h
  split at h
  · cases h; rfl
  · cases h
theorem midrangelaw25_DdsOneText.l_eq (n m : Nat) : (∀ (z1 : ByteArray), runK G (midrangelaw25_DdsOneText.C n) midrangelaw25_DdsOneText.cut (fun S => finK G Tryz.f9.resultTypes.toList Tryz.f9.results.toList S midrangelaw25_DdsOneText.dec) m midrangelaw25_DdsOneText.t13 (midrangelaw25_DdsOneText.s13 z1) = (midrangelaw25_DdsOneText.l n m) z1) := by
  induction m with
  | zero => exact fun z1 => rfl
  | succ m ih =>
    have h13 := ih
    have e13 : (fun (z1 : ByteArray) => runK G (midrangelaw25_DdsOneText.C n) midrangelaw25_DdsOneText.cut (fun S => finK G Tryz.f9.resultTypes.toList Tryz.f9.results.toList S midrangelaw25_DdsOneText.dec) m midrangelaw25_DdsOneText.t13 (midrangelaw25_DdsOneText.s13 z1)) = (midrangelaw25_DdsOneText.l n m) := by funext z1; exact h13 z1
    have q13 : ∀ (z1 : ByteArray), runK G (midrangelaw25_DdsOneText.C n) midrangelaw25_DdsOneText.cut (fun S => finK G Tryz.f9.resultTypes.toList Tryz.f9.results.toList S midrangelaw25_DdsOneText.dec) (m + 1) midrangelaw25_DdsOneText.t13 (midrangelaw25_DdsOneText.s13 z1) = (midrangelaw25_DdsOneText.l n (m + 1)) z1 := by
      intro z1
      rw [runK_succ]
      refine (midrangelaw25_DdsOneText.r13_eq n _ midrangelaw25_DdsOneText.dec z1).trans ?_
      rw [e13]
      rfl
    exact q13
theorem midrangelaw25_DdsOneText.hands (n : Nat) (a0 : Int) (a1 : Int) (a2 : Int) (a3 : Int) (a4 : Int) (a5 : Int) (a6 : ByteArray) {p : Bool} (h : midrangelaw25_DdsOneText.F n a0 a1 a2 a3 a4 a5 a6 = some p) : HandsIn Tryz.prog 9 [AV.agg [vi a0, vi a1, vi a2], .agg [vi a3, vi a4, vi a5], vs a6] (vb p) := by
  refine hands_of cfg mixed (fun _ => rfl) rfl (midrangelaw25_DdsOneText.tells n) (fn := Tryz.f9) Tryz.func9 (by kernel_rfl) (by kernel_rfl) (cut := midrangelaw25_DdsOneText.cut) (K := midrangelaw25_DdsOneText.dec) (r := p) (n := n) midrangelaw25_DdsOneText.dec_inv ?_
  rw [funK_getD (by kernel_rfl)]
  have h1 := midrangelaw25_DdsOneText.e_eq n (runK G (midrangelaw25_DdsOneText.C n) midrangelaw25_DdsOneText.cut (fun S => finK G Tryz.f9.resultTypes.toList Tryz.f9.results.toList S midrangelaw25_DdsOneText.dec) n) midrangelaw25_DdsOneText.dec a0 a1 a2 a3 a4 a5 a6
  have hl := midrangelaw25_DdsOneText.l_eq n n
  simp only [hl] at h1
  exact h1.trans h
end Go.Proofs.YtmpglmcjoelciaaGreatDoor.Ev

/- P25.5: one text: the text of a type is read as the type, two types have two texts, a text that is read is the one of its type. -/
namespace Go.Proofs.YtmpglmcjoelciaaGreatDoor.Ev
open Go Go.Proofs Go.Proofs.Ev
set_option linter.unusedVariables false
theorem dec2 {k : Nat} (h : ¬ k < 10) (h2 : k < 100) : Lib.decDigits k = [UInt8.ofNat (48 + k / 10), UInt8.ofNat (48 + k % 10)] := by
  rw [decS h, dec1 (by omega)]; rfl
theorem dec3 {k : Nat} (h : ¬ k < 100) (h2 : k < 1000) : Lib.decDigits k = [UInt8.ofNat (48 + k / 10 / 10), UInt8.ofNat (48 + k / 10 % 10), UInt8.ofNat (48 + k % 10)] := by
  rw [decS (by omega), dec2 (by omega) (by omega)]; rfl
theorem dec_num {k : Nat} (h : k < 1000) : num3 (Lib.decDigits k) = true ∧ valD (Lib.decDigits k) = k := by
  by_cases h1 : k < 10
  · rw [dec1 h1]
    have : ∀ k : Fin 10, (num3 [UInt8.ofNat (48 + k.1)] = true ∧ valD [UInt8.ofNat (48 + k.1)] = k.1) := by decide +kernel
    exact this ⟨k, h1⟩
  · by_cases h2 : k < 100
    · rw [dec2 h1 h2]
      have : ∀ k : Fin 100, k.1 < 10 ∨ (num3 [UInt8.ofNat (48 + k.1 / 10), UInt8.ofNat (48 + k.1 % 10)] = true ∧ valD [UInt8.ofNat (48 + k.1 / 10), UInt8.ofNat (48 + k.1 % 10)] = k.1) := by decide +kernel
      exact (this ⟨k, h2⟩).resolve_left h1
    · rw [dec3 h2 h]
      have : ∀ k : Fin 1000, k.1 < 100 ∨ (num3 [UInt8.ofNat (48 + k.1 / 10 / 10), UInt8.ofNat (48 + k.1 / 10 % 10), UInt8.ofNat (48 + k.1 % 10)] = true ∧ valD [UInt8.ofNat (48 + k.1 / 10 / 10), UInt8.ofNat (48 + k.1 / 10 % 10), UInt8.ofNat (48 + k.1 % 10)] = k.1) := by decide +kernel
      exact (this ⟨k, h⟩).resolve_left h2
theorem ofNat_toNat (c : UInt8) : UInt8.ofNat c.toNat = c := by simp
theorem num_dec {l : List UInt8} (h : num3 l = true) : Lib.decDigits (valD l) = l := by
  obtain ⟨h1, h2, h3, h4⟩ := (num3_iff l).1 h
  match l, h1, h2, h3, h4 with
  | [c], _, _, h3, _ =>
    simp only [List.all_cons, List.all_nil, Bool.and_true] at h3
    have hc := (isD_iff c).1 h3
    have hv : valD [c] = c.toNat - 48 := by show 0 * 10 + (c.toNat - 48) = _; omega
    rw [hv, dec1 (by omega), show 48 + (c.toNat - 48) = c.toNat by omega, ofNat_toNat]
  | [c, d], _, _, h3, h4 =>
    simp only [List.all_cons, List.all_nil, Bool.and_true, Bool.and_eq_true] at h3
    have hc := (isD_iff c).1 h3.1
    have hd := (isD_iff d).1 h3.2
    have hne : c.toNat ≠ 48 := fun e => h4 ⟨by simp, UInt8.toNat_inj.1 e⟩
    have hv : valD [c, d] = (c.toNat - 48) * 10 + (d.toNat - 48) := by show (0 * 10 + (c.toNat - 48)) * 10 + (d.toNat - 48) = _; omega
    rw [hv, dec2 (by omega) (by omega), show 48 + ((c.toNat - 48) * 10 + (d.toNat - 48)) / 10 = c.toNat by omega, show 48 + ((c.toNat - 48) * 10 + (d.toNat - 48)) % 10 = d.toNat by omega, ofNat_toNat, ofNat_toNat]
  | [c, d, e], _, _, h3, h4 =>
    simp only [List.all_cons, List.all_nil, Bool.and_true, Bool.and_eq_true] at h3
    have hc := (isD_iff c).1 h3.1
    have hd := (isD_iff d).1 h3.2.1
    have he := (isD_iff e).1 h3.2.2
    have hne : c.toNat ≠ 48 := fun e => h4 ⟨by simp, UInt8.toNat_inj.1 e⟩
    have hv : valD [c, d, e] = ((c.toNat - 48) * 10 + (d.toNat - 48)) * 10 + (e.toNat - 48) := by show ((0 * 10 + (c.toNat - 48)) * 10 + (d.toNat - 48)) * 10 + (e.toNat - 48) = _; omega
    rw [hv, dec3 (by omega) (by omega), show 48 + (((c.toNat - 48) * 10 + (d.toNat - 48)) * 10 + (e.toNat - 48)) / 10 / 10 = c.toNat by omega,
      show 48 + (((c.toNat - 48) * 10 + (d.toNat - 48)) * 10 + (e.toNat - 48)) / 10 % 10 = d.toNat by omega, show 48 + (((c.toNat - 48) * 10 + (d.toNat - 48)) * 10 + (e.toNat - 48)) % 10 = e.toNat by omega, ofNat_toNat, ofNat_toNat, ofNat_toNat]
theorem lead_app : ∀ (a : List UInt8) {c : UInt8} (r : List UInt8), a.all isD = true → isD c = false → lead (a ++ c :: r) = a.length
  | [], c, r, _, hc => by simp [lead, hc]
  | x :: a, c, r, h, hc => by
    simp only [List.all_cons, Bool.and_eq_true] at h
    have := lead_app a r h.2 hc
    unfold lead at this ⊢
    rw [List.cons_append, List.takeWhile_cons, if_pos h.1, List.length_cons, List.length_cons, this]
theorem ltr_kd {k : Int} (h : k = 0 ∨ k = 1 ∨ k = 2 ∨ k = 3) : kd (ltr k) = k ∧ isD (ltr k) = false := by
  rcases h with rfl | rfl | rfl | rfl <;> decide
theorem kd_ltr {c : UInt8} (h : 0 ≤ kd c) : ltr (kd c) = c := by
  have : ∀ k : Fin 256, 0 ≤ kd (UInt8.ofNat k.1) → ltr (kd (UInt8.ofNat k.1)) = UInt8.ofNat k.1 := by decide +kernel
  have h' := this ⟨c.toNat, c.toNat_lt⟩
  simp only [UInt8.ofNat_toNat] at h'
  exact h' h
/-- The text of a right type is read as it. -/
theorem typeP_text {k a b : Int} (hk : k = 0 ∨ k = 1 ∨ k = 2 ∨ k = 3) (ha : 0 ≤ a) (ha2 : a ≤ 256) (hb : 0 ≤ b) (hb2 : b ≤ 15) (h0 : k = 0 → b = 0) : typeP (tText k a b) = some (k, a, b) := by
  obtain ⟨x, rfl⟩ := Int.eq_ofNat_of_zero_le ha
  obtain ⟨y, rfl⟩ := Int.eq_ofNat_of_zero_le hb
  obtain ⟨d1, d2⟩ := dec_num (k := x) (by omega)
  obtain ⟨d3, d4⟩ := dec_num (k := y) (by omega)
  obtain ⟨k1, k2⟩ := ltr_kd hk
  have hall := ((num3_iff _).1 d1).2.2.1
  unfold typeP tText
  rw [Int.toNat_natCast, Int.toNat_natCast, List.singleton_append, lead_app _ _ hall k2, List.take_left, List.drop_left, if_pos d1]
  simp only [k1, d2]
  by_cases hk0 : k = 0
  · have := h0 hk0
    have hy : y = 0 := by omega
    subst hy hk0
    rfl
  · simp only [hk0, if_false]
    rw [if_neg (by omega), if_pos d3, d4]
/-- A text that is read is the one of its type. -/
theorem typeP_back {l : List UInt8} {t : Int × Int × Int} (h : typeP l = some t) : (t.1 = 0 ∨ t.1 = 1 ∨ t.1 = 2 ∨ t.1 = 3) ∧ tText t.1 t.2.1 t.2.2 = l := by
  unfold typeP at h
  split at h
  · rename_i hnum
    have hcat := List.take_append_drop (lead l) l
    cases hd : l.drop (lead l) with
    | nil => rw [hd] at h; cases h
    | cons c r =>
      rw [hd] at h hcat
      simp only at h
      have hr := kd_range c
      by_cases h0 : kd c = 0
      · rw [if_pos h0] at h
        by_cases hr0 : r = []
        · rw [if_pos hr0] at h
          cases h
          refine ⟨.inl rfl, ?_⟩
          have hl := kd_ltr (c := c) (by omega)
          rw [h0] at hl
          unfold tText
          simp only [if_true, Int.toNat_natCast]
          rw [num_dec hnum, hl]
          rw [hr0] at hcat
          simpa using hcat
        · rw [if_neg hr0] at h; cases h
      · rw [if_neg h0] at h
        by_cases hneg : kd c < 0
        · rw [if_pos hneg] at h; cases h
        · rw [if_neg hneg] at h
          cases h3 : num3 r with
          | false => rw [h3] at h; cases h
          | true =>
            rw [h3] at h
            cases h
            refine ⟨by simp only; omega, ?_⟩
            unfold tText
            simp only [h0, if_false, Int.toNat_natCast]
            rw [num_dec hnum, num_dec h3, kd_ltr (by omega)]
            simpa using hcat
  · cases h
theorem tText_len {k a b : Int} (ha : 0 ≤ a) (ha2 : a ≤ 256) (hb : 0 ≤ b) (hb2 : b ≤ 15) : (tText k a b).length ≤ 100000 := by
  obtain ⟨x, rfl, hx, hxl⟩ := dec_small ha ha2
  obtain ⟨y, rfl, hy, hyl⟩ := dec_small hb (by omega)
  unfold tText
  split <;> simp <;> simp at hxl hyl <;> omega
/-- P25.5: one text. -/
theorem oneText_law {n : Nat} (hn : 1000002 ≤ n) (k a b k' a' b' : Int) (s : ByteArray) : midrangelaw25_DdsOneText.F n k a b k' a' b' s = some true := by
  obtain ⟨m, rfl⟩ : ∃ m, n = m + 2 := ⟨n - 2, by omega⟩
  have h13 : ∀ l : List UInt8, l.length ≤ 300 → midrangelaw25_DdsOneText.l (m + 2) (m + 2) (bs l) = some true := by
    intro l hl
    show midrangelaw25_DdsOneText.r13 (m + 2) (midrangelaw25_DdsOneText.l (m + 2) (m + 1)) some (bs l) = _
    unfold midrangelaw25_DdsOneText.r13
    rw [checkType_eq (by omega) l (by omega), Option.bind_some]
    cases ht : typeP l with
    | none => rfl
    | some t =>
      obtain ⟨hk, hb⟩ := typeP_back ht
      by_cases hc : chkT t.1 t.2.1 t.2.2 = 0
      · simp only [hc, ne_eq, not_true_eq_false, if_false]
        rw [formatType_eq (by omega), if_neg (by simp [hc]), if_neg (by omega), Option.bind_some]
        show (bif (0 : Int) != 0 then _ else _) = _
        rw [show ((0 : Int) != 0) = false from rfl, cond_false]
        show (bif (0 : Int) == 0 then _ else _) = _
        rw [show ((0 : Int) == 0) = true from rfl, cond_true, hb]
        simp
      · have : (chkT t.1 t.2.1 t.2.2 != 0) = true := by simp [hc]
        simp only [hc, ne_eq, not_false_eq_true, if_true, this, cond_true]
  obtain ⟨l, rfl⟩ : ∃ l, s = bs l := ⟨s.data.toList, rfl⟩
  unfold midrangelaw25_DdsOneText.F midrangelaw25_DdsOneText.e
  rw [awake_eq, Option.bind_some]
  show (bif false then _ else _) = _
  rw [cond_false]
  simp only [bs_size]
  by_cases h3 : ((l.length : Nat) : Int) > 300
  · rw [cond_t h3]
  · rw [cond_f h3, formatType_eq (by omega), Option.bind_some, formatType_eq (by omega), Option.bind_some, h13 l (by omega)]
    by_cases hc : chkT k a b = 0
    · by_cases h4 : k = 4
      · subst h4; simp [hc]
      · obtain ⟨h1, h2, h5, h6, h7, h8⟩ := chkT_ok hc h4
        have hp := typeP_text h1 (by omega) h5 h6 h7 h8
        simp only [hc, h4, ne_eq, not_true_eq_false, if_false]
        show (bif (0 : Int) == 0 then _ else _) = _
        rw [show ((0 : Int) == 0) = true from rfl, cond_true, checkType_eq (by omega) _ (tText_len (by omega) h5 h6 h7), hp, Option.bind_some]
        simp only [hc, ne_eq, not_true_eq_false, if_false]
        show (bif (0 : Int) != 0 then _ else _) = _
        rw [show ((0 : Int) != 0) = false from rfl, cond_false]
        simp only [beq_self_eq_true, Bool.and_self, Bool.not_true, cond_false]
        by_cases hc' : chkT k' a' b' = 0
        · by_cases h4' : k' = 4
          · subst h4'; simp [hc']
          · obtain ⟨g1, g2, g5, g6, g7, g8⟩ := chkT_ok hc' h4'
            have hp' := typeP_text g1 (by omega) g5 g6 g7 g8
            have e : (tText k a b == tText k' a' b') = ((k == k') && ((a == a') && ((b == b') && true))) := by
              rw [Bool.eq_iff_iff]
              simp only [beq_iff_eq, Bool.and_eq_true, and_true]
              constructor
              · intro h
                rw [h, hp'] at hp
                simp at hp
                exact ⟨hp.1.symm, hp.2.1.symm, hp.2.2.symm⟩
              · rintro ⟨rfl, rfl, rfl⟩; rfl
            simp only [hc', h4', not_true_eq_false, if_false, bs_toList, e]
            show (bif (0 : Int) == 0 then _ else _) = _
            rw [show ((0 : Int) == 0) = true from rfl, cond_true]
            simp
        · have : (chkT k' a' b' == 0) = false := by simp [hc']
          simp only [hc', not_false_eq_true, if_true, this, cond_false]
    · have : (chkT k a b == 0) = false := by simp [hc]
      simp only [hc, ne_eq, not_false_eq_true, if_true, this, cond_false]
end Go.Proofs.YtmpglmcjoelciaaGreatDoor.Ev
