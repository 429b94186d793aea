/- The table of the program's types, and that it is right. Printed by the session's own program. -/
import Derived.Test.YtgmpnhfnkhohiaaGreatDoorTBVc
import Derived.Test.YtgmpnhfnkhohiaaGreatDoorProg
import Derived.KernelRfl
import Derived.Shelf.Spec.SlicesGrow
import Derived.Shelf.SlLaysE0
import Derived.Shelf.SlGeneric
import Derived.Ground.Names8Prog
import Derived.Ground.SlgnProg
import Derived.Shelf.Strings.Builder1
import Derived.Shelf.Strings.Builder2
import Derived.Shelf.Strings.Trim
import Derived.Shelf.Small.Utf8
import Derived.Shelf.Small.Strs
import Derived.Shelf.Strings.BuilderF
import Derived.Shelf.Strconv.Atoi
import Derived.Shelf.Strconv.Itoa0
import Derived.Shelf.Strconv.Itoa1
import Derived.Shelf.LaysM
import Derived.Shelf.Strconv.Itoa2
import Derived.Shelf.Strconv.Itoa3
import Derived.Shelf.Strconv.AtoiErrFast
import Derived.Shelf.Strconv.ParseIntEmpty
import Derived.Shelf.Strconv.AtoiFail
import Derived.Shelf.Strconv.Clone
import Derived.Shelf.Strconv.SyntaxError
import Derived.Shelf.LaysC
import Derived.Shelf.Strconv.ToError
import Derived.Shelf.Strconv.Lower
import Derived.Shelf.Strconv.ParseUint10
import Derived.Shelf.Strconv.ParseUint10Empty
import Derived.Shelf.Strconv.ParseUint10Any
import Derived.Shelf.Strconv.ParseInt10
import Derived.Shelf.Strconv.AtoiLong
import Derived.Shelf.Strconv.AtoiInnerAll
import Derived.Shelf.Strconv.RangeError
import Derived.Shelf.Strconv.ToErrorRange
import Derived.Shelf.Strconv.AtoiAll
import Derived.Shelf.Strconv.ErrVarAll
import Derived.Shelf.Strings.Search1
import Derived.Shelf.Strings.Search2
import Derived.Shelf.Strings.Search3
import Derived.Shelf.Strings.Cut
import Derived.Shelf.Strings.Count
import Derived.Shelf.Strings.Shaped
import Derived.Shelf.Strings.Prefix
import Derived.Shelf.Strings.Split
import Derived.Shelf.Strings.SplitShaped
import Derived.Shelf.Strings.Runes
import Derived.Shelf.Strings.AsciiSet
import Derived.Shelf.Bits.Mul64
import Derived.Shelf.Strings.Repeat
import Derived.Shelf.Unicode.DecodeSlow
import Derived.Shelf.Strings.SlTrimAscii

namespace Go.Proofs.YtgmpnhfnkhohiaaGreatDoor.Ev
open Go Go.Proofs Go.Proofs.Ev
set_option linter.unusedVariables false
set_option maxRecDepth 100000
noncomputable def tabL : List (Option TI) := [
  none,
  Option.some ⟨.other, 1, 8, false, [.any], [.nilFunc], 1⟩,
  Option.some ⟨.int .i64, 1, 8, false, [(.int .i64)], [.int .i64 0], 2⟩,
  Option.some ⟨.int .i64, 1, 8, false, [(.int .i64)], [.int .i64 0], 3⟩,
  Option.some ⟨.bool, 1, 1, false, [.bool], [.bool false], 4⟩,
  Option.some ⟨.int .u8, 1, 1, false, [(.int .u8)], [.int .u8 0], 5⟩,
  none,
  none,
  none,
  Option.some ⟨.string, 1, 16, false, [.str], [.string ⟨#[]⟩], 9⟩,
  none,
  none,
  Option.some ⟨.int .u64, 1, 8, false, [(.int .u64)], [.int .u64 0], 12⟩,
  none,
  none,
  Option.some ⟨.ptr 172, 1, 8, false, [.any], [.pointer none], 15⟩,
  Option.some ⟨.ptr 175, 1, 8, false, [.any], [.pointer none], 16⟩,
  Option.some ⟨.ptr 182, 1, 8, false, [.any], [.pointer none], 17⟩,
  none,
  none,
  Option.some ⟨.iface, 1, 16, false, [.any], [.nilIface], 20⟩,
  Option.some ⟨.int .i32, 1, 4, false, [(.int .i32)], [.int .i32 0], 21⟩,
  Option.some ⟨.slice 4, 1, 24, false, [(.slice ⟨true, 4⟩ 1)], [.slice none 0 0], 22⟩,
  Option.some ⟨.struct [(9, 0), (22, 1)], 2, 40, true, [.str, (.slice ⟨true, 4⟩ 1)], [.string ⟨#[]⟩, .slice none 0 0], 23⟩,
  Option.some ⟨.struct [(9, 0), (22, 1)], 2, 40, true, [.str, (.slice ⟨true, 4⟩ 1)], [.string ⟨#[]⟩, .slice none 0 0], 24⟩,
  Option.some ⟨.other, 1, 8, false, [.any], [.nilFunc], 25⟩,
  Option.some ⟨.other, 1, 8, false, [.any], [.nilFunc], 26⟩,
  Option.some ⟨.int .i64, 1, 8, false, [(.int .i64)], [.int .i64 0], 27⟩,
  none,
  Option.some ⟨.other, 1, 8, false, [.any], [.nilFunc], 29⟩,
  Option.some ⟨.other, 1, 8, false, [.any], [.nilFunc], 30⟩,
  Option.some ⟨.other, 1, 8, false, [.any], [.nilFunc], 31⟩,
  Option.some ⟨.other, 1, 8, false, [.any], [.nilFunc], 32⟩,
  none,
  Option.some ⟨.other, 1, 8, false, [.any], [.nilFunc], 34⟩,
  none,
  Option.some ⟨.other, 1, 8, false, [.any], [.nilFunc], 36⟩,
  Option.some ⟨.other, 1, 8, false, [.any], [.nilFunc], 37⟩,
  Option.some ⟨.other, 1, 8, false, [.any], [.nilFunc], 38⟩,
  Option.some ⟨.struct [(3, 0), (3, 1)], 2, 16, true, [(.int .i64), (.int .i64)], [.int .i64 0, .int .i64 0], 39⟩,
  Option.some ⟨.struct [(3, 0), (3, 1)], 2, 16, true, [(.int .i64), (.int .i64)], [.int .i64 0, .int .i64 0], 40⟩,
  Option.some ⟨.struct [(3, 0), (40, 1), (3, 3)], 4, 32, true, [(.int .i64), (.int .i64), (.int .i64), (.int .i64)], [.int .i64 0, .int .i64 0, .int .i64 0, .int .i64 0], 41⟩,
  Option.some ⟨.struct [(3, 0), (40, 1), (3, 3)], 4, 32, true, [(.int .i64), (.int .i64), (.int .i64), (.int .i64)], [.int .i64 0, .int .i64 0, .int .i64 0, .int .i64 0], 42⟩,
  Option.some ⟨.other, 1, 8, false, [.any], [.nilFunc], 43⟩,
  Option.some ⟨.other, 1, 8, false, [.any], [.nilFunc], 44⟩,
  none,
  Option.some ⟨.other, 1, 8, false, [.any], [.nilFunc], 46⟩,
  none,
  Option.some ⟨.other, 1, 8, false, [.any], [.nilFunc], 48⟩,
  Option.some ⟨.other, 1, 8, false, [.any], [.nilFunc], 49⟩,
  Option.some ⟨.other, 1, 8, false, [.any], [.nilFunc], 50⟩,
  Option.some ⟨.other, 1, 8, false, [.any], [.nilFunc], 51⟩,
  none,
  Option.some ⟨.other, 1, 8, false, [.any], [.nilFunc], 53⟩,
  Option.some ⟨.ptr 57, 1, 8, false, [.any], [.pointer none], 54⟩,
  Option.some ⟨.slice 5, 1, 24, false, [(.slice ⟨true, 5⟩ 1)], [.slice none 0 0], 55⟩,
  Option.some ⟨.struct [(54, 0), (55, 1)], 2, 32, true, [.any, (.slice ⟨true, 5⟩ 1)], [.pointer none, .slice none 0 0], 56⟩,
  Option.some ⟨.struct [(54, 0), (55, 1)], 2, 32, true, [.any, (.slice ⟨true, 5⟩ 1)], [.pointer none, .slice none 0 0], 57⟩,
  Option.some ⟨.other, 1, 8, false, [.any], [.nilFunc], 58⟩,
  Option.some ⟨.iface, 1, 16, false, [.any], [.nilIface], 59⟩,
  Option.some ⟨.iface, 1, 16, false, [.any], [.nilIface], 60⟩,
  none,
  Option.some ⟨.other, 1, 8, false, [.any], [.nilFunc], 62⟩,
  Option.some ⟨.other, 1, 8, false, [.any], [.nilFunc], 63⟩,
  Option.some ⟨.other, 1, 8, false, [.any], [.nilFunc], 64⟩,
  Option.some ⟨.other, 1, 8, false, [.any], [.nilFunc], 65⟩,
  Option.some ⟨.other, 1, 8, false, [.any], [.nilFunc], 66⟩,
  none,
  Option.some ⟨.other, 1, 8, false, [.any], [.nilFunc], 68⟩,
  Option.some ⟨.other, 1, 8, false, [.any], [.nilFunc], 69⟩,
  none,
  Option.some ⟨.other, 1, 8, false, [.any], [.nilFunc], 71⟩,
  none,
  Option.some ⟨.other, 1, 8, false, [.any], [.nilFunc], 73⟩,
  Option.some ⟨.other, 1, 8, false, [.any], [.nilFunc], 74⟩,
  Option.some ⟨.other, 1, 8, false, [.any], [.nilFunc], 75⟩,
  none,
  Option.some ⟨.other, 1, 8, false, [.any], [.nilFunc], 77⟩,
  none,
  Option.some ⟨.other, 1, 8, false, [.any], [.nilFunc], 79⟩,
  none,
  Option.some ⟨.other, 1, 8, false, [.any], [.nilFunc], 81⟩,
  Option.some ⟨.other, 1, 8, false, [.any], [.nilFunc], 82⟩,
  Option.some ⟨.other, 1, 8, false, [.any], [.nilFunc], 83⟩,
  Option.some ⟨.other, 1, 8, false, [.any], [.nilFunc], 84⟩,
  Option.some ⟨.other, 1, 8, false, [.any], [.nilFunc], 85⟩,
  Option.some ⟨.other, 1, 8, false, [.any], [.nilFunc], 86⟩,
  Option.some ⟨.other, 1, 8, false, [.any], [.nilFunc], 87⟩,
  Option.some ⟨.other, 1, 8, false, [.any], [.nilFunc], 88⟩,
  Option.some ⟨.other, 1, 8, false, [.any], [.nilFunc], 89⟩,
  Option.some ⟨.other, 1, 8, false, [.any], [.nilFunc], 90⟩,
  Option.some ⟨.ptr 5, 1, 8, false, [.any], [.pointer none], 91⟩,
  Option.some ⟨.other, 1, 8, false, [.any], [.nilFunc], 92⟩,
  Option.some ⟨.other, 1, 8, false, [.any], [.nilFunc], 93⟩,
  Option.some ⟨.arr 256 4, 256, 256, true, [.bool, .bool, .bool, .bool, .bool, .bool, .bool, .bool, .bool, .bool, .bool, .bool, .bool, .bool, .bool, .bool, .bool, .bool, .bool, .bool, .bool, .bool, .bool, .bool, .bool, .bool, .bool, .bool, .bool, .bool, .bool, .bool, .bool, .bool, .bool, .bool, .bool, .bool, .bool, .bool, .bool, .bool, .bool, .bool, .bool, .bool, .bool, .bool, .bool, .bool, .bool, .bool, .bool, .bool, .bool, .bool, .bool, .bool, .bool, .bool, .bool, .bool, .bool, .bool, .bool, .bool, .bool, .bool, .bool, .bool, .bool, .bool, .bool, .bool, .bool, .bool, .bool, .bool, .bool, .bool, .bool, .bool, .bool, .bool, .bool, .bool, .bool, .bool, .bool, .bool, .bool, .bool, .bool, .bool, .bool, .bool, .bool, .bool, .bool, .bool, .bool, .bool, .bool, .bool, .bool, .bool, .bool, .bool, .bool, .bool, .bool, .bool, .bool, .bool, .bool, .bool, .bool, .bool, .bool, .bool, .bool, .bool, .bool, .bool, .bool, .bool, .bool, .bool, .bool, .bool, .bool, .bool, .bool, .bool, .bool, .bool, .bool, .bool, .bool, .bool, .bool, .bool, .bool, .bool, .bool, .bool, .bool, .bool, .bool, .bool, .bool, .bool, .bool, .bool, .bool, .bool, .bool, .bool, .bool, .bool, .bool, .bool, .bool, .bool, .bool, .bool, .bool, .bool, .bool, .bool, .bool, .bool, .bool, .bool, .bool, .bool, .bool, .bool, .bool, .bool, .bool, .bool, .bool, .bool, .bool, .bool, .bool, .bool, .bool, .bool, .bool, .bool, .bool, .bool, .bool, .bool, .bool, .bool, .bool, .bool, .bool, .bool, .bool, .bool, .bool, .bool, .bool, .bool, .bool, .bool, .bool, .bool, .bool, .bool, .bool, .bool, .bool, .bool, .bool, .bool, .bool, .bool, .bool, .bool, .bool, .bool, .bool, .bool, .bool, .bool, .bool, .bool, .bool, .bool, .bool, .bool, .bool, .bool, .bool, .bool, .bool, .bool, .bool, .bool, .bool, .bool, .bool, .bool, .bool, .bool, .bool, .bool, .bool, .bool, .bool, .bool], [.bool false, .bool false, .bool false, .bool false, .bool false, .bool false, .bool false, .bool false, .bool false, .bool false, .bool false, .bool false, .bool false, .bool false, .bool false, .bool false, .bool false, .bool false, .bool false, .bool false, .bool false, .bool false, .bool false, .bool false, .bool false, .bool false, .bool false, .bool false, .bool false, .bool false, .bool false, .bool false, .bool false, .bool false, .bool false, .bool false, .bool false, .bool false, .bool false, .bool false, .bool false, .bool false, .bool false, .bool false, .bool false, .bool false, .bool false, .bool false, .bool false, .bool false, .bool false, .bool false, .bool false, .bool false, .bool false, .bool false, .bool false, .bool false, .bool false, .bool false, .bool false, .bool false, .bool false, .bool false, .bool false, .bool false, .bool false, .bool false, .bool false, .bool false, .bool false, .bool false, .bool false, .bool false, .bool false, .bool false, .bool false, .bool false, .bool false, .bool false, .bool false, .bool false, .bool false, .bool false, .bool false, .bool false, .bool false, .bool false, .bool false, .bool false, .bool false, .bool false, .bool false, .bool false, .bool false, .bool false, .bool false, .bool false, .bool false, .bool false, .bool false, .bool false, .bool false, .bool false, .bool false, .bool false, .bool false, .bool false, .bool false, .bool false, .bool false, .bool false, .bool false, .bool false, .bool false, .bool false, .bool false, .bool false, .bool false, .bool false, .bool false, .bool false, .bool false, .bool false, .bool false, .bool false, .bool false, .bool false, .bool false, .bool false, .bool false, .bool false, .bool false, .bool false, .bool false, .bool false, .bool false, .bool false, .bool false, .bool false, .bool false, .bool false, .bool false, .bool false, .bool false, .bool false, .bool false, .bool false, .bool false, .bool false, .bool false, .bool false, .bool false, .bool false, .bool false, .bool false, .bool false, .bool false, .bool false, .bool false, .bool false, .bool false, .bool false, .bool false, .bool false, .bool false, .bool false, .bool false, .bool false, .bool false, .bool false, .bool false, .bool false, .bool false, .bool false, .bool false, .bool false, .bool false, .bool false, .bool false, .bool false, .bool false, .bool false, .bool false, .bool false, .bool false, .bool false, .bool false, .bool false, .bool false, .bool false, .bool false, .bool false, .bool false, .bool false, .bool false, .bool false, .bool false, .bool false, .bool false, .bool false, .bool false, .bool false, .bool false, .bool false, .bool false, .bool false, .bool false, .bool false, .bool false, .bool false, .bool false, .bool false, .bool false, .bool false, .bool false, .bool false, .bool false, .bool false, .bool false, .bool false, .bool false, .bool false, .bool false, .bool false, .bool false, .bool false, .bool false, .bool false, .bool false, .bool false, .bool false, .bool false, .bool false, .bool false, .bool false, .bool false, .bool false, .bool false, .bool false, .bool false, .bool false, .bool false, .bool false, .bool false, .bool false, .bool false, .bool false, .bool false, .bool false, .bool false, .bool false, .bool false, .bool false, .bool false, .bool false], 94⟩,
  Option.some ⟨.arr 256 4, 256, 256, true, [.bool, .bool, .bool, .bool, .bool, .bool, .bool, .bool, .bool, .bool, .bool, .bool, .bool, .bool, .bool, .bool, .bool, .bool, .bool, .bool, .bool, .bool, .bool, .bool, .bool, .bool, .bool, .bool, .bool, .bool, .bool, .bool, .bool, .bool, .bool, .bool, .bool, .bool, .bool, .bool, .bool, .bool, .bool, .bool, .bool, .bool, .bool, .bool, .bool, .bool, .bool, .bool, .bool, .bool, .bool, .bool, .bool, .bool, .bool, .bool, .bool, .bool, .bool, .bool, .bool, .bool, .bool, .bool, .bool, .bool, .bool, .bool, .bool, .bool, .bool, .bool, .bool, .bool, .bool, .bool, .bool, .bool, .bool, .bool, .bool, .bool, .bool, .bool, .bool, .bool, .bool, .bool, .bool, .bool, .bool, .bool, .bool, .bool, .bool, .bool, .bool, .bool, .bool, .bool, .bool, .bool, .bool, .bool, .bool, .bool, .bool, .bool, .bool, .bool, .bool, .bool, .bool, .bool, .bool, .bool, .bool, .bool, .bool, .bool, .bool, .bool, .bool, .bool, .bool, .bool, .bool, .bool, .bool, .bool, .bool, .bool, .bool, .bool, .bool, .bool, .bool, .bool, .bool, .bool, .bool, .bool, .bool, .bool, .bool, .bool, .bool, .bool, .bool, .bool, .bool, .bool, .bool, .bool, .bool, .bool, .bool, .bool, .bool, .bool, .bool, .bool, .bool, .bool, .bool, .bool, .bool, .bool, .bool, .bool, .bool, .bool, .bool, .bool, .bool, .bool, .bool, .bool, .bool, .bool, .bool, .bool, .bool, .bool, .bool, .bool, .bool, .bool, .bool, .bool, .bool, .bool, .bool, .bool, .bool, .bool, .bool, .bool, .bool, .bool, .bool, .bool, .bool, .bool, .bool, .bool, .bool, .bool, .bool, .bool, .bool, .bool, .bool, .bool, .bool, .bool, .bool, .bool, .bool, .bool, .bool, .bool, .bool, .bool, .bool, .bool, .bool, .bool, .bool, .bool, .bool, .bool, .bool, .bool, .bool, .bool, .bool, .bool, .bool, .bool, .bool, .bool, .bool, .bool, .bool, .bool, .bool, .bool, .bool, .bool, .bool, .bool], [.bool false, .bool false, .bool false, .bool false, .bool false, .bool false, .bool false, .bool false, .bool false, .bool false, .bool false, .bool false, .bool false, .bool false, .bool false, .bool false, .bool false, .bool false, .bool false, .bool false, .bool false, .bool false, .bool false, .bool false, .bool false, .bool false, .bool false, .bool false, .bool false, .bool false, .bool false, .bool false, .bool false, .bool false, .bool false, .bool false, .bool false, .bool false, .bool false, .bool false, .bool false, .bool false, .bool false, .bool false, .bool false, .bool false, .bool false, .bool false, .bool false, .bool false, .bool false, .bool false, .bool false, .bool false, .bool false, .bool false, .bool false, .bool false, .bool false, .bool false, .bool false, .bool false, .bool false, .bool false, .bool false, .bool false, .bool false, .bool false, .bool false, .bool false, .bool false, .bool false, .bool false, .bool false, .bool false, .bool false, .bool false, .bool false, .bool false, .bool false, .bool false, .bool false, .bool false, .bool false, .bool false, .bool false, .bool false, .bool false, .bool false, .bool false, .bool false, .bool false, .bool false, .bool false, .bool false, .bool false, .bool false, .bool false, .bool false, .bool false, .bool false, .bool false, .bool false, .bool false, .bool false, .bool false, .bool false, .bool false, .bool false, .bool false, .bool false, .bool false, .bool false, .bool false, .bool false, .bool false, .bool false, .bool false, .bool false, .bool false, .bool false, .bool false, .bool false, .bool false, .bool false, .bool false, .bool false, .bool false, .bool false, .bool false, .bool false, .bool false, .bool false, .bool false, .bool false, .bool false, .bool false, .bool false, .bool false, .bool false, .bool false, .bool false, .bool false, .bool false, .bool false, .bool false, .bool false, .bool false, .bool false, .bool false, .bool false, .bool false, .bool false, .bool false, .bool false, .bool false, .bool false, .bool false, .bool false, .bool false, .bool false, .bool false, .bool false, .bool false, .bool false, .bool false, .bool false, .bool false, .bool false, .bool false, .bool false, .bool false, .bool false, .bool false, .bool false, .bool false, .bool false, .bool false, .bool false, .bool false, .bool false, .bool false, .bool false, .bool false, .bool false, .bool false, .bool false, .bool false, .bool false, .bool false, .bool false, .bool false, .bool false, .bool false, .bool false, .bool false, .bool false, .bool false, .bool false, .bool false, .bool false, .bool false, .bool false, .bool false, .bool false, .bool false, .bool false, .bool false, .bool false, .bool false, .bool false, .bool false, .bool false, .bool false, .bool false, .bool false, .bool false, .bool false, .bool false, .bool false, .bool false, .bool false, .bool false, .bool false, .bool false, .bool false, .bool false, .bool false, .bool false, .bool false, .bool false, .bool false, .bool false, .bool false, .bool false, .bool false, .bool false, .bool false, .bool false, .bool false, .bool false, .bool false, .bool false, .bool false, .bool false, .bool false, .bool false, .bool false, .bool false, .bool false, .bool false, .bool false, .bool false, .bool false, .bool false, .bool false], 95⟩,
  none,
  Option.some ⟨.other, 1, 8, false, [.any], [.nilFunc], 97⟩,
  Option.some ⟨.other, 1, 8, false, [.any], [.nilFunc], 98⟩,
  Option.some ⟨.ptr 95, 1, 8, false, [.any], [.pointer none], 99⟩,
  Option.some ⟨.int .u64, 1, 8, false, [(.int .u64)], [.int .u64 0], 100⟩,
  none,
  Option.some ⟨.other, 1, 8, false, [.any], [.nilFunc], 102⟩,
  Option.some ⟨.other, 1, 8, false, [.any], [.nilFunc], 103⟩,
  Option.some ⟨.other, 1, 8, false, [.any], [.nilFunc], 104⟩,
  Option.some ⟨.other, 1, 8, false, [.any], [.nilFunc], 105⟩,
  Option.some ⟨.slice 9, 1, 24, false, [(.slice ⟨true, 9⟩ 1)], [.slice none 0 0], 106⟩,
  Option.some ⟨.other, 1, 8, false, [.any], [.nilFunc], 107⟩,
  Option.some ⟨.other, 1, 8, false, [.any], [.nilFunc], 108⟩,
  Option.some ⟨.other, 1, 8, false, [.any], [.nilFunc], 109⟩,
  Option.some ⟨.other, 1, 8, false, [.any], [.nilFunc], 110⟩,
  Option.some ⟨.other, 1, 8, false, [.any], [.nilFunc], 111⟩,
  Option.some ⟨.other, 1, 8, false, [.any], [.nilFunc], 112⟩,
  none,
  Option.some ⟨.other, 1, 8, false, [.any], [.nilFunc], 114⟩,
  Option.some ⟨.other, 1, 8, false, [.any], [.nilFunc], 115⟩,
  Option.some ⟨.other, 1, 8, false, [.any], [.nilFunc], 116⟩,
  Option.some ⟨.other, 1, 8, false, [.any], [.nilFunc], 117⟩,
  none,
  none,
  Option.some ⟨.other, 1, 8, false, [.any], [.nilFunc], 120⟩,
  Option.some ⟨.ptr 147, 1, 8, false, [.any], [.pointer none], 121⟩,
  Option.some ⟨.other, 1, 8, false, [.any], [.nilFunc], 122⟩,
  Option.some ⟨.other, 1, 8, false, [.any], [.nilFunc], 123⟩,
  Option.some ⟨.other, 1, 8, false, [.any], [.nilFunc], 124⟩,
  none,
  Option.some ⟨.other, 1, 8, false, [.any], [.nilFunc], 126⟩,
  Option.some ⟨.other, 1, 8, false, [.any], [.nilFunc], 127⟩,
  Option.some ⟨.int .u32, 1, 4, false, [(.int .u32)], [.int .u32 0], 128⟩,
  none,
  Option.some ⟨.other, 1, 8, false, [.any], [.nilFunc], 130⟩,
  Option.some ⟨.int .u64, 1, 8, false, [(.int .u64)], [.int .u64 0], 131⟩,
  none,
  Option.some ⟨.other, 1, 8, false, [.any], [.nilFunc], 133⟩,
  Option.some ⟨.other, 1, 8, false, [.any], [.nilFunc], 134⟩,
  Option.some ⟨.other, 1, 8, false, [.any], [.nilFunc], 135⟩,
  Option.some ⟨.slice 55, 1, 24, false, [(.slice ⟨false, 55⟩ 1)], [.slice none 0 0], 136⟩,
  Option.some ⟨.other, 1, 8, false, [.any], [.nilFunc], 137⟩,
  Option.some ⟨.arr 24 5, 24, 24, true, [(.int .u8), (.int .u8), (.int .u8), (.int .u8), (.int .u8), (.int .u8), (.int .u8), (.int .u8), (.int .u8), (.int .u8), (.int .u8), (.int .u8), (.int .u8), (.int .u8), (.int .u8), (.int .u8), (.int .u8), (.int .u8), (.int .u8), (.int .u8), (.int .u8), (.int .u8), (.int .u8), (.int .u8)], [.int .u8 0, .int .u8 0, .int .u8 0, .int .u8 0, .int .u8 0, .int .u8 0, .int .u8 0, .int .u8 0, .int .u8 0, .int .u8 0, .int .u8 0, .int .u8 0, .int .u8 0, .int .u8 0, .int .u8 0, .int .u8 0, .int .u8 0, .int .u8 0, .int .u8 0, .int .u8 0, .int .u8 0, .int .u8 0, .int .u8 0, .int .u8 0], 138⟩,
  Option.some ⟨.other, 1, 8, false, [.any], [.nilFunc], 139⟩,
  Option.some ⟨.other, 1, 8, false, [.any], [.nilFunc], 140⟩,
  none,
  Option.some ⟨.other, 1, 8, false, [.any], [.nilFunc], 142⟩,
  Option.some ⟨.other, 1, 8, false, [.any], [.nilFunc], 143⟩,
  none,
  Option.some ⟨.other, 1, 8, false, [.any], [.nilFunc], 145⟩,
  Option.some ⟨.struct [(9, 0), (9, 1), (60, 2)], 3, 48, true, [.str, .str, .any], [.string ⟨#[]⟩, .string ⟨#[]⟩, .nilIface], 146⟩,
  Option.some ⟨.struct [(9, 0), (9, 1), (60, 2)], 3, 48, true, [.str, .str, .any], [.string ⟨#[]⟩, .string ⟨#[]⟩, .nilIface], 147⟩,
  Option.some ⟨.other, 1, 8, false, [.any], [.nilFunc], 148⟩,
  Option.some ⟨.other, 1, 8, false, [.any], [.nilFunc], 149⟩,
  Option.some ⟨.other, 1, 8, false, [.any], [.nilFunc], 150⟩,
  Option.some ⟨.other, 1, 8, false, [.any], [.nilFunc], 151⟩,
  Option.some ⟨.other, 1, 8, false, [.any], [.nilFunc], 152⟩,
  Option.some ⟨.arr 20 131, 20, 160, true, [(.int .u64), (.int .u64), (.int .u64), (.int .u64), (.int .u64), (.int .u64), (.int .u64), (.int .u64), (.int .u64), (.int .u64), (.int .u64), (.int .u64), (.int .u64), (.int .u64), (.int .u64), (.int .u64), (.int .u64), (.int .u64), (.int .u64), (.int .u64)], [.int .u64 0, .int .u64 0, .int .u64 0, .int .u64 0, .int .u64 0, .int .u64 0, .int .u64 0, .int .u64 0, .int .u64 0, .int .u64 0, .int .u64 0, .int .u64 0, .int .u64 0, .int .u64 0, .int .u64 0, .int .u64 0, .int .u64 0, .int .u64 0, .int .u64 0, .int .u64 0], 153⟩,
  Option.some ⟨.arr 65 5, 65, 65, true, [(.int .u8), (.int .u8), (.int .u8), (.int .u8), (.int .u8), (.int .u8), (.int .u8), (.int .u8), (.int .u8), (.int .u8), (.int .u8), (.int .u8), (.int .u8), (.int .u8), (.int .u8), (.int .u8), (.int .u8), (.int .u8), (.int .u8), (.int .u8), (.int .u8), (.int .u8), (.int .u8), (.int .u8), (.int .u8), (.int .u8), (.int .u8), (.int .u8), (.int .u8), (.int .u8), (.int .u8), (.int .u8), (.int .u8), (.int .u8), (.int .u8), (.int .u8), (.int .u8), (.int .u8), (.int .u8), (.int .u8), (.int .u8), (.int .u8), (.int .u8), (.int .u8), (.int .u8), (.int .u8), (.int .u8), (.int .u8), (.int .u8), (.int .u8), (.int .u8), (.int .u8), (.int .u8), (.int .u8), (.int .u8), (.int .u8), (.int .u8), (.int .u8), (.int .u8), (.int .u8), (.int .u8), (.int .u8), (.int .u8), (.int .u8), (.int .u8)], [.int .u8 0, .int .u8 0, .int .u8 0, .int .u8 0, .int .u8 0, .int .u8 0, .int .u8 0, .int .u8 0, .int .u8 0, .int .u8 0, .int .u8 0, .int .u8 0, .int .u8 0, .int .u8 0, .int .u8 0, .int .u8 0, .int .u8 0, .int .u8 0, .int .u8 0, .int .u8 0, .int .u8 0, .int .u8 0, .int .u8 0, .int .u8 0, .int .u8 0, .int .u8 0, .int .u8 0, .int .u8 0, .int .u8 0, .int .u8 0, .int .u8 0, .int .u8 0, .int .u8 0, .int .u8 0, .int .u8 0, .int .u8 0, .int .u8 0, .int .u8 0, .int .u8 0, .int .u8 0, .int .u8 0, .int .u8 0, .int .u8 0, .int .u8 0, .int .u8 0, .int .u8 0, .int .u8 0, .int .u8 0, .int .u8 0, .int .u8 0, .int .u8 0, .int .u8 0, .int .u8 0, .int .u8 0, .int .u8 0, .int .u8 0, .int .u8 0, .int .u8 0, .int .u8 0, .int .u8 0, .int .u8 0, .int .u8 0, .int .u8 0, .int .u8 0, .int .u8 0], 154⟩,
  Option.some ⟨.other, 1, 8, false, [.any], [.nilFunc], 155⟩,
  Option.some ⟨.other, 1, 8, false, [.any], [.nilFunc], 156⟩,
  Option.some ⟨.other, 1, 8, false, [.any], [.nilFunc], 157⟩,
  Option.some ⟨.other, 1, 8, false, [.any], [.nilFunc], 158⟩,
  Option.some ⟨.other, 1, 8, false, [.any], [.nilFunc], 159⟩,
  Option.some ⟨.ptr 162, 1, 8, false, [.any], [.pointer none], 160⟩,
  Option.some ⟨.struct [(9, 0)], 1, 16, true, [.str], [.string ⟨#[]⟩], 161⟩,
  Option.some ⟨.struct [(9, 0)], 1, 16, true, [.str], [.string ⟨#[]⟩], 162⟩,
  Option.some ⟨.arr 256 5, 256, 256, true, [(.int .u8), (.int .u8), (.int .u8), (.int .u8), (.int .u8), (.int .u8), (.int .u8), (.int .u8), (.int .u8), (.int .u8), (.int .u8), (.int .u8), (.int .u8), (.int .u8), (.int .u8), (.int .u8), (.int .u8), (.int .u8), (.int .u8), (.int .u8), (.int .u8), (.int .u8), (.int .u8), (.int .u8), (.int .u8), (.int .u8), (.int .u8), (.int .u8), (.int .u8), (.int .u8), (.int .u8), (.int .u8), (.int .u8), (.int .u8), (.int .u8), (.int .u8), (.int .u8), (.int .u8), (.int .u8), (.int .u8), (.int .u8), (.int .u8), (.int .u8), (.int .u8), (.int .u8), (.int .u8), (.int .u8), (.int .u8), (.int .u8), (.int .u8), (.int .u8), (.int .u8), (.int .u8), (.int .u8), (.int .u8), (.int .u8), (.int .u8), (.int .u8), (.int .u8), (.int .u8), (.int .u8), (.int .u8), (.int .u8), (.int .u8), (.int .u8), (.int .u8), (.int .u8), (.int .u8), (.int .u8), (.int .u8), (.int .u8), (.int .u8), (.int .u8), (.int .u8), (.int .u8), (.int .u8), (.int .u8), (.int .u8), (.int .u8), (.int .u8), (.int .u8), (.int .u8), (.int .u8), (.int .u8), (.int .u8), (.int .u8), (.int .u8), (.int .u8), (.int .u8), (.int .u8), (.int .u8), (.int .u8), (.int .u8), (.int .u8), (.int .u8), (.int .u8), (.int .u8), (.int .u8), (.int .u8), (.int .u8), (.int .u8), (.int .u8), (.int .u8), (.int .u8), (.int .u8), (.int .u8), (.int .u8), (.int .u8), (.int .u8), (.int .u8), (.int .u8), (.int .u8), (.int .u8), (.int .u8), (.int .u8), (.int .u8), (.int .u8), (.int .u8), (.int .u8), (.int .u8), (.int .u8), (.int .u8), (.int .u8), (.int .u8), (.int .u8), (.int .u8), (.int .u8), (.int .u8), (.int .u8), (.int .u8), (.int .u8), (.int .u8), (.int .u8), (.int .u8), (.int .u8), (.int .u8), (.int .u8), (.int .u8), (.int .u8), (.int .u8), (.int .u8), (.int .u8), (.int .u8), (.int .u8), (.int .u8), (.int .u8), (.int .u8), (.int .u8), (.int .u8), (.int .u8), (.int .u8), (.int .u8), (.int .u8), (.int .u8), (.int .u8), (.int .u8), (.int .u8), (.int .u8), (.int .u8), (.int .u8), (.int .u8), (.int .u8), (.int .u8), (.int .u8), (.int .u8), (.int .u8), (.int .u8), (.int .u8), (.int .u8), (.int .u8), (.int .u8), (.int .u8), (.int .u8), (.int .u8), (.int .u8), (.int .u8), (.int .u8), (.int .u8), (.int .u8), (.int .u8), (.int .u8), (.int .u8), (.int .u8), (.int .u8), (.int .u8), (.int .u8), (.int .u8), (.int .u8), (.int .u8), (.int .u8), (.int .u8), (.int .u8), (.int .u8), (.int .u8), (.int .u8), (.int .u8), (.int .u8), (.int .u8), (.int .u8), (.int .u8), (.int .u8), (.int .u8), (.int .u8), (.int .u8), (.int .u8), (.int .u8), (.int .u8), (.int .u8), (.int .u8), (.int .u8), (.int .u8), (.int .u8), (.int .u8), (.int .u8), (.int .u8), (.int .u8), (.int .u8), (.int .u8), (.int .u8), (.int .u8), (.int .u8), (.int .u8), (.int .u8), (.int .u8), (.int .u8), (.int .u8), (.int .u8), (.int .u8), (.int .u8), (.int .u8), (.int .u8), (.int .u8), (.int .u8), (.int .u8), (.int .u8), (.int .u8), (.int .u8), (.int .u8), (.int .u8), (.int .u8), (.int .u8), (.int .u8), (.int .u8), (.int .u8), (.int .u8), (.int .u8), (.int .u8), (.int .u8), (.int .u8), (.int .u8), (.int .u8), (.int .u8), (.int .u8), (.int .u8), (.int .u8), (.int .u8)], [.int .u8 0, .int .u8 0, .int .u8 0, .int .u8 0, .int .u8 0, .int .u8 0, .int .u8 0, .int .u8 0, .int .u8 0, .int .u8 0, .int .u8 0, .int .u8 0, .int .u8 0, .int .u8 0, .int .u8 0, .int .u8 0, .int .u8 0, .int .u8 0, .int .u8 0, .int .u8 0, .int .u8 0, .int .u8 0, .int .u8 0, .int .u8 0, .int .u8 0, .int .u8 0, .int .u8 0, .int .u8 0, .int .u8 0, .int .u8 0, .int .u8 0, .int .u8 0, .int .u8 0, .int .u8 0, .int .u8 0, .int .u8 0, .int .u8 0, .int .u8 0, .int .u8 0, .int .u8 0, .int .u8 0, .int .u8 0, .int .u8 0, .int .u8 0, .int .u8 0, .int .u8 0, .int .u8 0, .int .u8 0, .int .u8 0, .int .u8 0, .int .u8 0, .int .u8 0, .int .u8 0, .int .u8 0, .int .u8 0, .int .u8 0, .int .u8 0, .int .u8 0, .int .u8 0, .int .u8 0, .int .u8 0, .int .u8 0, .int .u8 0, .int .u8 0, .int .u8 0, .int .u8 0, .int .u8 0, .int .u8 0, .int .u8 0, .int .u8 0, .int .u8 0, .int .u8 0, .int .u8 0, .int .u8 0, .int .u8 0, .int .u8 0, .int .u8 0, .int .u8 0, .int .u8 0, .int .u8 0, .int .u8 0, .int .u8 0, .int .u8 0, .int .u8 0, .int .u8 0, .int .u8 0, .int .u8 0, .int .u8 0, .int .u8 0, .int .u8 0, .int .u8 0, .int .u8 0, .int .u8 0, .int .u8 0, .int .u8 0, .int .u8 0, .int .u8 0, .int .u8 0, .int .u8 0, .int .u8 0, .int .u8 0, .int .u8 0, .int .u8 0, .int .u8 0, .int .u8 0, .int .u8 0, .int .u8 0, .int .u8 0, .int .u8 0, .int .u8 0, .int .u8 0, .int .u8 0, .int .u8 0, .int .u8 0, .int .u8 0, .int .u8 0, .int .u8 0, .int .u8 0, .int .u8 0, .int .u8 0, .int .u8 0, .int .u8 0, .int .u8 0, .int .u8 0, .int .u8 0, .int .u8 0, .int .u8 0, .int .u8 0, .int .u8 0, .int .u8 0, .int .u8 0, .int .u8 0, .int .u8 0, .int .u8 0, .int .u8 0, .int .u8 0, .int .u8 0, .int .u8 0, .int .u8 0, .int .u8 0, .int .u8 0, .int .u8 0, .int .u8 0, .int .u8 0, .int .u8 0, .int .u8 0, .int .u8 0, .int .u8 0, .int .u8 0, .int .u8 0, .int .u8 0, .int .u8 0, .int .u8 0, .int .u8 0, .int .u8 0, .int .u8 0, .int .u8 0, .int .u8 0, .int .u8 0, .int .u8 0, .int .u8 0, .int .u8 0, .int .u8 0, .int .u8 0, .int .u8 0, .int .u8 0, .int .u8 0, .int .u8 0, .int .u8 0, .int .u8 0, .int .u8 0, .int .u8 0, .int .u8 0, .int .u8 0, .int .u8 0, .int .u8 0, .int .u8 0, .int .u8 0, .int .u8 0, .int .u8 0, .int .u8 0, .int .u8 0, .int .u8 0, .int .u8 0, .int .u8 0, .int .u8 0, .int .u8 0, .int .u8 0, .int .u8 0, .int .u8 0, .int .u8 0, .int .u8 0, .int .u8 0, .int .u8 0, .int .u8 0, .int .u8 0, .int .u8 0, .int .u8 0, .int .u8 0, .int .u8 0, .int .u8 0, .int .u8 0, .int .u8 0, .int .u8 0, .int .u8 0, .int .u8 0, .int .u8 0, .int .u8 0, .int .u8 0, .int .u8 0, .int .u8 0, .int .u8 0, .int .u8 0, .int .u8 0, .int .u8 0, .int .u8 0, .int .u8 0, .int .u8 0, .int .u8 0, .int .u8 0, .int .u8 0, .int .u8 0, .int .u8 0, .int .u8 0, .int .u8 0, .int .u8 0, .int .u8 0, .int .u8 0, .int .u8 0, .int .u8 0, .int .u8 0, .int .u8 0, .int .u8 0, .int .u8 0, .int .u8 0, .int .u8 0, .int .u8 0, .int .u8 0, .int .u8 0, .int .u8 0, .int .u8 0, .int .u8 0, .int .u8 0, .int .u8 0, .int .u8 0, .int .u8 0, .int .u8 0, .int .u8 0, .int .u8 0, .int .u8 0, .int .u8 0, .int .u8 0, .int .u8 0, .int .u8 0, .int .u8 0, .int .u8 0], 163⟩,
  Option.some ⟨.struct [(5, 0), (5, 1)], 2, 2, true, [(.int .u8), (.int .u8)], [.int .u8 0, .int .u8 0], 164⟩,
  Option.some ⟨.struct [(5, 0), (5, 1)], 2, 2, true, [(.int .u8), (.int .u8)], [.int .u8 0, .int .u8 0], 165⟩,
  Option.some ⟨.arr 16 165, 32, 32, true, [(.int .u8), (.int .u8), (.int .u8), (.int .u8), (.int .u8), (.int .u8), (.int .u8), (.int .u8), (.int .u8), (.int .u8), (.int .u8), (.int .u8), (.int .u8), (.int .u8), (.int .u8), (.int .u8), (.int .u8), (.int .u8), (.int .u8), (.int .u8), (.int .u8), (.int .u8), (.int .u8), (.int .u8), (.int .u8), (.int .u8), (.int .u8), (.int .u8), (.int .u8), (.int .u8), (.int .u8), (.int .u8)], [.int .u8 0, .int .u8 0, .int .u8 0, .int .u8 0, .int .u8 0, .int .u8 0, .int .u8 0, .int .u8 0, .int .u8 0, .int .u8 0, .int .u8 0, .int .u8 0, .int .u8 0, .int .u8 0, .int .u8 0, .int .u8 0, .int .u8 0, .int .u8 0, .int .u8 0, .int .u8 0, .int .u8 0, .int .u8 0, .int .u8 0, .int .u8 0, .int .u8 0, .int .u8 0, .int .u8 0, .int .u8 0, .int .u8 0, .int .u8 0, .int .u8 0, .int .u8 0], 166⟩,
  Option.some ⟨.other, 1, 8, false, [.any], [.nilFunc], 167⟩,
  Option.some ⟨.other, 1, 8, false, [.any], [.nilFunc], 168⟩,
  Option.some ⟨.arr 32 5, 32, 32, true, [(.int .u8), (.int .u8), (.int .u8), (.int .u8), (.int .u8), (.int .u8), (.int .u8), (.int .u8), (.int .u8), (.int .u8), (.int .u8), (.int .u8), (.int .u8), (.int .u8), (.int .u8), (.int .u8), (.int .u8), (.int .u8), (.int .u8), (.int .u8), (.int .u8), (.int .u8), (.int .u8), (.int .u8), (.int .u8), (.int .u8), (.int .u8), (.int .u8), (.int .u8), (.int .u8), (.int .u8), (.int .u8)], [.int .u8 0, .int .u8 0, .int .u8 0, .int .u8 0, .int .u8 0, .int .u8 0, .int .u8 0, .int .u8 0, .int .u8 0, .int .u8 0, .int .u8 0, .int .u8 0, .int .u8 0, .int .u8 0, .int .u8 0, .int .u8 0, .int .u8 0, .int .u8 0, .int .u8 0, .int .u8 0, .int .u8 0, .int .u8 0, .int .u8 0, .int .u8 0, .int .u8 0, .int .u8 0, .int .u8 0, .int .u8 0, .int .u8 0, .int .u8 0, .int .u8 0, .int .u8 0], 169⟩,
  Option.some ⟨.arr 64 5, 64, 64, true, [(.int .u8), (.int .u8), (.int .u8), (.int .u8), (.int .u8), (.int .u8), (.int .u8), (.int .u8), (.int .u8), (.int .u8), (.int .u8), (.int .u8), (.int .u8), (.int .u8), (.int .u8), (.int .u8), (.int .u8), (.int .u8), (.int .u8), (.int .u8), (.int .u8), (.int .u8), (.int .u8), (.int .u8), (.int .u8), (.int .u8), (.int .u8), (.int .u8), (.int .u8), (.int .u8), (.int .u8), (.int .u8), (.int .u8), (.int .u8), (.int .u8), (.int .u8), (.int .u8), (.int .u8), (.int .u8), (.int .u8), (.int .u8), (.int .u8), (.int .u8), (.int .u8), (.int .u8), (.int .u8), (.int .u8), (.int .u8), (.int .u8), (.int .u8), (.int .u8), (.int .u8), (.int .u8), (.int .u8), (.int .u8), (.int .u8), (.int .u8), (.int .u8), (.int .u8), (.int .u8), (.int .u8), (.int .u8), (.int .u8), (.int .u8)], [.int .u8 0, .int .u8 0, .int .u8 0, .int .u8 0, .int .u8 0, .int .u8 0, .int .u8 0, .int .u8 0, .int .u8 0, .int .u8 0, .int .u8 0, .int .u8 0, .int .u8 0, .int .u8 0, .int .u8 0, .int .u8 0, .int .u8 0, .int .u8 0, .int .u8 0, .int .u8 0, .int .u8 0, .int .u8 0, .int .u8 0, .int .u8 0, .int .u8 0, .int .u8 0, .int .u8 0, .int .u8 0, .int .u8 0, .int .u8 0, .int .u8 0, .int .u8 0, .int .u8 0, .int .u8 0, .int .u8 0, .int .u8 0, .int .u8 0, .int .u8 0, .int .u8 0, .int .u8 0, .int .u8 0, .int .u8 0, .int .u8 0, .int .u8 0, .int .u8 0, .int .u8 0, .int .u8 0, .int .u8 0, .int .u8 0, .int .u8 0, .int .u8 0, .int .u8 0, .int .u8 0, .int .u8 0, .int .u8 0, .int .u8 0, .int .u8 0, .int .u8 0, .int .u8 0, .int .u8 0, .int .u8 0, .int .u8 0, .int .u8 0, .int .u8 0], 170⟩,
  none,
  none,
  Option.some ⟨.arr 0 16, 0, 0, true, [], [], 173⟩,
  none,
  none,
  none,
  none,
  Option.some ⟨.other, 1, 8, false, [.any], [.nilFunc], 178⟩,
  none,
  none,
  none,
  none]
noncomputable def params (f : FuncId) : List TypeId := match f with | 0 => [] | 1 => [] | 2 => [] | 3 => [24, 9] | 4 => [24, 42, 9] | 5 => [] | 6 => [24] | 7 => [24] | 8 => [24] | 9 => [24] | 10 => [24] | 11 => [9] | 12 => [9] | 13 => [24, 24] | 14 => [42] | 15 => [42] | 16 => [9] | 17 => [24, 3, 42] | 18 => [24, 3] | 19 => [3, 3] | 20 => [24] | 21 => [24, 3] | 22 => [54, 9] | 23 => [3] | 24 => [3, 9, 4] | 25 => [54] | 26 => [22] | 27 => [24] | 28 => [24, 3] | 29 => [24, 3] | 30 => [3] | 31 => [9, 9] | 32 => [9, 9] | 33 => [9] | 34 => [9, 9] | 35 => [9, 3] | 36 => [9, 3] | 37 => [9] | 38 => [24, 3] | 39 => [9, 3] | 40 => [9] | 41 => [22, 22] | 42 => [3, 3, 3] | 43 => [42] | 44 => [42] | 45 => [9] | 46 => [24, 3] | 47 => [24, 3, 9] | 48 => [54] | 49 => [3] | 50 => [9] | 51 => [3, 3] | 52 => [9] | 53 => [9, 9] | 54 => [9, 9] | 55 => [9] | 56 => [9, 9, 3, 3, 60] | 57 => [9, 5] | 58 => [9, 5] | 59 => [9] | 60 => [9, 99] | 61 => [9, 99] | 62 => [9, 9] | 63 => [9, 9] | 64 => [100, 100] | 65 => [9, 9] | 66 => [54, 3] | 67 => [54] | 68 => [9, 9] | 69 => [9] | 70 => [9] | 71 => [5, 3] | 72 => [5] | 73 => [9, 3, 3] | 74 => [3, 3, 3] | 75 => [136] | 76 => [22] | 78 => [2, 3] | 79 => [54, 5] | 80 => [9, 9] | 81 => [9, 9] | 82 => [9, 3, 3] | 83 => [9, 9] | 84 => [9, 9] | 85 => [9, 9, 3] | 86 => [9, 9, 3] | 87 => [99, 5] | 88 => [9] | 89 => [9, 21] | 90 => [9] | 91 => [128, 128] | 92 => [131, 131] | 93 => [54, 3] | 94 => [9, 9, 3, 3] | 95 => [9, 5] | 96 => [5] | 97 => [1, 3] | 98 => [3] | 99 => [131] | 100 => [55, 131] | 101 => [55, 131, 3, 4, 4] | 102 => [9, 5] | 103 => [9, 9] | 104 => [3] | 105 => [9, 9] | 106 => [9, 3, 3] | 107 => [9] | 108 => [9] | 109 => [9] | 110 => [9, 21] | 111 => [5] | 112 => [3] | 113 => [9, 3] | 114 => [9, 9] | 115 => [9, 9] | 116 => [3] | 117 => [131] | 118 => [4] | 119 => [3] | 120 => [100] | 121 => [9, 5] | 122 => [9] | 123 => [5] | 124 => [9] | 125 => [21] | 126 => [9] | 127 => [9, 5] | 128 => [128] | 129 => [131] | 130 => [8] | 131 => [8] | 132 => [10] | 133 => [10] | 134 => [11] | 135 => [11] | 136 => [14] | 137 => [14] | 138 => [15] | 139 => [15] | 140 => [16] | 141 => [16] | 142 => [17] | 143 => [19] | 144 => [19] | 145 => [54] | 146 => [118] | 147 => [121] | 148 => [160] | 149 => [177] | 150 => [] | 151 => [] | 152 => [] | 153 => [] | 154 => [] | 155 => [] | 156 => [] | 157 => [] | 158 => [] | 159 => [] | _ => []
noncomputable def G : Cfg := ⟨fun t => (tabL[t]?).join, fun _ => none, params, 0⟩
noncomputable abbrev Gk (k : Nat) : Cfg := { G with kb := k }
theorem mixed : Tryz.prog.follows .mixedOrders = true := by kernel_rfl
/-- The variables that hold errors when a law is entered. -/
instance rooted : Rooted Tryz.prog := sents Tryz.prog ["strconv.ErrSyntax", "strconv.ErrRange"]
theorem tabL_len : tabL.length = 183 := by kernel_rfl
theorem tabG : G.tab = fun t => (tabL[t]?).join := rfl
theorem cfg : CfgOk Tryz.prog G := by
  refine cfgOk_of (n := 183) (fun t ht => ?_) (by kernel_rfl)
  have h : tabL[t]? = none := List.getElem?_eq_none (by rw [tabL_len]; exact ht)
  rw [tabG]
  simp only [h]
  rfl
end Go.Proofs.YtgmpnhfnkhohiaaGreatDoor.Ev

/- midrange/tagged.within, out of its evaluation. Printed by the session's own program. -/
namespace Go.Proofs.YtgmpnhfnkhohiaaGreatDoor.Ev
open Go Go.Proofs Go.Proofs.Ev
set_option linter.unusedVariables false
set_option maxRecDepth 100000
/-! midrange/tagged.within: function 74 -/
noncomputable def tagged_within.e {R : Type} (n : Nat)  (k : Bool → Option R) (a0 : Int) (a1 : Int) (a2 : Int) : Option R :=
  bif decide (a1 ≤ a0) then (k (decide (a0 ≤ a2))) else (k false)
noncomputable def tagged_within.C {R : Type} (n : Nat) (f : FuncId) (xs : List AV) : (AV → Option R) → Option R :=
  fun _ => none
theorem tagged_within.tells {R : Type} (n : Nat) : Tells (R := R) Tryz.prog (tagged_within.C n) := fun _ xs => Tells1.none
noncomputable def tagged_within.cut (r : Nat) : Option Keep := match r with  | _ => none
theorem tagged_within.e_eq {R : Type} (n : Nat) (rec : List Item → St → Option R) (K : AV → Option R) (a0 : Int) (a1 : Int) (a2 : Int) :
    goK G (tagged_within.C n) tagged_within.cut (fun S => finK G Tryz.f74.resultTypes.toList Tryz.f74.results.toList S K) rec 1000 [.code (Tryz.f74.body.getD .skip)] (Ev.start Tryz.f74 [vi a0, vi a1, vi a2]) = tagged_within.e n  (fun p => K (vb p)) a0 a1 a2 := by kernel_rfl
noncomputable def tagged_within.F (n : Nat) (a0 : Int) (a1 : Int) (a2 : Int) : Option (Bool) := tagged_within.e n  Option.some a0 a1 a2
noncomputable def tagged_within.dec (x : AV) : Option (Bool) := match x with | .v (.bool p0) => Option.some p0 | _ => none
theorem tagged_within.dec_inv {p : Bool} (y : AV) (h : tagged_within.dec y = some p) : y = vb p := by
  unfold tagged_within.dec at h
  split at h
  · cases h; rfl
  · cases h
theorem tagged_within.hands (n : Nat) (a0 : Int) (a1 : Int) (a2 : Int) {p : Bool} (h : tagged_within.F n a0 a1 a2 = some p) : HandsIn Tryz.prog 74 [vi a0, vi a1, vi a2] (vb p) := by
  refine hands_of cfg mixed (fun _ => rfl) rfl (tagged_within.tells n) (fn := Tryz.f74) Tryz.func74 (by kernel_rfl) (by kernel_rfl) (cut := tagged_within.cut) (K := tagged_within.dec) (r := p) (n := n) tagged_within.dec_inv ?_
  rw [funK_getD (by kernel_rfl)]
  have h1 := tagged_within.e_eq n (runK G (tagged_within.C n) tagged_within.cut (fun S => finK G Tryz.f74.resultTypes.toList Tryz.f74.results.toList S tagged_within.dec) n) tagged_within.dec a0 a1 a2
  exact h1.trans h
noncomputable def tagged_within.via {R : Type} (n : Nat) (xs : List AV) : (AV → Option R) → Option R := match xs with | [.v (.int .i64 a0), .v (.int .i64 a1), .v (.int .i64 a2)] => fun K => (tagged_within.F n a0 a1 a2).bind fun p => K (vb p) | _ => fun _ => none
theorem tagged_within.tells1 {R : Type} (n : Nat) (xs : List AV) : Tells1 (R := R) Tryz.prog 74 xs (tagged_within.via n xs) := by
  unfold tagged_within.via
  split
  · exact Tells1.of (fun p hp => (tagged_within.hands n _ _ _ hp).hands rfl)
  · exact Tells1.none
end Go.Proofs.YtgmpnhfnkhohiaaGreatDoor.Ev

/- midrange/tagged.CheckPointer, out of its evaluation. Printed by the session's own program. -/
namespace Go.Proofs.YtgmpnhfnkhohiaaGreatDoor.Ev
open Go Go.Proofs Go.Proofs.Ev
set_option linter.unusedVariables false
set_option maxRecDepth 100000
/-! midrange/tagged.CheckPointer: function 43 -/
noncomputable def tagged_CheckPointer.r6 {R : Type} (n : Nat) (c6 : Unit → Option R) (k : Int → Option R) (_ : Unit) : Option R :=
  k 3
noncomputable def tagged_CheckPointer.e {R : Type} (n : Nat) (c6 : Unit → Option R) (k : Int → Option R) (a0 : Int) (a1 : Int) (a2 : Int) (a3 : Int) : Option R :=
  (tagged_within.F n a0 0 2).bind fun p1 =>
  bif !p1 then (k 4) else ((tagged_within.F n a1 0 1099511627775).bind fun p2 =>
  bif !p2 then (c6 ()) else ((tagged_within.F n a2 0 16777215).bind fun p3 =>
  bif !p3 then (c6 ()) else ((tagged_within.F n a3 0 1023).bind fun p4 =>
  bif !p4 then (c6 ()) else (bif a3 != 0 then (bif a0 != 1 then (k 5) else (k 0)) else (k 0)))))
noncomputable def tagged_CheckPointer.C {R : Type} (n : Nat) (f : FuncId) (xs : List AV) : (AV → Option R) → Option R :=
  bif Nat.beq f 74 then tagged_within.via n xs else fun _ => none
theorem tagged_CheckPointer.tells {R : Type} (n : Nat) : Tells (R := R) Tryz.prog (tagged_CheckPointer.C n) := fun _ xs => tells_at (tagged_within.tells1 n xs) (Tells1.none)
noncomputable def tagged_CheckPointer.cut (r : Nat) : Option Keep := match r with | 6 => Option.some ⟨[], []⟩ | _ => none
noncomputable def tagged_CheckPointer.t6 : List Item := (todoOf 6 1000 [.code (Tryz.f43.body.getD .skip)]).getD []
noncomputable def tagged_CheckPointer.s6 (_ : Unit) : St := ⟨[.undef, .undef, .undef, .undef, .undef, .undef, .undef, .undef, .undef, .undef, .undef, .undef, .undef, .undef, .undef, .undef, .undef, .undef, .undef, .undef, .undef, .undef, .undef, .undef, .undef, .undef, .undef, .undef, .undef, .undef, .undef, .undef], Mem.ofList [], 0⟩
theorem tagged_CheckPointer.e_eq {R : Type} (n : Nat) (rec : List Item → St → Option R) (K : AV → Option R) (a0 : Int) (a1 : Int) (a2 : Int) (a3 : Int) :
    goK G (tagged_CheckPointer.C n) tagged_CheckPointer.cut (fun S => finK G Tryz.f43.resultTypes.toList Tryz.f43.results.toList S K) rec 1000 [.code (Tryz.f43.body.getD .skip)] (Ev.start Tryz.f43 [AV.agg [vi a0, vi a1, vi a2, vi a3]]) = tagged_CheckPointer.e n (fun _ => rec tagged_CheckPointer.t6 (tagged_CheckPointer.s6 ())) (fun p => K (vi p)) a0 a1 a2 a3 := by kernel_rfl
theorem tagged_CheckPointer.r6_eq {R : Type} (n : Nat) (rec : List Item → St → Option R) (K : AV → Option R) (_ : Unit) :
    atK G (tagged_CheckPointer.C n) tagged_CheckPointer.cut (fun S => finK G Tryz.f43.resultTypes.toList Tryz.f43.results.toList S K) rec tagged_CheckPointer.t6 (tagged_CheckPointer.s6 ()) = tagged_CheckPointer.r6 n (fun _ => rec tagged_CheckPointer.t6 (tagged_CheckPointer.s6 ())) (fun p => K (vi p)) () := by kernel_rfl
noncomputable def tagged_CheckPointer.l (n : Nat) : Nat → (Unit → Option (Int))
  | 0 => (fun _ => none)
  | m + 1 => tagged_CheckPointer.r6 n (tagged_CheckPointer.l n m) Option.some
noncomputable def tagged_CheckPointer.F (n : Nat) (a0 : Int) (a1 : Int) (a2 : Int) (a3 : Int) : Option (Int) := tagged_CheckPointer.e n (tagged_CheckPointer.l n n) Option.some a0 a1 a2 a3
noncomputable def tagged_CheckPointer.dec (x : AV) : Option (Int) := match x with | .v (.int .i64 p0) => Option.some p0 | _ => none
theorem tagged_CheckPointer.dec_inv {p : Int} (y : AV) (h : tagged_CheckPointer.dec y = some p) : y = vi p := by
  unfold tagged_CheckPointer.dec at h
  split at h
  · cases h; rfl
  · cases h
theorem tagged_CheckPointer.l_eq (n m : Nat) : (∀ z : Unit, runK G (tagged_CheckPointer.C n) tagged_CheckPointer.cut (fun S => finK G Tryz.f43.resultTypes.toList Tryz.f43.results.toList S tagged_CheckPointer.dec) m tagged_CheckPointer.t6 (tagged_CheckPointer.s6 z) = (tagged_CheckPointer.l n m) z) := by
  induction m with
  | zero => exact fun _ => rfl
  | succ m ih =>
    have h6 := ih
    have e6 : (fun (_ : Unit) => runK G (tagged_CheckPointer.C n) tagged_CheckPointer.cut (fun S => finK G Tryz.f43.resultTypes.toList Tryz.f43.results.toList S tagged_CheckPointer.dec) m tagged_CheckPointer.t6 (tagged_CheckPointer.s6 ())) = (tagged_CheckPointer.l n m) := by funext z; exact h6 z
    have q6 : ∀ z : Unit, runK G (tagged_CheckPointer.C n) tagged_CheckPointer.cut (fun S => finK G Tryz.f43.resultTypes.toList Tryz.f43.results.toList S tagged_CheckPointer.dec) (m + 1) tagged_CheckPointer.t6 (tagged_CheckPointer.s6 z) = (tagged_CheckPointer.l n (m + 1)) z := by
      intro z
      rw [runK_succ]
      refine (tagged_CheckPointer.r6_eq n _ tagged_CheckPointer.dec ()).trans ?_
      rw [e6]
      rfl
    exact q6
theorem tagged_CheckPointer.hands (n : Nat) (a0 : Int) (a1 : Int) (a2 : Int) (a3 : Int) {p : Int} (h : tagged_CheckPointer.F n a0 a1 a2 a3 = some p) : HandsIn Tryz.prog 43 [AV.agg [vi a0, vi a1, vi a2, vi a3]] (vi p) := by
  refine hands_of cfg mixed (fun _ => rfl) rfl (tagged_CheckPointer.tells n) (fn := Tryz.f43) Tryz.func43 (by kernel_rfl) (by kernel_rfl) (cut := tagged_CheckPointer.cut) (K := tagged_CheckPointer.dec) (r := p) (n := n) tagged_CheckPointer.dec_inv ?_
  rw [funK_getD (by kernel_rfl)]
  have h1 := tagged_CheckPointer.e_eq n (runK G (tagged_CheckPointer.C n) tagged_CheckPointer.cut (fun S => finK G Tryz.f43.resultTypes.toList Tryz.f43.results.toList S tagged_CheckPointer.dec) n) tagged_CheckPointer.dec a0 a1 a2 a3
  have hl := tagged_CheckPointer.l_eq n n
  simp only [hl] at h1
  exact h1.trans h
noncomputable def tagged_CheckPointer.via {R : Type} (n : Nat) (xs : List AV) : (AV → Option R) → Option R := match xs with | [.agg [.v (.int .i64 a0), .v (.int .i64 a1), .v (.int .i64 a2), .v (.int .i64 a3)]] => fun K => (tagged_CheckPointer.F n a0 a1 a2 a3).bind fun p => K (vi p) | _ => fun _ => none
theorem tagged_CheckPointer.tells1 {R : Type} (n : Nat) (xs : List AV) : Tells1 (R := R) Tryz.prog 43 xs (tagged_CheckPointer.via n xs) := by
  unfold tagged_CheckPointer.via
  split
  · exact Tells1.of (fun p hp => (tagged_CheckPointer.hands n _ _ _ _ hp).hands rfl)
  · exact Tells1.none
end Go.Proofs.YtgmpnhfnkhohiaaGreatDoor.Ev

/- midrange/tagged.big, out of its evaluation. Printed by the session's own program. -/
namespace Go.Proofs.YtgmpnhfnkhohiaaGreatDoor.Ev
open Go Go.Proofs Go.Proofs.Ev
set_option linter.unusedVariables false
set_option maxRecDepth 100000
/-! midrange/tagged.big: function 51 -/
noncomputable def tagged_big.r3 {R : Type} (n : Nat) (c3 : Int → Int → Int → Int → List AV → Option R) (k : List AV → Option R) (z1 : Int) (z2 : Int) (z3 : Int) (z4 : Int) (z5 : List AV) : Option R :=
  bif decide (z4 < z3) then (let y2 : Int := IntKind.i64.wrap ((IntKind.i64.wrap (z2 - 1)) - z4)
  let y3 : Int := IntKind.i64.wrap ((8 : Int) * z4)
  bif decide ((0 : Int) ≤ y3) then (let y4 : Int := Int.fdiv z1 (2 ^ min (y3 : Int).toNat 64)
  bif decide ((0 : Int) ≤ y2) && decide (y2 < ((z5.length : Nat) : Int)) then (let y5 : List AV := z5.set ((y2).toNat) (vu (IntKind.u8.wrap y4))
  c3 z1 z2 z3 (IntKind.i64.wrap (z4 + 1)) y5) else none) else none) else (k z5)
noncomputable def tagged_big.e {R : Type} (n : Nat) (c3 : Int → Int → Int → Int → List AV → Option R) (k : List AV → Option R) (a0 : Int) (a1 : Int) : Option R :=
  bif (decide ((0 : Int) ≤ a1) && decide ((a1 : Int) ≤ most)) && decide ((a1 : Int) = a1) && true && true then (let y1 : List AV := List.replicate (a1).toNat (vu 0)
  c3 a0 a1 ((y1.length : Nat) : Int) 0 y1) else none
noncomputable def tagged_big.C {R : Type} (n : Nat) (f : FuncId) (xs : List AV) : (AV → Option R) → Option R :=
  fun _ => none
theorem tagged_big.tells {R : Type} (n : Nat) : Tells (R := R) Tryz.prog (tagged_big.C n) := fun _ xs => Tells1.none
noncomputable def tagged_big.cut (r : Nat) : Option Keep := match r with | 3 => Option.some ⟨[0, 1, 5, 10, 11], []⟩ | _ => none
noncomputable def tagged_big.t3 : List Item := (todoOf 3 1000 [.code (Tryz.f51.body.getD .skip)]).getD []
noncomputable def tagged_big.s3 (z1 : Int) (z2 : Int) (z3 : Int) (z4 : Int) (z5 : List AV) : St := ⟨[vi z1, vi z2, .undef, .undef, .undef, .own 0 0 none, .undef, .undef, .undef, .undef, vi z3, vi z4, .undef, .undef, .undef, .undef, .undef, .undef, .undef, .undef, .undef, .undef, .undef, .undef, .undef, .undef, .undef], Mem.ofList [.row ⟨true, 5⟩ 1 z5], 1⟩
theorem tagged_big.e_eq {R : Type} (n : Nat) (rec : List Item → St → Option R) (K : AV → Option R) (a0 : Int) (a1 : Int) :
    goK G (tagged_big.C n) tagged_big.cut (fun S => finK G Tryz.f51.resultTypes.toList Tryz.f51.results.toList S K) rec 1000 [.code (Tryz.f51.body.getD .skip)] (Ev.start Tryz.f51 [vi a0, vi a1]) = tagged_big.e n (fun z1 z2 z3 z4 z5 => rec tagged_big.t3 (tagged_big.s3 z1 z2 z3 z4 z5)) (fun p => K (.fr ⟨true, 5⟩ 1 p)) a0 a1 := by kernel_rfl
theorem tagged_big.r3_eq {R : Type} (n : Nat) (rec : List Item → St → Option R) (K : AV → Option R) (z1 : Int) (z2 : Int) (z3 : Int) (z4 : Int) (z5 : List AV) :
    atK G (tagged_big.C n) tagged_big.cut (fun S => finK G Tryz.f51.resultTypes.toList Tryz.f51.results.toList S K) rec tagged_big.t3 (tagged_big.s3 z1 z2 z3 z4 z5) = tagged_big.r3 n (fun z1 z2 z3 z4 z5 => rec tagged_big.t3 (tagged_big.s3 z1 z2 z3 z4 z5)) (fun p => K (.fr ⟨true, 5⟩ 1 p)) z1 z2 z3 z4 z5 := by kernel_rfl
noncomputable def tagged_big.l (n : Nat) : Nat → (Int → Int → Int → Int → List AV → Option (List AV))
  | 0 => (fun _ _ _ _ _ => none)
  | m + 1 => tagged_big.r3 n (tagged_big.l n m) Option.some
noncomputable def tagged_big.F (n : Nat) (a0 : Int) (a1 : Int) : Option (List AV) := tagged_big.e n (tagged_big.l n n) Option.some a0 a1
noncomputable def tagged_big.dec (x : AV) : Option (List AV) := match x with | .fr ⟨true, 5⟩ 1 p0 => Option.some p0 | _ => none
theorem tagged_big.dec_inv {p : List AV} (y : AV) (h : tagged_big.dec y = some p) : y = .fr ⟨true, 5⟩ 1 p := by
  unfold tagged_big.dec at h
  split at h
  · cases h; rfl
  · cases h
theorem tagged_big.l_eq (n m : Nat) : (∀ (z1 : Int) (z2 : Int) (z3 : Int) (z4 : Int) (z5 : List AV), runK G (tagged_big.C n) tagged_big.cut (fun S => finK G Tryz.f51.resultTypes.toList Tryz.f51.results.toList S tagged_big.dec) m tagged_big.t3 (tagged_big.s3 z1 z2 z3 z4 z5) = (tagged_big.l n m) z1 z2 z3 z4 z5) := by
  induction m with
  | zero => exact fun z1 z2 z3 z4 z5 => rfl
  | succ m ih =>
    have h3 := ih
    have e3 : (fun (z1 : Int) (z2 : Int) (z3 : Int) (z4 : Int) (z5 : List AV) => runK G (tagged_big.C n) tagged_big.cut (fun S => finK G Tryz.f51.resultTypes.toList Tryz.f51.results.toList S tagged_big.dec) m tagged_big.t3 (tagged_big.s3 z1 z2 z3 z4 z5)) = (tagged_big.l n m) := by funext z1 z2 z3 z4 z5; exact h3 z1 z2 z3 z4 z5
    have q3 : ∀ (z1 : Int) (z2 : Int) (z3 : Int) (z4 : Int) (z5 : List AV), runK G (tagged_big.C n) tagged_big.cut (fun S => finK G Tryz.f51.resultTypes.toList Tryz.f51.results.toList S tagged_big.dec) (m + 1) tagged_big.t3 (tagged_big.s3 z1 z2 z3 z4 z5) = (tagged_big.l n (m + 1)) z1 z2 z3 z4 z5 := by
      intro z1 z2 z3 z4 z5
      rw [runK_succ]
      refine (tagged_big.r3_eq n _ tagged_big.dec z1 z2 z3 z4 z5).trans ?_
      rw [e3]
      rfl
    exact q3
theorem tagged_big.hands (n : Nat) (a0 : Int) (a1 : Int) {p : List AV} (h : tagged_big.F n a0 a1 = some p) : HandsIn Tryz.prog 51 [vi a0, vi a1] (.fr ⟨true, 5⟩ 1 p) := by
  refine hands_of cfg mixed (fun _ => rfl) rfl (tagged_big.tells n) (fn := Tryz.f51) Tryz.func51 (by kernel_rfl) (by kernel_rfl) (cut := tagged_big.cut) (K := tagged_big.dec) (r := p) (n := n) tagged_big.dec_inv ?_
  rw [funK_getD (by kernel_rfl)]
  have h1 := tagged_big.e_eq n (runK G (tagged_big.C n) tagged_big.cut (fun S => finK G Tryz.f51.resultTypes.toList Tryz.f51.results.toList S tagged_big.dec) n) tagged_big.dec a0 a1
  have hl := tagged_big.l_eq n n
  simp only [hl] at h1
  exact h1.trans h
noncomputable def tagged_big.via {R : Type} (n : Nat) (xs : List AV) : (AV → Option R) → Option R := match xs with | [.v (.int .i64 a0), .v (.int .i64 a1)] => fun K => (tagged_big.F n a0 a1).bind fun p => K (.fr ⟨true, 5⟩ 1 p) | _ => fun _ => none
theorem tagged_big.tells1 {R : Type} (n : Nat) (xs : List AV) : Tells1 (R := R) Tryz.prog 51 xs (tagged_big.via n xs) := by
  unfold tagged_big.via
  split
  · exact Tells1.of (fun p hp => (tagged_big.hands n _ _ hp).hands rfl)
  · exact Tells1.none
end Go.Proofs.YtgmpnhfnkhohiaaGreatDoor.Ev

/-
  DERIVED: THE SHELF's CONTRACTS AT THIS DUMP, IN PLAIN WORDS (tools/lay-plain.mjs out of 'YtgmpnhfnkhohiaaGreatDoorL.lean', which tools/lay-shelf.mjs wrote): THE SAME DECLARATIONS UNDER THE SAME NAMES: 'import', 'namespace', 'open', 'def', 'theorem' AND NOTHING ELSE: no command of the shelf's: FOR A HAND-IN. Each laying: the table of numbers ('.._ren') and one theorem, a field a fact of the dump's own or the kernel's comparison; each contract: ONE APPLICATION.
-/
namespace Go.Proofs
open Go.Shelf
def Tryz.lay76_ren : Go.Shelf.Ren := ⟨fun | 41 => 76 | n => n, fun | 22 => 22 | 23 => 4 | 4 => 4 | n => n, fun | n => n⟩
theorem Tryz.lay76 : Go.Proofs.SlLaysE0.n41 Tryz.prog Tryz.lay76_ren := {
  mixed := by kernel_rfl
  f41 := ⟨Tryz.f76.name, by decide, Tryz.func76.trans (congrArg some (by kernel_rfl))⟩
  t4 := Tryz.underlying4
  a4 := Tryz.isAgg4
  z4 := Tryz.sizeOf4
  v4 := Tryz.zeroValue4
  t22 := Tryz.underlying22
  a22 := Tryz.isAgg22
  z22 := Tryz.sizeOf22
  v22 := Tryz.zeroValue22 }
def Tryz.lay97_ren : Go.Shelf.Ren := ⟨fun | 4 => 97 | n => n, fun | 22 => 55 | 25 => 5 | 3 => 3 | 4 => 4 | 9 => 9 | 20 => 20 | 0 => 0 | n => n, fun | n => n⟩
theorem Tryz.lay97 : Go.Proofs.Lays8.n4 Tryz.prog Tryz.lay97_ren := {
  mixed := by kernel_rfl
  f4 := ⟨Tryz.f97.name, by decide, Tryz.func97.trans (congrArg some (by kernel_rfl))⟩
  t0 := Tryz.underlying0
  a0 := Tryz.isAgg0
  z0 := Tryz.sizeOf0
  v0 := Tryz.zeroValue0
  t3 := Tryz.underlying3
  a3 := Tryz.isAgg3
  z3 := Tryz.sizeOf3
  v3 := Tryz.zeroValue3
  t4 := Tryz.underlying4
  a4 := Tryz.isAgg4
  z4 := Tryz.sizeOf4
  v4 := Tryz.zeroValue4
  t9 := Tryz.underlying9
  a9 := Tryz.isAgg9
  z9 := Tryz.sizeOf9
  v9 := Tryz.zeroValue9
  t20 := Tryz.underlying20
  a20 := Tryz.isAgg20
  z20 := Tryz.sizeOf20
  v20 := Tryz.zeroValue20
  t22 := Tryz.underlying55
  a22 := Tryz.isAgg55
  z22 := Tryz.sizeOf55
  v22 := Tryz.zeroValue55 }
end Go.Proofs

/- slices.Grow[[]byte,byte], out of the library's contract. Printed by the session's own program. -/
namespace Go.Proofs.YtgmpnhfnkhohiaaGreatDoor.Ev
open Go Go.Proofs Go.Proofs.Ev
set_option linter.unusedVariables false
set_option maxRecDepth 100000
noncomputable def slices_Grow_byte_byte.F (n : Nat) (k : Int) : Option (List AV) := bif decide (0 ≤ k) && decide (k ≤ most) then Option.some [] else none
theorem slices_Grow_byte_byte.hands (n : Nat) (k : Int) {p : List AV} (h : slices_Grow_byte_byte.F n k = some p) : HandsIn Tryz.prog 97 [.v (.slice none 0 0), .v (.int .i64 k)] (.fr ⟨true, 5⟩ 1 p) := by
  unfold slices_Grow_byte_byte.F at h
  cases hc : (decide (0 ≤ k) && decide (k ≤ (most : Int))) with
  | false => rw [hc] at h; cases h
  | true =>
    rw [hc] at h
    cases h
    rw [Bool.and_eq_true] at hc
    have h1 := of_decide_eq_true hc.1
    have h2 := of_decide_eq_true hc.2
    obtain ⟨j, rfl⟩ := Int.eq_ofNat_of_zero_le h1
    exact grow_hands (G := G) Tryz.lay97 cfg (ei := ⟨.int .u8, 1, 1, false, [(.int .u8)], [.int .u8 0], 5⟩) rfl (by decide) (by decide) (by rfl) (fn := Tryz.f97) Tryz.func97 (by kernel_rfl) (by kernel_rfl) j (by omega)
noncomputable def slices_Grow_byte_byte.via {R : Type} (n : Nat) (ys : List AV) : (AV → Option R) → Option R := match ys with | [.v (.slice none 0 0), .v (.int .i64 k)] => fun K => (slices_Grow_byte_byte.F n k).bind fun p => K (.fr ⟨true, 5⟩ 1 p) | _ => fun _ => none
theorem slices_Grow_byte_byte.tells1 {R : Type} (n : Nat) (ys : List AV) : Tells1 (R := R) Tryz.prog 97 ys (slices_Grow_byte_byte.via n ys) := by
  unfold slices_Grow_byte_byte.via
  split
  · exact Tells1.of (fun p hp => (slices_Grow_byte_byte.hands n _ hp).hands rfl)
  · exact Tells1.none
end Go.Proofs.YtgmpnhfnkhohiaaGreatDoor.Ev

/- slices.Concat[[]byte,byte], out of its evaluation. Printed by the session's own program. -/
namespace Go.Proofs.YtgmpnhfnkhohiaaGreatDoor.Ev
open Go Go.Proofs Go.Proofs.Ev
set_option linter.unusedVariables false
set_option maxRecDepth 100000
/-! slices.Concat[[]byte,byte]: function 75 -/
noncomputable def slices_Concat_byte_byte.r3 {R : Type} (n : Nat) (c3 : List AV → Int → List AV → Int → Int → Option R) (c11 : List AV → Int → Int → List AV → Option R) (k : List AV → Option R) (z1 : List AV) (z2 : Int) (z3 : List AV) (z4 : Int) (z5 : Int) : Option R :=
  bif decide (z5 < z4) then (bif decide ((0 : Int) ≤ z5) && decide (z5 < ((z3.length : Nat) : Int)) then (withCons ((z3.getD ((z5).toNat) .undef).cells) fun h1 r2 =>
  withSl ⟨true, 5⟩ 1 h1 fun xs3 =>
  let y4 : Int := IntKind.i64.wrap (z2 + ((xs3.length : Nat) : Int))
  bif decide (y4 < 0) then (none) else (c3 z1 y4 z3 z4 (IntKind.i64.wrap (z5 + 1)))) else none) else ((slices_Grow_byte_byte.F n z2).bind fun p5 =>
  c11 z1 ((z1.length : Nat) : Int) 0 p5)
noncomputable def slices_Concat_byte_byte.r11 {R : Type} (n : Nat) (c3 : List AV → Int → List AV → Int → Int → Option R) (c11 : List AV → Int → Int → List AV → Option R) (k : List AV → Option R) (z1 : List AV) (z2 : Int) (z3 : Int) (z4 : List AV) : Option R :=
  bif decide (z3 < z2) then (bif decide ((0 : Int) ≤ z3) && decide (z3 < ((z1.length : Nat) : Int)) then (withCons ((z1.getD ((z3).toNat) .undef).cells) fun h6 r7 =>
  withSl ⟨true, 5⟩ 1 h6 fun xs8 =>
  bif decide (z4.length + xs8.length ≤ most) then (c11 z1 z2 (IntKind.i64.wrap (z3 + 1)) (z4 ++ xs8)) else none) else none) else (k z4)
noncomputable def slices_Concat_byte_byte.e {R : Type} (n : Nat) (c3 : List AV → Int → List AV → Int → Int → Option R) (c11 : List AV → Int → Int → List AV → Option R) (k : List AV → Option R) (a0 : List AV) : Option R :=
  c3 a0 0 a0 ((a0.length : Nat) : Int) 0
noncomputable def slices_Concat_byte_byte.C {R : Type} (n : Nat) (f : FuncId) (xs : List AV) : (AV → Option R) → Option R :=
  bif Nat.beq f 97 then slices_Grow_byte_byte.via n xs else fun _ => none
theorem slices_Concat_byte_byte.tells {R : Type} (n : Nat) : Tells (R := R) Tryz.prog (slices_Concat_byte_byte.C n) := fun _ xs => tells_at (slices_Grow_byte_byte.tells1 n xs) (Tells1.none)
noncomputable def slices_Concat_byte_byte.cut (r : Nat) : Option Keep := match r with | 3 => Option.some ⟨[0, 3, 9, 10, 11], []⟩ | 11 => Option.some ⟨[6, 25, 26, 27], []⟩ | _ => none
noncomputable def slices_Concat_byte_byte.t3 : List Item := (todoOf 3 1000 [.code (Tryz.f75.body.getD .skip)]).getD []
noncomputable def slices_Concat_byte_byte.s3 (z1 : List AV) (z2 : Int) (z3 : List AV) (z4 : Int) (z5 : Int) : St := ⟨[.sl ⟨false, 55⟩ 1 z1, .undef, .undef, vi z2, .undef, .undef, .undef, .undef, .undef, .sl ⟨false, 55⟩ 1 z3, vi z4, vi z5, .undef, .undef, .undef, .undef, .undef, .undef, .undef, .undef, .undef, .undef, .undef, .undef, .undef, .undef, .undef, .undef, .undef, .undef, .undef, .undef, .undef, .undef, .undef, .undef], Mem.ofList [], 0⟩
noncomputable def slices_Concat_byte_byte.t11 : List Item := (todoOf 11 1000 [.code (Tryz.f75.body.getD .skip)]).getD []
noncomputable def slices_Concat_byte_byte.s11 (z1 : List AV) (z2 : Int) (z3 : Int) (z4 : List AV) : St := ⟨[.undef, .undef, .undef, .undef, .undef, .undef, .own 0 0 none, .undef, .undef, .undef, .undef, .undef, .undef, .undef, .undef, .undef, .undef, .undef, .undef, .undef, .undef, .undef, .undef, .undef, .undef, .sl ⟨false, 55⟩ 1 z1, vi z2, vi z3, .undef, .undef, .undef, .undef, .undef, .undef, .undef, .undef], Mem.ofList [.row ⟨true, 5⟩ 1 z4], 1⟩
theorem slices_Concat_byte_byte.e_eq {R : Type} (n : Nat) (rec : List Item → St → Option R) (K : AV → Option R) (a0 : List AV) :
    goK G (slices_Concat_byte_byte.C n) slices_Concat_byte_byte.cut (fun S => finK G Tryz.f75.resultTypes.toList Tryz.f75.results.toList S K) rec 1000 [.code (Tryz.f75.body.getD .skip)] (Ev.start Tryz.f75 [.sl ⟨false, 55⟩ 1 a0]) = slices_Concat_byte_byte.e n (fun z1 z2 z3 z4 z5 => rec slices_Concat_byte_byte.t3 (slices_Concat_byte_byte.s3 z1 z2 z3 z4 z5)) (fun z1 z2 z3 z4 => rec slices_Concat_byte_byte.t11 (slices_Concat_byte_byte.s11 z1 z2 z3 z4)) (fun p => K (.fr ⟨true, 5⟩ 1 p)) a0 := by kernel_rfl
theorem slices_Concat_byte_byte.r3_eq {R : Type} (n : Nat) (rec : List Item → St → Option R) (K : AV → Option R) (z1 : List AV) (z2 : Int) (z3 : List AV) (z4 : Int) (z5 : Int) :
    atK G (slices_Concat_byte_byte.C n) slices_Concat_byte_byte.cut (fun S => finK G Tryz.f75.resultTypes.toList Tryz.f75.results.toList S K) rec slices_Concat_byte_byte.t3 (slices_Concat_byte_byte.s3 z1 z2 z3 z4 z5) = slices_Concat_byte_byte.r3 n (fun z1 z2 z3 z4 z5 => rec slices_Concat_byte_byte.t3 (slices_Concat_byte_byte.s3 z1 z2 z3 z4 z5)) (fun z1 z2 z3 z4 => rec slices_Concat_byte_byte.t11 (slices_Concat_byte_byte.s11 z1 z2 z3 z4)) (fun p => K (.fr ⟨true, 5⟩ 1 p)) z1 z2 z3 z4 z5 := by kernel_rfl
theorem slices_Concat_byte_byte.r11_eq {R : Type} (n : Nat) (rec : List Item → St → Option R) (K : AV → Option R) (z1 : List AV) (z2 : Int) (z3 : Int) (z4 : List AV) :
    atK G (slices_Concat_byte_byte.C n) slices_Concat_byte_byte.cut (fun S => finK G Tryz.f75.resultTypes.toList Tryz.f75.results.toList S K) rec slices_Concat_byte_byte.t11 (slices_Concat_byte_byte.s11 z1 z2 z3 z4) = slices_Concat_byte_byte.r11 n (fun z1 z2 z3 z4 z5 => rec slices_Concat_byte_byte.t3 (slices_Concat_byte_byte.s3 z1 z2 z3 z4 z5)) (fun z1 z2 z3 z4 => rec slices_Concat_byte_byte.t11 (slices_Concat_byte_byte.s11 z1 z2 z3 z4)) (fun p => K (.fr ⟨true, 5⟩ 1 p)) z1 z2 z3 z4 := by kernel_rfl
noncomputable def slices_Concat_byte_byte.l (n : Nat) : Nat → (List AV → Int → List AV → Int → Int → Option (List AV)) × (List AV → Int → Int → List AV → Option (List AV))
  | 0 => ((fun _ _ _ _ _ => none), (fun _ _ _ _ => none))
  | m + 1 => (slices_Concat_byte_byte.r3 n ((slices_Concat_byte_byte.l n m).1) ((slices_Concat_byte_byte.l n m).2) Option.some, slices_Concat_byte_byte.r11 n ((slices_Concat_byte_byte.l n m).1) ((slices_Concat_byte_byte.l n m).2) Option.some)
noncomputable def slices_Concat_byte_byte.F (n : Nat) (a0 : List AV) : Option (List AV) := slices_Concat_byte_byte.e n ((slices_Concat_byte_byte.l n n).1) ((slices_Concat_byte_byte.l n n).2) Option.some a0
noncomputable def slices_Concat_byte_byte.dec (x : AV) : Option (List AV) := match x with | .fr ⟨true, 5⟩ 1 p0 => Option.some p0 | _ => none
theorem slices_Concat_byte_byte.dec_inv {p : List AV} (y : AV) (h : slices_Concat_byte_byte.dec y = some p) : y = .fr ⟨true, 5⟩ 1 p := by
  unfold slices_Concat_byte_byte.dec at h
  split at h
  · cases h; rfl
  · cases h
theorem slices_Concat_byte_byte.l_eq (n m : Nat) : (∀ (z1 : List AV) (z2 : Int) (z3 : List AV) (z4 : Int) (z5 : Int), runK G (slices_Concat_byte_byte.C n) slices_Concat_byte_byte.cut (fun S => finK G Tryz.f75.resultTypes.toList Tryz.f75.results.toList S slices_Concat_byte_byte.dec) m slices_Concat_byte_byte.t3 (slices_Concat_byte_byte.s3 z1 z2 z3 z4 z5) = ((slices_Concat_byte_byte.l n m).1) z1 z2 z3 z4 z5) ∧ (∀ (z1 : List AV) (z2 : Int) (z3 : Int) (z4 : List AV), runK G (slices_Concat_byte_byte.C n) slices_Concat_byte_byte.cut (fun S => finK G Tryz.f75.resultTypes.toList Tryz.f75.results.toList S slices_Concat_byte_byte.dec) m slices_Concat_byte_byte.t11 (slices_Concat_byte_byte.s11 z1 z2 z3 z4) = ((slices_Concat_byte_byte.l n m).2) z1 z2 z3 z4) := by
  induction m with
  | zero => exact ⟨fun z1 z2 z3 z4 z5 => rfl, fun z1 z2 z3 z4 => rfl⟩
  | succ m ih =>
    obtain ⟨h3, h11⟩ := ih
    have e3 : (fun (z1 : List AV) (z2 : Int) (z3 : List AV) (z4 : Int) (z5 : Int) => runK G (slices_Concat_byte_byte.C n) slices_Concat_byte_byte.cut (fun S => finK G Tryz.f75.resultTypes.toList Tryz.f75.results.toList S slices_Concat_byte_byte.dec) m slices_Concat_byte_byte.t3 (slices_Concat_byte_byte.s3 z1 z2 z3 z4 z5)) = (slices_Concat_byte_byte.l n m).1 := by funext z1 z2 z3 z4 z5; exact h3 z1 z2 z3 z4 z5
    have e11 : (fun (z1 : List AV) (z2 : Int) (z3 : Int) (z4 : List AV) => runK G (slices_Concat_byte_byte.C n) slices_Concat_byte_byte.cut (fun S => finK G Tryz.f75.resultTypes.toList Tryz.f75.results.toList S slices_Concat_byte_byte.dec) m slices_Concat_byte_byte.t11 (slices_Concat_byte_byte.s11 z1 z2 z3 z4)) = (slices_Concat_byte_byte.l n m).2 := by funext z1 z2 z3 z4; exact h11 z1 z2 z3 z4
    have q3 : ∀ (z1 : List AV) (z2 : Int) (z3 : List AV) (z4 : Int) (z5 : Int), runK G (slices_Concat_byte_byte.C n) slices_Concat_byte_byte.cut (fun S => finK G Tryz.f75.resultTypes.toList Tryz.f75.results.toList S slices_Concat_byte_byte.dec) (m + 1) slices_Concat_byte_byte.t3 (slices_Concat_byte_byte.s3 z1 z2 z3 z4 z5) = ((slices_Concat_byte_byte.l n (m + 1)).1) z1 z2 z3 z4 z5 := by
      intro z1 z2 z3 z4 z5
      rw [runK_succ]
      refine (slices_Concat_byte_byte.r3_eq n _ slices_Concat_byte_byte.dec z1 z2 z3 z4 z5).trans ?_
      rw [e3, e11]
      rfl
    have q11 : ∀ (z1 : List AV) (z2 : Int) (z3 : Int) (z4 : List AV), runK G (slices_Concat_byte_byte.C n) slices_Concat_byte_byte.cut (fun S => finK G Tryz.f75.resultTypes.toList Tryz.f75.results.toList S slices_Concat_byte_byte.dec) (m + 1) slices_Concat_byte_byte.t11 (slices_Concat_byte_byte.s11 z1 z2 z3 z4) = ((slices_Concat_byte_byte.l n (m + 1)).2) z1 z2 z3 z4 := by
      intro z1 z2 z3 z4
      rw [runK_succ]
      refine (slices_Concat_byte_byte.r11_eq n _ slices_Concat_byte_byte.dec z1 z2 z3 z4).trans ?_
      rw [e3, e11]
      rfl
    exact ⟨q3, q11⟩
theorem slices_Concat_byte_byte.hands (n : Nat) (a0 : List AV) {p : List AV} (h : slices_Concat_byte_byte.F n a0 = some p) : HandsIn Tryz.prog 75 [.sl ⟨false, 55⟩ 1 a0] (.fr ⟨true, 5⟩ 1 p) := by
  refine hands_of cfg mixed (fun _ => rfl) rfl (slices_Concat_byte_byte.tells n) (fn := Tryz.f75) Tryz.func75 (by kernel_rfl) (by kernel_rfl) (cut := slices_Concat_byte_byte.cut) (K := slices_Concat_byte_byte.dec) (r := p) (n := n) slices_Concat_byte_byte.dec_inv ?_
  rw [funK_getD (by kernel_rfl)]
  have h1 := slices_Concat_byte_byte.e_eq n (runK G (slices_Concat_byte_byte.C n) slices_Concat_byte_byte.cut (fun S => finK G Tryz.f75.resultTypes.toList Tryz.f75.results.toList S slices_Concat_byte_byte.dec) n) slices_Concat_byte_byte.dec a0
  have hl := slices_Concat_byte_byte.l_eq n n
  simp only [hl.1, hl.2] at h1
  exact h1.trans h
noncomputable def slices_Concat_byte_byte.via {R : Type} (n : Nat) (xs : List AV) : (AV → Option R) → Option R := match xs with | [.sl ⟨false, 55⟩ 1 a0] => fun K => (slices_Concat_byte_byte.F n a0).bind fun p => K (.fr ⟨true, 5⟩ 1 p) | _ => fun _ => none
theorem slices_Concat_byte_byte.tells1 {R : Type} (n : Nat) (xs : List AV) : Tells1 (R := R) Tryz.prog 75 xs (slices_Concat_byte_byte.via n xs) := by
  unfold slices_Concat_byte_byte.via
  split
  · exact Tells1.of (fun p hp => (slices_Concat_byte_byte.hands n _ hp).hands rfl)
  · exact Tells1.none
end Go.Proofs.YtgmpnhfnkhohiaaGreatDoor.Ev

/- midrange/tagged.encoded, out of its evaluation. Printed by the session's own program. -/
namespace Go.Proofs.YtgmpnhfnkhohiaaGreatDoor.Ev
open Go Go.Proofs Go.Proofs.Ev
set_option linter.unusedVariables false
set_option maxRecDepth 100000
/-! midrange/tagged.encoded: function 44 -/
noncomputable def tagged_encoded.e {R : Type} (n : Nat)  (k : ByteArray → Option R) (a0 : Int) (a1 : Int) (a2 : Int) (a3 : Int) : Option R :=
  (tagged_big.F n a0 1).bind fun p1 =>
  (tagged_big.F n 0 1).bind fun p2 =>
  (tagged_big.F n a3 2).bind fun p3 =>
  (tagged_big.F n a1 6).bind fun p4 =>
  (tagged_big.F n a2 6).bind fun p5 =>
  (slices_Concat_byte_byte.F n [.sl ⟨true, 5⟩ 1 p1, .sl ⟨true, 5⟩ 1 p2, .sl ⟨true, 5⟩ 1 p3, .sl ⟨true, 5⟩ 1 p4, .sl ⟨true, 5⟩ 1 p5]).bind fun p6 =>
  withSome (strOf p6) fun bs7 =>
  k (⟨bs7.toArray⟩ : ByteArray)
noncomputable def tagged_encoded.C {R : Type} (n : Nat) (f : FuncId) (xs : List AV) : (AV → Option R) → Option R :=
  bif Nat.beq f 51 then tagged_big.via n xs else bif Nat.beq f 75 then slices_Concat_byte_byte.via n xs else fun _ => none
theorem tagged_encoded.tells {R : Type} (n : Nat) : Tells (R := R) Tryz.prog (tagged_encoded.C n) := fun _ xs => tells_at (tagged_big.tells1 n xs) (tells_at (slices_Concat_byte_byte.tells1 n xs) (Tells1.none))
noncomputable def tagged_encoded.cut (r : Nat) : Option Keep := match r with  | _ => none
theorem tagged_encoded.e_eq {R : Type} (n : Nat) (rec : List Item → St → Option R) (K : AV → Option R) (a0 : Int) (a1 : Int) (a2 : Int) (a3 : Int) :
    goK G (tagged_encoded.C n) tagged_encoded.cut (fun S => finK G Tryz.f44.resultTypes.toList Tryz.f44.results.toList S K) rec 1000 [.code (Tryz.f44.body.getD .skip)] (Ev.start Tryz.f44 [AV.agg [vi a0, vi a1, vi a2, vi a3]]) = tagged_encoded.e n  (fun p => K (vs p)) a0 a1 a2 a3 := by kernel_rfl
noncomputable def tagged_encoded.F (n : Nat) (a0 : Int) (a1 : Int) (a2 : Int) (a3 : Int) : Option (ByteArray) := tagged_encoded.e n  Option.some a0 a1 a2 a3
noncomputable def tagged_encoded.dec (x : AV) : Option (ByteArray) := match x with | .v (.string p0) => Option.some p0 | _ => none
theorem tagged_encoded.dec_inv {p : ByteArray} (y : AV) (h : tagged_encoded.dec y = some p) : y = vs p := by
  unfold tagged_encoded.dec at h
  split at h
  · cases h; rfl
  · cases h
theorem tagged_encoded.hands (n : Nat) (a0 : Int) (a1 : Int) (a2 : Int) (a3 : Int) {p : ByteArray} (h : tagged_encoded.F n a0 a1 a2 a3 = some p) : HandsIn Tryz.prog 44 [AV.agg [vi a0, vi a1, vi a2, vi a3]] (vs p) := by
  refine hands_of cfg mixed (fun _ => rfl) rfl (tagged_encoded.tells n) (fn := Tryz.f44) Tryz.func44 (by kernel_rfl) (by kernel_rfl) (cut := tagged_encoded.cut) (K := tagged_encoded.dec) (r := p) (n := n) tagged_encoded.dec_inv ?_
  rw [funK_getD (by kernel_rfl)]
  have h1 := tagged_encoded.e_eq n (runK G (tagged_encoded.C n) tagged_encoded.cut (fun S => finK G Tryz.f44.resultTypes.toList Tryz.f44.results.toList S tagged_encoded.dec) n) tagged_encoded.dec a0 a1 a2 a3
  exact h1.trans h
noncomputable def tagged_encoded.via {R : Type} (n : Nat) (xs : List AV) : (AV → Option R) → Option R := match xs with | [.agg [.v (.int .i64 a0), .v (.int .i64 a1), .v (.int .i64 a2), .v (.int .i64 a3)]] => fun K => (tagged_encoded.F n a0 a1 a2 a3).bind fun p => K (vs p) | _ => fun _ => none
theorem tagged_encoded.tells1 {R : Type} (n : Nat) (xs : List AV) : Tells1 (R := R) Tryz.prog 44 xs (tagged_encoded.via n xs) := by
  unfold tagged_encoded.via
  split
  · exact Tells1.of (fun p hp => (tagged_encoded.hands n _ _ _ _ hp).hands rfl)
  · exact Tells1.none
end Go.Proofs.YtgmpnhfnkhohiaaGreatDoor.Ev

/- midrange/tagged.PointerBytes, out of its evaluation. Printed by the session's own program. -/
namespace Go.Proofs.YtgmpnhfnkhohiaaGreatDoor.Ev
open Go Go.Proofs Go.Proofs.Ev
set_option linter.unusedVariables false
set_option maxRecDepth 100000
/-! midrange/tagged.PointerBytes: function 15 -/
noncomputable def tagged_PointerBytes.e {R : Type} (n : Nat)  (k : ByteArray × Int → Option R) (a0 : Int) (a1 : Int) (a2 : Int) (a3 : Int) : Option R :=
  (tagged_CheckPointer.F n a0 a1 a2 a3).bind fun p1 =>
  bif p1 != 0 then (k ((⟨#[]⟩ : ByteArray), p1)) else ((tagged_encoded.F n a0 a1 a2 a3).bind fun p2 =>
  k (p2, 0))
noncomputable def tagged_PointerBytes.C {R : Type} (n : Nat) (f : FuncId) (xs : List AV) : (AV → Option R) → Option R :=
  bif Nat.beq f 43 then tagged_CheckPointer.via n xs else bif Nat.beq f 44 then tagged_encoded.via n xs else fun _ => none
theorem tagged_PointerBytes.tells {R : Type} (n : Nat) : Tells (R := R) Tryz.prog (tagged_PointerBytes.C n) := fun _ xs => tells_at (tagged_CheckPointer.tells1 n xs) (tells_at (tagged_encoded.tells1 n xs) (Tells1.none))
noncomputable def tagged_PointerBytes.cut (r : Nat) : Option Keep := match r with  | _ => none
theorem tagged_PointerBytes.e_eq {R : Type} (n : Nat) (rec : List Item → St → Option R) (K : AV → Option R) (a0 : Int) (a1 : Int) (a2 : Int) (a3 : Int) :
    goK G (tagged_PointerBytes.C n) tagged_PointerBytes.cut (fun S => finK G Tryz.f15.resultTypes.toList Tryz.f15.results.toList S K) rec 1000 [.code (Tryz.f15.body.getD .skip)] (Ev.start Tryz.f15 [AV.agg [vi a0, vi a1, vi a2, vi a3]]) = tagged_PointerBytes.e n  (fun p => K (.tup [vs p.1, vi p.2])) a0 a1 a2 a3 := by kernel_rfl
noncomputable def tagged_PointerBytes.F (n : Nat) (a0 : Int) (a1 : Int) (a2 : Int) (a3 : Int) : Option (ByteArray × Int) := tagged_PointerBytes.e n  Option.some a0 a1 a2 a3
noncomputable def tagged_PointerBytes.dec (x : AV) : Option (ByteArray × Int) := match x with | .tup [.v (.string p0), .v (.int .i64 p1)] => Option.some (p0, p1) | _ => none
theorem tagged_PointerBytes.dec_inv {p : ByteArray × Int} (y : AV) (h : tagged_PointerBytes.dec y = some p) : y = .tup [vs p.1, vi p.2] := by
  unfold tagged_PointerBytes.dec at h
  split at h
  · cases h; rfl
  · cases h
theorem tagged_PointerBytes.hands (n : Nat) (a0 : Int) (a1 : Int) (a2 : Int) (a3 : Int) {p : ByteArray × Int} (h : tagged_PointerBytes.F n a0 a1 a2 a3 = some p) : HandsIn Tryz.prog 15 [AV.agg [vi a0, vi a1, vi a2, vi a3]] (.tup [vs p.1, vi p.2]) := by
  refine hands_of cfg mixed (fun _ => rfl) rfl (tagged_PointerBytes.tells n) (fn := Tryz.f15) Tryz.func15 (by kernel_rfl) (by kernel_rfl) (cut := tagged_PointerBytes.cut) (K := tagged_PointerBytes.dec) (r := p) (n := n) tagged_PointerBytes.dec_inv ?_
  rw [funK_getD (by kernel_rfl)]
  have h1 := tagged_PointerBytes.e_eq n (runK G (tagged_PointerBytes.C n) tagged_PointerBytes.cut (fun S => finK G Tryz.f15.resultTypes.toList Tryz.f15.results.toList S tagged_PointerBytes.dec) n) tagged_PointerBytes.dec a0 a1 a2 a3
  exact h1.trans h
noncomputable def tagged_PointerBytes.via {R : Type} (n : Nat) (xs : List AV) : (AV → Option R) → Option R := match xs with | [.agg [.v (.int .i64 a0), .v (.int .i64 a1), .v (.int .i64 a2), .v (.int .i64 a3)]] => fun K => (tagged_PointerBytes.F n a0 a1 a2 a3).bind fun p => K (.tup [vs p.1, vi p.2]) | _ => fun _ => none
theorem tagged_PointerBytes.tells1 {R : Type} (n : Nat) (xs : List AV) : Tells1 (R := R) Tryz.prog 15 xs (tagged_PointerBytes.via n xs) := by
  unfold tagged_PointerBytes.via
  split
  · exact Tells1.of (fun p hp => (tagged_PointerBytes.hands n _ _ _ _ hp).hands rfl)
  · exact Tells1.none
end Go.Proofs.YtgmpnhfnkhohiaaGreatDoor.Ev

/- midrange/midrangebase.BigBytes, out of its evaluation. Printed by the session's own program. -/
namespace Go.Proofs.YtgmpnhfnkhohiaaGreatDoor.Ev
open Go Go.Proofs Go.Proofs.Ev
set_option linter.unusedVariables false
set_option maxRecDepth 100000
/-! midrange/midrangebase.BigBytes: function 19 -/
noncomputable def midrangebase_BigBytes.r3 {R : Type} (n : Nat) (c3 : Int → Int → Int → List AV → Option R) (k : ByteArray → Option R) (z1 : Int) (z2 : Int) (z3 : Int) (z4 : List AV) : Option R :=
  bif decide (z3 < z2) then (let y2 : Int := IntKind.i64.wrap ((IntKind.i64.wrap (z2 - 1)) - z3)
  let y3 : Int := IntKind.u8.wrap (Int.tmod z1 256)
  bif decide ((0 : Int) ≤ y2) && decide (y2 < ((z4.length : Nat) : Int)) then (let y4 : Int := IntKind.i64.wrap (Int.tdiv z1 256)
  c3 y4 z2 (IntKind.i64.wrap (z3 + 1)) (z4.set ((y2).toNat) (vu y3))) else none) else (withSome (strOf z4) fun bs5 =>
  k (⟨bs5.toArray⟩ : ByteArray))
noncomputable def midrangebase_BigBytes.e {R : Type} (n : Nat) (c3 : Int → Int → Int → List AV → Option R) (k : ByteArray → Option R) (a0 : Int) (a1 : Int) : Option R :=
  bif (decide ((0 : Int) ≤ a1) && decide ((a1 : Int) ≤ most)) && decide ((a1 : Int) = a1) && true && true then (let y1 : List AV := List.replicate (a1).toNat (vu 0)
  c3 a0 a1 0 y1) else none
noncomputable def midrangebase_BigBytes.C {R : Type} (n : Nat) (f : FuncId) (xs : List AV) : (AV → Option R) → Option R :=
  fun _ => none
theorem midrangebase_BigBytes.tells {R : Type} (n : Nat) : Tells (R := R) Tryz.prog (midrangebase_BigBytes.C n) := fun _ xs => Tells1.none
noncomputable def midrangebase_BigBytes.cut (r : Nat) : Option Keep := match r with | 3 => Option.some ⟨[0, 1, 5, 6], []⟩ | _ => none
noncomputable def midrangebase_BigBytes.t3 : List Item := (todoOf 3 1000 [.code (Tryz.f19.body.getD .skip)]).getD []
noncomputable def midrangebase_BigBytes.s3 (z1 : Int) (z2 : Int) (z3 : Int) (z4 : List AV) : St := ⟨[vi z1, vi z2, .undef, .undef, .undef, .own 0 0 none, vi z3, .undef, .undef, .undef, .undef, .undef, .undef, .undef, .undef, .undef, .undef, .undef, .undef, .undef, .undef, .undef, .undef, .undef, .undef, .undef, .undef], Mem.ofList [.row ⟨true, 5⟩ 1 z4], 1⟩
theorem midrangebase_BigBytes.e_eq {R : Type} (n : Nat) (rec : List Item → St → Option R) (K : AV → Option R) (a0 : Int) (a1 : Int) :
    goK G (midrangebase_BigBytes.C n) midrangebase_BigBytes.cut (fun S => finK G Tryz.f19.resultTypes.toList Tryz.f19.results.toList S K) rec 1000 [.code (Tryz.f19.body.getD .skip)] (Ev.start Tryz.f19 [vi a0, vi a1]) = midrangebase_BigBytes.e n (fun z1 z2 z3 z4 => rec midrangebase_BigBytes.t3 (midrangebase_BigBytes.s3 z1 z2 z3 z4)) (fun p => K (vs p)) a0 a1 := by kernel_rfl
theorem midrangebase_BigBytes.r3_eq {R : Type} (n : Nat) (rec : List Item → St → Option R) (K : AV → Option R) (z1 : Int) (z2 : Int) (z3 : Int) (z4 : List AV) :
    atK G (midrangebase_BigBytes.C n) midrangebase_BigBytes.cut (fun S => finK G Tryz.f19.resultTypes.toList Tryz.f19.results.toList S K) rec midrangebase_BigBytes.t3 (midrangebase_BigBytes.s3 z1 z2 z3 z4) = midrangebase_BigBytes.r3 n (fun z1 z2 z3 z4 => rec midrangebase_BigBytes.t3 (midrangebase_BigBytes.s3 z1 z2 z3 z4)) (fun p => K (vs p)) z1 z2 z3 z4 := by kernel_rfl
noncomputable def midrangebase_BigBytes.l (n : Nat) : Nat → (Int → Int → Int → List AV → Option (ByteArray))
  | 0 => (fun _ _ _ _ => none)
  | m + 1 => midrangebase_BigBytes.r3 n (midrangebase_BigBytes.l n m) Option.some
noncomputable def midrangebase_BigBytes.F (n : Nat) (a0 : Int) (a1 : Int) : Option (ByteArray) := midrangebase_BigBytes.e n (midrangebase_BigBytes.l n n) Option.some a0 a1
noncomputable def midrangebase_BigBytes.dec (x : AV) : Option (ByteArray) := match x with | .v (.string p0) => Option.some p0 | _ => none
theorem midrangebase_BigBytes.dec_inv {p : ByteArray} (y : AV) (h : midrangebase_BigBytes.dec y = some p) : y = vs p := by
  unfold midrangebase_BigBytes.dec at h
  split at h
  · cases h; rfl
  · cases h
theorem midrangebase_BigBytes.l_eq (n m : Nat) : (∀ (z1 : Int) (z2 : Int) (z3 : Int) (z4 : List AV), runK G (midrangebase_BigBytes.C n) midrangebase_BigBytes.cut (fun S => finK G Tryz.f19.resultTypes.toList Tryz.f19.results.toList S midrangebase_BigBytes.dec) m midrangebase_BigBytes.t3 (midrangebase_BigBytes.s3 z1 z2 z3 z4) = (midrangebase_BigBytes.l n m) z1 z2 z3 z4) := by
  induction m with
  | zero => exact fun z1 z2 z3 z4 => rfl
  | succ m ih =>
    have h3 := ih
    have e3 : (fun (z1 : Int) (z2 : Int) (z3 : Int) (z4 : List AV) => runK G (midrangebase_BigBytes.C n) midrangebase_BigBytes.cut (fun S => finK G Tryz.f19.resultTypes.toList Tryz.f19.results.toList S midrangebase_BigBytes.dec) m midrangebase_BigBytes.t3 (midrangebase_BigBytes.s3 z1 z2 z3 z4)) = (midrangebase_BigBytes.l n m) := by funext z1 z2 z3 z4; exact h3 z1 z2 z3 z4
    have q3 : ∀ (z1 : Int) (z2 : Int) (z3 : Int) (z4 : List AV), runK G (midrangebase_BigBytes.C n) midrangebase_BigBytes.cut (fun S => finK G Tryz.f19.resultTypes.toList Tryz.f19.results.toList S midrangebase_BigBytes.dec) (m + 1) midrangebase_BigBytes.t3 (midrangebase_BigBytes.s3 z1 z2 z3 z4) = (midrangebase_BigBytes.l n (m + 1)) z1 z2 z3 z4 := by
      intro z1 z2 z3 z4
      rw [runK_succ]
      refine (midrangebase_BigBytes.r3_eq n _ midrangebase_BigBytes.dec z1 z2 z3 z4).trans ?_
      rw [e3]
      rfl
    exact q3
theorem midrangebase_BigBytes.hands (n : Nat) (a0 : Int) (a1 : Int) {p : ByteArray} (h : midrangebase_BigBytes.F n a0 a1 = some p) : HandsIn Tryz.prog 19 [vi a0, vi a1] (vs p) := by
  refine hands_of cfg mixed (fun _ => rfl) rfl (midrangebase_BigBytes.tells n) (fn := Tryz.f19) Tryz.func19 (by kernel_rfl) (by kernel_rfl) (cut := midrangebase_BigBytes.cut) (K := midrangebase_BigBytes.dec) (r := p) (n := n) midrangebase_BigBytes.dec_inv ?_
  rw [funK_getD (by kernel_rfl)]
  have h1 := midrangebase_BigBytes.e_eq n (runK G (midrangebase_BigBytes.C n) midrangebase_BigBytes.cut (fun S => finK G Tryz.f19.resultTypes.toList Tryz.f19.results.toList S midrangebase_BigBytes.dec) n) midrangebase_BigBytes.dec a0 a1
  have hl := midrangebase_BigBytes.l_eq n n
  simp only [hl] at h1
  exact h1.trans h
noncomputable def midrangebase_BigBytes.via {R : Type} (n : Nat) (xs : List AV) : (AV → Option R) → Option R := match xs with | [.v (.int .i64 a0), .v (.int .i64 a1)] => fun K => (midrangebase_BigBytes.F n a0 a1).bind fun p => K (vs p) | _ => fun _ => none
theorem midrangebase_BigBytes.tells1 {R : Type} (n : Nat) (xs : List AV) : Tells1 (R := R) Tryz.prog 19 xs (midrangebase_BigBytes.via n xs) := by
  unfold midrangebase_BigBytes.via
  split
  · exact Tells1.of (fun p hp => (midrangebase_BigBytes.hands n _ _ hp).hands rfl)
  · exact Tells1.none
end Go.Proofs.YtgmpnhfnkhohiaaGreatDoor.Ev

/- midrange/midrangelaw03.awake, out of its evaluation. Printed by the session's own program. -/
namespace Go.Proofs.YtgmpnhfnkhohiaaGreatDoor.Ev
open Go Go.Proofs Go.Proofs.Ev
set_option linter.unusedVariables false
set_option maxRecDepth 100000
/-! midrange/midrangelaw03.awake: function 5 -/
noncomputable def midrangelaw03_awake.e {R : Type} (n : Nat)  (k : Bool → Option R)  : Option R :=
  (tagged_PointerBytes.F n 1 258 3 5).bind fun p1 =>
  bif p1.2 == 0 then ((midrangebase_BigBytes.F n 1 2).bind fun p2 =>
  bif decide ((0 : Int) ≤ 1) && decide ((1 : Int) ≤ ((p2.size : Nat) : Int)) then (chk (decide ((p2.extract 1 p2.size).size + 15 ≤ 9223372036854775807)) (let y3 : ByteArray := (p2.extract 1 p2.size) ++ (⟨#[0, 0, 5, 0, 0, 0, 0, 1, 2, 0, 0, 0, 0, 0, 3]⟩ : ByteArray)
  k (p1.1.toList == y3.toList))) else none) else (k false)
noncomputable def midrangelaw03_awake.C {R : Type} (n : Nat) (f : FuncId) (xs : List AV) : (AV → Option R) → Option R :=
  bif Nat.beq f 15 then tagged_PointerBytes.via n xs else bif Nat.beq f 19 then midrangebase_BigBytes.via n xs else fun _ => none
theorem midrangelaw03_awake.tells {R : Type} (n : Nat) : Tells (R := R) Tryz.prog (midrangelaw03_awake.C n) := fun _ xs => tells_at (tagged_PointerBytes.tells1 n xs) (tells_at (midrangebase_BigBytes.tells1 n xs) (Tells1.none))
noncomputable def midrangelaw03_awake.cut (r : Nat) : Option Keep := match r with  | _ => none
theorem midrangelaw03_awake.e_eq {R : Type} (n : Nat) (rec : List Item → St → Option R) (K : AV → Option R)  :
    goK G (midrangelaw03_awake.C n) midrangelaw03_awake.cut (fun S => finK G Tryz.f5.resultTypes.toList Tryz.f5.results.toList S K) rec 1000 [.code (Tryz.f5.body.getD .skip)] (Ev.start Tryz.f5 []) = midrangelaw03_awake.e n  (fun p => K (vb p))  := by kernel_rfl
noncomputable def midrangelaw03_awake.F (n : Nat)  : Option (Bool) := midrangelaw03_awake.e n  Option.some 
noncomputable def midrangelaw03_awake.dec (x : AV) : Option (Bool) := match x with | .v (.bool p0) => Option.some p0 | _ => none
theorem midrangelaw03_awake.dec_inv {p : Bool} (y : AV) (h : midrangelaw03_awake.dec y = some p) : y = vb p := by
  unfold midrangelaw03_awake.dec at h
  split at h
  · cases h; rfl
  · cases h
theorem midrangelaw03_awake.hands (n : Nat)  {p : Bool} (h : midrangelaw03_awake.F n  = some p) : HandsIn Tryz.prog 5 [] (vb p) := by
  refine hands_of cfg mixed (fun _ => rfl) rfl (midrangelaw03_awake.tells n) (fn := Tryz.f5) Tryz.func5 (by kernel_rfl) (by kernel_rfl) (cut := midrangelaw03_awake.cut) (K := midrangelaw03_awake.dec) (r := p) (n := n) midrangelaw03_awake.dec_inv ?_
  rw [funK_getD (by kernel_rfl)]
  have h1 := midrangelaw03_awake.e_eq n (runK G (midrangelaw03_awake.C n) midrangelaw03_awake.cut (fun S => finK G Tryz.f5.resultTypes.toList Tryz.f5.results.toList S midrangelaw03_awake.dec) n) midrangelaw03_awake.dec 
  exact h1.trans h
noncomputable def midrangelaw03_awake.via {R : Type} (n : Nat) (xs : List AV) : (AV → Option R) → Option R := match xs with | [] => fun K => (midrangelaw03_awake.F n ).bind fun p => K (vb p) | _ => fun _ => none
theorem midrangelaw03_awake.tells1 {R : Type} (n : Nat) (xs : List AV) : Tells1 (R := R) Tryz.prog 5 xs (midrangelaw03_awake.via n xs) := by
  unfold midrangelaw03_awake.via
  split
  · exact Tells1.of (fun p hp => (midrangelaw03_awake.hands n  hp).hands rfl)
  · exact Tells1.none
end Go.Proofs.YtgmpnhfnkhohiaaGreatDoor.Ev

/- midrange/midrangelaw03.few, out of its evaluation. Printed by the session's own program. -/
namespace Go.Proofs.YtgmpnhfnkhohiaaGreatDoor.Ev
open Go Go.Proofs Go.Proofs.Ev
set_option linter.unusedVariables false
set_option maxRecDepth 100000
/-! midrange/midrangelaw03.few: function 6 -/
noncomputable def midrangelaw03_few.e {R : Type} (n : Nat)  (k : Bool → Option R) (a0 : ByteArray) (a1 : List AV) : Option R :=
  let y1 : Bool := decide (((a0.size : Nat) : Int) ≤ 1072)
  bif y1 then (let y2 : Bool := decide (((a1.length : Nat) : Int) ≤ 67)
  k y2) else (k false)
noncomputable def midrangelaw03_few.C {R : Type} (n : Nat) (f : FuncId) (xs : List AV) : (AV → Option R) → Option R :=
  fun _ => none
theorem midrangelaw03_few.tells {R : Type} (n : Nat) : Tells (R := R) Tryz.prog (midrangelaw03_few.C n) := fun _ xs => Tells1.none
noncomputable def midrangelaw03_few.cut (r : Nat) : Option Keep := match r with  | _ => none
theorem midrangelaw03_few.e_eq {R : Type} (n : Nat) (rec : List Item → St → Option R) (K : AV → Option R) (a0 : ByteArray) (a1 : List AV) :
    goK G (midrangelaw03_few.C n) midrangelaw03_few.cut (fun S => finK G Tryz.f6.resultTypes.toList Tryz.f6.results.toList S K) rec 1000 [.code (Tryz.f6.body.getD .skip)] (Ev.start Tryz.f6 [AV.agg [vs a0, .sl ⟨true, 4⟩ 1 a1]]) = midrangelaw03_few.e n  (fun p => K (vb p)) a0 a1 := by kernel_rfl
noncomputable def midrangelaw03_few.F (n : Nat) (a0 : ByteArray) (a1 : List AV) : Option (Bool) := midrangelaw03_few.e n  Option.some a0 a1
noncomputable def midrangelaw03_few.dec (x : AV) : Option (Bool) := match x with | .v (.bool p0) => Option.some p0 | _ => none
theorem midrangelaw03_few.dec_inv {p : Bool} (y : AV) (h : midrangelaw03_few.dec y = some p) : y = vb p := by
  unfold midrangelaw03_few.dec at h
  split at h
  · cases h; rfl
  · cases h
theorem midrangelaw03_few.hands (n : Nat) (a0 : ByteArray) (a1 : List AV) {p : Bool} (h : midrangelaw03_few.F n a0 a1 = some p) : HandsIn Tryz.prog 6 [AV.agg [vs a0, .sl ⟨true, 4⟩ 1 a1]] (vb p) := by
  refine hands_of cfg mixed (fun _ => rfl) rfl (midrangelaw03_few.tells n) (fn := Tryz.f6) Tryz.func6 (by kernel_rfl) (by kernel_rfl) (cut := midrangelaw03_few.cut) (K := midrangelaw03_few.dec) (r := p) (n := n) midrangelaw03_few.dec_inv ?_
  rw [funK_getD (by kernel_rfl)]
  have h1 := midrangelaw03_few.e_eq n (runK G (midrangelaw03_few.C n) midrangelaw03_few.cut (fun S => finK G Tryz.f6.resultTypes.toList Tryz.f6.results.toList S midrangelaw03_few.dec) n) midrangelaw03_few.dec a0 a1
  exact h1.trans h
noncomputable def midrangelaw03_few.via {R : Type} (n : Nat) (xs : List AV) : (AV → Option R) → Option R := match xs with | [.agg [.v (.string a0), .sl ⟨true, 4⟩ 1 a1]] => fun K => (midrangelaw03_few.F n a0 a1).bind fun p => K (vb p) | _ => fun _ => none
theorem midrangelaw03_few.tells1 {R : Type} (n : Nat) (xs : List AV) : Tells1 (R := R) Tryz.prog 6 xs (midrangelaw03_few.via n xs) := by
  unfold midrangelaw03_few.via
  split
  · exact Tells1.of (fun p hp => (midrangelaw03_few.hands n _ _ hp).hands rfl)
  · exact Tells1.none
end Go.Proofs.YtgmpnhfnkhohiaaGreatDoor.Ev

/- midrange/tagged.number, out of its evaluation. Printed by the session's own program. -/
namespace Go.Proofs.YtgmpnhfnkhohiaaGreatDoor.Ev
open Go Go.Proofs Go.Proofs.Ev
set_option linter.unusedVariables false
set_option maxRecDepth 100000
/-! midrange/tagged.number: function 45 -/
noncomputable def tagged_number.r3 {R : Type} (n : Nat) (c3 : ByteArray → Int → Int → Int → Option R) (k : Int → Option R) (z1 : ByteArray) (z2 : Int) (z3 : Int) (z4 : Int) : Option R :=
  bif decide (z4 < z3) then (let y1 : Int := IntKind.i64.wrap (z2 * 2 ^ min (8 : Int).toNat 64)
  bif decide ((0 : Int) ≤ z4) && decide (z4 < ((z1.size : Nat) : Int)) then (let y2 : Int := (((z1.data.getD ((z4).toNat) 0).toNat : Nat) : Int)
  let y3 : Int := IntKind.i64.wrap (BitVec.ofInt 64 y1 ||| BitVec.ofInt 64 (IntKind.i64.wrap y2)).toNat
  c3 z1 y3 z3 (IntKind.i64.wrap (z4 + 1))) else none) else (k z2)
noncomputable def tagged_number.e {R : Type} (n : Nat) (c3 : ByteArray → Int → Int → Int → Option R) (k : Int → Option R) (a0 : ByteArray) : Option R :=
  c3 a0 0 ((a0.size : Nat) : Int) 0
noncomputable def tagged_number.C {R : Type} (n : Nat) (f : FuncId) (xs : List AV) : (AV → Option R) → Option R :=
  fun _ => none
theorem tagged_number.tells {R : Type} (n : Nat) : Tells (R := R) Tryz.prog (tagged_number.C n) := fun _ xs => Tells1.none
noncomputable def tagged_number.cut (r : Nat) : Option Keep := match r with | 3 => Option.some ⟨[0, 3, 6, 7], []⟩ | _ => none
noncomputable def tagged_number.t3 : List Item := (todoOf 3 1000 [.code (Tryz.f45.body.getD .skip)]).getD []
noncomputable def tagged_number.s3 (z1 : ByteArray) (z2 : Int) (z3 : Int) (z4 : Int) : St := ⟨[vs z1, .undef, .undef, vi z2, .undef, .undef, vi z3, vi z4, .undef, .undef, .undef, .undef, .undef, .undef, .undef, .undef, .undef, .undef, .undef], Mem.ofList [], 0⟩
theorem tagged_number.e_eq {R : Type} (n : Nat) (rec : List Item → St → Option R) (K : AV → Option R) (a0 : ByteArray) :
    goK G (tagged_number.C n) tagged_number.cut (fun S => finK G Tryz.f45.resultTypes.toList Tryz.f45.results.toList S K) rec 1000 [.code (Tryz.f45.body.getD .skip)] (Ev.start Tryz.f45 [vs a0]) = tagged_number.e n (fun z1 z2 z3 z4 => rec tagged_number.t3 (tagged_number.s3 z1 z2 z3 z4)) (fun p => K (vi p)) a0 := by kernel_rfl
theorem tagged_number.r3_eq {R : Type} (n : Nat) (rec : List Item → St → Option R) (K : AV → Option R) (z1 : ByteArray) (z2 : Int) (z3 : Int) (z4 : Int) :
    atK G (tagged_number.C n) tagged_number.cut (fun S => finK G Tryz.f45.resultTypes.toList Tryz.f45.results.toList S K) rec tagged_number.t3 (tagged_number.s3 z1 z2 z3 z4) = tagged_number.r3 n (fun z1 z2 z3 z4 => rec tagged_number.t3 (tagged_number.s3 z1 z2 z3 z4)) (fun p => K (vi p)) z1 z2 z3 z4 := by kernel_rfl
noncomputable def tagged_number.l (n : Nat) : Nat → (ByteArray → Int → Int → Int → Option (Int))
  | 0 => (fun _ _ _ _ => none)
  | m + 1 => tagged_number.r3 n (tagged_number.l n m) Option.some
noncomputable def tagged_number.F (n : Nat) (a0 : ByteArray) : Option (Int) := tagged_number.e n (tagged_number.l n n) Option.some a0
noncomputable def tagged_number.dec (x : AV) : Option (Int) := match x with | .v (.int .i64 p0) => Option.some p0 | _ => none
theorem tagged_number.dec_inv {p : Int} (y : AV) (h : tagged_number.dec y = some p) : y = vi p := by
  unfold tagged_number.dec at h
  split at h
  · cases h; rfl
  · cases h
theorem tagged_number.l_eq (n m : Nat) : (∀ (z1 : ByteArray) (z2 : Int) (z3 : Int) (z4 : Int), runK G (tagged_number.C n) tagged_number.cut (fun S => finK G Tryz.f45.resultTypes.toList Tryz.f45.results.toList S tagged_number.dec) m tagged_number.t3 (tagged_number.s3 z1 z2 z3 z4) = (tagged_number.l n m) z1 z2 z3 z4) := by
  induction m with
  | zero => exact fun z1 z2 z3 z4 => rfl
  | succ m ih =>
    have h3 := ih
    have e3 : (fun (z1 : ByteArray) (z2 : Int) (z3 : Int) (z4 : Int) => runK G (tagged_number.C n) tagged_number.cut (fun S => finK G Tryz.f45.resultTypes.toList Tryz.f45.results.toList S tagged_number.dec) m tagged_number.t3 (tagged_number.s3 z1 z2 z3 z4)) = (tagged_number.l n m) := by funext z1 z2 z3 z4; exact h3 z1 z2 z3 z4
    have q3 : ∀ (z1 : ByteArray) (z2 : Int) (z3 : Int) (z4 : Int), runK G (tagged_number.C n) tagged_number.cut (fun S => finK G Tryz.f45.resultTypes.toList Tryz.f45.results.toList S tagged_number.dec) (m + 1) tagged_number.t3 (tagged_number.s3 z1 z2 z3 z4) = (tagged_number.l n (m + 1)) z1 z2 z3 z4 := by
      intro z1 z2 z3 z4
      rw [runK_succ]
      refine (tagged_number.r3_eq n _ tagged_number.dec z1 z2 z3 z4).trans ?_
      rw [e3]
      rfl
    exact q3
theorem tagged_number.hands (n : Nat) (a0 : ByteArray) {p : Int} (h : tagged_number.F n a0 = some p) : HandsIn Tryz.prog 45 [vs a0] (vi p) := by
  refine hands_of cfg mixed (fun _ => rfl) rfl (tagged_number.tells n) (fn := Tryz.f45) Tryz.func45 (by kernel_rfl) (by kernel_rfl) (cut := tagged_number.cut) (K := tagged_number.dec) (r := p) (n := n) tagged_number.dec_inv ?_
  rw [funK_getD (by kernel_rfl)]
  have h1 := tagged_number.e_eq n (runK G (tagged_number.C n) tagged_number.cut (fun S => finK G Tryz.f45.resultTypes.toList Tryz.f45.results.toList S tagged_number.dec) n) tagged_number.dec a0
  have hl := tagged_number.l_eq n n
  simp only [hl] at h1
  exact h1.trans h
noncomputable def tagged_number.via {R : Type} (n : Nat) (xs : List AV) : (AV → Option R) → Option R := match xs with | [.v (.string a0)] => fun K => (tagged_number.F n a0).bind fun p => K (vi p) | _ => fun _ => none
theorem tagged_number.tells1 {R : Type} (n : Nat) (xs : List AV) : Tells1 (R := R) Tryz.prog 45 xs (tagged_number.via n xs) := by
  unfold tagged_number.via
  split
  · exact Tells1.of (fun p hp => (tagged_number.hands n _ hp).hands rfl)
  · exact Tells1.none
end Go.Proofs.YtgmpnhfnkhohiaaGreatDoor.Ev

/- midrange/tagged.PointerIn, out of its evaluation. Printed by the session's own program. -/
namespace Go.Proofs.YtgmpnhfnkhohiaaGreatDoor.Ev
open Go Go.Proofs Go.Proofs.Ev
set_option linter.unusedVariables false
set_option maxRecDepth 100000
/-! midrange/tagged.PointerIn: function 16 -/
noncomputable def tagged_PointerIn.e {R : Type} (n : Nat)  (k : Int × Int × Int × Int × Int → Option R) (a0 : ByteArray) : Option R :=
  let y1 : Bool := ((a0.size : Nat) : Int) != 16
  bif y1 then (k (0, 0, 0, 0, 18)) else (bif decide ((1 : Int) < (a0.size : Nat)) then (let y2 : Int := (((a0.data.getD 1 0).toNat : Nat) : Int)
  bif y2 != 0 then (k (0, 0, 0, 0, 5)) else (bif decide ((0 : Int) < (a0.size : Nat)) then (let y3 : Int := (((a0.data.getD 0 0).toNat : Nat) : Int)
  bif decide ((0 : Int) ≤ 4) && decide ((4 : Int) ≤ ((a0.size : Nat) : Int)) then (bif decide ((0 : Int) ≤ 2) && decide ((2 : Int) ≤ 4) then ((tagged_number.F n (a0.extract 2 4)).bind fun p4 =>
  bif decide ((0 : Int) ≤ 10) && decide ((10 : Int) ≤ ((a0.size : Nat) : Int)) then (bif decide ((0 : Int) ≤ 4) && decide ((4 : Int) ≤ 10) then ((tagged_number.F n (a0.extract 4 10)).bind fun p5 =>
  bif decide ((0 : Int) ≤ 10) && decide ((10 : Int) ≤ ((a0.size : Nat) : Int)) then ((tagged_number.F n (a0.extract 10 a0.size)).bind fun p6 =>
  (tagged_CheckPointer.F n (IntKind.i64.wrap y3) p5 p6 p4).bind fun p7 =>
  bif p7 != 0 then (k (0, 0, 0, 0, p7)) else (k (IntKind.i64.wrap y3, p5, p6, p4, 0))) else none) else none) else none) else none) else none) else none)) else none)
noncomputable def tagged_PointerIn.C {R : Type} (n : Nat) (f : FuncId) (xs : List AV) : (AV → Option R) → Option R :=
  bif Nat.beq f 43 then tagged_CheckPointer.via n xs else bif Nat.beq f 45 then tagged_number.via n xs else fun _ => none
theorem tagged_PointerIn.tells {R : Type} (n : Nat) : Tells (R := R) Tryz.prog (tagged_PointerIn.C n) := fun _ xs => tells_at (tagged_CheckPointer.tells1 n xs) (tells_at (tagged_number.tells1 n xs) (Tells1.none))
noncomputable def tagged_PointerIn.cut (r : Nat) : Option Keep := match r with  | _ => none
theorem tagged_PointerIn.e_eq {R : Type} (n : Nat) (rec : List Item → St → Option R) (K : AV → Option R) (a0 : ByteArray) :
    goK G (tagged_PointerIn.C n) tagged_PointerIn.cut (fun S => finK G Tryz.f16.resultTypes.toList Tryz.f16.results.toList S K) rec 1000 [.code (Tryz.f16.body.getD .skip)] (Ev.start Tryz.f16 [vs a0]) = tagged_PointerIn.e n  (fun p => K (.tup [.agg [vi p.1, vi p.2.1, vi p.2.2.1, vi p.2.2.2.1], vi p.2.2.2.2])) a0 := by kernel_rfl
noncomputable def tagged_PointerIn.F (n : Nat) (a0 : ByteArray) : Option (Int × Int × Int × Int × Int) := tagged_PointerIn.e n  Option.some a0
noncomputable def tagged_PointerIn.dec (x : AV) : Option (Int × Int × Int × Int × Int) := match x with | .tup [.agg [.v (.int .i64 p0), .v (.int .i64 p1), .v (.int .i64 p2), .v (.int .i64 p3)], .v (.int .i64 p4)] => Option.some (p0, p1, p2, p3, p4) | _ => none
theorem tagged_PointerIn.dec_inv {p : Int × Int × Int × Int × Int} (y : AV) (h : tagged_PointerIn.dec y = some p) : y = .tup [.agg [vi p.1, vi p.2.1, vi p.2.2.1, vi p.2.2.2.1], vi p.2.2.2.2] := by
  unfold tagged_PointerIn.dec at h
  split at h
  · cases h; rfl
  · cases h
theorem tagged_PointerIn.hands (n : Nat) (a0 : ByteArray) {p : Int × Int × Int × Int × Int} (h : tagged_PointerIn.F n a0 = some p) : HandsIn Tryz.prog 16 [vs a0] (.tup [.agg [vi p.1, vi p.2.1, vi p.2.2.1, vi p.2.2.2.1], vi p.2.2.2.2]) := by
  refine hands_of cfg mixed (fun _ => rfl) rfl (tagged_PointerIn.tells n) (fn := Tryz.f16) Tryz.func16 (by kernel_rfl) (by kernel_rfl) (cut := tagged_PointerIn.cut) (K := tagged_PointerIn.dec) (r := p) (n := n) tagged_PointerIn.dec_inv ?_
  rw [funK_getD (by kernel_rfl)]
  have h1 := tagged_PointerIn.e_eq n (runK G (tagged_PointerIn.C n) tagged_PointerIn.cut (fun S => finK G Tryz.f16.resultTypes.toList Tryz.f16.results.toList S tagged_PointerIn.dec) n) tagged_PointerIn.dec a0
  exact h1.trans h
noncomputable def tagged_PointerIn.via {R : Type} (n : Nat) (xs : List AV) : (AV → Option R) → Option R := match xs with | [.v (.string a0)] => fun K => (tagged_PointerIn.F n a0).bind fun p => K (.tup [.agg [vi p.1, vi p.2.1, vi p.2.2.1, vi p.2.2.2.1], vi p.2.2.2.2]) | _ => fun _ => none
theorem tagged_PointerIn.tells1 {R : Type} (n : Nat) (xs : List AV) : Tells1 (R := R) Tryz.prog 16 xs (tagged_PointerIn.via n xs) := by
  unfold tagged_PointerIn.via
  split
  · exact Tells1.of (fun p hp => (tagged_PointerIn.hands n _ hp).hands rfl)
  · exact Tells1.none
end Go.Proofs.YtgmpnhfnkhohiaaGreatDoor.Ev

/- midrange/tagged.CheckStorage, out of its evaluation. Printed by the session's own program. -/
namespace Go.Proofs.YtgmpnhfnkhohiaaGreatDoor.Ev
open Go Go.Proofs Go.Proofs.Ev
set_option linter.unusedVariables false
set_option maxRecDepth 100000
/-! midrange/tagged.CheckStorage: function 20 -/
noncomputable def tagged_CheckStorage.r9 {R : Type} (n : Nat) (c9 : List AV → Int → Int → ByteArray → List AV → Option R) (k : Int × Int → Option R) (z1 : List AV) (z2 : Int) (z3 : Int) (z4 : ByteArray) (z5 : List AV) : Option R :=
  bif decide (z3 < z2) then (bif decide ((0 : Int) ≤ z3) && decide (z3 < ((z1.length : Nat) : Int)) then (withCons ((z1.getD ((z3).toNat) .undef).cells) fun h5 r6 =>
  withBool h5 fun b7 =>
  bif !b7 then (c9 z1 z2 (IntKind.i64.wrap (z3 + 1)) z4 z5) else (let y8 : Int := IntKind.i64.wrap ((IntKind.i64.wrap (z3 * 16)) + 16)
  bif decide ((0 : Int) ≤ y8) && decide ((y8 : Int) ≤ ((z4.size : Nat) : Int)) then (bif decide ((0 : Int) ≤ IntKind.i64.wrap (z3 * 16)) && decide ((IntKind.i64.wrap (z3 * 16) : Int) ≤ y8) then (let y9 : ByteArray := z4.extract (IntKind.i64.wrap (z3 * 16)).toNat (y8).toNat
  (tagged_PointerIn.F n y9).bind fun p10 =>
  bif p10.2.2.2.2 != 0 then (k (z3, 22)) else (c9 z1 z2 (IntKind.i64.wrap (z3 + 1)) z4 z5)) else none) else none)) else none) else (k (((z5.length : Nat) : Int), 0))
noncomputable def tagged_CheckStorage.e {R : Type} (n : Nat) (c9 : List AV → Int → Int → ByteArray → List AV → Option R) (k : Int × Int → Option R) (a0 : ByteArray) (a1 : List AV) : Option R :=
  let y1 : Bool := decide (((a0.size : Nat) : Int) > 1024)
  bif y1 then (k (0, 2)) else (let y2 : Int := Int.tmod ((a0.size : Nat) : Int) 16
  bif y2 != 0 then (k (0, 18)) else (let y3 : Int := IntKind.i64.wrap (Int.tdiv ((a0.size : Nat) : Int) 16)
  let y4 : Bool := ((a1.length : Nat) : Int) != y3
  bif y4 then (k (0, 6)) else (c9 a1 ((a1.length : Nat) : Int) 0 a0 a1)))
noncomputable def tagged_CheckStorage.C {R : Type} (n : Nat) (f : FuncId) (xs : List AV) : (AV → Option R) → Option R :=
  bif Nat.beq f 16 then tagged_PointerIn.via n xs else fun _ => none
theorem tagged_CheckStorage.tells {R : Type} (n : Nat) : Tells (R := R) Tryz.prog (tagged_CheckStorage.C n) := fun _ xs => tells_at (tagged_PointerIn.tells1 n xs) (Tells1.none)
noncomputable def tagged_CheckStorage.cut (r : Nat) : Option Keep := match r with | 9 => Option.some ⟨[1, 27, 28, 29], []⟩ | _ => none
noncomputable def tagged_CheckStorage.t9 : List Item := (todoOf 9 1000 [.code (Tryz.f20.body.getD .skip)]).getD []
noncomputable def tagged_CheckStorage.s9 (z1 : List AV) (z2 : Int) (z3 : Int) (z4 : ByteArray) (z5 : List AV) : St := ⟨[.undef, .ptr 0 0, .undef, .undef, .undef, .undef, .undef, .undef, .undef, .undef, .undef, .undef, .undef, .undef, .undef, .undef, .undef, .undef, .undef, .undef, .undef, .undef, .undef, .undef, .undef, .undef, .undef, .sl ⟨true, 4⟩ 1 z1, vi z2, vi z3, .undef, .undef, .undef, .undef, .undef, .undef, .undef, .undef, .undef, .undef, .undef, .undef, .undef, .undef, .undef, .undef, .undef, .undef, .undef, .undef, .undef, .undef, .undef, .undef, .undef], Mem.ofList [.box 24 [vs z4, .sl ⟨true, 4⟩ 1 z5]], 1⟩
theorem tagged_CheckStorage.e_eq {R : Type} (n : Nat) (rec : List Item → St → Option R) (K : AV → Option R) (a0 : ByteArray) (a1 : List AV) :
    goK G (tagged_CheckStorage.C n) tagged_CheckStorage.cut (fun S => finK G Tryz.f20.resultTypes.toList Tryz.f20.results.toList S K) rec 1000 [.code (Tryz.f20.body.getD .skip)] (Ev.start Tryz.f20 [AV.agg [vs a0, .sl ⟨true, 4⟩ 1 a1]]) = tagged_CheckStorage.e n (fun z1 z2 z3 z4 z5 => rec tagged_CheckStorage.t9 (tagged_CheckStorage.s9 z1 z2 z3 z4 z5)) (fun p => K (.tup [vi p.1, vi p.2])) a0 a1 := by kernel_rfl
theorem tagged_CheckStorage.r9_eq {R : Type} (n : Nat) (rec : List Item → St → Option R) (K : AV → Option R) (z1 : List AV) (z2 : Int) (z3 : Int) (z4 : ByteArray) (z5 : List AV) :
    atK G (tagged_CheckStorage.C n) tagged_CheckStorage.cut (fun S => finK G Tryz.f20.resultTypes.toList Tryz.f20.results.toList S K) rec tagged_CheckStorage.t9 (tagged_CheckStorage.s9 z1 z2 z3 z4 z5) = tagged_CheckStorage.r9 n (fun z1 z2 z3 z4 z5 => rec tagged_CheckStorage.t9 (tagged_CheckStorage.s9 z1 z2 z3 z4 z5)) (fun p => K (.tup [vi p.1, vi p.2])) z1 z2 z3 z4 z5 := by kernel_rfl
noncomputable def tagged_CheckStorage.l (n : Nat) : Nat → (List AV → Int → Int → ByteArray → List AV → Option (Int × Int))
  | 0 => (fun _ _ _ _ _ => none)
  | m + 1 => tagged_CheckStorage.r9 n (tagged_CheckStorage.l n m) Option.some
noncomputable def tagged_CheckStorage.F (n : Nat) (a0 : ByteArray) (a1 : List AV) : Option (Int × Int) := tagged_CheckStorage.e n (tagged_CheckStorage.l n n) Option.some a0 a1
noncomputable def tagged_CheckStorage.dec (x : AV) : Option (Int × Int) := match x with | .tup [.v (.int .i64 p0), .v (.int .i64 p1)] => Option.some (p0, p1) | _ => none
theorem tagged_CheckStorage.dec_inv {p : Int × Int} (y : AV) (h : tagged_CheckStorage.dec y = some p) : y = .tup [vi p.1, vi p.2] := by
  unfold tagged_CheckStorage.dec at h
  split at h
  · cases h; rfl
  · cases h
theorem tagged_CheckStorage.l_eq (n m : Nat) : (∀ (z1 : List AV) (z2 : Int) (z3 : Int) (z4 : ByteArray) (z5 : List AV), runK G (tagged_CheckStorage.C n) tagged_CheckStorage.cut (fun S => finK G Tryz.f20.resultTypes.toList Tryz.f20.results.toList S tagged_CheckStorage.dec) m tagged_CheckStorage.t9 (tagged_CheckStorage.s9 z1 z2 z3 z4 z5) = (tagged_CheckStorage.l n m) z1 z2 z3 z4 z5) := by
  induction m with
  | zero => exact fun z1 z2 z3 z4 z5 => rfl
  | succ m ih =>
    have h9 := ih
    have e9 : (fun (z1 : List AV) (z2 : Int) (z3 : Int) (z4 : ByteArray) (z5 : List AV) => runK G (tagged_CheckStorage.C n) tagged_CheckStorage.cut (fun S => finK G Tryz.f20.resultTypes.toList Tryz.f20.results.toList S tagged_CheckStorage.dec) m tagged_CheckStorage.t9 (tagged_CheckStorage.s9 z1 z2 z3 z4 z5)) = (tagged_CheckStorage.l n m) := by funext z1 z2 z3 z4 z5; exact h9 z1 z2 z3 z4 z5
    have q9 : ∀ (z1 : List AV) (z2 : Int) (z3 : Int) (z4 : ByteArray) (z5 : List AV), runK G (tagged_CheckStorage.C n) tagged_CheckStorage.cut (fun S => finK G Tryz.f20.resultTypes.toList Tryz.f20.results.toList S tagged_CheckStorage.dec) (m + 1) tagged_CheckStorage.t9 (tagged_CheckStorage.s9 z1 z2 z3 z4 z5) = (tagged_CheckStorage.l n (m + 1)) z1 z2 z3 z4 z5 := by
      intro z1 z2 z3 z4 z5
      rw [runK_succ]
      refine (tagged_CheckStorage.r9_eq n _ tagged_CheckStorage.dec z1 z2 z3 z4 z5).trans ?_
      rw [e9]
      rfl
    exact q9
theorem tagged_CheckStorage.hands (n : Nat) (a0 : ByteArray) (a1 : List AV) {p : Int × Int} (h : tagged_CheckStorage.F n a0 a1 = some p) : HandsIn Tryz.prog 20 [AV.agg [vs a0, .sl ⟨true, 4⟩ 1 a1]] (.tup [vi p.1, vi p.2]) := by
  refine hands_of cfg mixed (fun _ => rfl) rfl (tagged_CheckStorage.tells n) (fn := Tryz.f20) Tryz.func20 (by kernel_rfl) (by kernel_rfl) (cut := tagged_CheckStorage.cut) (K := tagged_CheckStorage.dec) (r := p) (n := n) tagged_CheckStorage.dec_inv ?_
  rw [funK_getD (by kernel_rfl)]
  have h1 := tagged_CheckStorage.e_eq n (runK G (tagged_CheckStorage.C n) tagged_CheckStorage.cut (fun S => finK G Tryz.f20.resultTypes.toList Tryz.f20.results.toList S tagged_CheckStorage.dec) n) tagged_CheckStorage.dec a0 a1
  have hl := tagged_CheckStorage.l_eq n n
  simp only [hl] at h1
  exact h1.trans h
noncomputable def tagged_CheckStorage.via {R : Type} (n : Nat) (xs : List AV) : (AV → Option R) → Option R := match xs with | [.agg [.v (.string a0), .sl ⟨true, 4⟩ 1 a1]] => fun K => (tagged_CheckStorage.F n a0 a1).bind fun p => K (.tup [vi p.1, vi p.2]) | _ => fun _ => none
theorem tagged_CheckStorage.tells1 {R : Type} (n : Nat) (xs : List AV) : Tells1 (R := R) Tryz.prog 20 xs (tagged_CheckStorage.via n xs) := by
  unfold tagged_CheckStorage.via
  split
  · exact Tells1.of (fun p hp => (tagged_CheckStorage.hands n _ _ hp).hands rfl)
  · exact Tells1.none
end Go.Proofs.YtgmpnhfnkhohiaaGreatDoor.Ev

/- midrange/tagged.repeats, out of its evaluation. Printed by the session's own program. -/
namespace Go.Proofs.YtgmpnhfnkhohiaaGreatDoor.Ev
open Go Go.Proofs Go.Proofs.Ev
set_option linter.unusedVariables false
set_option maxRecDepth 100000
/-! midrange/tagged.repeats: function 21 -/
noncomputable def tagged_repeats.e {R : Type} (n : Nat)  (k : Bool → Option R) (a0 : ByteArray) (a1 : List AV) (a2 : Int) : Option R :=
  bif decide (a2 > 0) then (bif decide ((0 : Int) ≤ a2) && decide (a2 < ((a1.length : Nat) : Int)) then (withCons ((a1.getD ((a2).toNat) .undef).cells) fun h1 r2 =>
  withBool h1 fun b3 =>
  bif !b3 then (bif decide ((0 : Int) ≤ IntKind.i64.wrap (a2 - 1)) && decide (IntKind.i64.wrap (a2 - 1) < ((a1.length : Nat) : Int)) then (withCons ((a1.getD ((IntKind.i64.wrap (a2 - 1)).toNat) .undef).cells) fun h4 r5 =>
  withBool h4 fun b6 =>
  bif !b6 then (let y7 : Int := IntKind.i64.wrap ((IntKind.i64.wrap (a2 * 16)) + 16)
  bif decide ((0 : Int) ≤ y7) && decide ((y7 : Int) ≤ ((a0.size : Nat) : Int)) then (bif decide ((0 : Int) ≤ IntKind.i64.wrap (a2 * 16)) && decide ((IntKind.i64.wrap (a2 * 16) : Int) ≤ y7) then (let y8 : ByteArray := a0.extract (IntKind.i64.wrap (a2 * 16)).toNat (y7).toNat
  let y9 : Int := IntKind.i64.wrap ((IntKind.i64.wrap (a2 * 16)) - 16)
  bif decide ((0 : Int) ≤ IntKind.i64.wrap (a2 * 16)) && decide ((IntKind.i64.wrap (a2 * 16) : Int) ≤ ((a0.size : Nat) : Int)) then (bif decide ((0 : Int) ≤ y9) && decide ((y9 : Int) ≤ IntKind.i64.wrap (a2 * 16)) then (let y10 : ByteArray := a0.extract (y9).toNat (IntKind.i64.wrap (a2 * 16)).toNat
  k (y8.toList == y10.toList)) else none) else none) else none) else none) else (k false)) else none) else (k false)) else none) else (k false)
noncomputable def tagged_repeats.C {R : Type} (n : Nat) (f : FuncId) (xs : List AV) : (AV → Option R) → Option R :=
  fun _ => none
theorem tagged_repeats.tells {R : Type} (n : Nat) : Tells (R := R) Tryz.prog (tagged_repeats.C n) := fun _ xs => Tells1.none
noncomputable def tagged_repeats.cut (r : Nat) : Option Keep := match r with  | _ => none
theorem tagged_repeats.e_eq {R : Type} (n : Nat) (rec : List Item → St → Option R) (K : AV → Option R) (a0 : ByteArray) (a1 : List AV) (a2 : Int) :
    goK G (tagged_repeats.C n) tagged_repeats.cut (fun S => finK G Tryz.f21.resultTypes.toList Tryz.f21.results.toList S K) rec 1000 [.code (Tryz.f21.body.getD .skip)] (Ev.start Tryz.f21 [AV.agg [vs a0, .sl ⟨true, 4⟩ 1 a1], vi a2]) = tagged_repeats.e n  (fun p => K (vb p)) a0 a1 a2 := by kernel_rfl
noncomputable def tagged_repeats.F (n : Nat) (a0 : ByteArray) (a1 : List AV) (a2 : Int) : Option (Bool) := tagged_repeats.e n  Option.some a0 a1 a2
noncomputable def tagged_repeats.dec (x : AV) : Option (Bool) := match x with | .v (.bool p0) => Option.some p0 | _ => none
theorem tagged_repeats.dec_inv {p : Bool} (y : AV) (h : tagged_repeats.dec y = some p) : y = vb p := by
  unfold tagged_repeats.dec at h
  split at h
  · cases h; rfl
  · cases h
theorem tagged_repeats.hands (n : Nat) (a0 : ByteArray) (a1 : List AV) (a2 : Int) {p : Bool} (h : tagged_repeats.F n a0 a1 a2 = some p) : HandsIn Tryz.prog 21 [AV.agg [vs a0, .sl ⟨true, 4⟩ 1 a1], vi a2] (vb p) := by
  refine hands_of cfg mixed (fun _ => rfl) rfl (tagged_repeats.tells n) (fn := Tryz.f21) Tryz.func21 (by kernel_rfl) (by kernel_rfl) (cut := tagged_repeats.cut) (K := tagged_repeats.dec) (r := p) (n := n) tagged_repeats.dec_inv ?_
  rw [funK_getD (by kernel_rfl)]
  have h1 := tagged_repeats.e_eq n (runK G (tagged_repeats.C n) tagged_repeats.cut (fun S => finK G Tryz.f21.resultTypes.toList Tryz.f21.results.toList S tagged_repeats.dec) n) tagged_repeats.dec a0 a1 a2
  exact h1.trans h
noncomputable def tagged_repeats.via {R : Type} (n : Nat) (xs : List AV) : (AV → Option R) → Option R := match xs with | [.agg [.v (.string a0), .sl ⟨true, 4⟩ 1 a1], .v (.int .i64 a2)] => fun K => (tagged_repeats.F n a0 a1 a2).bind fun p => K (vb p) | _ => fun _ => none
theorem tagged_repeats.tells1 {R : Type} (n : Nat) (xs : List AV) : Tells1 (R := R) Tryz.prog 21 xs (tagged_repeats.via n xs) := by
  unfold tagged_repeats.via
  split
  · exact Tells1.of (fun p hp => (tagged_repeats.hands n _ _ _ hp).hands rfl)
  · exact Tells1.none
end Go.Proofs.YtgmpnhfnkhohiaaGreatDoor.Ev

/-
  DERIVED: THE SHELF's CONTRACTS AT THIS DUMP, IN PLAIN WORDS (tools/lay-plain.mjs out of 'YtgmpnhfnkhohiaaGreatDoorS.lean', which tools/lay-shelf.mjs wrote): THE SAME DECLARATIONS UNDER THE SAME NAMES: 'import', 'namespace', 'open', 'def', 'theorem' AND NOTHING ELSE: no command of the shelf's: FOR A HAND-IN. Each laying: the table of numbers ('.._ren') and one theorem, a field a fact of the dump's own or the kernel's comparison; each contract: ONE APPLICATION.
-/
namespace Go.Proofs
open Go.Shelf
def Tryz.lays137_ren : Go.Shelf.Ren := ⟨fun | 137 => 95 | 217 => 102 | 266 => 121 | n => n, fun | 9 => 9 | 5 => 5 | 3 => 3 | n => n, fun | n => n⟩
theorem Tryz.lays137 : Go.Proofs.Lays.n137 Tryz.prog Tryz.lays137_ren := {
  mixed := by kernel_rfl
  f137 := Tryz.func95.trans (congrArg some (by kernel_rfl))
  f217 := Tryz.func102.trans (congrArg some (by kernel_rfl))
  f266 := Tryz.func121.trans (congrArg some (by kernel_rfl))
  t3 := Tryz.underlying3
  a3 := Tryz.isAgg3
  z3 := Tryz.sizeOf3
  v3 := Tryz.zeroValue3
  t5 := Tryz.underlying5
  a5 := Tryz.isAgg5
  z5 := Tryz.sizeOf5
  v5 := Tryz.zeroValue5
  t9 := Tryz.underlying9
  a9 := Tryz.isAgg9
  z9 := Tryz.sizeOf9
  v9 := Tryz.zeroValue9 }
open Go.RowKit in
theorem Tryz.strings_IndexByte (s : ByteArray) (c : Int) (w : World) :
    Calls Tryz.prog 95 #[.string s, .int .u8 c] w fun e w' => e = .returned (.int .i64 (Lib.indexByte s.data.toList c.toNat.toUInt8)) ∧ w' = w := Any.strings_IndexByte Tryz.lays137 s c w
def Tryz.lays171_ren : Go.Shelf.Ren := ⟨fun | 171 => 23 | 243 => 49 | 246 => 78 | 283 => 98 | 284 => 99 | 285 => 100 | 286 => 101 | 129 => 117 | 317 => 116 | 318 => 118 | 319 => 119 | 320 => 120 | 337 => 128 | 338 => 129 | n => n, fun | 3 => 3 | 9 => 9 | 2 => 2 | 4 => 4 | 171 => 138 | 0 => 0 | 53 => 131 | 37 => 55 | 5 => 5 | 173 => 141 | 212 => 153 | 51 => 128 | 20 => 20 | 213 => 154 | 46 => 100 | 232 => 169 | 233 => 170 | n => n, fun | 17 => 3 | 18 => 6 | 19 => 7 | n => n⟩
theorem Tryz.lays171 : Go.Proofs.Lays.n171 Tryz.prog Tryz.lays171_ren := {
  mixed := by kernel_rfl
  f129 := Tryz.func117.trans (congrArg some (by kernel_rfl))
  f171 := Tryz.func23.trans (congrArg some (by kernel_rfl))
  f243 := Tryz.func49.trans (congrArg some (by kernel_rfl))
  f246 := Tryz.func78.trans (congrArg some (by kernel_rfl))
  f283 := Tryz.func98.trans (congrArg some (by kernel_rfl))
  f284 := Tryz.func99.trans (congrArg some (by kernel_rfl))
  f285 := Tryz.func100.trans (congrArg some (by kernel_rfl))
  f286 := Tryz.func101.trans (congrArg some (by kernel_rfl))
  f317 := Tryz.func116.trans (congrArg some (by kernel_rfl))
  f318 := Tryz.func118.trans (congrArg some (by kernel_rfl))
  f319 := Tryz.func119.trans (congrArg some (by kernel_rfl))
  f320 := Tryz.func120.trans (congrArg some (by kernel_rfl))
  f337 := Tryz.func128.trans (congrArg some (by kernel_rfl))
  f338 := Tryz.func129.trans (congrArg some (by kernel_rfl))
  t0 := Tryz.underlying0
  a0 := Tryz.isAgg0
  z0 := Tryz.sizeOf0
  v0 := Tryz.zeroValue0
  t2 := Tryz.underlying2
  a2 := Tryz.isAgg2
  z2 := Tryz.sizeOf2
  v2 := Tryz.zeroValue2
  t3 := Tryz.underlying3
  a3 := Tryz.isAgg3
  z3 := Tryz.sizeOf3
  v3 := Tryz.zeroValue3
  t4 := Tryz.underlying4
  a4 := Tryz.isAgg4
  z4 := Tryz.sizeOf4
  v4 := Tryz.zeroValue4
  t5 := Tryz.underlying5
  a5 := Tryz.isAgg5
  z5 := Tryz.sizeOf5
  v5 := Tryz.zeroValue5
  t9 := Tryz.underlying9
  a9 := Tryz.isAgg9
  z9 := Tryz.sizeOf9
  v9 := Tryz.zeroValue9
  t20 := Tryz.underlying20
  a20 := Tryz.isAgg20
  z20 := Tryz.sizeOf20
  v20 := Tryz.zeroValue20
  t37 := Tryz.underlying55
  a37 := Tryz.isAgg55
  z37 := Tryz.sizeOf55
  v37 := Tryz.zeroValue55
  t46 := Tryz.underlying100
  a46 := Tryz.isAgg100
  z46 := Tryz.sizeOf100
  v46 := Tryz.zeroValue100
  t51 := Tryz.underlying128
  a51 := Tryz.isAgg128
  z51 := Tryz.sizeOf128
  v51 := Tryz.zeroValue128
  t53 := Tryz.underlying131
  a53 := Tryz.isAgg131
  z53 := Tryz.sizeOf131
  v53 := Tryz.zeroValue131
  t171 := Tryz.underlying138
  a171 := Tryz.isAgg138
  z171 := Tryz.sizeOf138
  v171 := Tryz.zeroValue138
  t173 := Tryz.underlying141
  a173 := Tryz.isAgg141
  z173 := Tryz.sizeOf141
  v173 := Tryz.zeroValue141
  t212 := Tryz.underlying153
  a212 := Tryz.isAgg153
  z212 := Tryz.sizeOf153
  v212 := Tryz.zeroValue153
  t213 := Tryz.underlying154
  a213 := Tryz.isAgg154
  z213 := Tryz.sizeOf154
  t232 := Tryz.underlying169
  a232 := Tryz.isAgg169
  z232 := Tryz.sizeOf169
  v232 := Tryz.zeroValue169
  t233 := Tryz.underlying170
  a233 := Tryz.isAgg170
  z233 := Tryz.sizeOf170
  v233 := Tryz.zeroValue170
  g17 := by kernel_rfl
  g18 := by kernel_rfl
  g19 := by kernel_rfl }
open Go.RowKit Go.Sort Go.Lib in
theorem Tryz.strconv_Itoa_small (i : Nat) (hi : i < 100) (w : World) :
    Calls Tryz.prog 23 #[.int .i64 i] w fun e w' => e = .returned (.string ⟨(Lib.decDigits i).toArray⟩) ∧ w' = w := Any.strconv_Itoa_small Tryz.lays171 i hi w
def Tryz.laysM145_ren : Go.Shelf.Ren := ⟨fun | 145 => 31 | 220 => 53 | 219 => 80 | 217 => 102 | 225 => 103 | 224 => 104 | 267 => 105 | 266 => 121 | 314 => 122 | n => n, fun | 9 => 9 | 4 => 4 | 59 => 70 | 3 => 3 | 5 => 5 | 46 => 100 | 146 => 129 | 51 => 128 | n => n, fun | 1 => 0 | n => n⟩
theorem Tryz.laysM145 : Go.Proofs.LaysM.n145 Tryz.prog Tryz.laysM145_ren := {
  mixed := by kernel_rfl
  f145 := Tryz.func31.trans (congrArg some (by kernel_rfl))
  f217 := Tryz.func102.trans (congrArg some (by kernel_rfl))
  f219 := Tryz.func80.trans (congrArg some (by kernel_rfl))
  f220 := Tryz.func53.trans (congrArg some (by kernel_rfl))
  f224 := Tryz.func104.trans (congrArg some (by kernel_rfl))
  f225 := Tryz.func103.trans (congrArg some (by kernel_rfl))
  f266 := Tryz.func121.trans (congrArg some (by kernel_rfl))
  f267 := Tryz.func105.trans (congrArg some (by kernel_rfl))
  f314 := Tryz.func122.trans (congrArg some (by kernel_rfl))
  t3 := Tryz.underlying3
  a3 := Tryz.isAgg3
  z3 := Tryz.sizeOf3
  v3 := Tryz.zeroValue3
  t4 := Tryz.underlying4
  a4 := Tryz.isAgg4
  z4 := Tryz.sizeOf4
  v4 := Tryz.zeroValue4
  t5 := Tryz.underlying5
  a5 := Tryz.isAgg5
  z5 := Tryz.sizeOf5
  v5 := Tryz.zeroValue5
  t9 := Tryz.underlying9
  a9 := Tryz.isAgg9
  z9 := Tryz.sizeOf9
  v9 := Tryz.zeroValue9
  t46 := Tryz.underlying100
  a46 := Tryz.isAgg100
  z46 := Tryz.sizeOf100
  v46 := Tryz.zeroValue100
  t51 := Tryz.underlying128
  a51 := Tryz.isAgg128
  z51 := Tryz.sizeOf128
  v51 := Tryz.zeroValue128
  t59 := Tryz.underlying70
  a59 := Tryz.isAgg70
  z59 := Tryz.sizeOf70
  v59 := Tryz.zeroValue70
  t146 := Tryz.underlying129
  a146 := Tryz.isAgg129
  z146 := Tryz.sizeOf129
  v146 := Tryz.zeroValue129
  g1 := by kernel_rfl
  i3 := by kernel_rfl
  i4 := by kernel_rfl
  i5 := by kernel_rfl
  i9 := by kernel_rfl
  i46 := by kernel_rfl
  i51 := by kernel_rfl
  i59 := by kernel_rfl
  i146 := by kernel_rfl
  m1 := by kernel_rfl
  s1_3 := fun w h => Go.Proofs.cell_of_shapedOpen_int (zero := #[.int .i64 0]) (t := 3) h (of_decide_eq_true (by kernel_rfl)) (by kernel_rfl) rfl (by kernel_rfl) (by kernel_rfl) Tryz.underlying3 }
open Go.RowKit Go.Lib in
theorem Tryz.strings_Cut_shaped (s sep : ByteArray) (w : World) (h : w.ShapedOpen Tryz.prog) (hs : s.size < 4294967281) :
    Calls Tryz.prog 31 #[.string s, .string sep] w fun e w' => e = .returned (.tuple #[.string ⟨(Lib.cut s.data.toList sep.data.toList).1.toArray⟩, .string ⟨(Lib.cut s.data.toList sep.data.toList).2.1.toArray⟩, .bool (Lib.cut s.data.toList sep.data.toList).2.2]) ∧ ∃ n, w' = w.drewN n := Any.strings_Cut_shaped Tryz.laysM145 s sep w h hs
def Tryz.lays105_ren : Go.Shelf.Ren := ⟨fun | 105 => 35 | 212 => 64 | 99 => 65 | 165 => 66 | 166 => 22 | 170 => 67 | 169 => 25 | 263 => 91 | 264 => 92 | 206 => 81 | 240 => 48 | 241 => 93 | 276 => 77 | 277 => 112 | n => n, fun | 9 => 9 | 3 => 3 | 4 => 4 | 20 => 20 | 0 => 0 | 46 => 100 | 109 => 101 | 5 => 5 | 72 => 57 | 76 => 61 | 51 => 128 | 146 => 129 | 53 => 131 | 148 => 132 | 70 => 54 | 37 => 55 | 75 => 60 | 127 => 91 | 164 => 113 | 80 => 65 | n => n, fun | n => n⟩
theorem Tryz.lays105 : Go.Proofs.Lays.n105 Tryz.prog Tryz.lays105_ren := {
  mixed := by kernel_rfl
  f99 := Tryz.func65.trans (congrArg some (by kernel_rfl))
  f105 := Tryz.func35.trans (congrArg some (by kernel_rfl))
  f165 := Tryz.func66.trans (congrArg some (by kernel_rfl))
  f166 := Tryz.func22.trans (congrArg some (by kernel_rfl))
  f169 := Tryz.func25.trans (congrArg some (by kernel_rfl))
  f170 := Tryz.func67.trans (congrArg some (by kernel_rfl))
  f206 := Tryz.func81.trans (congrArg some (by kernel_rfl))
  f212 := Tryz.func64.trans (congrArg some (by kernel_rfl))
  f240 := Tryz.func48.trans (congrArg some (by kernel_rfl))
  f241 := Tryz.func93.trans (congrArg some (by kernel_rfl))
  f263 := Tryz.func91.trans (congrArg some (by kernel_rfl))
  f264 := Tryz.func92.trans (congrArg some (by kernel_rfl))
  f276 := Tryz.func77.trans (congrArg some (by kernel_rfl))
  f277 := Tryz.func112.trans (congrArg some (by kernel_rfl))
  t0 := Tryz.underlying0
  a0 := Tryz.isAgg0
  z0 := Tryz.sizeOf0
  v0 := Tryz.zeroValue0
  t3 := Tryz.underlying3
  a3 := Tryz.isAgg3
  z3 := Tryz.sizeOf3
  v3 := Tryz.zeroValue3
  t4 := Tryz.underlying4
  a4 := Tryz.isAgg4
  z4 := Tryz.sizeOf4
  v4 := Tryz.zeroValue4
  t5 := Tryz.underlying5
  a5 := Tryz.isAgg5
  z5 := Tryz.sizeOf5
  v5 := Tryz.zeroValue5
  t9 := Tryz.underlying9
  a9 := Tryz.isAgg9
  z9 := Tryz.sizeOf9
  v9 := Tryz.zeroValue9
  t20 := Tryz.underlying20
  a20 := Tryz.isAgg20
  z20 := Tryz.sizeOf20
  v20 := Tryz.zeroValue20
  t37 := Tryz.underlying55
  a37 := Tryz.isAgg55
  z37 := Tryz.sizeOf55
  v37 := Tryz.zeroValue55
  t46 := Tryz.underlying100
  a46 := Tryz.isAgg100
  z46 := Tryz.sizeOf100
  v46 := Tryz.zeroValue100
  t51 := Tryz.underlying128
  a51 := Tryz.isAgg128
  z51 := Tryz.sizeOf128
  v51 := Tryz.zeroValue128
  t53 := Tryz.underlying131
  a53 := Tryz.isAgg131
  z53 := Tryz.sizeOf131
  v53 := Tryz.zeroValue131
  t70 := Tryz.underlying54
  a70 := Tryz.isAgg54
  z70 := Tryz.sizeOf54
  v70 := Tryz.zeroValue54
  t72 := Tryz.underlying57
  a72 := Tryz.isAgg57
  z72 := Tryz.sizeOf57
  v72 := Tryz.zeroValue57
  t75 := Tryz.underlying60
  a75 := Tryz.isAgg60
  z75 := Tryz.sizeOf60
  v75 := Tryz.zeroValue60
  t76 := Tryz.underlying61
  a76 := Tryz.isAgg61
  z76 := Tryz.sizeOf61
  v76 := Tryz.zeroValue61
  t109 := Tryz.underlying101
  a109 := Tryz.isAgg101
  z109 := Tryz.sizeOf101
  v109 := Tryz.zeroValue101
  t127 := Tryz.underlying91
  a127 := Tryz.isAgg91
  z127 := Tryz.sizeOf91
  v127 := Tryz.zeroValue91
  t146 := Tryz.underlying129
  a146 := Tryz.isAgg129
  z146 := Tryz.sizeOf129
  v146 := Tryz.zeroValue129
  t148 := Tryz.underlying132
  a148 := Tryz.isAgg132
  z148 := Tryz.sizeOf132
  v148 := Tryz.zeroValue132
  t164 := Tryz.underlying113
  a164 := Tryz.isAgg113
  z164 := Tryz.sizeOf113
  v164 := Tryz.zeroValue113 }
theorem Tryz.Builder_Extra_105 : Builder.Extra Tryz.prog Tryz.lays105_ren := {
  sizeBuilder := by kernel_rfl
  liesBuilder := by kernel_rfl
  t5 := Tryz.underlying5
  a5 := Tryz.isAgg5
  z5 := Tryz.sizeOf5
  v5 := Tryz.zeroValue5
  infoByte := by kernel_rfl
  cellsByte := by kernel_rfl
  sizeByte := by kernel_rfl
  neB5 := by decide }
open Go.RowKit Go.Lib in
theorem Tryz.strings_Repeat (s : ByteArray) (c : Nat) (w : World) (hc : c ≤ 9223372036854775807) (hlen : s.size * c ≤ 140737488355328) :
    Calls Tryz.prog 35 #[.string s, .int .i64 c] w fun e w' => e = .returned (.string ⟨(Lib.repeatL s.data.toList c).toArray⟩) ∧ Below w.heap.size w w' := Any.strings_Repeat Tryz.lays105 Tryz.Builder_Extra_105 s c w hc hlen
def Tryz.laysM146_ren : Go.Shelf.Ren := ⟨fun | 146 => 68 | 221 => 94 | 268 => 113 | 138 => 114 | 143 => 115 | 195 => 126 | 197 => 88 | 218 => 127 | 219 => 80 | 260 => 109 | 217 => 102 | 225 => 103 | 224 => 104 | 267 => 105 | 266 => 121 | 314 => 122 | n => n, fun | 9 => 9 | 31 => 106 | 3 => 3 | 4 => 4 | 0 => 0 | 105 => 125 | 21 => 21 | 5 => 5 | 46 => 100 | 119 => 163 | 139 => 166 | 138 => 165 | 146 => 129 | 51 => 128 | n => n, fun | 1 => 0 | 3 => 4 | 4 => 5 | n => n⟩
theorem Tryz.laysM146 : Go.Proofs.LaysM.n146 Tryz.prog Tryz.laysM146_ren := {
  mixed := by kernel_rfl
  f138 := Tryz.func114.trans (congrArg some (by kernel_rfl))
  f143 := Tryz.func115.trans (congrArg some (by kernel_rfl))
  f146 := Tryz.func68.trans (congrArg some (by kernel_rfl))
  f195 := Tryz.func126.trans (congrArg some (by kernel_rfl))
  f197 := Tryz.func88.trans (congrArg some (by kernel_rfl))
  f217 := Tryz.func102.trans (congrArg some (by kernel_rfl))
  f218 := Tryz.func127.trans (congrArg some (by kernel_rfl))
  f219 := Tryz.func80.trans (congrArg some (by kernel_rfl))
  f221 := Tryz.func94.trans (congrArg some (by kernel_rfl))
  f224 := Tryz.func104.trans (congrArg some (by kernel_rfl))
  f225 := Tryz.func103.trans (congrArg some (by kernel_rfl))
  f260 := Tryz.func109.trans (congrArg some (by kernel_rfl))
  f266 := Tryz.func121.trans (congrArg some (by kernel_rfl))
  f267 := Tryz.func105.trans (congrArg some (by kernel_rfl))
  f268 := Tryz.func113.trans (congrArg some (by kernel_rfl))
  f314 := Tryz.func122.trans (congrArg some (by kernel_rfl))
  t0 := Tryz.underlying0
  a0 := Tryz.isAgg0
  z0 := Tryz.sizeOf0
  v0 := Tryz.zeroValue0
  t3 := Tryz.underlying3
  a3 := Tryz.isAgg3
  z3 := Tryz.sizeOf3
  v3 := Tryz.zeroValue3
  t4 := Tryz.underlying4
  a4 := Tryz.isAgg4
  z4 := Tryz.sizeOf4
  v4 := Tryz.zeroValue4
  t5 := Tryz.underlying5
  a5 := Tryz.isAgg5
  z5 := Tryz.sizeOf5
  v5 := Tryz.zeroValue5
  t9 := Tryz.underlying9
  a9 := Tryz.isAgg9
  z9 := Tryz.sizeOf9
  v9 := Tryz.zeroValue9
  t21 := Tryz.underlying21
  a21 := Tryz.isAgg21
  z21 := Tryz.sizeOf21
  v21 := Tryz.zeroValue21
  t31 := Tryz.underlying106
  a31 := Tryz.isAgg106
  z31 := Tryz.sizeOf106
  v31 := Tryz.zeroValue106
  t46 := Tryz.underlying100
  a46 := Tryz.isAgg100
  z46 := Tryz.sizeOf100
  v46 := Tryz.zeroValue100
  t51 := Tryz.underlying128
  a51 := Tryz.isAgg128
  z51 := Tryz.sizeOf128
  v51 := Tryz.zeroValue128
  t105 := Tryz.underlying125
  a105 := Tryz.isAgg125
  z105 := Tryz.sizeOf125
  v105 := Tryz.zeroValue125
  t119 := Tryz.underlying163
  a119 := Tryz.isAgg163
  z119 := Tryz.sizeOf163
  t138 := Tryz.underlying165
  a138 := Tryz.isAgg165
  z138 := Tryz.sizeOf165
  v138 := Tryz.zeroValue165
  t139 := Tryz.underlying166
  a139 := Tryz.isAgg166
  z139 := Tryz.sizeOf166
  v139 := Tryz.zeroValue166
  t146 := Tryz.underlying129
  a146 := Tryz.isAgg129
  z146 := Tryz.sizeOf129
  v146 := Tryz.zeroValue129
  g1 := by kernel_rfl
  g3 := by kernel_rfl
  g4 := by kernel_rfl
  i0 := by kernel_rfl
  i3 := by kernel_rfl
  i4 := by kernel_rfl
  i5 := by kernel_rfl
  i9 := by kernel_rfl
  i21 := by kernel_rfl
  i31 := by kernel_rfl
  i46 := by kernel_rfl
  i51 := by kernel_rfl
  i105 := by kernel_rfl
  i138 := by kernel_rfl
  i139 := by kernel_rfl
  i146 := by kernel_rfl
  m1 := by kernel_rfl
  s1_3 := fun w h => Go.Proofs.cell_of_shapedOpen_int (zero := #[.int .i64 0]) (t := 3) h (of_decide_eq_true (by kernel_rfl)) (by kernel_rfl) rfl (by kernel_rfl) (by kernel_rfl) Tryz.underlying3
  m3 := by kernel_rfl
  m4 := by kernel_rfl }
open Go.RowKit Go.Lib in
theorem Tryz.strings_Split_shaped (s sep : ByteArray) (w : World) (h : w.ShapedOpen Tryz.prog) (hs : s.size < 4294967281) (h1 : 1 ≤ sep.size) :
    Calls Tryz.prog 68 #[.string s, .string sep] w fun e w' =>
      e = .returned (.slice (some ⟨w.heap.size, 0, none⟩) (Lib.countB s sep + 1) (Lib.countB s sep + 1)) ∧ w' = w.alloc (.cells ((Lib.splitB sep 0 (Lib.countB s sep) s).map Value.string).toArray 9) := Any.strings_Split_shaped Tryz.laysM146 s sep w h hs h1
def Tryz.lays160_ren : Go.Shelf.Ren := ⟨fun | 160 => 34 | 232 => 58 | 231 => 57 | 227 => 59 | 234 => 61 | 233 => 60 | 236 => 63 | 235 => 62 | 228 => 87 | 271 => 90 | 151 => 89 | 197 => 88 | 120 => 111 | 152 => 110 | 260 => 109 | 137 => 95 | 119 => 125 | 224 => 104 | 225 => 103 | 217 => 102 | 266 => 121 | n => n, fun | 9 => 9 | 4 => 4 | 3 => 3 | 5 => 5 | 117 => 96 | 116 => 95 | 0 => 0 | 124 => 99 | 21 => 21 | 105 => 125 | 46 => 100 | 119 => 163 | 139 => 166 | 138 => 165 | n => n, fun | 3 => 4 | 4 => 5 | n => n⟩
theorem Tryz.lays160 : Go.Proofs.Lays.n160 Tryz.prog Tryz.lays160_ren := {
  mixed := by kernel_rfl
  f119 := Tryz.func125.trans (congrArg some (by kernel_rfl))
  f120 := Tryz.func111.trans (congrArg some (by kernel_rfl))
  f137 := Tryz.func95.trans (congrArg some (by kernel_rfl))
  f151 := Tryz.func89.trans (congrArg some (by kernel_rfl))
  f152 := Tryz.func110.trans (congrArg some (by kernel_rfl))
  f160 := Tryz.func34.trans (congrArg some (by kernel_rfl))
  f197 := Tryz.func88.trans (congrArg some (by kernel_rfl))
  f217 := Tryz.func102.trans (congrArg some (by kernel_rfl))
  f224 := Tryz.func104.trans (congrArg some (by kernel_rfl))
  f225 := Tryz.func103.trans (congrArg some (by kernel_rfl))
  f227 := Tryz.func59.trans (congrArg some (by kernel_rfl))
  f228 := Tryz.func87.trans (congrArg some (by kernel_rfl))
  f231 := Tryz.func57.trans (congrArg some (by kernel_rfl))
  f232 := Tryz.func58.trans (congrArg some (by kernel_rfl))
  f233 := Tryz.func60.trans (congrArg some (by kernel_rfl))
  f234 := Tryz.func61.trans (congrArg some (by kernel_rfl))
  f235 := Tryz.func62.trans (congrArg some (by kernel_rfl))
  f236 := Tryz.func63.trans (congrArg some (by kernel_rfl))
  f260 := Tryz.func109.trans (congrArg some (by kernel_rfl))
  f266 := Tryz.func121.trans (congrArg some (by kernel_rfl))
  f271 := Tryz.func90.trans (congrArg some (by kernel_rfl))
  t0 := Tryz.underlying0
  a0 := Tryz.isAgg0
  z0 := Tryz.sizeOf0
  v0 := Tryz.zeroValue0
  t3 := Tryz.underlying3
  a3 := Tryz.isAgg3
  z3 := Tryz.sizeOf3
  v3 := Tryz.zeroValue3
  t4 := Tryz.underlying4
  a4 := Tryz.isAgg4
  z4 := Tryz.sizeOf4
  v4 := Tryz.zeroValue4
  t5 := Tryz.underlying5
  a5 := Tryz.isAgg5
  z5 := Tryz.sizeOf5
  v5 := Tryz.zeroValue5
  t9 := Tryz.underlying9
  a9 := Tryz.isAgg9
  z9 := Tryz.sizeOf9
  v9 := Tryz.zeroValue9
  t21 := Tryz.underlying21
  a21 := Tryz.isAgg21
  z21 := Tryz.sizeOf21
  v21 := Tryz.zeroValue21
  t46 := Tryz.underlying100
  a46 := Tryz.isAgg100
  z46 := Tryz.sizeOf100
  v46 := Tryz.zeroValue100
  t105 := Tryz.underlying125
  a105 := Tryz.isAgg125
  z105 := Tryz.sizeOf125
  v105 := Tryz.zeroValue125
  t116 := Tryz.underlying95
  a116 := Tryz.isAgg95
  z116 := Tryz.sizeOf95
  t117 := Tryz.underlying96
  a117 := Tryz.isAgg96
  z117 := Tryz.sizeOf96
  v117 := Tryz.zeroValue96
  t119 := Tryz.underlying163
  a119 := Tryz.isAgg163
  z119 := Tryz.sizeOf163
  t124 := Tryz.underlying99
  a124 := Tryz.isAgg99
  z124 := Tryz.sizeOf99
  v124 := Tryz.zeroValue99
  t138 := Tryz.underlying165
  a138 := Tryz.isAgg165
  z138 := Tryz.sizeOf165
  v138 := Tryz.zeroValue165
  t139 := Tryz.underlying166
  a139 := Tryz.isAgg166
  z139 := Tryz.sizeOf166
  v139 := Tryz.zeroValue166
  g3 := by kernel_rfl
  g4 := by kernel_rfl }
open Go.RowKit Go.Lib in
theorem Tryz.strings_Trim_laid (s cutset : ByteArray) (w : World) (hs : s.size ≤ 9223372036854775807) (hcs : cutset.size < 4294967281) (hascii : ∀ (j : Nat) b, cutset.data.toList[j]? = some b → b.toNat < 128) :
    Calls Tryz.prog 34 #[.string s, .string cutset] w fun e w' => e = .returned (.string ⟨(Lib.trimS s.data.toList cutset.data.toList).toArray⟩) ∧ Below w.heap.size w w' := Any.strings_Trim_laid Tryz.lays160 (by kernel_rfl) s cutset w hs hcs hascii
def Tryz.laysC172_ren : Go.Shelf.Ren := ⟨fun | 172 => 33 | 244 => 55 | 245 => 56 | 247 => 82 | 279 => 83 | 280 => 84 | 281 => 85 | 282 => 86 | 287 => 106 | 316 => 107 | 171 => 23 | 205 => 108 | 321 => 123 | 322 => 124 | 243 => 49 | 246 => 78 | 283 => 98 | 284 => 99 | 285 => 100 | 286 => 101 | 129 => 117 | 317 => 116 | 318 => 118 | 319 => 119 | 320 => 120 | 337 => 128 | 338 => 129 | n => n, fun | 9 => 9 | 3 => 3 | 75 => 60 | 76 => 61 | 4 => 4 | 5 => 5 | 167 => 118 | 37 => 55 | 0 => 0 | 85 => 119 | 2 => 2 | 168 => 121 | 53 => 131 | 175 => 144 | 46 => 100 | 210 => 147 | 127 => 91 | 145 => 162 | 143 => 160 | 21 => 21 | 171 => 138 | 173 => 141 | 212 => 153 | 51 => 128 | 20 => 20 | 213 => 154 | 232 => 169 | 233 => 170 | 80 => 65 | n => n, fun | 15 => 1 | 16 => 2 | 17 => 3 | 18 => 6 | 19 => 7 | n => n⟩
theorem Tryz.laysC172 : Go.Proofs.LaysC.n172 Tryz.prog Tryz.laysC172_ren := {
  mixed := by kernel_rfl
  f129 := Tryz.func117.trans (congrArg some (by kernel_rfl))
  f171 := Tryz.func23.trans (congrArg some (by kernel_rfl))
  f172 := Tryz.func33.trans (congrArg some (by kernel_rfl))
  f205 := Tryz.func108.trans (congrArg some (by kernel_rfl))
  f243 := Tryz.func49.trans (congrArg some (by kernel_rfl))
  f244 := Tryz.func55.trans (congrArg some (by kernel_rfl))
  f245 := Tryz.func56.trans (congrArg some (by kernel_rfl))
  f246 := Tryz.func78.trans (congrArg some (by kernel_rfl))
  f247 := Tryz.func82.trans (congrArg some (by kernel_rfl))
  f279 := Tryz.func83.trans (congrArg some (by kernel_rfl))
  f280 := Tryz.func84.trans (congrArg some (by kernel_rfl))
  f281 := Tryz.func85.trans (congrArg some (by kernel_rfl))
  f282 := Tryz.func86.trans (congrArg some (by kernel_rfl))
  f283 := Tryz.func98.trans (congrArg some (by kernel_rfl))
  f284 := Tryz.func99.trans (congrArg some (by kernel_rfl))
  f285 := Tryz.func100.trans (congrArg some (by kernel_rfl))
  f286 := Tryz.func101.trans (congrArg some (by kernel_rfl))
  f287 := Tryz.func106.trans (congrArg some (by kernel_rfl))
  f316 := Tryz.func107.trans (congrArg some (by kernel_rfl))
  f317 := Tryz.func116.trans (congrArg some (by kernel_rfl))
  f318 := Tryz.func118.trans (congrArg some (by kernel_rfl))
  f319 := Tryz.func119.trans (congrArg some (by kernel_rfl))
  f320 := Tryz.func120.trans (congrArg some (by kernel_rfl))
  f321 := Tryz.func123.trans (congrArg some (by kernel_rfl))
  f322 := Tryz.func124.trans (congrArg some (by kernel_rfl))
  f337 := Tryz.func128.trans (congrArg some (by kernel_rfl))
  f338 := Tryz.func129.trans (congrArg some (by kernel_rfl))
  t0 := Tryz.underlying0
  a0 := Tryz.isAgg0
  z0 := Tryz.sizeOf0
  v0 := Tryz.zeroValue0
  t2 := Tryz.underlying2
  a2 := Tryz.isAgg2
  z2 := Tryz.sizeOf2
  v2 := Tryz.zeroValue2
  t3 := Tryz.underlying3
  a3 := Tryz.isAgg3
  z3 := Tryz.sizeOf3
  v3 := Tryz.zeroValue3
  t4 := Tryz.underlying4
  a4 := Tryz.isAgg4
  z4 := Tryz.sizeOf4
  v4 := Tryz.zeroValue4
  t5 := Tryz.underlying5
  a5 := Tryz.isAgg5
  z5 := Tryz.sizeOf5
  v5 := Tryz.zeroValue5
  t9 := Tryz.underlying9
  a9 := Tryz.isAgg9
  z9 := Tryz.sizeOf9
  v9 := Tryz.zeroValue9
  t20 := Tryz.underlying20
  a20 := Tryz.isAgg20
  z20 := Tryz.sizeOf20
  v20 := Tryz.zeroValue20
  t21 := Tryz.underlying21
  a21 := Tryz.isAgg21
  z21 := Tryz.sizeOf21
  v21 := Tryz.zeroValue21
  t37 := Tryz.underlying55
  a37 := Tryz.isAgg55
  z37 := Tryz.sizeOf55
  v37 := Tryz.zeroValue55
  t46 := Tryz.underlying100
  a46 := Tryz.isAgg100
  z46 := Tryz.sizeOf100
  v46 := Tryz.zeroValue100
  t51 := Tryz.underlying128
  a51 := Tryz.isAgg128
  z51 := Tryz.sizeOf128
  v51 := Tryz.zeroValue128
  t53 := Tryz.underlying131
  a53 := Tryz.isAgg131
  z53 := Tryz.sizeOf131
  v53 := Tryz.zeroValue131
  t75 := Tryz.underlying60
  a75 := Tryz.isAgg60
  z75 := Tryz.sizeOf60
  v75 := Tryz.zeroValue60
  t76 := Tryz.underlying61
  a76 := Tryz.isAgg61
  z76 := Tryz.sizeOf61
  v76 := Tryz.zeroValue61
  t85 := Tryz.underlying119
  a85 := Tryz.isAgg119
  z85 := Tryz.sizeOf119
  v85 := Tryz.zeroValue119
  t127 := Tryz.underlying91
  a127 := Tryz.isAgg91
  z127 := Tryz.sizeOf91
  v127 := Tryz.zeroValue91
  t143 := Tryz.underlying160
  a143 := Tryz.isAgg160
  z143 := Tryz.sizeOf160
  v143 := Tryz.zeroValue160
  t145 := Tryz.underlying162
  a145 := Tryz.isAgg162
  z145 := Tryz.sizeOf162
  v145 := Tryz.zeroValue162
  t167 := Tryz.underlying118
  a167 := Tryz.isAgg118
  z167 := Tryz.sizeOf118
  v167 := Tryz.zeroValue118
  t168 := Tryz.underlying121
  a168 := Tryz.isAgg121
  z168 := Tryz.sizeOf121
  v168 := Tryz.zeroValue121
  t171 := Tryz.underlying138
  a171 := Tryz.isAgg138
  z171 := Tryz.sizeOf138
  v171 := Tryz.zeroValue138
  t173 := Tryz.underlying141
  a173 := Tryz.isAgg141
  z173 := Tryz.sizeOf141
  v173 := Tryz.zeroValue141
  t175 := Tryz.underlying144
  a175 := Tryz.isAgg144
  z175 := Tryz.sizeOf144
  v175 := Tryz.zeroValue144
  t210 := Tryz.underlying147
  a210 := Tryz.isAgg147
  z210 := Tryz.sizeOf147
  v210 := Tryz.zeroValue147
  t212 := Tryz.underlying153
  a212 := Tryz.isAgg153
  z212 := Tryz.sizeOf153
  v212 := Tryz.zeroValue153
  t213 := Tryz.underlying154
  a213 := Tryz.isAgg154
  z213 := Tryz.sizeOf154
  t232 := Tryz.underlying169
  a232 := Tryz.isAgg169
  z232 := Tryz.sizeOf169
  v232 := Tryz.zeroValue169
  t233 := Tryz.underlying170
  a233 := Tryz.isAgg170
  z233 := Tryz.sizeOf170
  v233 := Tryz.zeroValue170
  g15 := by kernel_rfl
  g16 := by kernel_rfl
  g17 := by kernel_rfl
  g18 := by kernel_rfl
  g19 := by kernel_rfl
  t80 := Tryz.underlying65
  a80 := Tryz.isAgg65
  z80 := Tryz.sizeOf65
  v80 := Tryz.zeroValue65
  i0 := by kernel_rfl
  i2 := by kernel_rfl
  i3 := by kernel_rfl
  i4 := by kernel_rfl
  i5 := by kernel_rfl
  i9 := by kernel_rfl
  i20 := by kernel_rfl
  i21 := by kernel_rfl
  i37 := by kernel_rfl
  i46 := by kernel_rfl
  i51 := by kernel_rfl
  i53 := by kernel_rfl
  i75 := by kernel_rfl
  i76 := by kernel_rfl
  i80 := by kernel_rfl
  i85 := by kernel_rfl
  i127 := by kernel_rfl
  i143 := by kernel_rfl
  i145 := by kernel_rfl
  i167 := by kernel_rfl
  i168 := by kernel_rfl
  i171 := by kernel_rfl
  i173 := by kernel_rfl
  i175 := by kernel_rfl
  i210 := by kernel_rfl
  i212 := by kernel_rfl
  i232 := by kernel_rfl
  i233 := by kernel_rfl
  m15 := by kernel_rfl
  m16 := by kernel_rfl
  m17 := by kernel_rfl
  m18 := by kernel_rfl
  m19 := by kernel_rfl
  c0 := by kernel_rfl
  c2 := by kernel_rfl
  c3 := by kernel_rfl
  c4 := by kernel_rfl
  c5 := by kernel_rfl
  c9 := by kernel_rfl
  c20 := by kernel_rfl
  c21 := by kernel_rfl
  c37 := by kernel_rfl
  c46 := by kernel_rfl
  c51 := by kernel_rfl
  c53 := by kernel_rfl
  c75 := by kernel_rfl
  c76 := by kernel_rfl
  c80 := by kernel_rfl
  c85 := by kernel_rfl
  c127 := by kernel_rfl
  c143 := by kernel_rfl
  c145 := by kernel_rfl
  c167 := by kernel_rfl
  c168 := by kernel_rfl
  c171 := by kernel_rfl
  c173 := by kernel_rfl
  c175 := by kernel_rfl
  c210 := by kernel_rfl
  c212 := by kernel_rfl
  c213 := by kernel_rfl
  c232 := by kernel_rfl
  c233 := by kernel_rfl }
end Go.Proofs

/- (*strings.Builder).copyCheck, out of the library's contract. Printed by the session's own program. -/
namespace Go.Proofs.YtgmpnhfnkhohiaaGreatDoor.Ev
open Go Go.Proofs Go.Proofs.Ev
set_option linter.unusedVariables false
set_option maxRecDepth 100000
noncomputable def strings_Builder_copyCheck_h16f15.F (n : Nat) (a0 : List AV) : Option (List AV) := Option.some a0
theorem strings_Builder_copyCheck_h16f15.hands (n : Nat) (a0 : List AV) {p : List AV} (h : strings_Builder_copyCheck_h16f15.F n a0 = some p) : HandsMIn Tryz.prog 48 [.ptr 0 0] [.fn 57 [.v (.pointer none), .own 1 0 none], .fr ⟨true, 5⟩ 1 a0] (.tup []) [.fn 57 [.ptr 0 0, .own 1 0 none], .fr ⟨true, 5⟩ 1 p] := by
  cases h
  exact Ev.copyCheck_new (f := Tryz.lays105_ren.f 240) (T := 57) (fun b w h1 h2 h3 => Any.Builder_copyCheck_fresh { Tryz.lays105 with } Tryz.Builder_Extra_105.toX72 b w h1 h2 h3) (enters_of Tryz.lays105.f240 (by kernel_rfl) rfl) (by show 1 < 1 + 1; decide) (by intro x hx; simp at hx; subst hx; exact ⟨_, _, _, rfl⟩)
noncomputable def strings_Builder_copyCheck_h16f15.via {R : Type} (n : Nat) (xs : List AV) : (AV → Option R) → Option R := match xs with | [.ptr 0 0, .tup [.fn 57 [.v (.pointer none), .own 1 0 none], .fr ⟨true, 5⟩ 1 a0]] => fun K => (strings_Builder_copyCheck_h16f15.F n a0).bind fun p => K (.tup [.tup [], .tup [.fn 57 [.ptr 0 0, .own 1 0 none], .fr ⟨true, 5⟩ 1 p]]) | _ => fun _ => none
theorem strings_Builder_copyCheck_h16f15.tells1 {R : Type} (n : Nat) (xs : List AV) : Tells1 (R := R) Tryz.prog 48 xs (strings_Builder_copyCheck_h16f15.via n xs) := by
  unfold strings_Builder_copyCheck_h16f15.via
  split
  · exact Tells1.of (fun p hp => (strings_Builder_copyCheck_h16f15.hands n _ hp).hands)
  · exact Tells1.none
end Go.Proofs.YtgmpnhfnkhohiaaGreatDoor.Ev

/- (*strings.Builder).WriteString, out of its evaluation. Printed by the session's own program. -/
namespace Go.Proofs.YtgmpnhfnkhohiaaGreatDoor.Ev
open Go Go.Proofs Go.Proofs.Ev
set_option linter.unusedVariables false
set_option maxRecDepth 100000
/-! (*strings.Builder).WriteString: function 22 -/
noncomputable def strings_Builder_WriteString_h7baad.e {R : Type} (n : Nat)  (k : Int × Bool × List AV → Option R) (a0 : ByteArray) (a1 : List AV) : Option R :=
  (strings_Builder_copyCheck_h16f15.F n a1).bind fun p1 =>
  let y2 : List AV := a0.toList.map fun b => vu b.toNat
  bif decide (p1.length + y2.length ≤ most) then (k (((a0.size : Nat) : Int), false, p1 ++ y2)) else none
noncomputable def strings_Builder_WriteString_h7baad.C {R : Type} (n : Nat) (f : FuncId) (xs : List AV) : (AV → Option R) → Option R :=
  bif Nat.beq f 48 then strings_Builder_copyCheck_h16f15.via n xs else fun _ => none
theorem strings_Builder_WriteString_h7baad.tells {R : Type} (n : Nat) : Tells (R := R) Tryz.prog (strings_Builder_WriteString_h7baad.C n) := fun _ xs => tells_at (strings_Builder_copyCheck_h16f15.tells1 n xs) (Tells1.none)
noncomputable def strings_Builder_WriteString_h7baad.cut (r : Nat) : Option Keep := match r with  | _ => none
noncomputable def strings_Builder_WriteString_h7baad.nils : List (Nat × Nat × Fl × Nat) := []
theorem strings_Builder_WriteString_h7baad.e_eq {R : Type} (n : Nat) (rec : List Item → St → Option R) (K : AV → Option R) (a0 : ByteArray) (a1 : List AV) :
    goK (Gk 1) (strings_Builder_WriteString_h7baad.C n) strings_Builder_WriteString_h7baad.cut (fun S => finM (Gk 1) strings_Builder_WriteString_h7baad.nils Tryz.f22.resultTypes.toList Tryz.f22.results.toList S K) rec 1000 [.code (Tryz.f22.body.getD .skip)] (Ev.startM Tryz.f22 [.ptr 0 0, vs a0] [.fn 57 [.v (.pointer none), .own 1 0 none], .fr ⟨true, 5⟩ 1 a1]) = strings_Builder_WriteString_h7baad.e n  (fun p => K (.tup [.tup [vi p.1, .err p.2.1], .tup [.fn 57 [.ptr 0 0, .own 1 0 none], .fr ⟨true, 5⟩ 1 p.2.2]])) a0 a1 := by kernel_rfl
noncomputable def strings_Builder_WriteString_h7baad.F (n : Nat) (a0 : ByteArray) (a1 : List AV) : Option (Int × Bool × List AV) := strings_Builder_WriteString_h7baad.e n  Option.some a0 a1
noncomputable def strings_Builder_WriteString_h7baad.dec (x : AV) : Option (Int × Bool × List AV) := match x with | .tup [.tup [.v (.int .i64 p0), .err p1], .tup [.fn 57 [.ptr 0 0, .own 1 0 none], .fr ⟨true, 5⟩ 1 p2]] => Option.some (p0, p1, p2) | _ => none
theorem strings_Builder_WriteString_h7baad.dec_inv {p : Int × Bool × List AV} (y : AV) (h : strings_Builder_WriteString_h7baad.dec y = some p) : y = .tup [.tup [vi p.1, .err p.2.1], .tup [.fn 57 [.ptr 0 0, .own 1 0 none], .fr ⟨true, 5⟩ 1 p.2.2]] := by
  unfold strings_Builder_WriteString_h7baad.dec at h
  split at h
  · cases h; rfl
  · cases h
theorem strings_Builder_WriteString_h7baad.hands (n : Nat) (a0 : ByteArray) (a1 : List AV) {p : Int × Bool × List AV} (h : strings_Builder_WriteString_h7baad.F n a0 a1 = some p) : HandsMIn Tryz.prog 22 [.ptr 0 0, vs a0] [.fn 57 [.v (.pointer none), .own 1 0 none], .fr ⟨true, 5⟩ 1 a1] (.tup [vi p.1, .err p.2.1]) [.fn 57 [.ptr 0 0, .own 1 0 none], .fr ⟨true, 5⟩ 1 p.2.2] := by
  refine handsM_of (cfg.kb 1) mixed (fun _ => rfl) (strings_Builder_WriteString_h7baad.tells n) (nils := strings_Builder_WriteString_h7baad.nils) rfl (fn := Tryz.f22) Tryz.func22 (by kernel_rfl) (by kernel_rfl) (cut := strings_Builder_WriteString_h7baad.cut) (K := strings_Builder_WriteString_h7baad.dec) (r := p) (n := n) strings_Builder_WriteString_h7baad.dec_inv ?_
  rw [funM_getD (by kernel_rfl)]
  have h1 := strings_Builder_WriteString_h7baad.e_eq n (runK (Gk 1) (strings_Builder_WriteString_h7baad.C n) strings_Builder_WriteString_h7baad.cut (fun S => finM (Gk 1) strings_Builder_WriteString_h7baad.nils Tryz.f22.resultTypes.toList Tryz.f22.results.toList S strings_Builder_WriteString_h7baad.dec) n) strings_Builder_WriteString_h7baad.dec a0 a1
  exact h1.trans h
noncomputable def strings_Builder_WriteString_h7baad.via {R : Type} (n : Nat) (xs : List AV) : (AV → Option R) → Option R := match xs with | [.ptr 0 0, .v (.string a0), .tup [.fn 57 [.v (.pointer none), .own 1 0 none], .fr ⟨true, 5⟩ 1 a1]] => fun K => (strings_Builder_WriteString_h7baad.F n a0 a1).bind fun p => K (.tup [.tup [vi p.1, .err p.2.1], .tup [.fn 57 [.ptr 0 0, .own 1 0 none], .fr ⟨true, 5⟩ 1 p.2.2]]) | _ => fun _ => none
noncomputable def strings_Builder_WriteString_h7baad.is (xs : List AV) : Bool := match xs with | [.ptr 0 0, .v (.string _), .tup [.fn 57 [.v (.pointer none), .own 1 0 none], .fr ⟨true, 5⟩ 1 _]] => true | _ => false
theorem strings_Builder_WriteString_h7baad.tells1 {R : Type} (n : Nat) (xs : List AV) : Tells1 (R := R) Tryz.prog 22 xs (strings_Builder_WriteString_h7baad.via n xs) := by
  unfold strings_Builder_WriteString_h7baad.via
  split
  · exact Tells1.of (fun p hp => (strings_Builder_WriteString_h7baad.hands n _ _ hp).hands)
  · exact Tells1.none
end Go.Proofs.YtgmpnhfnkhohiaaGreatDoor.Ev

/- (*strings.Builder).copyCheck, out of the library's contract. Printed by the session's own program. -/
namespace Go.Proofs.YtgmpnhfnkhohiaaGreatDoor.Ev
open Go Go.Proofs Go.Proofs.Ev
set_option linter.unusedVariables false
set_option maxRecDepth 100000
noncomputable def strings_Builder_copyCheck_hda709.F (n : Nat) (a0 : List AV) : Option (List AV) := Option.some a0
theorem strings_Builder_copyCheck_hda709.hands (n : Nat) (a0 : List AV) {p : List AV} (h : strings_Builder_copyCheck_hda709.F n a0 = some p) : HandsMIn Tryz.prog 48 [.ptr 0 0] [.fn 57 [.ptr 0 0, .own 1 0 none], .fr ⟨true, 5⟩ 1 a0] (.tup []) [.fn 57 [.ptr 0 0, .own 1 0 none], .fr ⟨true, 5⟩ 1 p] := by
  cases h
  exact Ev.copyCheck_used (f := Tryz.lays105_ren.f 240) (T := 57) (fun b w h1 => Any.Builder_copyCheck_used { Tryz.lays105 with } Tryz.Builder_Extra_105.toX72 b w h1) (enters_of Tryz.lays105.f240 (by kernel_rfl) rfl) (by show 1 < 1 + 1; decide) (by intro x hx; simp at hx; subst hx; exact ⟨_, _, _, rfl⟩)
noncomputable def strings_Builder_copyCheck_hda709.via {R : Type} (n : Nat) (xs : List AV) : (AV → Option R) → Option R := match xs with | [.ptr 0 0, .tup [.fn 57 [.ptr 0 0, .own 1 0 none], .fr ⟨true, 5⟩ 1 a0]] => fun K => (strings_Builder_copyCheck_hda709.F n a0).bind fun p => K (.tup [.tup [], .tup [.fn 57 [.ptr 0 0, .own 1 0 none], .fr ⟨true, 5⟩ 1 p]]) | _ => fun _ => none
theorem strings_Builder_copyCheck_hda709.tells1 {R : Type} (n : Nat) (xs : List AV) : Tells1 (R := R) Tryz.prog 48 xs (strings_Builder_copyCheck_hda709.via n xs) := by
  unfold strings_Builder_copyCheck_hda709.via
  split
  · exact Tells1.of (fun p hp => (strings_Builder_copyCheck_hda709.hands n _ hp).hands)
  · exact Tells1.none
end Go.Proofs.YtgmpnhfnkhohiaaGreatDoor.Ev

/- (*strings.Builder).WriteString, out of its evaluation. Printed by the session's own program. -/
namespace Go.Proofs.YtgmpnhfnkhohiaaGreatDoor.Ev
open Go Go.Proofs Go.Proofs.Ev
set_option linter.unusedVariables false
set_option maxRecDepth 100000
/-! (*strings.Builder).WriteString: function 22 -/
noncomputable def strings_Builder_WriteString_he1305.e {R : Type} (n : Nat)  (k : Int × Bool × List AV → Option R) (a0 : ByteArray) (a1 : List AV) : Option R :=
  (strings_Builder_copyCheck_hda709.F n a1).bind fun p1 =>
  let y2 : List AV := a0.toList.map fun b => vu b.toNat
  bif decide (p1.length + y2.length ≤ most) then (k (((a0.size : Nat) : Int), false, p1 ++ y2)) else none
noncomputable def strings_Builder_WriteString_he1305.C {R : Type} (n : Nat) (f : FuncId) (xs : List AV) : (AV → Option R) → Option R :=
  bif Nat.beq f 48 then strings_Builder_copyCheck_hda709.via n xs else fun _ => none
theorem strings_Builder_WriteString_he1305.tells {R : Type} (n : Nat) : Tells (R := R) Tryz.prog (strings_Builder_WriteString_he1305.C n) := fun _ xs => tells_at (strings_Builder_copyCheck_hda709.tells1 n xs) (Tells1.none)
noncomputable def strings_Builder_WriteString_he1305.cut (r : Nat) : Option Keep := match r with  | _ => none
noncomputable def strings_Builder_WriteString_he1305.nils : List (Nat × Nat × Fl × Nat) := []
theorem strings_Builder_WriteString_he1305.e_eq {R : Type} (n : Nat) (rec : List Item → St → Option R) (K : AV → Option R) (a0 : ByteArray) (a1 : List AV) :
    goK (Gk 1) (strings_Builder_WriteString_he1305.C n) strings_Builder_WriteString_he1305.cut (fun S => finM (Gk 1) strings_Builder_WriteString_he1305.nils Tryz.f22.resultTypes.toList Tryz.f22.results.toList S K) rec 1000 [.code (Tryz.f22.body.getD .skip)] (Ev.startM Tryz.f22 [.ptr 0 0, vs a0] [.fn 57 [.ptr 0 0, .own 1 0 none], .fr ⟨true, 5⟩ 1 a1]) = strings_Builder_WriteString_he1305.e n  (fun p => K (.tup [.tup [vi p.1, .err p.2.1], .tup [.fn 57 [.ptr 0 0, .own 1 0 none], .fr ⟨true, 5⟩ 1 p.2.2]])) a0 a1 := by kernel_rfl
noncomputable def strings_Builder_WriteString_he1305.F (n : Nat) (a0 : ByteArray) (a1 : List AV) : Option (Int × Bool × List AV) := strings_Builder_WriteString_he1305.e n  Option.some a0 a1
noncomputable def strings_Builder_WriteString_he1305.dec (x : AV) : Option (Int × Bool × List AV) := match x with | .tup [.tup [.v (.int .i64 p0), .err p1], .tup [.fn 57 [.ptr 0 0, .own 1 0 none], .fr ⟨true, 5⟩ 1 p2]] => Option.some (p0, p1, p2) | _ => none
theorem strings_Builder_WriteString_he1305.dec_inv {p : Int × Bool × List AV} (y : AV) (h : strings_Builder_WriteString_he1305.dec y = some p) : y = .tup [.tup [vi p.1, .err p.2.1], .tup [.fn 57 [.ptr 0 0, .own 1 0 none], .fr ⟨true, 5⟩ 1 p.2.2]] := by
  unfold strings_Builder_WriteString_he1305.dec at h
  split at h
  · cases h; rfl
  · cases h
theorem strings_Builder_WriteString_he1305.hands (n : Nat) (a0 : ByteArray) (a1 : List AV) {p : Int × Bool × List AV} (h : strings_Builder_WriteString_he1305.F n a0 a1 = some p) : HandsMIn Tryz.prog 22 [.ptr 0 0, vs a0] [.fn 57 [.ptr 0 0, .own 1 0 none], .fr ⟨true, 5⟩ 1 a1] (.tup [vi p.1, .err p.2.1]) [.fn 57 [.ptr 0 0, .own 1 0 none], .fr ⟨true, 5⟩ 1 p.2.2] := by
  refine handsM_of (cfg.kb 1) mixed (fun _ => rfl) (strings_Builder_WriteString_he1305.tells n) (nils := strings_Builder_WriteString_he1305.nils) rfl (fn := Tryz.f22) Tryz.func22 (by kernel_rfl) (by kernel_rfl) (cut := strings_Builder_WriteString_he1305.cut) (K := strings_Builder_WriteString_he1305.dec) (r := p) (n := n) strings_Builder_WriteString_he1305.dec_inv ?_
  rw [funM_getD (by kernel_rfl)]
  have h1 := strings_Builder_WriteString_he1305.e_eq n (runK (Gk 1) (strings_Builder_WriteString_he1305.C n) strings_Builder_WriteString_he1305.cut (fun S => finM (Gk 1) strings_Builder_WriteString_he1305.nils Tryz.f22.resultTypes.toList Tryz.f22.results.toList S strings_Builder_WriteString_he1305.dec) n) strings_Builder_WriteString_he1305.dec a0 a1
  exact h1.trans h
noncomputable def strings_Builder_WriteString_he1305.via {R : Type} (n : Nat) (xs : List AV) : (AV → Option R) → Option R := match xs with | [.ptr 0 0, .v (.string a0), .tup [.fn 57 [.ptr 0 0, .own 1 0 none], .fr ⟨true, 5⟩ 1 a1]] => fun K => (strings_Builder_WriteString_he1305.F n a0 a1).bind fun p => K (.tup [.tup [vi p.1, .err p.2.1], .tup [.fn 57 [.ptr 0 0, .own 1 0 none], .fr ⟨true, 5⟩ 1 p.2.2]]) | _ => fun _ => none
noncomputable def strings_Builder_WriteString_he1305.is (xs : List AV) : Bool := match xs with | [.ptr 0 0, .v (.string _), .tup [.fn 57 [.ptr 0 0, .own 1 0 none], .fr ⟨true, 5⟩ 1 _]] => true | _ => false
theorem strings_Builder_WriteString_he1305.tells1 {R : Type} (n : Nat) (xs : List AV) : Tells1 (R := R) Tryz.prog 22 xs (strings_Builder_WriteString_he1305.via n xs) := by
  unfold strings_Builder_WriteString_he1305.via
  split
  · exact Tells1.of (fun p hp => (strings_Builder_WriteString_he1305.hands n _ _ hp).hands)
  · exact Tells1.none
end Go.Proofs.YtgmpnhfnkhohiaaGreatDoor.Ev

/- strconv.Itoa, out of the library's contract. Printed by the session's own program. -/
namespace Go.Proofs.YtgmpnhfnkhohiaaGreatDoor.Ev
open Go Go.Proofs Go.Proofs.Ev
set_option linter.unusedVariables false
set_option maxRecDepth 100000
noncomputable def strconv_Itoa.F (n : Nat) (c : Int) : Option (ByteArray) := bif decide (0 ≤ c) && decide (c < 100) then Option.some (⟨(Lib.decDigits c.toNat).toArray⟩) else none
theorem strconv_Itoa.hands (n : Nat) (c : Int) {p : ByteArray} (h : strconv_Itoa.F n c = some p) : HandsIn Tryz.prog 23 [.v (.int .i64 c)] (.v (.string p)) := by
  unfold strconv_Itoa.F at h
  cases hc : (decide (0 ≤ c) && decide (c < 100)) with
  | false => rw [hc] at h; cases h
  | true =>
    rw [hc] at h
    cases h
    refine hands_calls (fn := Tryz.f23) Tryz.func23 (by kernel_rfl) (by kernel_rfl) fun w F vals hQ hF hl hr => ?_
    obtain ⟨u0, rfl, h0⟩ := vals1 hl hr
    obtain rfl := rel_v h0
    rw [Bool.and_eq_true] at hc
    have h0 := of_decide_eq_true hc.1
    have h1 := of_decide_eq_true hc.2
    obtain ⟨i, rfl⟩ := Int.eq_ofNat_of_zero_le h0
    refine (Tryz.strconv_Itoa_small i (by omega) w).mono ?_
    rintro e w' ⟨rfl, rfl⟩
    exact ⟨F, fun _ => none, Came.same hF, .v _ rfl⟩
noncomputable def strconv_Itoa.via {R : Type} (n : Nat) (ys : List AV) : (AV → Option R) → Option R := match ys with | [.v (.int .i64 c)] => fun K => (strconv_Itoa.F n c).bind fun p => K (.v (.string p)) | _ => fun _ => none
theorem strconv_Itoa.tells1 {R : Type} (n : Nat) (ys : List AV) : Tells1 (R := R) Tryz.prog 23 ys (strconv_Itoa.via n ys) := by
  unfold strconv_Itoa.via
  split
  · exact Tells1.of (fun p hp => (strconv_Itoa.hands n _ hp).hands rfl)
  · exact Tells1.none
end Go.Proofs.YtgmpnhfnkhohiaaGreatDoor.Ev

/- (*strings.Builder).String, out of the library's contract. Printed by the session's own program. -/
namespace Go.Proofs.YtgmpnhfnkhohiaaGreatDoor.Ev
open Go Go.Proofs Go.Proofs.Ev
set_option linter.unusedVariables false
set_option maxRecDepth 100000
noncomputable def strings_Builder_String_hadf41.F (n : Nat) (a0 : List AV) : Option (ByteArray) := bif decide (a0.length ≤ most) then (strOf a0).map fun l => (⟨l.toArray⟩ : ByteArray) else none
theorem strings_Builder_String_hadf41.hands (n : Nat) (a0 : List AV) {p : ByteArray} (h : strings_Builder_String_hadf41.F n a0 = some p) : HandsMIn Tryz.prog 25 [.ptr 0 0] [.fn 57 [.v (.pointer none), .own 1 0 none], .fr ⟨true, 5⟩ 1 a0] (vs p) [.fn 57 [.v (.pointer none), .undef]] := by
  unfold strings_Builder_String_hadf41.F at h
  obtain ⟨h1, h2⟩ := bif_some h
  rw [Option.map_eq_some_iff] at h2
  obtain ⟨l, h3, rfl⟩ := h2
  exact Ev.bstring_row (ρ := Tryz.lays105_ren) { Tryz.lays105 with } Tryz.Builder_Extra_105 (enters_of Tryz.lays105.f169 (by kernel_rfl) rfl) (.inl rfl) rfl h3 (of_decide_eq_true h1)
noncomputable def strings_Builder_String_hadf41.via {R : Type} (n : Nat) (xs : List AV) : (AV → Option R) → Option R := match xs with | [.ptr 0 0, .tup [.fn 57 [.v (.pointer none), .own 1 0 none], .fr ⟨true, 5⟩ 1 a0]] => fun K => (strings_Builder_String_hadf41.F n a0).bind fun p => K (.tup [vs p, .tup [.fn 57 [.v (.pointer none), .undef]]]) | _ => fun _ => none
noncomputable def strings_Builder_String_hadf41.is (xs : List AV) : Bool := match xs with | [.ptr 0 0, .tup [.fn 57 [.v (.pointer none), .own 1 0 none], .fr ⟨true, 5⟩ 1 _]] => true | _ => false
theorem strings_Builder_String_hadf41.tells1 {R : Type} (n : Nat) (xs : List AV) : Tells1 (R := R) Tryz.prog 25 xs (strings_Builder_String_hadf41.via n xs) := by
  unfold strings_Builder_String_hadf41.via
  split
  · exact Tells1.of (fun p hp => (strings_Builder_String_hadf41.hands n _ hp).hands)
  · exact Tells1.none
end Go.Proofs.YtgmpnhfnkhohiaaGreatDoor.Ev

/- (*strings.Builder).String, out of the library's contract. Printed by the session's own program. -/
namespace Go.Proofs.YtgmpnhfnkhohiaaGreatDoor.Ev
open Go Go.Proofs Go.Proofs.Ev
set_option linter.unusedVariables false
set_option maxRecDepth 100000
noncomputable def strings_Builder_String_hf88d1.F (n : Nat) (a0 : List AV) : Option (ByteArray) := bif decide (a0.length ≤ most) then (strOf a0).map fun l => (⟨l.toArray⟩ : ByteArray) else none
theorem strings_Builder_String_hf88d1.hands (n : Nat) (a0 : List AV) {p : ByteArray} (h : strings_Builder_String_hf88d1.F n a0 = some p) : HandsMIn Tryz.prog 25 [.ptr 0 0] [.fn 57 [.ptr 0 0, .own 1 0 none], .fr ⟨true, 5⟩ 1 a0] (vs p) [.fn 57 [.ptr 0 0, .undef]] := by
  unfold strings_Builder_String_hf88d1.F at h
  obtain ⟨h1, h2⟩ := bif_some h
  rw [Option.map_eq_some_iff] at h2
  obtain ⟨l, h3, rfl⟩ := h2
  exact Ev.bstring_row (ρ := Tryz.lays105_ren) { Tryz.lays105 with } Tryz.Builder_Extra_105 (enters_of Tryz.lays105.f169 (by kernel_rfl) rfl) (.inr rfl) rfl h3 (of_decide_eq_true h1)
noncomputable def strings_Builder_String_hf88d1.via {R : Type} (n : Nat) (xs : List AV) : (AV → Option R) → Option R := match xs with | [.ptr 0 0, .tup [.fn 57 [.ptr 0 0, .own 1 0 none], .fr ⟨true, 5⟩ 1 a0]] => fun K => (strings_Builder_String_hf88d1.F n a0).bind fun p => K (.tup [vs p, .tup [.fn 57 [.ptr 0 0, .undef]]]) | _ => fun _ => none
noncomputable def strings_Builder_String_hf88d1.is (xs : List AV) : Bool := match xs with | [.ptr 0 0, .tup [.fn 57 [.ptr 0 0, .own 1 0 none], .fr ⟨true, 5⟩ 1 _]] => true | _ => false
theorem strings_Builder_String_hf88d1.tells1 {R : Type} (n : Nat) (xs : List AV) : Tells1 (R := R) Tryz.prog 25 xs (strings_Builder_String_hf88d1.via n xs) := by
  unfold strings_Builder_String_hf88d1.via
  split
  · exact Tells1.of (fun p hp => (strings_Builder_String_hf88d1.hands n _ hp).hands)
  · exact Tells1.none
end Go.Proofs.YtgmpnhfnkhohiaaGreatDoor.Ev

/- (*strings.Builder).WriteByte, out of its evaluation. Printed by the session's own program. -/
namespace Go.Proofs.YtgmpnhfnkhohiaaGreatDoor.Ev
open Go Go.Proofs Go.Proofs.Ev
set_option linter.unusedVariables false
set_option maxRecDepth 100000
/-! (*strings.Builder).WriteByte: function 79 -/
noncomputable def strings_Builder_WriteByte_h1e0d9.e {R : Type} (n : Nat)  (k : Bool × List AV → Option R) (a0 : Int) (a1 : List AV) : Option R :=
  (strings_Builder_copyCheck_h16f15.F n a1).bind fun p1 =>
  bif decide (p1.length + [vu a0].length ≤ most) then (k (false, p1 ++ [vu a0])) else none
noncomputable def strings_Builder_WriteByte_h1e0d9.C {R : Type} (n : Nat) (f : FuncId) (xs : List AV) : (AV → Option R) → Option R :=
  bif Nat.beq f 48 then strings_Builder_copyCheck_h16f15.via n xs else fun _ => none
theorem strings_Builder_WriteByte_h1e0d9.tells {R : Type} (n : Nat) : Tells (R := R) Tryz.prog (strings_Builder_WriteByte_h1e0d9.C n) := fun _ xs => tells_at (strings_Builder_copyCheck_h16f15.tells1 n xs) (Tells1.none)
noncomputable def strings_Builder_WriteByte_h1e0d9.cut (r : Nat) : Option Keep := match r with  | _ => none
noncomputable def strings_Builder_WriteByte_h1e0d9.nils : List (Nat × Nat × Fl × Nat) := []
theorem strings_Builder_WriteByte_h1e0d9.e_eq {R : Type} (n : Nat) (rec : List Item → St → Option R) (K : AV → Option R) (a0 : Int) (a1 : List AV) :
    goK (Gk 1) (strings_Builder_WriteByte_h1e0d9.C n) strings_Builder_WriteByte_h1e0d9.cut (fun S => finM (Gk 1) strings_Builder_WriteByte_h1e0d9.nils Tryz.f79.resultTypes.toList Tryz.f79.results.toList S K) rec 1000 [.code (Tryz.f79.body.getD .skip)] (Ev.startM Tryz.f79 [.ptr 0 0, vu a0] [.fn 57 [.v (.pointer none), .own 1 0 none], .fr ⟨true, 5⟩ 1 a1]) = strings_Builder_WriteByte_h1e0d9.e n  (fun p => K (.tup [.err p.1, .tup [.fn 57 [.ptr 0 0, .own 1 0 none], .fr ⟨true, 5⟩ 1 p.2]])) a0 a1 := by kernel_rfl
noncomputable def strings_Builder_WriteByte_h1e0d9.F (n : Nat) (a0 : Int) (a1 : List AV) : Option (Bool × List AV) := strings_Builder_WriteByte_h1e0d9.e n  Option.some a0 a1
noncomputable def strings_Builder_WriteByte_h1e0d9.dec (x : AV) : Option (Bool × List AV) := match x with | .tup [.err p0, .tup [.fn 57 [.ptr 0 0, .own 1 0 none], .fr ⟨true, 5⟩ 1 p1]] => Option.some (p0, p1) | _ => none
theorem strings_Builder_WriteByte_h1e0d9.dec_inv {p : Bool × List AV} (y : AV) (h : strings_Builder_WriteByte_h1e0d9.dec y = some p) : y = .tup [.err p.1, .tup [.fn 57 [.ptr 0 0, .own 1 0 none], .fr ⟨true, 5⟩ 1 p.2]] := by
  unfold strings_Builder_WriteByte_h1e0d9.dec at h
  split at h
  · cases h; rfl
  · cases h
theorem strings_Builder_WriteByte_h1e0d9.hands (n : Nat) (a0 : Int) (a1 : List AV) {p : Bool × List AV} (h : strings_Builder_WriteByte_h1e0d9.F n a0 a1 = some p) : HandsMIn Tryz.prog 79 [.ptr 0 0, vu a0] [.fn 57 [.v (.pointer none), .own 1 0 none], .fr ⟨true, 5⟩ 1 a1] (.err p.1) [.fn 57 [.ptr 0 0, .own 1 0 none], .fr ⟨true, 5⟩ 1 p.2] := by
  refine handsM_of (cfg.kb 1) mixed (fun _ => rfl) (strings_Builder_WriteByte_h1e0d9.tells n) (nils := strings_Builder_WriteByte_h1e0d9.nils) rfl (fn := Tryz.f79) Tryz.func79 (by kernel_rfl) (by kernel_rfl) (cut := strings_Builder_WriteByte_h1e0d9.cut) (K := strings_Builder_WriteByte_h1e0d9.dec) (r := p) (n := n) strings_Builder_WriteByte_h1e0d9.dec_inv ?_
  rw [funM_getD (by kernel_rfl)]
  have h1 := strings_Builder_WriteByte_h1e0d9.e_eq n (runK (Gk 1) (strings_Builder_WriteByte_h1e0d9.C n) strings_Builder_WriteByte_h1e0d9.cut (fun S => finM (Gk 1) strings_Builder_WriteByte_h1e0d9.nils Tryz.f79.resultTypes.toList Tryz.f79.results.toList S strings_Builder_WriteByte_h1e0d9.dec) n) strings_Builder_WriteByte_h1e0d9.dec a0 a1
  exact h1.trans h
noncomputable def strings_Builder_WriteByte_h1e0d9.via {R : Type} (n : Nat) (xs : List AV) : (AV → Option R) → Option R := match xs with | [.ptr 0 0, .v (.int .u8 a0), .tup [.fn 57 [.v (.pointer none), .own 1 0 none], .fr ⟨true, 5⟩ 1 a1]] => fun K => (strings_Builder_WriteByte_h1e0d9.F n a0 a1).bind fun p => K (.tup [.err p.1, .tup [.fn 57 [.ptr 0 0, .own 1 0 none], .fr ⟨true, 5⟩ 1 p.2]]) | _ => fun _ => none
noncomputable def strings_Builder_WriteByte_h1e0d9.is (xs : List AV) : Bool := match xs with | [.ptr 0 0, .v (.int .u8 _), .tup [.fn 57 [.v (.pointer none), .own 1 0 none], .fr ⟨true, 5⟩ 1 _]] => true | _ => false
theorem strings_Builder_WriteByte_h1e0d9.tells1 {R : Type} (n : Nat) (xs : List AV) : Tells1 (R := R) Tryz.prog 79 xs (strings_Builder_WriteByte_h1e0d9.via n xs) := by
  unfold strings_Builder_WriteByte_h1e0d9.via
  split
  · exact Tells1.of (fun p hp => (strings_Builder_WriteByte_h1e0d9.hands n _ _ hp).hands)
  · exact Tells1.none
end Go.Proofs.YtgmpnhfnkhohiaaGreatDoor.Ev

/- (*strings.Builder).WriteByte, out of its evaluation. Printed by the session's own program. -/
namespace Go.Proofs.YtgmpnhfnkhohiaaGreatDoor.Ev
open Go Go.Proofs Go.Proofs.Ev
set_option linter.unusedVariables false
set_option maxRecDepth 100000
/-! (*strings.Builder).WriteByte: function 79 -/
noncomputable def strings_Builder_WriteByte_hea3dc.e {R : Type} (n : Nat)  (k : Bool × List AV → Option R) (a0 : Int) (a1 : List AV) : Option R :=
  (strings_Builder_copyCheck_hda709.F n a1).bind fun p1 =>
  bif decide (p1.length + [vu a0].length ≤ most) then (k (false, p1 ++ [vu a0])) else none
noncomputable def strings_Builder_WriteByte_hea3dc.C {R : Type} (n : Nat) (f : FuncId) (xs : List AV) : (AV → Option R) → Option R :=
  bif Nat.beq f 48 then strings_Builder_copyCheck_hda709.via n xs else fun _ => none
theorem strings_Builder_WriteByte_hea3dc.tells {R : Type} (n : Nat) : Tells (R := R) Tryz.prog (strings_Builder_WriteByte_hea3dc.C n) := fun _ xs => tells_at (strings_Builder_copyCheck_hda709.tells1 n xs) (Tells1.none)
noncomputable def strings_Builder_WriteByte_hea3dc.cut (r : Nat) : Option Keep := match r with  | _ => none
noncomputable def strings_Builder_WriteByte_hea3dc.nils : List (Nat × Nat × Fl × Nat) := []
theorem strings_Builder_WriteByte_hea3dc.e_eq {R : Type} (n : Nat) (rec : List Item → St → Option R) (K : AV → Option R) (a0 : Int) (a1 : List AV) :
    goK (Gk 1) (strings_Builder_WriteByte_hea3dc.C n) strings_Builder_WriteByte_hea3dc.cut (fun S => finM (Gk 1) strings_Builder_WriteByte_hea3dc.nils Tryz.f79.resultTypes.toList Tryz.f79.results.toList S K) rec 1000 [.code (Tryz.f79.body.getD .skip)] (Ev.startM Tryz.f79 [.ptr 0 0, vu a0] [.fn 57 [.ptr 0 0, .own 1 0 none], .fr ⟨true, 5⟩ 1 a1]) = strings_Builder_WriteByte_hea3dc.e n  (fun p => K (.tup [.err p.1, .tup [.fn 57 [.ptr 0 0, .own 1 0 none], .fr ⟨true, 5⟩ 1 p.2]])) a0 a1 := by kernel_rfl
noncomputable def strings_Builder_WriteByte_hea3dc.F (n : Nat) (a0 : Int) (a1 : List AV) : Option (Bool × List AV) := strings_Builder_WriteByte_hea3dc.e n  Option.some a0 a1
noncomputable def strings_Builder_WriteByte_hea3dc.dec (x : AV) : Option (Bool × List AV) := match x with | .tup [.err p0, .tup [.fn 57 [.ptr 0 0, .own 1 0 none], .fr ⟨true, 5⟩ 1 p1]] => Option.some (p0, p1) | _ => none
theorem strings_Builder_WriteByte_hea3dc.dec_inv {p : Bool × List AV} (y : AV) (h : strings_Builder_WriteByte_hea3dc.dec y = some p) : y = .tup [.err p.1, .tup [.fn 57 [.ptr 0 0, .own 1 0 none], .fr ⟨true, 5⟩ 1 p.2]] := by
  unfold strings_Builder_WriteByte_hea3dc.dec at h
  split at h
  · cases h; rfl
  · cases h
theorem strings_Builder_WriteByte_hea3dc.hands (n : Nat) (a0 : Int) (a1 : List AV) {p : Bool × List AV} (h : strings_Builder_WriteByte_hea3dc.F n a0 a1 = some p) : HandsMIn Tryz.prog 79 [.ptr 0 0, vu a0] [.fn 57 [.ptr 0 0, .own 1 0 none], .fr ⟨true, 5⟩ 1 a1] (.err p.1) [.fn 57 [.ptr 0 0, .own 1 0 none], .fr ⟨true, 5⟩ 1 p.2] := by
  refine handsM_of (cfg.kb 1) mixed (fun _ => rfl) (strings_Builder_WriteByte_hea3dc.tells n) (nils := strings_Builder_WriteByte_hea3dc.nils) rfl (fn := Tryz.f79) Tryz.func79 (by kernel_rfl) (by kernel_rfl) (cut := strings_Builder_WriteByte_hea3dc.cut) (K := strings_Builder_WriteByte_hea3dc.dec) (r := p) (n := n) strings_Builder_WriteByte_hea3dc.dec_inv ?_
  rw [funM_getD (by kernel_rfl)]
  have h1 := strings_Builder_WriteByte_hea3dc.e_eq n (runK (Gk 1) (strings_Builder_WriteByte_hea3dc.C n) strings_Builder_WriteByte_hea3dc.cut (fun S => finM (Gk 1) strings_Builder_WriteByte_hea3dc.nils Tryz.f79.resultTypes.toList Tryz.f79.results.toList S strings_Builder_WriteByte_hea3dc.dec) n) strings_Builder_WriteByte_hea3dc.dec a0 a1
  exact h1.trans h
noncomputable def strings_Builder_WriteByte_hea3dc.via {R : Type} (n : Nat) (xs : List AV) : (AV → Option R) → Option R := match xs with | [.ptr 0 0, .v (.int .u8 a0), .tup [.fn 57 [.ptr 0 0, .own 1 0 none], .fr ⟨true, 5⟩ 1 a1]] => fun K => (strings_Builder_WriteByte_hea3dc.F n a0 a1).bind fun p => K (.tup [.err p.1, .tup [.fn 57 [.ptr 0 0, .own 1 0 none], .fr ⟨true, 5⟩ 1 p.2]]) | _ => fun _ => none
noncomputable def strings_Builder_WriteByte_hea3dc.is (xs : List AV) : Bool := match xs with | [.ptr 0 0, .v (.int .u8 _), .tup [.fn 57 [.ptr 0 0, .own 1 0 none], .fr ⟨true, 5⟩ 1 _]] => true | _ => false
theorem strings_Builder_WriteByte_hea3dc.tells1 {R : Type} (n : Nat) (xs : List AV) : Tells1 (R := R) Tryz.prog 79 xs (strings_Builder_WriteByte_hea3dc.via n xs) := by
  unfold strings_Builder_WriteByte_hea3dc.via
  split
  · exact Tells1.of (fun p hp => (strings_Builder_WriteByte_hea3dc.hands n _ _ hp).hands)
  · exact Tells1.none
end Go.Proofs.YtgmpnhfnkhohiaaGreatDoor.Ev

/- midrange/tagged.digits, out of its evaluation. Printed by the session's own program. -/
namespace Go.Proofs.YtgmpnhfnkhohiaaGreatDoor.Ev
open Go Go.Proofs Go.Proofs.Ev
set_option linter.unusedVariables false
set_option maxRecDepth 100000
/-! midrange/tagged.digits: function 50 -/
noncomputable def tagged_digits.r3 {R : Type} (n : Nat) (c3 : ByteArray → Int → Int → List AV → Option R) (c3x1 : ByteArray → Int → Int → List AV → Option R) (k : ByteArray → Option R) (z1 : ByteArray) (z2 : Int) (z3 : Int) (z4 : List AV) : Option R :=
  bif decide (z3 < z2) then (bif decide ((0 : Int) ≤ z3) && decide (z3 < ((z1.size : Nat) : Int)) then (let y1 : Int := (((z1.data.getD ((z3).toNat) 0).toNat : Nat) : Int)
  let y2 : Int := Int.fdiv y1 (2 ^ min (4 : Int).toNat 8)
  bif decide ((0 : Int) ≤ y2) && decide (y2 < ((16 : Nat) : Int)) then (let y3 : Int := ((((⟨#[48, 49, 50, 51, 52, 53, 54, 55, 56, 57, 65, 66, 67, 68, 69, 70]⟩ : ByteArray).data.getD ((y2).toNat) 0).toNat : Nat) : Int)
  (strings_Builder_WriteByte_h1e0d9.F n y3 z4).bind fun p4 =>
  bif decide ((0 : Int) ≤ z3) && decide (z3 < ((z1.size : Nat) : Int)) then (let y5 : Int := (((z1.data.getD ((z3).toNat) 0).toNat : Nat) : Int)
  let y6 : Int := IntKind.u8.wrap (BitVec.ofInt 8 y5 &&& BitVec.ofInt 8 15).toNat
  bif decide ((0 : Int) ≤ y6) && decide (y6 < ((16 : Nat) : Int)) then (let y7 : Int := ((((⟨#[48, 49, 50, 51, 52, 53, 54, 55, 56, 57, 65, 66, 67, 68, 69, 70]⟩ : ByteArray).data.getD ((y6).toNat) 0).toNat : Nat) : Int)
  (strings_Builder_WriteByte_hea3dc.F n y7 p4.2).bind fun p8 =>
  c3x1 z1 z2 (IntKind.i64.wrap (z3 + 1)) p8.2) else none) else none) else none) else none) else ((strings_Builder_String_hadf41.F n z4).bind fun p9 =>
  k p9)
noncomputable def tagged_digits.r3x1 {R : Type} (n : Nat) (c3 : ByteArray → Int → Int → List AV → Option R) (c3x1 : ByteArray → Int → Int → List AV → Option R) (k : ByteArray → Option R) (z1 : ByteArray) (z2 : Int) (z3 : Int) (z4 : List AV) : Option R :=
  bif decide (z3 < z2) then (bif decide ((0 : Int) ≤ z3) && decide (z3 < ((z1.size : Nat) : Int)) then (let y10 : Int := (((z1.data.getD ((z3).toNat) 0).toNat : Nat) : Int)
  let y11 : Int := Int.fdiv y10 (2 ^ min (4 : Int).toNat 8)
  bif decide ((0 : Int) ≤ y11) && decide (y11 < ((16 : Nat) : Int)) then (let y12 : Int := ((((⟨#[48, 49, 50, 51, 52, 53, 54, 55, 56, 57, 65, 66, 67, 68, 69, 70]⟩ : ByteArray).data.getD ((y11).toNat) 0).toNat : Nat) : Int)
  (strings_Builder_WriteByte_hea3dc.F n y12 z4).bind fun p13 =>
  bif decide ((0 : Int) ≤ z3) && decide (z3 < ((z1.size : Nat) : Int)) then (let y14 : Int := (((z1.data.getD ((z3).toNat) 0).toNat : Nat) : Int)
  let y15 : Int := IntKind.u8.wrap (BitVec.ofInt 8 y14 &&& BitVec.ofInt 8 15).toNat
  bif decide ((0 : Int) ≤ y15) && decide (y15 < ((16 : Nat) : Int)) then (let y16 : Int := ((((⟨#[48, 49, 50, 51, 52, 53, 54, 55, 56, 57, 65, 66, 67, 68, 69, 70]⟩ : ByteArray).data.getD ((y15).toNat) 0).toNat : Nat) : Int)
  (strings_Builder_WriteByte_hea3dc.F n y16 p13.2).bind fun p17 =>
  c3x1 z1 z2 (IntKind.i64.wrap (z3 + 1)) p17.2) else none) else none) else none) else none) else ((strings_Builder_String_hf88d1.F n z4).bind fun p18 =>
  k p18)
noncomputable def tagged_digits.e {R : Type} (n : Nat) (c3 : ByteArray → Int → Int → List AV → Option R) (c3x1 : ByteArray → Int → Int → List AV → Option R) (k : ByteArray → Option R) (a0 : ByteArray) : Option R :=
  c3 a0 ((a0.size : Nat) : Int) 0 []
noncomputable def tagged_digits.C {R : Type} (n : Nat) (f : FuncId) (xs : List AV) : (AV → Option R) → Option R :=
  bif Nat.beq f 25 && strings_Builder_String_hadf41.is xs then strings_Builder_String_hadf41.via n xs else bif Nat.beq f 25 && strings_Builder_String_hf88d1.is xs then strings_Builder_String_hf88d1.via n xs else bif Nat.beq f 79 && strings_Builder_WriteByte_h1e0d9.is xs then strings_Builder_WriteByte_h1e0d9.via n xs else bif Nat.beq f 79 && strings_Builder_WriteByte_hea3dc.is xs then strings_Builder_WriteByte_hea3dc.via n xs else fun _ => none
theorem tagged_digits.tells {R : Type} (n : Nat) : Tells (R := R) Tryz.prog (tagged_digits.C n) := fun _ xs => tells_at2 (strings_Builder_String_hadf41.tells1 n xs) (tells_at2 (strings_Builder_String_hf88d1.tells1 n xs) (tells_at2 (strings_Builder_WriteByte_h1e0d9.tells1 n xs) (tells_at2 (strings_Builder_WriteByte_hea3dc.tells1 n xs) (Tells1.none))))
noncomputable def tagged_digits.cut (r : Nat) : Option Keep := match r with | 3 => Option.some ⟨[0, 3, 6, 7], [(3, Option.some 1, ⟨true, 5⟩, 1)]⟩ | _ => none
noncomputable def tagged_digits.t3 : List Item := (todoOf 3 1000 [.code (Tryz.f50.body.getD .skip)]).getD []
noncomputable def tagged_digits.s3 (z1 : ByteArray) (z2 : Int) (z3 : Int) (z4 : List AV) : St := ⟨[vs z1, .undef, .undef, .ptr 0 0, .undef, .undef, vi z2, vi z3, .undef, .undef, .undef, .undef, .undef, .undef, .undef, .undef, .undef, .undef, .undef, .undef, .undef, .undef, .undef, .undef], Mem.ofList [.box 57 [.v (.pointer none), .own 1 0 none], .row ⟨true, 5⟩ 1 z4], 2⟩
noncomputable def tagged_digits.t3x1 : List Item := (todoOf 3 1000 [.code (Tryz.f50.body.getD .skip)]).getD []
noncomputable def tagged_digits.s3x1 (z1 : ByteArray) (z2 : Int) (z3 : Int) (z4 : List AV) : St := ⟨[vs z1, .undef, .undef, .ptr 0 0, .undef, .undef, vi z2, vi z3, .undef, .undef, .undef, .undef, .undef, .undef, .undef, .undef, .undef, .undef, .undef, .undef, .undef, .undef, .undef, .undef], Mem.ofList [.box 57 [.ptr 0 0, .own 1 0 none], .row ⟨true, 5⟩ 1 z4], 2⟩
theorem tagged_digits.e_eq {R : Type} (n : Nat) (rec : List Item → St → Option R) (K : AV → Option R) (a0 : ByteArray) :
    goK G (tagged_digits.C n) tagged_digits.cut (fun S => finK G Tryz.f50.resultTypes.toList Tryz.f50.results.toList S K) rec 1000 [.code (Tryz.f50.body.getD .skip)] (Ev.start Tryz.f50 [vs a0]) = tagged_digits.e n (fun z1 z2 z3 z4 => rec tagged_digits.t3 (tagged_digits.s3 z1 z2 z3 z4)) (fun z1 z2 z3 z4 => rec tagged_digits.t3x1 (tagged_digits.s3x1 z1 z2 z3 z4)) (fun p => K (vs p)) a0 := by kernel_rfl
theorem tagged_digits.r3_eq {R : Type} (n : Nat) (rec : List Item → St → Option R) (K : AV → Option R) (z1 : ByteArray) (z2 : Int) (z3 : Int) (z4 : List AV) :
    atK G (tagged_digits.C n) tagged_digits.cut (fun S => finK G Tryz.f50.resultTypes.toList Tryz.f50.results.toList S K) rec tagged_digits.t3 (tagged_digits.s3 z1 z2 z3 z4) = tagged_digits.r3 n (fun z1 z2 z3 z4 => rec tagged_digits.t3 (tagged_digits.s3 z1 z2 z3 z4)) (fun z1 z2 z3 z4 => rec tagged_digits.t3x1 (tagged_digits.s3x1 z1 z2 z3 z4)) (fun p => K (vs p)) z1 z2 z3 z4 := by kernel_rfl
theorem tagged_digits.r3x1_eq {R : Type} (n : Nat) (rec : List Item → St → Option R) (K : AV → Option R) (z1 : ByteArray) (z2 : Int) (z3 : Int) (z4 : List AV) :
    atK G (tagged_digits.C n) tagged_digits.cut (fun S => finK G Tryz.f50.resultTypes.toList Tryz.f50.results.toList S K) rec tagged_digits.t3x1 (tagged_digits.s3x1 z1 z2 z3 z4) = tagged_digits.r3x1 n (fun z1 z2 z3 z4 => rec tagged_digits.t3 (tagged_digits.s3 z1 z2 z3 z4)) (fun z1 z2 z3 z4 => rec tagged_digits.t3x1 (tagged_digits.s3x1 z1 z2 z3 z4)) (fun p => K (vs p)) z1 z2 z3 z4 := by kernel_rfl
noncomputable def tagged_digits.l (n : Nat) : Nat → (ByteArray → Int → Int → List AV → Option (ByteArray)) × (ByteArray → Int → Int → List AV → Option (ByteArray))
  | 0 => ((fun _ _ _ _ => none), (fun _ _ _ _ => none))
  | m + 1 => (tagged_digits.r3 n ((tagged_digits.l n m).1) ((tagged_digits.l n m).2) Option.some, tagged_digits.r3x1 n ((tagged_digits.l n m).1) ((tagged_digits.l n m).2) Option.some)
noncomputable def tagged_digits.F (n : Nat) (a0 : ByteArray) : Option (ByteArray) := tagged_digits.e n ((tagged_digits.l n n).1) ((tagged_digits.l n n).2) Option.some a0
noncomputable def tagged_digits.dec (x : AV) : Option (ByteArray) := match x with | .v (.string p0) => Option.some p0 | _ => none
theorem tagged_digits.dec_inv {p : ByteArray} (y : AV) (h : tagged_digits.dec y = some p) : y = vs p := by
  unfold tagged_digits.dec at h
  split at h
  · cases h; rfl
  · cases h
theorem tagged_digits.l_eq (n m : Nat) : (∀ (z1 : ByteArray) (z2 : Int) (z3 : Int) (z4 : List AV), runK G (tagged_digits.C n) tagged_digits.cut (fun S => finK G Tryz.f50.resultTypes.toList Tryz.f50.results.toList S tagged_digits.dec) m tagged_digits.t3 (tagged_digits.s3 z1 z2 z3 z4) = ((tagged_digits.l n m).1) z1 z2 z3 z4) ∧ (∀ (z1 : ByteArray) (z2 : Int) (z3 : Int) (z4 : List AV), runK G (tagged_digits.C n) tagged_digits.cut (fun S => finK G Tryz.f50.resultTypes.toList Tryz.f50.results.toList S tagged_digits.dec) m tagged_digits.t3x1 (tagged_digits.s3x1 z1 z2 z3 z4) = ((tagged_digits.l n m).2) z1 z2 z3 z4) := by
  induction m with
  | zero => exact ⟨fun z1 z2 z3 z4 => rfl, fun z1 z2 z3 z4 => rfl⟩
  | succ m ih =>
    obtain ⟨h3, h3x1⟩ := ih
    have e3 : (fun (z1 : ByteArray) (z2 : Int) (z3 : Int) (z4 : List AV) => runK G (tagged_digits.C n) tagged_digits.cut (fun S => finK G Tryz.f50.resultTypes.toList Tryz.f50.results.toList S tagged_digits.dec) m tagged_digits.t3 (tagged_digits.s3 z1 z2 z3 z4)) = (tagged_digits.l n m).1 := by funext z1 z2 z3 z4; exact h3 z1 z2 z3 z4
    have e3x1 : (fun (z1 : ByteArray) (z2 : Int) (z3 : Int) (z4 : List AV) => runK G (tagged_digits.C n) tagged_digits.cut (fun S => finK G Tryz.f50.resultTypes.toList Tryz.f50.results.toList S tagged_digits.dec) m tagged_digits.t3x1 (tagged_digits.s3x1 z1 z2 z3 z4)) = (tagged_digits.l n m).2 := by funext z1 z2 z3 z4; exact h3x1 z1 z2 z3 z4
    have q3 : ∀ (z1 : ByteArray) (z2 : Int) (z3 : Int) (z4 : List AV), runK G (tagged_digits.C n) tagged_digits.cut (fun S => finK G Tryz.f50.resultTypes.toList Tryz.f50.results.toList S tagged_digits.dec) (m + 1) tagged_digits.t3 (tagged_digits.s3 z1 z2 z3 z4) = ((tagged_digits.l n (m + 1)).1) z1 z2 z3 z4 := by
      intro z1 z2 z3 z4
      rw [runK_succ]
      refine (tagged_digits.r3_eq n _ tagged_digits.dec z1 z2 z3 z4).trans ?_
      rw [e3, e3x1]
      rfl
    have q3x1 : ∀ (z1 : ByteArray) (z2 : Int) (z3 : Int) (z4 : List AV), runK G (tagged_digits.C n) tagged_digits.cut (fun S => finK G Tryz.f50.resultTypes.toList Tryz.f50.results.toList S tagged_digits.dec) (m + 1) tagged_digits.t3x1 (tagged_digits.s3x1 z1 z2 z3 z4) = ((tagged_digits.l n (m + 1)).2) z1 z2 z3 z4 := by
      intro z1 z2 z3 z4
      rw [runK_succ]
      refine (tagged_digits.r3x1_eq n _ tagged_digits.dec z1 z2 z3 z4).trans ?_
      rw [e3, e3x1]
      rfl
    exact ⟨q3, q3x1⟩
theorem tagged_digits.hands (n : Nat) (a0 : ByteArray) {p : ByteArray} (h : tagged_digits.F n a0 = some p) : HandsIn Tryz.prog 50 [vs a0] (vs p) := by
  refine hands_of cfg mixed (fun _ => rfl) rfl (tagged_digits.tells n) (fn := Tryz.f50) Tryz.func50 (by kernel_rfl) (by kernel_rfl) (cut := tagged_digits.cut) (K := tagged_digits.dec) (r := p) (n := n) tagged_digits.dec_inv ?_
  rw [funK_getD (by kernel_rfl)]
  have h1 := tagged_digits.e_eq n (runK G (tagged_digits.C n) tagged_digits.cut (fun S => finK G Tryz.f50.resultTypes.toList Tryz.f50.results.toList S tagged_digits.dec) n) tagged_digits.dec a0
  have hl := tagged_digits.l_eq n n
  simp only [hl.1, hl.2] at h1
  exact h1.trans h
noncomputable def tagged_digits.via {R : Type} (n : Nat) (xs : List AV) : (AV → Option R) → Option R := match xs with | [.v (.string a0)] => fun K => (tagged_digits.F n a0).bind fun p => K (vs p) | _ => fun _ => none
theorem tagged_digits.tells1 {R : Type} (n : Nat) (xs : List AV) : Tells1 (R := R) Tryz.prog 50 xs (tagged_digits.via n xs) := by
  unfold tagged_digits.via
  split
  · exact Tells1.of (fun p hp => (tagged_digits.hands n _ hp).hands rfl)
  · exact Tells1.none
end Go.Proofs.YtgmpnhfnkhohiaaGreatDoor.Ev

/- midrange/tagged.row, out of its evaluation. Printed by the session's own program. -/
namespace Go.Proofs.YtgmpnhfnkhohiaaGreatDoor.Ev
open Go Go.Proofs Go.Proofs.Ev
set_option linter.unusedVariables false
set_option maxRecDepth 100000
/-! midrange/tagged.row: function 24 -/
noncomputable def tagged_row.e {R : Type} (n : Nat)  (k : ByteArray → Option R) (a0 : Int) (a1 : ByteArray) (a2 : Bool) : Option R :=
  bif a2 then ((tagged_big.F n a0 3).bind fun p1 =>
  withSome (strOf p1) fun bs2 =>
  (tagged_digits.F n (⟨bs2.toArray⟩ : ByteArray)).bind fun p3 =>
  chk (decide (p3.size + 2 ≤ 9223372036854775807)) (let y4 : ByteArray := p3 ++ (⟨#[58, 32]⟩ : ByteArray)
  bif decide ((0 : Int) ≤ 4) && decide ((4 : Int) ≤ ((a1.size : Nat) : Int)) then ((tagged_digits.F n (a1.extract 0 4)).bind fun p5 =>
  chk (decide (y4.size + p5.size ≤ 9223372036854775807)) (chk (decide ((y4 ++ p5).size + 1 ≤ 9223372036854775807)) (let y6 : ByteArray := (y4 ++ p5) ++ (⟨#[32]⟩ : ByteArray)
  bif decide ((0 : Int) ≤ 8) && decide ((8 : Int) ≤ ((a1.size : Nat) : Int)) then (bif decide ((0 : Int) ≤ 4) && decide ((4 : Int) ≤ 8) then ((tagged_digits.F n (a1.extract 4 8)).bind fun p7 =>
  chk (decide (y6.size + p7.size ≤ 9223372036854775807)) (chk (decide ((y6 ++ p7).size + 1 ≤ 9223372036854775807)) (let y8 : ByteArray := (y6 ++ p7) ++ (⟨#[32]⟩ : ByteArray)
  bif decide ((0 : Int) ≤ 12) && decide ((12 : Int) ≤ ((a1.size : Nat) : Int)) then (bif decide ((0 : Int) ≤ 8) && decide ((8 : Int) ≤ 12) then ((tagged_digits.F n (a1.extract 8 12)).bind fun p9 =>
  chk (decide (y8.size + p9.size ≤ 9223372036854775807)) (chk (decide ((y8 ++ p9).size + 1 ≤ 9223372036854775807)) (let y10 : ByteArray := (y8 ++ p9) ++ (⟨#[32]⟩ : ByteArray)
  bif decide ((0 : Int) ≤ 12) && decide ((12 : Int) ≤ ((a1.size : Nat) : Int)) then ((tagged_digits.F n (a1.extract 12 a1.size)).bind fun p11 =>
  chk (decide (y10.size + p11.size ≤ 9223372036854775807)) (chk (decide ((y10 ++ p11).size + 2 ≤ 9223372036854775807)) (let y12 : ByteArray := (y10 ++ p11) ++ (⟨#[32, 80]⟩ : ByteArray)
  k y12))) else none))) else none) else none))) else none) else none))) else none)) else ((tagged_big.F n a0 3).bind fun p13 =>
  withSome (strOf p13) fun bs14 =>
  (tagged_digits.F n (⟨bs14.toArray⟩ : ByteArray)).bind fun p15 =>
  chk (decide (p15.size + 2 ≤ 9223372036854775807)) (let y16 : ByteArray := p15 ++ (⟨#[58, 32]⟩ : ByteArray)
  bif decide ((0 : Int) ≤ 4) && decide ((4 : Int) ≤ ((a1.size : Nat) : Int)) then ((tagged_digits.F n (a1.extract 0 4)).bind fun p17 =>
  chk (decide (y16.size + p17.size ≤ 9223372036854775807)) (chk (decide ((y16 ++ p17).size + 1 ≤ 9223372036854775807)) (let y18 : ByteArray := (y16 ++ p17) ++ (⟨#[32]⟩ : ByteArray)
  bif decide ((0 : Int) ≤ 8) && decide ((8 : Int) ≤ ((a1.size : Nat) : Int)) then (bif decide ((0 : Int) ≤ 4) && decide ((4 : Int) ≤ 8) then ((tagged_digits.F n (a1.extract 4 8)).bind fun p19 =>
  chk (decide (y18.size + p19.size ≤ 9223372036854775807)) (chk (decide ((y18 ++ p19).size + 1 ≤ 9223372036854775807)) (let y20 : ByteArray := (y18 ++ p19) ++ (⟨#[32]⟩ : ByteArray)
  bif decide ((0 : Int) ≤ 12) && decide ((12 : Int) ≤ ((a1.size : Nat) : Int)) then (bif decide ((0 : Int) ≤ 8) && decide ((8 : Int) ≤ 12) then ((tagged_digits.F n (a1.extract 8 12)).bind fun p21 =>
  chk (decide (y20.size + p21.size ≤ 9223372036854775807)) (chk (decide ((y20 ++ p21).size + 1 ≤ 9223372036854775807)) (let y22 : ByteArray := (y20 ++ p21) ++ (⟨#[32]⟩ : ByteArray)
  bif decide ((0 : Int) ≤ 12) && decide ((12 : Int) ≤ ((a1.size : Nat) : Int)) then ((tagged_digits.F n (a1.extract 12 a1.size)).bind fun p23 =>
  chk (decide (y22.size + p23.size ≤ 9223372036854775807)) (chk (decide ((y22 ++ p23).size + 2 ≤ 9223372036854775807)) (let y24 : ByteArray := (y22 ++ p23) ++ (⟨#[32, 45]⟩ : ByteArray)
  k y24))) else none))) else none) else none))) else none) else none))) else none))
noncomputable def tagged_row.C {R : Type} (n : Nat) (f : FuncId) (xs : List AV) : (AV → Option R) → Option R :=
  bif Nat.beq f 50 then tagged_digits.via n xs else bif Nat.beq f 51 then tagged_big.via n xs else fun _ => none
theorem tagged_row.tells {R : Type} (n : Nat) : Tells (R := R) Tryz.prog (tagged_row.C n) := fun _ xs => tells_at (tagged_digits.tells1 n xs) (tells_at (tagged_big.tells1 n xs) (Tells1.none))
noncomputable def tagged_row.cut (r : Nat) : Option Keep := match r with  | _ => none
theorem tagged_row.e_eq {R : Type} (n : Nat) (rec : List Item → St → Option R) (K : AV → Option R) (a0 : Int) (a1 : ByteArray) (a2 : Bool) :
    goK G (tagged_row.C n) tagged_row.cut (fun S => finK G Tryz.f24.resultTypes.toList Tryz.f24.results.toList S K) rec 1000 [.code (Tryz.f24.body.getD .skip)] (Ev.start Tryz.f24 [vi a0, vs a1, vb a2]) = tagged_row.e n  (fun p => K (vs p)) a0 a1 a2 := by kernel_rfl
noncomputable def tagged_row.F (n : Nat) (a0 : Int) (a1 : ByteArray) (a2 : Bool) : Option (ByteArray) := tagged_row.e n  Option.some a0 a1 a2
noncomputable def tagged_row.dec (x : AV) : Option (ByteArray) := match x with | .v (.string p0) => Option.some p0 | _ => none
theorem tagged_row.dec_inv {p : ByteArray} (y : AV) (h : tagged_row.dec y = some p) : y = vs p := by
  unfold tagged_row.dec at h
  split at h
  · cases h; rfl
  · cases h
theorem tagged_row.hands (n : Nat) (a0 : Int) (a1 : ByteArray) (a2 : Bool) {p : ByteArray} (h : tagged_row.F n a0 a1 a2 = some p) : HandsIn Tryz.prog 24 [vi a0, vs a1, vb a2] (vs p) := by
  refine hands_of cfg mixed (fun _ => rfl) rfl (tagged_row.tells n) (fn := Tryz.f24) Tryz.func24 (by kernel_rfl) (by kernel_rfl) (cut := tagged_row.cut) (K := tagged_row.dec) (r := p) (n := n) tagged_row.dec_inv ?_
  rw [funK_getD (by kernel_rfl)]
  have h1 := tagged_row.e_eq n (runK G (tagged_row.C n) tagged_row.cut (fun S => finK G Tryz.f24.resultTypes.toList Tryz.f24.results.toList S tagged_row.dec) n) tagged_row.dec a0 a1 a2
  exact h1.trans h
noncomputable def tagged_row.via {R : Type} (n : Nat) (xs : List AV) : (AV → Option R) → Option R := match xs with | [.v (.int .i64 a0), .v (.string a1), .v (.bool a2)] => fun K => (tagged_row.F n a0 a1 a2).bind fun p => K (vs p) | _ => fun _ => none
theorem tagged_row.tells1 {R : Type} (n : Nat) (xs : List AV) : Tells1 (R := R) Tryz.prog 24 xs (tagged_row.via n xs) := by
  unfold tagged_row.via
  split
  · exact Tells1.of (fun p hp => (tagged_row.hands n _ _ _ hp).hands rfl)
  · exact Tells1.none
end Go.Proofs.YtgmpnhfnkhohiaaGreatDoor.Ev

/- midrange/tagged.Dump, out of its evaluation. Printed by the session's own program. -/
namespace Go.Proofs.YtgmpnhfnkhohiaaGreatDoor.Ev
open Go Go.Proofs Go.Proofs.Ev
set_option linter.unusedVariables false
set_option maxRecDepth 100000
/-! midrange/tagged.Dump: function 7 -/
noncomputable def tagged_Dump.r6 {R : Type} (n : Nat) (c6 : Int → ByteArray → List AV → List AV → Option R) (c6x1 : Int → ByteArray → List AV → List AV → Option R) (c7 : Int → ByteArray → List AV → List AV → Option R) (c9 : Int → Int → ByteArray → List AV → List AV → Option R) (c9x1 : Int → Int → ByteArray → List AV → List AV → Option R) (c11 : Int → Int → ByteArray → List AV → List AV → Option R) (c11x1 : Int → Int → ByteArray → List AV → List AV → Option R) (k : ByteArray × Int → Option R) (z1 : Int) (z2 : ByteArray) (z3 : List AV) (z4 : List AV) : Option R :=
  let y2 : Bool := decide (z1 < ((z3.length : Nat) : Int))
  bif y2 then (c9 z1 0 z2 z3 z4) else ((strings_Builder_String_hadf41.F n z4).bind fun p3 =>
  k (p3, 0))
noncomputable def tagged_Dump.r6x1 {R : Type} (n : Nat) (c6 : Int → ByteArray → List AV → List AV → Option R) (c6x1 : Int → ByteArray → List AV → List AV → Option R) (c7 : Int → ByteArray → List AV → List AV → Option R) (c9 : Int → Int → ByteArray → List AV → List AV → Option R) (c9x1 : Int → Int → ByteArray → List AV → List AV → Option R) (c11 : Int → Int → ByteArray → List AV → List AV → Option R) (c11x1 : Int → Int → ByteArray → List AV → List AV → Option R) (k : ByteArray × Int → Option R) (z1 : Int) (z2 : ByteArray) (z3 : List AV) (z4 : List AV) : Option R :=
  let y17 : Bool := decide (z1 < ((z3.length : Nat) : Int))
  bif y17 then (c9x1 z1 0 z2 z3 z4) else ((strings_Builder_String_hf88d1.F n z4).bind fun p18 =>
  k (p18, 0))
noncomputable def tagged_Dump.r7 {R : Type} (n : Nat) (c6 : Int → ByteArray → List AV → List AV → Option R) (c6x1 : Int → ByteArray → List AV → List AV → Option R) (c7 : Int → ByteArray → List AV → List AV → Option R) (c9 : Int → Int → ByteArray → List AV → List AV → Option R) (c9x1 : Int → Int → ByteArray → List AV → List AV → Option R) (c11 : Int → Int → ByteArray → List AV → List AV → Option R) (c11x1 : Int → Int → ByteArray → List AV → List AV → Option R) (k : ByteArray × Int → Option R) (z1 : Int) (z2 : ByteArray) (z3 : List AV) (z4 : List AV) : Option R :=
  c6x1 (IntKind.i64.wrap (z1 + 1)) z2 z3 z4
noncomputable def tagged_Dump.r9 {R : Type} (n : Nat) (c6 : Int → ByteArray → List AV → List AV → Option R) (c6x1 : Int → ByteArray → List AV → List AV → Option R) (c7 : Int → ByteArray → List AV → List AV → Option R) (c9 : Int → Int → ByteArray → List AV → List AV → Option R) (c9x1 : Int → Int → ByteArray → List AV → List AV → Option R) (c11 : Int → Int → ByteArray → List AV → List AV → Option R) (c11x1 : Int → Int → ByteArray → List AV → List AV → Option R) (k : ByteArray × Int → Option R) (z1 : Int) (z2 : Int) (z3 : ByteArray) (z4 : List AV) (z5 : List AV) : Option R :=
  let y4 : Bool := decide ((IntKind.i64.wrap (z1 + z2)) < ((z4.length : Nat) : Int))
  bif y4 then ((tagged_repeats.F n z3 z4 (IntKind.i64.wrap (z1 + z2))).bind fun p5 =>
  bif p5 then (c9 z1 (IntKind.i64.wrap (z2 + 1)) z3 z4 z5) else (c11 z1 z2 z3 z4 z5)) else (c11 z1 z2 z3 z4 z5)
noncomputable def tagged_Dump.r9x1 {R : Type} (n : Nat) (c6 : Int → ByteArray → List AV → List AV → Option R) (c6x1 : Int → ByteArray → List AV → List AV → Option R) (c7 : Int → ByteArray → List AV → List AV → Option R) (c9 : Int → Int → ByteArray → List AV → List AV → Option R) (c9x1 : Int → Int → ByteArray → List AV → List AV → Option R) (c11 : Int → Int → ByteArray → List AV → List AV → Option R) (c11x1 : Int → Int → ByteArray → List AV → List AV → Option R) (k : ByteArray × Int → Option R) (z1 : Int) (z2 : Int) (z3 : ByteArray) (z4 : List AV) (z5 : List AV) : Option R :=
  let y19 : Bool := decide ((IntKind.i64.wrap (z1 + z2)) < ((z4.length : Nat) : Int))
  bif y19 then ((tagged_repeats.F n z3 z4 (IntKind.i64.wrap (z1 + z2))).bind fun p20 =>
  bif p20 then (c9x1 z1 (IntKind.i64.wrap (z2 + 1)) z3 z4 z5) else (c11x1 z1 z2 z3 z4 z5)) else (c11x1 z1 z2 z3 z4 z5)
noncomputable def tagged_Dump.r11 {R : Type} (n : Nat) (c6 : Int → ByteArray → List AV → List AV → Option R) (c6x1 : Int → ByteArray → List AV → List AV → Option R) (c7 : Int → ByteArray → List AV → List AV → Option R) (c9 : Int → Int → ByteArray → List AV → List AV → Option R) (c9x1 : Int → Int → ByteArray → List AV → List AV → Option R) (c11 : Int → Int → ByteArray → List AV → List AV → Option R) (c11x1 : Int → Int → ByteArray → List AV → List AV → Option R) (k : ByteArray × Int → Option R) (z1 : Int) (z2 : Int) (z3 : ByteArray) (z4 : List AV) (z5 : List AV) : Option R :=
  bif decide (z2 > 0) then ((strconv_Itoa.F n z2).bind fun p6 =>
  chk (decide (1 + p6.size ≤ 9223372036854775807)) (chk (decide (((⟨#[42]⟩ : ByteArray) ++ p6).size + 1 ≤ 9223372036854775807)) (let y7 : ByteArray := ((⟨#[42]⟩ : ByteArray) ++ p6) ++ (⟨#[10]⟩ : ByteArray)
  (strings_Builder_WriteString_h7baad.F n y7 z5).bind fun p8 =>
  let y9 : Int := IntKind.i64.wrap (z1 + (IntKind.i64.wrap (z2 - 1)))
  c7 y9 z3 z4 p8.2.2))) else (let y10 : Int := IntKind.i64.wrap ((IntKind.i64.wrap (z1 * 16)) + 16)
  bif decide ((0 : Int) ≤ y10) && decide ((y10 : Int) ≤ ((z3.size : Nat) : Int)) then (bif decide ((0 : Int) ≤ IntKind.i64.wrap (z1 * 16)) && decide ((IntKind.i64.wrap (z1 * 16) : Int) ≤ y10) then (let y11 : ByteArray := z3.extract (IntKind.i64.wrap (z1 * 16)).toNat (y10).toNat
  bif decide ((0 : Int) ≤ z1) && decide (z1 < ((z4.length : Nat) : Int)) then (withCons ((z4.getD ((z1).toNat) .undef).cells) fun h12 r13 =>
  withBool h12 fun b14 =>
  (tagged_row.F n (IntKind.i64.wrap (z1 * 16)) y11 b14).bind fun p15 =>
  chk (decide (p15.size + 1 ≤ 9223372036854775807)) ((strings_Builder_WriteString_h7baad.F n (p15 ++ (⟨#[10]⟩ : ByteArray)) z5).bind fun p16 =>
  c7 z1 z3 z4 p16.2.2)) else none) else none) else none)
noncomputable def tagged_Dump.r11x1 {R : Type} (n : Nat) (c6 : Int → ByteArray → List AV → List AV → Option R) (c6x1 : Int → ByteArray → List AV → List AV → Option R) (c7 : Int → ByteArray → List AV → List AV → Option R) (c9 : Int → Int → ByteArray → List AV → List AV → Option R) (c9x1 : Int → Int → ByteArray → List AV → List AV → Option R) (c11 : Int → Int → ByteArray → List AV → List AV → Option R) (c11x1 : Int → Int → ByteArray → List AV → List AV → Option R) (k : ByteArray × Int → Option R) (z1 : Int) (z2 : Int) (z3 : ByteArray) (z4 : List AV) (z5 : List AV) : Option R :=
  bif decide (z2 > 0) then ((strconv_Itoa.F n z2).bind fun p21 =>
  chk (decide (1 + p21.size ≤ 9223372036854775807)) (chk (decide (((⟨#[42]⟩ : ByteArray) ++ p21).size + 1 ≤ 9223372036854775807)) (let y22 : ByteArray := ((⟨#[42]⟩ : ByteArray) ++ p21) ++ (⟨#[10]⟩ : ByteArray)
  (strings_Builder_WriteString_he1305.F n y22 z5).bind fun p23 =>
  let y24 : Int := IntKind.i64.wrap (z1 + (IntKind.i64.wrap (z2 - 1)))
  c7 y24 z3 z4 p23.2.2))) else (let y25 : Int := IntKind.i64.wrap ((IntKind.i64.wrap (z1 * 16)) + 16)
  bif decide ((0 : Int) ≤ y25) && decide ((y25 : Int) ≤ ((z3.size : Nat) : Int)) then (bif decide ((0 : Int) ≤ IntKind.i64.wrap (z1 * 16)) && decide ((IntKind.i64.wrap (z1 * 16) : Int) ≤ y25) then (let y26 : ByteArray := z3.extract (IntKind.i64.wrap (z1 * 16)).toNat (y25).toNat
  bif decide ((0 : Int) ≤ z1) && decide (z1 < ((z4.length : Nat) : Int)) then (withCons ((z4.getD ((z1).toNat) .undef).cells) fun h27 r28 =>
  withBool h27 fun b29 =>
  (tagged_row.F n (IntKind.i64.wrap (z1 * 16)) y26 b29).bind fun p30 =>
  chk (decide (p30.size + 1 ≤ 9223372036854775807)) ((strings_Builder_WriteString_he1305.F n (p30 ++ (⟨#[10]⟩ : ByteArray)) z5).bind fun p31 =>
  c7 z1 z3 z4 p31.2.2)) else none) else none) else none)
noncomputable def tagged_Dump.e {R : Type} (n : Nat) (c6 : Int → ByteArray → List AV → List AV → Option R) (c6x1 : Int → ByteArray → List AV → List AV → Option R) (c7 : Int → ByteArray → List AV → List AV → Option R) (c9 : Int → Int → ByteArray → List AV → List AV → Option R) (c9x1 : Int → Int → ByteArray → List AV → List AV → Option R) (c11 : Int → Int → ByteArray → List AV → List AV → Option R) (c11x1 : Int → Int → ByteArray → List AV → List AV → Option R) (k : ByteArray × Int → Option R) (a0 : ByteArray) (a1 : List AV) : Option R :=
  (tagged_CheckStorage.F n a0 a1).bind fun p1 =>
  bif p1.2 != 0 then (k ((⟨#[]⟩ : ByteArray), p1.2)) else (c6 0 a0 a1 [])
noncomputable def tagged_Dump.C {R : Type} (n : Nat) (f : FuncId) (xs : List AV) : (AV → Option R) → Option R :=
  bif Nat.beq f 20 then tagged_CheckStorage.via n xs else bif Nat.beq f 21 then tagged_repeats.via n xs else bif Nat.beq f 22 && strings_Builder_WriteString_h7baad.is xs then strings_Builder_WriteString_h7baad.via n xs else bif Nat.beq f 22 && strings_Builder_WriteString_he1305.is xs then strings_Builder_WriteString_he1305.via n xs else bif Nat.beq f 23 then strconv_Itoa.via n xs else bif Nat.beq f 24 then tagged_row.via n xs else bif Nat.beq f 25 && strings_Builder_String_hadf41.is xs then strings_Builder_String_hadf41.via n xs else bif Nat.beq f 25 && strings_Builder_String_hf88d1.is xs then strings_Builder_String_hf88d1.via n xs else fun _ => none
theorem tagged_Dump.tells {R : Type} (n : Nat) : Tells (R := R) Tryz.prog (tagged_Dump.C n) := fun _ xs => tells_at (tagged_CheckStorage.tells1 n xs) (tells_at (tagged_repeats.tells1 n xs) (tells_at2 (strings_Builder_WriteString_h7baad.tells1 n xs) (tells_at2 (strings_Builder_WriteString_he1305.tells1 n xs) (tells_at (strconv_Itoa.tells1 n xs) (tells_at (tagged_row.tells1 n xs) (tells_at2 (strings_Builder_String_hadf41.tells1 n xs) (tells_at2 (strings_Builder_String_hf88d1.tells1 n xs) (Tells1.none))))))))
noncomputable def tagged_Dump.cut (r : Nat) : Option Keep := match r with | 6 => Option.some ⟨[1, 6, 7], [(6, Option.some 1, ⟨true, 5⟩, 1)]⟩ | 7 => Option.some ⟨[1, 6, 7], []⟩ | 9 => Option.some ⟨[1, 6, 7, 8], []⟩ | 11 => Option.some ⟨[1, 6, 7, 8], []⟩ | _ => none
noncomputable def tagged_Dump.t6 : List Item := (todoOf 6 1000 [.code (Tryz.f7.body.getD .skip)]).getD []
noncomputable def tagged_Dump.s6 (z1 : Int) (z2 : ByteArray) (z3 : List AV) (z4 : List AV) : St := ⟨[.undef, .ptr 0 0, .undef, .undef, .undef, .undef, .ptr 1 0, vi z1, .undef, .undef, .undef, .undef, .undef, .undef, .undef, .undef, .undef, .undef, .undef, .undef, .undef, .undef, .undef, .undef, .undef, .undef, .undef, .undef, .undef, .undef, .undef, .undef, .undef, .undef, .undef, .undef, .undef, .undef, .undef, .undef, .undef, .undef, .undef, .undef, .undef, .undef, .undef, .undef, .undef, .undef, .undef, .undef, .undef, .undef, .undef, .undef, .undef, .undef, .undef, .undef, .undef, .undef, .undef, .undef, .undef, .undef, .undef, .undef, .undef, .undef], Mem.ofList [.box 24 [vs z2, .sl ⟨true, 4⟩ 1 z3], .box 57 [.v (.pointer none), .own 2 0 none], .row ⟨true, 5⟩ 1 z4], 3⟩
noncomputable def tagged_Dump.t6x1 : List Item := (todoOf 6 1000 [.code (Tryz.f7.body.getD .skip)]).getD []
noncomputable def tagged_Dump.s6x1 (z1 : Int) (z2 : ByteArray) (z3 : List AV) (z4 : List AV) : St := ⟨[.undef, .ptr 0 0, .undef, .undef, .undef, .undef, .ptr 1 0, vi z1, .undef, .undef, .undef, .undef, .undef, .undef, .undef, .undef, .undef, .undef, .undef, .undef, .undef, .undef, .undef, .undef, .undef, .undef, .undef, .undef, .undef, .undef, .undef, .undef, .undef, .undef, .undef, .undef, .undef, .undef, .undef, .undef, .undef, .undef, .undef, .undef, .undef, .undef, .undef, .undef, .undef, .undef, .undef, .undef, .undef, .undef, .undef, .undef, .undef, .undef, .undef, .undef, .undef, .undef, .undef, .undef, .undef, .undef, .undef, .undef, .undef, .undef], Mem.ofList [.box 24 [vs z2, .sl ⟨true, 4⟩ 1 z3], .box 57 [.ptr 1 0, .own 2 0 none], .row ⟨true, 5⟩ 1 z4], 3⟩
noncomputable def tagged_Dump.t7 : List Item := (todoOf 7 1000 [.code (Tryz.f7.body.getD .skip)]).getD []
noncomputable def tagged_Dump.s7 (z1 : Int) (z2 : ByteArray) (z3 : List AV) (z4 : List AV) : St := ⟨[.undef, .ptr 0 0, .undef, .undef, .undef, .undef, .ptr 1 0, vi z1, .undef, .undef, .undef, .undef, .undef, .undef, .undef, .undef, .undef, .undef, .undef, .undef, .undef, .undef, .undef, .undef, .undef, .undef, .undef, .undef, .undef, .undef, .undef, .undef, .undef, .undef, .undef, .undef, .undef, .undef, .undef, .undef, .undef, .undef, .undef, .undef, .undef, .undef, .undef, .undef, .undef, .undef, .undef, .undef, .undef, .undef, .undef, .undef, .undef, .undef, .undef, .undef, .undef, .undef, .undef, .undef, .undef, .undef, .undef, .undef, .undef, .undef], Mem.ofList [.box 24 [vs z2, .sl ⟨true, 4⟩ 1 z3], .box 57 [.ptr 1 0, .own 2 0 none], .row ⟨true, 5⟩ 1 z4], 3⟩
noncomputable def tagged_Dump.t9 : List Item := (todoOf 9 1000 [.code (Tryz.f7.body.getD .skip)]).getD []
noncomputable def tagged_Dump.s9 (z1 : Int) (z2 : Int) (z3 : ByteArray) (z4 : List AV) (z5 : List AV) : St := ⟨[.undef, .ptr 0 0, .undef, .undef, .undef, .undef, .ptr 1 0, vi z1, vi z2, .undef, .undef, .undef, .undef, .undef, .undef, .undef, .undef, .undef, .undef, .undef, .undef, .undef, .undef, .undef, .undef, .undef, .undef, .undef, .undef, .undef, .undef, .undef, .undef, .undef, .undef, .undef, .undef, .undef, .undef, .undef, .undef, .undef, .undef, .undef, .undef, .undef, .undef, .undef, .undef, .undef, .undef, .undef, .undef, .undef, .undef, .undef, .undef, .undef, .undef, .undef, .undef, .undef, .undef, .undef, .undef, .undef, .undef, .undef, .undef, .undef], Mem.ofList [.box 24 [vs z3, .sl ⟨true, 4⟩ 1 z4], .box 57 [.v (.pointer none), .own 2 0 none], .row ⟨true, 5⟩ 1 z5], 3⟩
noncomputable def tagged_Dump.t9x1 : List Item := (todoOf 9 1000 [.code (Tryz.f7.body.getD .skip)]).getD []
noncomputable def tagged_Dump.s9x1 (z1 : Int) (z2 : Int) (z3 : ByteArray) (z4 : List AV) (z5 : List AV) : St := ⟨[.undef, .ptr 0 0, .undef, .undef, .undef, .undef, .ptr 1 0, vi z1, vi z2, .undef, .undef, .undef, .undef, .undef, .undef, .undef, .undef, .undef, .undef, .undef, .undef, .undef, .undef, .undef, .undef, .undef, .undef, .undef, .undef, .undef, .undef, .undef, .undef, .undef, .undef, .undef, .undef, .undef, .undef, .undef, .undef, .undef, .undef, .undef, .undef, .undef, .undef, .undef, .undef, .undef, .undef, .undef, .undef, .undef, .undef, .undef, .undef, .undef, .undef, .undef, .undef, .undef, .undef, .undef, .undef, .undef, .undef, .undef, .undef, .undef], Mem.ofList [.box 24 [vs z3, .sl ⟨true, 4⟩ 1 z4], .box 57 [.ptr 1 0, .own 2 0 none], .row ⟨true, 5⟩ 1 z5], 3⟩
noncomputable def tagged_Dump.t11 : List Item := (todoOf 11 1000 [.code (Tryz.f7.body.getD .skip)]).getD []
noncomputable def tagged_Dump.s11 (z1 : Int) (z2 : Int) (z3 : ByteArray) (z4 : List AV) (z5 : List AV) : St := ⟨[.undef, .ptr 0 0, .undef, .undef, .undef, .undef, .ptr 1 0, vi z1, vi z2, .undef, .undef, .undef, .undef, .undef, .undef, .undef, .undef, .undef, .undef, .undef, .undef, .undef, .undef, .undef, .undef, .undef, .undef, .undef, .undef, .undef, .undef, .undef, .undef, .undef, .undef, .undef, .undef, .undef, .undef, .undef, .undef, .undef, .undef, .undef, .undef, .undef, .undef, .undef, .undef, .undef, .undef, .undef, .undef, .undef, .undef, .undef, .undef, .undef, .undef, .undef, .undef, .undef, .undef, .undef, .undef, .undef, .undef, .undef, .undef, .undef], Mem.ofList [.box 24 [vs z3, .sl ⟨true, 4⟩ 1 z4], .box 57 [.v (.pointer none), .own 2 0 none], .row ⟨true, 5⟩ 1 z5], 3⟩
noncomputable def tagged_Dump.t11x1 : List Item := (todoOf 11 1000 [.code (Tryz.f7.body.getD .skip)]).getD []
noncomputable def tagged_Dump.s11x1 (z1 : Int) (z2 : Int) (z3 : ByteArray) (z4 : List AV) (z5 : List AV) : St := ⟨[.undef, .ptr 0 0, .undef, .undef, .undef, .undef, .ptr 1 0, vi z1, vi z2, .undef, .undef, .undef, .undef, .undef, .undef, .undef, .undef, .undef, .undef, .undef, .undef, .undef, .undef, .undef, .undef, .undef, .undef, .undef, .undef, .undef, .undef, .undef, .undef, .undef, .undef, .undef, .undef, .undef, .undef, .undef, .undef, .undef, .undef, .undef, .undef, .undef, .undef, .undef, .undef, .undef, .undef, .undef, .undef, .undef, .undef, .undef, .undef, .undef, .undef, .undef, .undef, .undef, .undef, .undef, .undef, .undef, .undef, .undef, .undef, .undef], Mem.ofList [.box 24 [vs z3, .sl ⟨true, 4⟩ 1 z4], .box 57 [.ptr 1 0, .own 2 0 none], .row ⟨true, 5⟩ 1 z5], 3⟩
theorem tagged_Dump.e_eq {R : Type} (n : Nat) (rec : List Item → St → Option R) (K : AV → Option R) (a0 : ByteArray) (a1 : List AV) :
    goK G (tagged_Dump.C n) tagged_Dump.cut (fun S => finK G Tryz.f7.resultTypes.toList Tryz.f7.results.toList S K) rec 1000 [.code (Tryz.f7.body.getD .skip)] (Ev.start Tryz.f7 [AV.agg [vs a0, .sl ⟨true, 4⟩ 1 a1]]) = tagged_Dump.e n (fun z1 z2 z3 z4 => rec tagged_Dump.t6 (tagged_Dump.s6 z1 z2 z3 z4)) (fun z1 z2 z3 z4 => rec tagged_Dump.t6x1 (tagged_Dump.s6x1 z1 z2 z3 z4)) (fun z1 z2 z3 z4 => rec tagged_Dump.t7 (tagged_Dump.s7 z1 z2 z3 z4)) (fun z1 z2 z3 z4 z5 => rec tagged_Dump.t9 (tagged_Dump.s9 z1 z2 z3 z4 z5)) (fun z1 z2 z3 z4 z5 => rec tagged_Dump.t9x1 (tagged_Dump.s9x1 z1 z2 z3 z4 z5)) (fun z1 z2 z3 z4 z5 => rec tagged_Dump.t11 (tagged_Dump.s11 z1 z2 z3 z4 z5)) (fun z1 z2 z3 z4 z5 => rec tagged_Dump.t11x1 (tagged_Dump.s11x1 z1 z2 z3 z4 z5)) (fun p => K (.tup [vs p.1, vi p.2])) a0 a1 := by kernel_rfl
theorem tagged_Dump.r6_eq {R : Type} (n : Nat) (rec : List Item → St → Option R) (K : AV → Option R) (z1 : Int) (z2 : ByteArray) (z3 : List AV) (z4 : List AV) :
    atK G (tagged_Dump.C n) tagged_Dump.cut (fun S => finK G Tryz.f7.resultTypes.toList Tryz.f7.results.toList S K) rec tagged_Dump.t6 (tagged_Dump.s6 z1 z2 z3 z4) = tagged_Dump.r6 n (fun z1 z2 z3 z4 => rec tagged_Dump.t6 (tagged_Dump.s6 z1 z2 z3 z4)) (fun z1 z2 z3 z4 => rec tagged_Dump.t6x1 (tagged_Dump.s6x1 z1 z2 z3 z4)) (fun z1 z2 z3 z4 => rec tagged_Dump.t7 (tagged_Dump.s7 z1 z2 z3 z4)) (fun z1 z2 z3 z4 z5 => rec tagged_Dump.t9 (tagged_Dump.s9 z1 z2 z3 z4 z5)) (fun z1 z2 z3 z4 z5 => rec tagged_Dump.t9x1 (tagged_Dump.s9x1 z1 z2 z3 z4 z5)) (fun z1 z2 z3 z4 z5 => rec tagged_Dump.t11 (tagged_Dump.s11 z1 z2 z3 z4 z5)) (fun z1 z2 z3 z4 z5 => rec tagged_Dump.t11x1 (tagged_Dump.s11x1 z1 z2 z3 z4 z5)) (fun p => K (.tup [vs p.1, vi p.2])) z1 z2 z3 z4 := by kernel_rfl
theorem tagged_Dump.r6x1_eq {R : Type} (n : Nat) (rec : List Item → St → Option R) (K : AV → Option R) (z1 : Int) (z2 : ByteArray) (z3 : List AV) (z4 : List AV) :
    atK G (tagged_Dump.C n) tagged_Dump.cut (fun S => finK G Tryz.f7.resultTypes.toList Tryz.f7.results.toList S K) rec tagged_Dump.t6x1 (tagged_Dump.s6x1 z1 z2 z3 z4) = tagged_Dump.r6x1 n (fun z1 z2 z3 z4 => rec tagged_Dump.t6 (tagged_Dump.s6 z1 z2 z3 z4)) (fun z1 z2 z3 z4 => rec tagged_Dump.t6x1 (tagged_Dump.s6x1 z1 z2 z3 z4)) (fun z1 z2 z3 z4 => rec tagged_Dump.t7 (tagged_Dump.s7 z1 z2 z3 z4)) (fun z1 z2 z3 z4 z5 => rec tagged_Dump.t9 (tagged_Dump.s9 z1 z2 z3 z4 z5)) (fun z1 z2 z3 z4 z5 => rec tagged_Dump.t9x1 (tagged_Dump.s9x1 z1 z2 z3 z4 z5)) (fun z1 z2 z3 z4 z5 => rec tagged_Dump.t11 (tagged_Dump.s11 z1 z2 z3 z4 z5)) (fun z1 z2 z3 z4 z5 => rec tagged_Dump.t11x1 (tagged_Dump.s11x1 z1 z2 z3 z4 z5)) (fun p => K (.tup [vs p.1, vi p.2])) z1 z2 z3 z4 := by kernel_rfl
theorem tagged_Dump.r7_eq {R : Type} (n : Nat) (rec : List Item → St → Option R) (K : AV → Option R) (z1 : Int) (z2 : ByteArray) (z3 : List AV) (z4 : List AV) :
    atK G (tagged_Dump.C n) tagged_Dump.cut (fun S => finK G Tryz.f7.resultTypes.toList Tryz.f7.results.toList S K) rec tagged_Dump.t7 (tagged_Dump.s7 z1 z2 z3 z4) = tagged_Dump.r7 n (fun z1 z2 z3 z4 => rec tagged_Dump.t6 (tagged_Dump.s6 z1 z2 z3 z4)) (fun z1 z2 z3 z4 => rec tagged_Dump.t6x1 (tagged_Dump.s6x1 z1 z2 z3 z4)) (fun z1 z2 z3 z4 => rec tagged_Dump.t7 (tagged_Dump.s7 z1 z2 z3 z4)) (fun z1 z2 z3 z4 z5 => rec tagged_Dump.t9 (tagged_Dump.s9 z1 z2 z3 z4 z5)) (fun z1 z2 z3 z4 z5 => rec tagged_Dump.t9x1 (tagged_Dump.s9x1 z1 z2 z3 z4 z5)) (fun z1 z2 z3 z4 z5 => rec tagged_Dump.t11 (tagged_Dump.s11 z1 z2 z3 z4 z5)) (fun z1 z2 z3 z4 z5 => rec tagged_Dump.t11x1 (tagged_Dump.s11x1 z1 z2 z3 z4 z5)) (fun p => K (.tup [vs p.1, vi p.2])) z1 z2 z3 z4 := by kernel_rfl
theorem tagged_Dump.r9_eq {R : Type} (n : Nat) (rec : List Item → St → Option R) (K : AV → Option R) (z1 : Int) (z2 : Int) (z3 : ByteArray) (z4 : List AV) (z5 : List AV) :
    atK G (tagged_Dump.C n) tagged_Dump.cut (fun S => finK G Tryz.f7.resultTypes.toList Tryz.f7.results.toList S K) rec tagged_Dump.t9 (tagged_Dump.s9 z1 z2 z3 z4 z5) = tagged_Dump.r9 n (fun z1 z2 z3 z4 => rec tagged_Dump.t6 (tagged_Dump.s6 z1 z2 z3 z4)) (fun z1 z2 z3 z4 => rec tagged_Dump.t6x1 (tagged_Dump.s6x1 z1 z2 z3 z4)) (fun z1 z2 z3 z4 => rec tagged_Dump.t7 (tagged_Dump.s7 z1 z2 z3 z4)) (fun z1 z2 z3 z4 z5 => rec tagged_Dump.t9 (tagged_Dump.s9 z1 z2 z3 z4 z5)) (fun z1 z2 z3 z4 z5 => rec tagged_Dump.t9x1 (tagged_Dump.s9x1 z1 z2 z3 z4 z5)) (fun z1 z2 z3 z4 z5 => rec tagged_Dump.t11 (tagged_Dump.s11 z1 z2 z3 z4 z5)) (fun z1 z2 z3 z4 z5 => rec tagged_Dump.t11x1 (tagged_Dump.s11x1 z1 z2 z3 z4 z5)) (fun p => K (.tup [vs p.1, vi p.2])) z1 z2 z3 z4 z5 := by kernel_rfl
theorem tagged_Dump.r9x1_eq {R : Type} (n : Nat) (rec : List Item → St → Option R) (K : AV → Option R) (z1 : Int) (z2 : Int) (z3 : ByteArray) (z4 : List AV) (z5 : List AV) :
    atK G (tagged_Dump.C n) tagged_Dump.cut (fun S => finK G Tryz.f7.resultTypes.toList Tryz.f7.results.toList S K) rec tagged_Dump.t9x1 (tagged_Dump.s9x1 z1 z2 z3 z4 z5) = tagged_Dump.r9x1 n (fun z1 z2 z3 z4 => rec tagged_Dump.t6 (tagged_Dump.s6 z1 z2 z3 z4)) (fun z1 z2 z3 z4 => rec tagged_Dump.t6x1 (tagged_Dump.s6x1 z1 z2 z3 z4)) (fun z1 z2 z3 z4 => rec tagged_Dump.t7 (tagged_Dump.s7 z1 z2 z3 z4)) (fun z1 z2 z3 z4 z5 => rec tagged_Dump.t9 (tagged_Dump.s9 z1 z2 z3 z4 z5)) (fun z1 z2 z3 z4 z5 => rec tagged_Dump.t9x1 (tagged_Dump.s9x1 z1 z2 z3 z4 z5)) (fun z1 z2 z3 z4 z5 => rec tagged_Dump.t11 (tagged_Dump.s11 z1 z2 z3 z4 z5)) (fun z1 z2 z3 z4 z5 => rec tagged_Dump.t11x1 (tagged_Dump.s11x1 z1 z2 z3 z4 z5)) (fun p => K (.tup [vs p.1, vi p.2])) z1 z2 z3 z4 z5 := by kernel_rfl
theorem tagged_Dump.r11_eq {R : Type} (n : Nat) (rec : List Item → St → Option R) (K : AV → Option R) (z1 : Int) (z2 : Int) (z3 : ByteArray) (z4 : List AV) (z5 : List AV) :
    atK G (tagged_Dump.C n) tagged_Dump.cut (fun S => finK G Tryz.f7.resultTypes.toList Tryz.f7.results.toList S K) rec tagged_Dump.t11 (tagged_Dump.s11 z1 z2 z3 z4 z5) = tagged_Dump.r11 n (fun z1 z2 z3 z4 => rec tagged_Dump.t6 (tagged_Dump.s6 z1 z2 z3 z4)) (fun z1 z2 z3 z4 => rec tagged_Dump.t6x1 (tagged_Dump.s6x1 z1 z2 z3 z4)) (fun z1 z2 z3 z4 => rec tagged_Dump.t7 (tagged_Dump.s7 z1 z2 z3 z4)) (fun z1 z2 z3 z4 z5 => rec tagged_Dump.t9 (tagged_Dump.s9 z1 z2 z3 z4 z5)) (fun z1 z2 z3 z4 z5 => rec tagged_Dump.t9x1 (tagged_Dump.s9x1 z1 z2 z3 z4 z5)) (fun z1 z2 z3 z4 z5 => rec tagged_Dump.t11 (tagged_Dump.s11 z1 z2 z3 z4 z5)) (fun z1 z2 z3 z4 z5 => rec tagged_Dump.t11x1 (tagged_Dump.s11x1 z1 z2 z3 z4 z5)) (fun p => K (.tup [vs p.1, vi p.2])) z1 z2 z3 z4 z5 := by kernel_rfl
theorem tagged_Dump.r11x1_eq {R : Type} (n : Nat) (rec : List Item → St → Option R) (K : AV → Option R) (z1 : Int) (z2 : Int) (z3 : ByteArray) (z4 : List AV) (z5 : List AV) :
    atK G (tagged_Dump.C n) tagged_Dump.cut (fun S => finK G Tryz.f7.resultTypes.toList Tryz.f7.results.toList S K) rec tagged_Dump.t11x1 (tagged_Dump.s11x1 z1 z2 z3 z4 z5) = tagged_Dump.r11x1 n (fun z1 z2 z3 z4 => rec tagged_Dump.t6 (tagged_Dump.s6 z1 z2 z3 z4)) (fun z1 z2 z3 z4 => rec tagged_Dump.t6x1 (tagged_Dump.s6x1 z1 z2 z3 z4)) (fun z1 z2 z3 z4 => rec tagged_Dump.t7 (tagged_Dump.s7 z1 z2 z3 z4)) (fun z1 z2 z3 z4 z5 => rec tagged_Dump.t9 (tagged_Dump.s9 z1 z2 z3 z4 z5)) (fun z1 z2 z3 z4 z5 => rec tagged_Dump.t9x1 (tagged_Dump.s9x1 z1 z2 z3 z4 z5)) (fun z1 z2 z3 z4 z5 => rec tagged_Dump.t11 (tagged_Dump.s11 z1 z2 z3 z4 z5)) (fun z1 z2 z3 z4 z5 => rec tagged_Dump.t11x1 (tagged_Dump.s11x1 z1 z2 z3 z4 z5)) (fun p => K (.tup [vs p.1, vi p.2])) z1 z2 z3 z4 z5 := by kernel_rfl
noncomputable def tagged_Dump.l (n : Nat) : Nat → (Int → ByteArray → List AV → List AV → Option (ByteArray × Int)) × (Int → ByteArray → List AV → List AV → Option (ByteArray × Int)) × (Int → ByteArray → List AV → List AV → Option (ByteArray × Int)) × (Int → Int → ByteArray → List AV → List AV → Option (ByteArray × Int)) × (Int → Int → ByteArray → List AV → List AV → Option (ByteArray × Int)) × (Int → Int → ByteArray → List AV → List AV → Option (ByteArray × Int)) × (Int → Int → ByteArray → List AV → List AV → Option (ByteArray × Int))
  | 0 => ((fun _ _ _ _ => none), (fun _ _ _ _ => none), (fun _ _ _ _ => none), (fun _ _ _ _ _ => none), (fun _ _ _ _ _ => none), (fun _ _ _ _ _ => none), (fun _ _ _ _ _ => none))
  | m + 1 => (tagged_Dump.r6 n ((tagged_Dump.l n m).1) ((tagged_Dump.l n m).2.1) ((tagged_Dump.l n m).2.2.1) ((tagged_Dump.l n m).2.2.2.1) ((tagged_Dump.l n m).2.2.2.2.1) ((tagged_Dump.l n m).2.2.2.2.2.1) ((tagged_Dump.l n m).2.2.2.2.2.2) Option.some, tagged_Dump.r6x1 n ((tagged_Dump.l n m).1) ((tagged_Dump.l n m).2.1) ((tagged_Dump.l n m).2.2.1) ((tagged_Dump.l n m).2.2.2.1) ((tagged_Dump.l n m).2.2.2.2.1) ((tagged_Dump.l n m).2.2.2.2.2.1) ((tagged_Dump.l n m).2.2.2.2.2.2) Option.some, tagged_Dump.r7 n ((tagged_Dump.l n m).1) ((tagged_Dump.l n m).2.1) ((tagged_Dump.l n m).2.2.1) ((tagged_Dump.l n m).2.2.2.1) ((tagged_Dump.l n m).2.2.2.2.1) ((tagged_Dump.l n m).2.2.2.2.2.1) ((tagged_Dump.l n m).2.2.2.2.2.2) Option.some, tagged_Dump.r9 n ((tagged_Dump.l n m).1) ((tagged_Dump.l n m).2.1) ((tagged_Dump.l n m).2.2.1) ((tagged_Dump.l n m).2.2.2.1) ((tagged_Dump.l n m).2.2.2.2.1) ((tagged_Dump.l n m).2.2.2.2.2.1) ((tagged_Dump.l n m).2.2.2.2.2.2) Option.some, tagged_Dump.r9x1 n ((tagged_Dump.l n m).1) ((tagged_Dump.l n m).2.1) ((tagged_Dump.l n m).2.2.1) ((tagged_Dump.l n m).2.2.2.1) ((tagged_Dump.l n m).2.2.2.2.1) ((tagged_Dump.l n m).2.2.2.2.2.1) ((tagged_Dump.l n m).2.2.2.2.2.2) Option.some, tagged_Dump.r11 n ((tagged_Dump.l n m).1) ((tagged_Dump.l n m).2.1) ((tagged_Dump.l n m).2.2.1) ((tagged_Dump.l n m).2.2.2.1) ((tagged_Dump.l n m).2.2.2.2.1) ((tagged_Dump.l n m).2.2.2.2.2.1) ((tagged_Dump.l n m).2.2.2.2.2.2) Option.some, tagged_Dump.r11x1 n ((tagged_Dump.l n m).1) ((tagged_Dump.l n m).2.1) ((tagged_Dump.l n m).2.2.1) ((tagged_Dump.l n m).2.2.2.1) ((tagged_Dump.l n m).2.2.2.2.1) ((tagged_Dump.l n m).2.2.2.2.2.1) ((tagged_Dump.l n m).2.2.2.2.2.2) Option.some)
noncomputable def tagged_Dump.F (n : Nat) (a0 : ByteArray) (a1 : List AV) : Option (ByteArray × Int) := tagged_Dump.e n ((tagged_Dump.l n n).1) ((tagged_Dump.l n n).2.1) ((tagged_Dump.l n n).2.2.1) ((tagged_Dump.l n n).2.2.2.1) ((tagged_Dump.l n n).2.2.2.2.1) ((tagged_Dump.l n n).2.2.2.2.2.1) ((tagged_Dump.l n n).2.2.2.2.2.2) Option.some a0 a1
noncomputable def tagged_Dump.dec (x : AV) : Option (ByteArray × Int) := match x with | .tup [.v (.string p0), .v (.int .i64 p1)] => Option.some (p0, p1) | _ => none
theorem tagged_Dump.dec_inv {p : ByteArray × Int} (y : AV) (h : tagged_Dump.dec y = some p) : y = .tup [vs p.1, vi p.2] := by
  unfold tagged_Dump.dec at h
  split at h
  · cases h; rfl
  · cases h
theorem tagged_Dump.l_eq (n m : Nat) : (∀ (z1 : Int) (z2 : ByteArray) (z3 : List AV) (z4 : List AV), runK G (tagged_Dump.C n) tagged_Dump.cut (fun S => finK G Tryz.f7.resultTypes.toList Tryz.f7.results.toList S tagged_Dump.dec) m tagged_Dump.t6 (tagged_Dump.s6 z1 z2 z3 z4) = ((tagged_Dump.l n m).1) z1 z2 z3 z4) ∧ (∀ (z1 : Int) (z2 : ByteArray) (z3 : List AV) (z4 : List AV), runK G (tagged_Dump.C n) tagged_Dump.cut (fun S => finK G Tryz.f7.resultTypes.toList Tryz.f7.results.toList S tagged_Dump.dec) m tagged_Dump.t6x1 (tagged_Dump.s6x1 z1 z2 z3 z4) = ((tagged_Dump.l n m).2.1) z1 z2 z3 z4) ∧ (∀ (z1 : Int) (z2 : ByteArray) (z3 : List AV) (z4 : List AV), runK G (tagged_Dump.C n) tagged_Dump.cut (fun S => finK G Tryz.f7.resultTypes.toList Tryz.f7.results.toList S tagged_Dump.dec) m tagged_Dump.t7 (tagged_Dump.s7 z1 z2 z3 z4) = ((tagged_Dump.l n m).2.2.1) z1 z2 z3 z4) ∧ (∀ (z1 : Int) (z2 : Int) (z3 : ByteArray) (z4 : List AV) (z5 : List AV), runK G (tagged_Dump.C n) tagged_Dump.cut (fun S => finK G Tryz.f7.resultTypes.toList Tryz.f7.results.toList S tagged_Dump.dec) m tagged_Dump.t9 (tagged_Dump.s9 z1 z2 z3 z4 z5) = ((tagged_Dump.l n m).2.2.2.1) z1 z2 z3 z4 z5) ∧ (∀ (z1 : Int) (z2 : Int) (z3 : ByteArray) (z4 : List AV) (z5 : List AV), runK G (tagged_Dump.C n) tagged_Dump.cut (fun S => finK G Tryz.f7.resultTypes.toList Tryz.f7.results.toList S tagged_Dump.dec) m tagged_Dump.t9x1 (tagged_Dump.s9x1 z1 z2 z3 z4 z5) = ((tagged_Dump.l n m).2.2.2.2.1) z1 z2 z3 z4 z5) ∧ (∀ (z1 : Int) (z2 : Int) (z3 : ByteArray) (z4 : List AV) (z5 : List AV), runK G (tagged_Dump.C n) tagged_Dump.cut (fun S => finK G Tryz.f7.resultTypes.toList Tryz.f7.results.toList S tagged_Dump.dec) m tagged_Dump.t11 (tagged_Dump.s11 z1 z2 z3 z4 z5) = ((tagged_Dump.l n m).2.2.2.2.2.1) z1 z2 z3 z4 z5) ∧ (∀ (z1 : Int) (z2 : Int) (z3 : ByteArray) (z4 : List AV) (z5 : List AV), runK G (tagged_Dump.C n) tagged_Dump.cut (fun S => finK G Tryz.f7.resultTypes.toList Tryz.f7.results.toList S tagged_Dump.dec) m tagged_Dump.t11x1 (tagged_Dump.s11x1 z1 z2 z3 z4 z5) = ((tagged_Dump.l n m).2.2.2.2.2.2) z1 z2 z3 z4 z5) := by
  induction m with
  | zero => exact ⟨fun z1 z2 z3 z4 => rfl, fun z1 z2 z3 z4 => rfl, fun z1 z2 z3 z4 => rfl, fun z1 z2 z3 z4 z5 => rfl, fun z1 z2 z3 z4 z5 => rfl, fun z1 z2 z3 z4 z5 => rfl, fun z1 z2 z3 z4 z5 => rfl⟩
  | succ m ih =>
    obtain ⟨h6, h6x1, h7, h9, h9x1, h11, h11x1⟩ := ih
    have e6 : (fun (z1 : Int) (z2 : ByteArray) (z3 : List AV) (z4 : List AV) => runK G (tagged_Dump.C n) tagged_Dump.cut (fun S => finK G Tryz.f7.resultTypes.toList Tryz.f7.results.toList S tagged_Dump.dec) m tagged_Dump.t6 (tagged_Dump.s6 z1 z2 z3 z4)) = (tagged_Dump.l n m).1 := by funext z1 z2 z3 z4; exact h6 z1 z2 z3 z4
    have e6x1 : (fun (z1 : Int) (z2 : ByteArray) (z3 : List AV) (z4 : List AV) => runK G (tagged_Dump.C n) tagged_Dump.cut (fun S => finK G Tryz.f7.resultTypes.toList Tryz.f7.results.toList S tagged_Dump.dec) m tagged_Dump.t6x1 (tagged_Dump.s6x1 z1 z2 z3 z4)) = (tagged_Dump.l n m).2.1 := by funext z1 z2 z3 z4; exact h6x1 z1 z2 z3 z4
    have e7 : (fun (z1 : Int) (z2 : ByteArray) (z3 : List AV) (z4 : List AV) => runK G (tagged_Dump.C n) tagged_Dump.cut (fun S => finK G Tryz.f7.resultTypes.toList Tryz.f7.results.toList S tagged_Dump.dec) m tagged_Dump.t7 (tagged_Dump.s7 z1 z2 z3 z4)) = (tagged_Dump.l n m).2.2.1 := by funext z1 z2 z3 z4; exact h7 z1 z2 z3 z4
    have e9 : (fun (z1 : Int) (z2 : Int) (z3 : ByteArray) (z4 : List AV) (z5 : List AV) => runK G (tagged_Dump.C n) tagged_Dump.cut (fun S => finK G Tryz.f7.resultTypes.toList Tryz.f7.results.toList S tagged_Dump.dec) m tagged_Dump.t9 (tagged_Dump.s9 z1 z2 z3 z4 z5)) = (tagged_Dump.l n m).2.2.2.1 := by funext z1 z2 z3 z4 z5; exact h9 z1 z2 z3 z4 z5
    have e9x1 : (fun (z1 : Int) (z2 : Int) (z3 : ByteArray) (z4 : List AV) (z5 : List AV) => runK G (tagged_Dump.C n) tagged_Dump.cut (fun S => finK G Tryz.f7.resultTypes.toList Tryz.f7.results.toList S tagged_Dump.dec) m tagged_Dump.t9x1 (tagged_Dump.s9x1 z1 z2 z3 z4 z5)) = (tagged_Dump.l n m).2.2.2.2.1 := by funext z1 z2 z3 z4 z5; exact h9x1 z1 z2 z3 z4 z5
    have e11 : (fun (z1 : Int) (z2 : Int) (z3 : ByteArray) (z4 : List AV) (z5 : List AV) => runK G (tagged_Dump.C n) tagged_Dump.cut (fun S => finK G Tryz.f7.resultTypes.toList Tryz.f7.results.toList S tagged_Dump.dec) m tagged_Dump.t11 (tagged_Dump.s11 z1 z2 z3 z4 z5)) = (tagged_Dump.l n m).2.2.2.2.2.1 := by funext z1 z2 z3 z4 z5; exact h11 z1 z2 z3 z4 z5
    have e11x1 : (fun (z1 : Int) (z2 : Int) (z3 : ByteArray) (z4 : List AV) (z5 : List AV) => runK G (tagged_Dump.C n) tagged_Dump.cut (fun S => finK G Tryz.f7.resultTypes.toList Tryz.f7.results.toList S tagged_Dump.dec) m tagged_Dump.t11x1 (tagged_Dump.s11x1 z1 z2 z3 z4 z5)) = (tagged_Dump.l n m).2.2.2.2.2.2 := by funext z1 z2 z3 z4 z5; exact h11x1 z1 z2 z3 z4 z5
    have q6 : ∀ (z1 : Int) (z2 : ByteArray) (z3 : List AV) (z4 : List AV), runK G (tagged_Dump.C n) tagged_Dump.cut (fun S => finK G Tryz.f7.resultTypes.toList Tryz.f7.results.toList S tagged_Dump.dec) (m + 1) tagged_Dump.t6 (tagged_Dump.s6 z1 z2 z3 z4) = ((tagged_Dump.l n (m + 1)).1) z1 z2 z3 z4 := by
      intro z1 z2 z3 z4
      rw [runK_succ]
      refine (tagged_Dump.r6_eq n _ tagged_Dump.dec z1 z2 z3 z4).trans ?_
      rw [e6, e6x1, e7, e9, e9x1, e11, e11x1]
      rfl
    have q6x1 : ∀ (z1 : Int) (z2 : ByteArray) (z3 : List AV) (z4 : List AV), runK G (tagged_Dump.C n) tagged_Dump.cut (fun S => finK G Tryz.f7.resultTypes.toList Tryz.f7.results.toList S tagged_Dump.dec) (m + 1) tagged_Dump.t6x1 (tagged_Dump.s6x1 z1 z2 z3 z4) = ((tagged_Dump.l n (m + 1)).2.1) z1 z2 z3 z4 := by
      intro z1 z2 z3 z4
      rw [runK_succ]
      refine (tagged_Dump.r6x1_eq n _ tagged_Dump.dec z1 z2 z3 z4).trans ?_
      rw [e6, e6x1, e7, e9, e9x1, e11, e11x1]
      rfl
    have q7 : ∀ (z1 : Int) (z2 : ByteArray) (z3 : List AV) (z4 : List AV), runK G (tagged_Dump.C n) tagged_Dump.cut (fun S => finK G Tryz.f7.resultTypes.toList Tryz.f7.results.toList S tagged_Dump.dec) (m + 1) tagged_Dump.t7 (tagged_Dump.s7 z1 z2 z3 z4) = ((tagged_Dump.l n (m + 1)).2.2.1) z1 z2 z3 z4 := by
      intro z1 z2 z3 z4
      rw [runK_succ]
      refine (tagged_Dump.r7_eq n _ tagged_Dump.dec z1 z2 z3 z4).trans ?_
      rw [e6, e6x1, e7, e9, e9x1, e11, e11x1]
      rfl
    have q9 : ∀ (z1 : Int) (z2 : Int) (z3 : ByteArray) (z4 : List AV) (z5 : List AV), runK G (tagged_Dump.C n) tagged_Dump.cut (fun S => finK G Tryz.f7.resultTypes.toList Tryz.f7.results.toList S tagged_Dump.dec) (m + 1) tagged_Dump.t9 (tagged_Dump.s9 z1 z2 z3 z4 z5) = ((tagged_Dump.l n (m + 1)).2.2.2.1) z1 z2 z3 z4 z5 := by
      intro z1 z2 z3 z4 z5
      rw [runK_succ]
      refine (tagged_Dump.r9_eq n _ tagged_Dump.dec z1 z2 z3 z4 z5).trans ?_
      rw [e6, e6x1, e7, e9, e9x1, e11, e11x1]
      rfl
    have q9x1 : ∀ (z1 : Int) (z2 : Int) (z3 : ByteArray) (z4 : List AV) (z5 : List AV), runK G (tagged_Dump.C n) tagged_Dump.cut (fun S => finK G Tryz.f7.resultTypes.toList Tryz.f7.results.toList S tagged_Dump.dec) (m + 1) tagged_Dump.t9x1 (tagged_Dump.s9x1 z1 z2 z3 z4 z5) = ((tagged_Dump.l n (m + 1)).2.2.2.2.1) z1 z2 z3 z4 z5 := by
      intro z1 z2 z3 z4 z5
      rw [runK_succ]
      refine (tagged_Dump.r9x1_eq n _ tagged_Dump.dec z1 z2 z3 z4 z5).trans ?_
      rw [e6, e6x1, e7, e9, e9x1, e11, e11x1]
      rfl
    have q11 : ∀ (z1 : Int) (z2 : Int) (z3 : ByteArray) (z4 : List AV) (z5 : List AV), runK G (tagged_Dump.C n) tagged_Dump.cut (fun S => finK G Tryz.f7.resultTypes.toList Tryz.f7.results.toList S tagged_Dump.dec) (m + 1) tagged_Dump.t11 (tagged_Dump.s11 z1 z2 z3 z4 z5) = ((tagged_Dump.l n (m + 1)).2.2.2.2.2.1) z1 z2 z3 z4 z5 := by
      intro z1 z2 z3 z4 z5
      rw [runK_succ]
      refine (tagged_Dump.r11_eq n _ tagged_Dump.dec z1 z2 z3 z4 z5).trans ?_
      rw [e6, e6x1, e7, e9, e9x1, e11, e11x1]
      rfl
    have q11x1 : ∀ (z1 : Int) (z2 : Int) (z3 : ByteArray) (z4 : List AV) (z5 : List AV), runK G (tagged_Dump.C n) tagged_Dump.cut (fun S => finK G Tryz.f7.resultTypes.toList Tryz.f7.results.toList S tagged_Dump.dec) (m + 1) tagged_Dump.t11x1 (tagged_Dump.s11x1 z1 z2 z3 z4 z5) = ((tagged_Dump.l n (m + 1)).2.2.2.2.2.2) z1 z2 z3 z4 z5 := by
      intro z1 z2 z3 z4 z5
      rw [runK_succ]
      refine (tagged_Dump.r11x1_eq n _ tagged_Dump.dec z1 z2 z3 z4 z5).trans ?_
      rw [e6, e6x1, e7, e9, e9x1, e11, e11x1]
      rfl
    exact ⟨q6, q6x1, q7, q9, q9x1, q11, q11x1⟩
theorem tagged_Dump.hands (n : Nat) (a0 : ByteArray) (a1 : List AV) {p : ByteArray × Int} (h : tagged_Dump.F n a0 a1 = some p) : HandsIn Tryz.prog 7 [AV.agg [vs a0, .sl ⟨true, 4⟩ 1 a1]] (.tup [vs p.1, vi p.2]) := by
  refine hands_of cfg mixed (fun _ => rfl) rfl (tagged_Dump.tells n) (fn := Tryz.f7) Tryz.func7 (by kernel_rfl) (by kernel_rfl) (cut := tagged_Dump.cut) (K := tagged_Dump.dec) (r := p) (n := n) tagged_Dump.dec_inv ?_
  rw [funK_getD (by kernel_rfl)]
  have h1 := tagged_Dump.e_eq n (runK G (tagged_Dump.C n) tagged_Dump.cut (fun S => finK G Tryz.f7.resultTypes.toList Tryz.f7.results.toList S tagged_Dump.dec) n) tagged_Dump.dec a0 a1
  have hl := tagged_Dump.l_eq n n
  simp only [hl.1, hl.2.1, hl.2.2.1, hl.2.2.2.1, hl.2.2.2.2.1, hl.2.2.2.2.2.1, hl.2.2.2.2.2.2] at h1
  exact h1.trans h
noncomputable def tagged_Dump.via {R : Type} (n : Nat) (xs : List AV) : (AV → Option R) → Option R := match xs with | [.agg [.v (.string a0), .sl ⟨true, 4⟩ 1 a1]] => fun K => (tagged_Dump.F n a0 a1).bind fun p => K (.tup [vs p.1, vi p.2]) | _ => fun _ => none
theorem tagged_Dump.tells1 {R : Type} (n : Nat) (xs : List AV) : Tells1 (R := R) Tryz.prog 7 xs (tagged_Dump.via n xs) := by
  unfold tagged_Dump.via
  split
  · exact Tells1.of (fun p hp => (tagged_Dump.hands n _ _ hp).hands rfl)
  · exact Tells1.none
end Go.Proofs.YtgmpnhfnkhohiaaGreatDoor.Ev

/- midrange/midrangebase.CopyBools, out of its evaluation. Printed by the session's own program. -/
namespace Go.Proofs.YtgmpnhfnkhohiaaGreatDoor.Ev
open Go Go.Proofs Go.Proofs.Ev
set_option linter.unusedVariables false
set_option maxRecDepth 100000
/-! midrange/midrangebase.CopyBools: function 26 -/
noncomputable def midrangebase_CopyBools.e {R : Type} (n : Nat)  (k : List AV → Option R) (a0 : List AV) : Option R :=
  bif decide (a0.length ≤ most) then (k a0) else none
noncomputable def midrangebase_CopyBools.C {R : Type} (n : Nat) (f : FuncId) (xs : List AV) : (AV → Option R) → Option R :=
  fun _ => none
theorem midrangebase_CopyBools.tells {R : Type} (n : Nat) : Tells (R := R) Tryz.prog (midrangebase_CopyBools.C n) := fun _ xs => Tells1.none
noncomputable def midrangebase_CopyBools.cut (r : Nat) : Option Keep := match r with  | _ => none
theorem midrangebase_CopyBools.e_eq {R : Type} (n : Nat) (rec : List Item → St → Option R) (K : AV → Option R) (a0 : List AV) :
    goK G (midrangebase_CopyBools.C n) midrangebase_CopyBools.cut (fun S => finK G Tryz.f26.resultTypes.toList Tryz.f26.results.toList S K) rec 1000 [.code (Tryz.f26.body.getD .skip)] (Ev.start Tryz.f26 [.sl ⟨true, 4⟩ 1 a0]) = midrangebase_CopyBools.e n  (fun p => K (.fr ⟨true, 4⟩ 1 p)) a0 := by kernel_rfl
noncomputable def midrangebase_CopyBools.F (n : Nat) (a0 : List AV) : Option (List AV) := midrangebase_CopyBools.e n  Option.some a0
noncomputable def midrangebase_CopyBools.dec (x : AV) : Option (List AV) := match x with | .fr ⟨true, 4⟩ 1 p0 => Option.some p0 | _ => none
theorem midrangebase_CopyBools.dec_inv {p : List AV} (y : AV) (h : midrangebase_CopyBools.dec y = some p) : y = .fr ⟨true, 4⟩ 1 p := by
  unfold midrangebase_CopyBools.dec at h
  split at h
  · cases h; rfl
  · cases h
theorem midrangebase_CopyBools.hands (n : Nat) (a0 : List AV) {p : List AV} (h : midrangebase_CopyBools.F n a0 = some p) : HandsIn Tryz.prog 26 [.sl ⟨true, 4⟩ 1 a0] (.fr ⟨true, 4⟩ 1 p) := by
  refine hands_of cfg mixed (fun _ => rfl) rfl (midrangebase_CopyBools.tells n) (fn := Tryz.f26) Tryz.func26 (by kernel_rfl) (by kernel_rfl) (cut := midrangebase_CopyBools.cut) (K := midrangebase_CopyBools.dec) (r := p) (n := n) midrangebase_CopyBools.dec_inv ?_
  rw [funK_getD (by kernel_rfl)]
  have h1 := midrangebase_CopyBools.e_eq n (runK G (midrangebase_CopyBools.C n) midrangebase_CopyBools.cut (fun S => finK G Tryz.f26.resultTypes.toList Tryz.f26.results.toList S midrangebase_CopyBools.dec) n) midrangebase_CopyBools.dec a0
  exact h1.trans h
noncomputable def midrangebase_CopyBools.via {R : Type} (n : Nat) (xs : List AV) : (AV → Option R) → Option R := match xs with | [.sl ⟨true, 4⟩ 1 a0] => fun K => (midrangebase_CopyBools.F n a0).bind fun p => K (.fr ⟨true, 4⟩ 1 p) | _ => fun _ => none
theorem midrangebase_CopyBools.tells1 {R : Type} (n : Nat) (xs : List AV) : Tells1 (R := R) Tryz.prog 26 xs (midrangebase_CopyBools.via n xs) := by
  unfold midrangebase_CopyBools.via
  split
  · exact Tells1.of (fun p hp => (midrangebase_CopyBools.hands n _ hp).hands rfl)
  · exact Tells1.none
end Go.Proofs.YtgmpnhfnkhohiaaGreatDoor.Ev

/- midrange/midrangebase.OwnStorage, out of its evaluation. Printed by the session's own program. -/
namespace Go.Proofs.YtgmpnhfnkhohiaaGreatDoor.Ev
open Go Go.Proofs Go.Proofs.Ev
set_option linter.unusedVariables false
set_option maxRecDepth 100000
/-! midrange/midrangebase.OwnStorage: function 8 -/
noncomputable def midrangebase_OwnStorage.e {R : Type} (n : Nat)  (k : ByteArray × List AV → Option R) (a0 : ByteArray) (a1 : List AV) : Option R :=
  (midrangebase_CopyBools.F n a1).bind fun p1 =>
  k (a0, p1)
noncomputable def midrangebase_OwnStorage.C {R : Type} (n : Nat) (f : FuncId) (xs : List AV) : (AV → Option R) → Option R :=
  bif Nat.beq f 26 then midrangebase_CopyBools.via n xs else fun _ => none
theorem midrangebase_OwnStorage.tells {R : Type} (n : Nat) : Tells (R := R) Tryz.prog (midrangebase_OwnStorage.C n) := fun _ xs => tells_at (midrangebase_CopyBools.tells1 n xs) (Tells1.none)
noncomputable def midrangebase_OwnStorage.cut (r : Nat) : Option Keep := match r with  | _ => none
theorem midrangebase_OwnStorage.e_eq {R : Type} (n : Nat) (rec : List Item → St → Option R) (K : AV → Option R) (a0 : ByteArray) (a1 : List AV) :
    goK G (midrangebase_OwnStorage.C n) midrangebase_OwnStorage.cut (fun S => finK G Tryz.f8.resultTypes.toList Tryz.f8.results.toList S K) rec 1000 [.code (Tryz.f8.body.getD .skip)] (Ev.start Tryz.f8 [AV.agg [vs a0, .sl ⟨true, 4⟩ 1 a1]]) = midrangebase_OwnStorage.e n  (fun p => K (.agg [vs p.1, .fr ⟨true, 4⟩ 1 p.2])) a0 a1 := by kernel_rfl
noncomputable def midrangebase_OwnStorage.F (n : Nat) (a0 : ByteArray) (a1 : List AV) : Option (ByteArray × List AV) := midrangebase_OwnStorage.e n  Option.some a0 a1
noncomputable def midrangebase_OwnStorage.dec (x : AV) : Option (ByteArray × List AV) := match x with | .agg [.v (.string p0), .fr ⟨true, 4⟩ 1 p1] => Option.some (p0, p1) | _ => none
theorem midrangebase_OwnStorage.dec_inv {p : ByteArray × List AV} (y : AV) (h : midrangebase_OwnStorage.dec y = some p) : y = .agg [vs p.1, .fr ⟨true, 4⟩ 1 p.2] := by
  unfold midrangebase_OwnStorage.dec at h
  split at h
  · cases h; rfl
  · cases h
theorem midrangebase_OwnStorage.hands (n : Nat) (a0 : ByteArray) (a1 : List AV) {p : ByteArray × List AV} (h : midrangebase_OwnStorage.F n a0 a1 = some p) : HandsIn Tryz.prog 8 [AV.agg [vs a0, .sl ⟨true, 4⟩ 1 a1]] (.agg [vs p.1, .fr ⟨true, 4⟩ 1 p.2]) := by
  refine hands_of cfg mixed (fun _ => rfl) rfl (midrangebase_OwnStorage.tells n) (fn := Tryz.f8) Tryz.func8 (by kernel_rfl) (by kernel_rfl) (cut := midrangebase_OwnStorage.cut) (K := midrangebase_OwnStorage.dec) (r := p) (n := n) midrangebase_OwnStorage.dec_inv ?_
  rw [funK_getD (by kernel_rfl)]
  have h1 := midrangebase_OwnStorage.e_eq n (runK G (midrangebase_OwnStorage.C n) midrangebase_OwnStorage.cut (fun S => finK G Tryz.f8.resultTypes.toList Tryz.f8.results.toList S midrangebase_OwnStorage.dec) n) midrangebase_OwnStorage.dec a0 a1
  exact h1.trans h
noncomputable def midrangebase_OwnStorage.via {R : Type} (n : Nat) (xs : List AV) : (AV → Option R) → Option R := match xs with | [.agg [.v (.string a0), .sl ⟨true, 4⟩ 1 a1]] => fun K => (midrangebase_OwnStorage.F n a0 a1).bind fun p => K (.agg [vs p.1, .fr ⟨true, 4⟩ 1 p.2]) | _ => fun _ => none
theorem midrangebase_OwnStorage.tells1 {R : Type} (n : Nat) (xs : List AV) : Tells1 (R := R) Tryz.prog 8 xs (midrangebase_OwnStorage.via n xs) := by
  unfold midrangebase_OwnStorage.via
  split
  · exact Tells1.of (fun p hp => (midrangebase_OwnStorage.hands n _ _ hp).hands rfl)
  · exact Tells1.none
end Go.Proofs.YtgmpnhfnkhohiaaGreatDoor.Ev

/- midrange/midrangeref03.quad, out of its evaluation. Printed by the session's own program. -/
namespace Go.Proofs.YtgmpnhfnkhohiaaGreatDoor.Ev
open Go Go.Proofs Go.Proofs.Ev
set_option linter.unusedVariables false
set_option maxRecDepth 100000
/-! midrange/midrangeref03.quad: function 38 -/
noncomputable def midrangeref03_quad.e {R : Type} (n : Nat)  (k : ByteArray → Option R) (a0 : ByteArray) (a1 : List AV) (a2 : Int) : Option R :=
  let y1 : Int := IntKind.i64.wrap ((IntKind.i64.wrap (a2 * 16)) + 16)
  bif decide ((0 : Int) ≤ y1) && decide ((y1 : Int) ≤ ((a0.size : Nat) : Int)) then (bif decide ((0 : Int) ≤ IntKind.i64.wrap (a2 * 16)) && decide ((IntKind.i64.wrap (a2 * 16) : Int) ≤ y1) then (let y2 : ByteArray := a0.extract (IntKind.i64.wrap (a2 * 16)).toNat (y1).toNat
  k y2) else none) else none
noncomputable def midrangeref03_quad.C {R : Type} (n : Nat) (f : FuncId) (xs : List AV) : (AV → Option R) → Option R :=
  fun _ => none
theorem midrangeref03_quad.tells {R : Type} (n : Nat) : Tells (R := R) Tryz.prog (midrangeref03_quad.C n) := fun _ xs => Tells1.none
noncomputable def midrangeref03_quad.cut (r : Nat) : Option Keep := match r with  | _ => none
theorem midrangeref03_quad.e_eq {R : Type} (n : Nat) (rec : List Item → St → Option R) (K : AV → Option R) (a0 : ByteArray) (a1 : List AV) (a2 : Int) :
    goK G (midrangeref03_quad.C n) midrangeref03_quad.cut (fun S => finK G Tryz.f38.resultTypes.toList Tryz.f38.results.toList S K) rec 1000 [.code (Tryz.f38.body.getD .skip)] (Ev.start Tryz.f38 [AV.agg [vs a0, .sl ⟨true, 4⟩ 1 a1], vi a2]) = midrangeref03_quad.e n  (fun p => K (vs p)) a0 a1 a2 := by kernel_rfl
noncomputable def midrangeref03_quad.F (n : Nat) (a0 : ByteArray) (a1 : List AV) (a2 : Int) : Option (ByteArray) := midrangeref03_quad.e n  Option.some a0 a1 a2
noncomputable def midrangeref03_quad.dec (x : AV) : Option (ByteArray) := match x with | .v (.string p0) => Option.some p0 | _ => none
theorem midrangeref03_quad.dec_inv {p : ByteArray} (y : AV) (h : midrangeref03_quad.dec y = some p) : y = vs p := by
  unfold midrangeref03_quad.dec at h
  split at h
  · cases h; rfl
  · cases h
theorem midrangeref03_quad.hands (n : Nat) (a0 : ByteArray) (a1 : List AV) (a2 : Int) {p : ByteArray} (h : midrangeref03_quad.F n a0 a1 a2 = some p) : HandsIn Tryz.prog 38 [AV.agg [vs a0, .sl ⟨true, 4⟩ 1 a1], vi a2] (vs p) := by
  refine hands_of cfg mixed (fun _ => rfl) rfl (midrangeref03_quad.tells n) (fn := Tryz.f38) Tryz.func38 (by kernel_rfl) (by kernel_rfl) (cut := midrangeref03_quad.cut) (K := midrangeref03_quad.dec) (r := p) (n := n) midrangeref03_quad.dec_inv ?_
  rw [funK_getD (by kernel_rfl)]
  have h1 := midrangeref03_quad.e_eq n (runK G (midrangeref03_quad.C n) midrangeref03_quad.cut (fun S => finK G Tryz.f38.resultTypes.toList Tryz.f38.results.toList S midrangeref03_quad.dec) n) midrangeref03_quad.dec a0 a1 a2
  exact h1.trans h
noncomputable def midrangeref03_quad.via {R : Type} (n : Nat) (xs : List AV) : (AV → Option R) → Option R := match xs with | [.agg [.v (.string a0), .sl ⟨true, 4⟩ 1 a1], .v (.int .i64 a2)] => fun K => (midrangeref03_quad.F n a0 a1 a2).bind fun p => K (vs p) | _ => fun _ => none
theorem midrangeref03_quad.tells1 {R : Type} (n : Nat) (xs : List AV) : Tells1 (R := R) Tryz.prog 38 xs (midrangeref03_quad.via n xs) := by
  unfold midrangeref03_quad.via
  split
  · exact Tells1.of (fun p hp => (midrangeref03_quad.hands n _ _ _ hp).hands rfl)
  · exact Tells1.none
end Go.Proofs.YtgmpnhfnkhohiaaGreatDoor.Ev

/- midrange/midrangebase.Within, out of its evaluation. Printed by the session's own program. -/
namespace Go.Proofs.YtgmpnhfnkhohiaaGreatDoor.Ev
open Go Go.Proofs Go.Proofs.Ev
set_option linter.unusedVariables false
set_option maxRecDepth 100000
/-! midrange/midrangebase.Within: function 42 -/
noncomputable def midrangebase_Within.e {R : Type} (n : Nat)  (k : Bool → Option R) (a0 : Int) (a1 : Int) (a2 : Int) : Option R :=
  bif decide (a1 ≤ a0) then (k (decide (a0 ≤ a2))) else (k false)
noncomputable def midrangebase_Within.C {R : Type} (n : Nat) (f : FuncId) (xs : List AV) : (AV → Option R) → Option R :=
  fun _ => none
theorem midrangebase_Within.tells {R : Type} (n : Nat) : Tells (R := R) Tryz.prog (midrangebase_Within.C n) := fun _ xs => Tells1.none
noncomputable def midrangebase_Within.cut (r : Nat) : Option Keep := match r with  | _ => none
theorem midrangebase_Within.e_eq {R : Type} (n : Nat) (rec : List Item → St → Option R) (K : AV → Option R) (a0 : Int) (a1 : Int) (a2 : Int) :
    goK G (midrangebase_Within.C n) midrangebase_Within.cut (fun S => finK G Tryz.f42.resultTypes.toList Tryz.f42.results.toList S K) rec 1000 [.code (Tryz.f42.body.getD .skip)] (Ev.start Tryz.f42 [vi a0, vi a1, vi a2]) = midrangebase_Within.e n  (fun p => K (vb p)) a0 a1 a2 := by kernel_rfl
noncomputable def midrangebase_Within.F (n : Nat) (a0 : Int) (a1 : Int) (a2 : Int) : Option (Bool) := midrangebase_Within.e n  Option.some a0 a1 a2
noncomputable def midrangebase_Within.dec (x : AV) : Option (Bool) := match x with | .v (.bool p0) => Option.some p0 | _ => none
theorem midrangebase_Within.dec_inv {p : Bool} (y : AV) (h : midrangebase_Within.dec y = some p) : y = vb p := by
  unfold midrangebase_Within.dec at h
  split at h
  · cases h; rfl
  · cases h
theorem midrangebase_Within.hands (n : Nat) (a0 : Int) (a1 : Int) (a2 : Int) {p : Bool} (h : midrangebase_Within.F n a0 a1 a2 = some p) : HandsIn Tryz.prog 42 [vi a0, vi a1, vi a2] (vb p) := by
  refine hands_of cfg mixed (fun _ => rfl) rfl (midrangebase_Within.tells n) (fn := Tryz.f42) Tryz.func42 (by kernel_rfl) (by kernel_rfl) (cut := midrangebase_Within.cut) (K := midrangebase_Within.dec) (r := p) (n := n) midrangebase_Within.dec_inv ?_
  rw [funK_getD (by kernel_rfl)]
  have h1 := midrangebase_Within.e_eq n (runK G (midrangebase_Within.C n) midrangebase_Within.cut (fun S => finK G Tryz.f42.resultTypes.toList Tryz.f42.results.toList S midrangebase_Within.dec) n) midrangebase_Within.dec a0 a1 a2
  exact h1.trans h
noncomputable def midrangebase_Within.via {R : Type} (n : Nat) (xs : List AV) : (AV → Option R) → Option R := match xs with | [.v (.int .i64 a0), .v (.int .i64 a1), .v (.int .i64 a2)] => fun K => (midrangebase_Within.F n a0 a1 a2).bind fun p => K (vb p) | _ => fun _ => none
theorem midrangebase_Within.tells1 {R : Type} (n : Nat) (xs : List AV) : Tells1 (R := R) Tryz.prog 42 xs (midrangebase_Within.via n xs) := by
  unfold midrangebase_Within.via
  split
  · exact Tells1.of (fun p hp => (midrangebase_Within.hands n _ _ _ hp).hands rfl)
  · exact Tells1.none
end Go.Proofs.YtgmpnhfnkhohiaaGreatDoor.Ev

/- midrange/midrangeref03.PointerErr, out of its evaluation. Printed by the session's own program. -/
namespace Go.Proofs.YtgmpnhfnkhohiaaGreatDoor.Ev
open Go Go.Proofs Go.Proofs.Ev
set_option linter.unusedVariables false
set_option maxRecDepth 100000
/-! midrange/midrangeref03.PointerErr: function 14 -/
noncomputable def midrangeref03_PointerErr.r4 {R : Type} (n : Nat) (c4 : Unit → Option R) (k : Int → Option R) (_ : Unit) : Option R :=
  k 3
noncomputable def midrangeref03_PointerErr.e {R : Type} (n : Nat) (c4 : Unit → Option R) (k : Int → Option R) (a0 : Int) (a1 : Int) (a2 : Int) (a3 : Int) : Option R :=
  (midrangebase_Within.F n a0 0 2).bind fun p1 =>
  bif !p1 then (k 4) else ((midrangebase_Within.F n a1 0 1099511627775).bind fun p2 =>
  bif !p2 then (c4 ()) else ((midrangebase_Within.F n a2 0 16777215).bind fun p3 =>
  bif !p3 then (c4 ()) else ((midrangebase_Within.F n a3 0 1023).bind fun p4 =>
  bif !p4 then (c4 ()) else (bif a0 != 1 then (bif a3 != 0 then (k 5) else (k 0)) else (k 0)))))
noncomputable def midrangeref03_PointerErr.C {R : Type} (n : Nat) (f : FuncId) (xs : List AV) : (AV → Option R) → Option R :=
  bif Nat.beq f 42 then midrangebase_Within.via n xs else fun _ => none
theorem midrangeref03_PointerErr.tells {R : Type} (n : Nat) : Tells (R := R) Tryz.prog (midrangeref03_PointerErr.C n) := fun _ xs => tells_at (midrangebase_Within.tells1 n xs) (Tells1.none)
noncomputable def midrangeref03_PointerErr.cut (r : Nat) : Option Keep := match r with | 4 => Option.some ⟨[], []⟩ | _ => none
noncomputable def midrangeref03_PointerErr.t4 : List Item := (todoOf 4 1000 [.code (Tryz.f14.body.getD .skip)]).getD []
noncomputable def midrangeref03_PointerErr.s4 (_ : Unit) : St := ⟨[.undef, .undef, .undef, .undef, .undef, .undef, .undef, .undef, .undef, .undef, .undef, .undef, .undef, .undef, .undef, .undef, .undef, .undef, .undef, .undef, .undef, .undef, .undef, .undef, .undef, .undef, .undef, .undef, .undef, .undef, .undef, .undef, .undef, .undef, .undef, .undef], Mem.ofList [], 0⟩
theorem midrangeref03_PointerErr.e_eq {R : Type} (n : Nat) (rec : List Item → St → Option R) (K : AV → Option R) (a0 : Int) (a1 : Int) (a2 : Int) (a3 : Int) :
    goK G (midrangeref03_PointerErr.C n) midrangeref03_PointerErr.cut (fun S => finK G Tryz.f14.resultTypes.toList Tryz.f14.results.toList S K) rec 1000 [.code (Tryz.f14.body.getD .skip)] (Ev.start Tryz.f14 [AV.agg [vi a0, vi a1, vi a2, vi a3]]) = midrangeref03_PointerErr.e n (fun _ => rec midrangeref03_PointerErr.t4 (midrangeref03_PointerErr.s4 ())) (fun p => K (vi p)) a0 a1 a2 a3 := by kernel_rfl
theorem midrangeref03_PointerErr.r4_eq {R : Type} (n : Nat) (rec : List Item → St → Option R) (K : AV → Option R) (_ : Unit) :
    atK G (midrangeref03_PointerErr.C n) midrangeref03_PointerErr.cut (fun S => finK G Tryz.f14.resultTypes.toList Tryz.f14.results.toList S K) rec midrangeref03_PointerErr.t4 (midrangeref03_PointerErr.s4 ()) = midrangeref03_PointerErr.r4 n (fun _ => rec midrangeref03_PointerErr.t4 (midrangeref03_PointerErr.s4 ())) (fun p => K (vi p)) () := by kernel_rfl
noncomputable def midrangeref03_PointerErr.l (n : Nat) : Nat → (Unit → Option (Int))
  | 0 => (fun _ => none)
  | m + 1 => midrangeref03_PointerErr.r4 n (midrangeref03_PointerErr.l n m) Option.some
noncomputable def midrangeref03_PointerErr.F (n : Nat) (a0 : Int) (a1 : Int) (a2 : Int) (a3 : Int) : Option (Int) := midrangeref03_PointerErr.e n (midrangeref03_PointerErr.l n n) Option.some a0 a1 a2 a3
noncomputable def midrangeref03_PointerErr.dec (x : AV) : Option (Int) := match x with | .v (.int .i64 p0) => Option.some p0 | _ => none
theorem midrangeref03_PointerErr.dec_inv {p : Int} (y : AV) (h : midrangeref03_PointerErr.dec y = some p) : y = vi p := by
  unfold midrangeref03_PointerErr.dec at h
  split at h
  · cases h; rfl
  · cases h
theorem midrangeref03_PointerErr.l_eq (n m : Nat) : (∀ z : Unit, runK G (midrangeref03_PointerErr.C n) midrangeref03_PointerErr.cut (fun S => finK G Tryz.f14.resultTypes.toList Tryz.f14.results.toList S midrangeref03_PointerErr.dec) m midrangeref03_PointerErr.t4 (midrangeref03_PointerErr.s4 z) = (midrangeref03_PointerErr.l n m) z) := by
  induction m with
  | zero => exact fun _ => rfl
  | succ m ih =>
    have h4 := ih
    have e4 : (fun (_ : Unit) => runK G (midrangeref03_PointerErr.C n) midrangeref03_PointerErr.cut (fun S => finK G Tryz.f14.resultTypes.toList Tryz.f14.results.toList S midrangeref03_PointerErr.dec) m midrangeref03_PointerErr.t4 (midrangeref03_PointerErr.s4 ())) = (midrangeref03_PointerErr.l n m) := by funext z; exact h4 z
    have q4 : ∀ z : Unit, runK G (midrangeref03_PointerErr.C n) midrangeref03_PointerErr.cut (fun S => finK G Tryz.f14.resultTypes.toList Tryz.f14.results.toList S midrangeref03_PointerErr.dec) (m + 1) midrangeref03_PointerErr.t4 (midrangeref03_PointerErr.s4 z) = (midrangeref03_PointerErr.l n (m + 1)) z := by
      intro z
      rw [runK_succ]
      refine (midrangeref03_PointerErr.r4_eq n _ midrangeref03_PointerErr.dec ()).trans ?_
      rw [e4]
      rfl
    exact q4
theorem midrangeref03_PointerErr.hands (n : Nat) (a0 : Int) (a1 : Int) (a2 : Int) (a3 : Int) {p : Int} (h : midrangeref03_PointerErr.F n a0 a1 a2 a3 = some p) : HandsIn Tryz.prog 14 [AV.agg [vi a0, vi a1, vi a2, vi a3]] (vi p) := by
  refine hands_of cfg mixed (fun _ => rfl) rfl (midrangeref03_PointerErr.tells n) (fn := Tryz.f14) Tryz.func14 (by kernel_rfl) (by kernel_rfl) (cut := midrangeref03_PointerErr.cut) (K := midrangeref03_PointerErr.dec) (r := p) (n := n) midrangeref03_PointerErr.dec_inv ?_
  rw [funK_getD (by kernel_rfl)]
  have h1 := midrangeref03_PointerErr.e_eq n (runK G (midrangeref03_PointerErr.C n) midrangeref03_PointerErr.cut (fun S => finK G Tryz.f14.resultTypes.toList Tryz.f14.results.toList S midrangeref03_PointerErr.dec) n) midrangeref03_PointerErr.dec a0 a1 a2 a3
  have hl := midrangeref03_PointerErr.l_eq n n
  simp only [hl] at h1
  exact h1.trans h
noncomputable def midrangeref03_PointerErr.via {R : Type} (n : Nat) (xs : List AV) : (AV → Option R) → Option R := match xs with | [.agg [.v (.int .i64 a0), .v (.int .i64 a1), .v (.int .i64 a2), .v (.int .i64 a3)]] => fun K => (midrangeref03_PointerErr.F n a0 a1 a2 a3).bind fun p => K (vi p) | _ => fun _ => none
theorem midrangeref03_PointerErr.tells1 {R : Type} (n : Nat) (xs : List AV) : Tells1 (R := R) Tryz.prog 14 xs (midrangeref03_PointerErr.via n xs) := by
  unfold midrangeref03_PointerErr.via
  split
  · exact Tells1.of (fun p hp => (midrangeref03_PointerErr.hands n _ _ _ _ hp).hands rfl)
  · exact Tells1.none
end Go.Proofs.YtgmpnhfnkhohiaaGreatDoor.Ev

/- midrange/midrangebase.Big, out of its evaluation. Printed by the session's own program. -/
namespace Go.Proofs.YtgmpnhfnkhohiaaGreatDoor.Ev
open Go Go.Proofs Go.Proofs.Ev
set_option linter.unusedVariables false
set_option maxRecDepth 100000
/-! midrange/midrangebase.Big: function 73 -/
noncomputable def midrangebase_Big.r3 {R : Type} (n : Nat) (c3 : ByteArray → Int → Int → Int → Int → Option R) (k : Int → Option R) (z1 : ByteArray) (z2 : Int) (z3 : Int) (z4 : Int) (z5 : Int) : Option R :=
  bif decide (z5 < z3) then (bif decide ((0 : Int) ≤ IntKind.i64.wrap (z2 + z5)) && decide (IntKind.i64.wrap (z2 + z5) < ((z1.size : Nat) : Int)) then (let y1 : Int := (((z1.data.getD ((IntKind.i64.wrap (z2 + z5)).toNat) 0).toNat : Nat) : Int)
  let y2 : Int := IntKind.i64.wrap ((IntKind.i64.wrap (z4 * 256)) + (IntKind.i64.wrap y1))
  c3 z1 z2 z3 y2 (IntKind.i64.wrap (z5 + 1))) else none) else (k z4)
noncomputable def midrangebase_Big.e {R : Type} (n : Nat) (c3 : ByteArray → Int → Int → Int → Int → Option R) (k : Int → Option R) (a0 : ByteArray) (a1 : Int) (a2 : Int) : Option R :=
  c3 a0 a1 a2 0 0
noncomputable def midrangebase_Big.C {R : Type} (n : Nat) (f : FuncId) (xs : List AV) : (AV → Option R) → Option R :=
  fun _ => none
theorem midrangebase_Big.tells {R : Type} (n : Nat) : Tells (R := R) Tryz.prog (midrangebase_Big.C n) := fun _ xs => Tells1.none
noncomputable def midrangebase_Big.cut (r : Nat) : Option Keep := match r with | 3 => Option.some ⟨[0, 1, 2, 7, 8], []⟩ | _ => none
noncomputable def midrangebase_Big.t3 : List Item := (todoOf 3 1000 [.code (Tryz.f73.body.getD .skip)]).getD []
noncomputable def midrangebase_Big.s3 (z1 : ByteArray) (z2 : Int) (z3 : Int) (z4 : Int) (z5 : Int) : St := ⟨[vs z1, vi z2, vi z3, .undef, .undef, .undef, .undef, vi z4, vi z5, .undef, .undef, .undef, .undef, .undef, .undef, .undef, .undef, .undef, .undef, .undef, .undef, .undef, .undef, .undef], Mem.ofList [], 0⟩
theorem midrangebase_Big.e_eq {R : Type} (n : Nat) (rec : List Item → St → Option R) (K : AV → Option R) (a0 : ByteArray) (a1 : Int) (a2 : Int) :
    goK G (midrangebase_Big.C n) midrangebase_Big.cut (fun S => finK G Tryz.f73.resultTypes.toList Tryz.f73.results.toList S K) rec 1000 [.code (Tryz.f73.body.getD .skip)] (Ev.start Tryz.f73 [vs a0, vi a1, vi a2]) = midrangebase_Big.e n (fun z1 z2 z3 z4 z5 => rec midrangebase_Big.t3 (midrangebase_Big.s3 z1 z2 z3 z4 z5)) (fun p => K (vi p)) a0 a1 a2 := by kernel_rfl
theorem midrangebase_Big.r3_eq {R : Type} (n : Nat) (rec : List Item → St → Option R) (K : AV → Option R) (z1 : ByteArray) (z2 : Int) (z3 : Int) (z4 : Int) (z5 : Int) :
    atK G (midrangebase_Big.C n) midrangebase_Big.cut (fun S => finK G Tryz.f73.resultTypes.toList Tryz.f73.results.toList S K) rec midrangebase_Big.t3 (midrangebase_Big.s3 z1 z2 z3 z4 z5) = midrangebase_Big.r3 n (fun z1 z2 z3 z4 z5 => rec midrangebase_Big.t3 (midrangebase_Big.s3 z1 z2 z3 z4 z5)) (fun p => K (vi p)) z1 z2 z3 z4 z5 := by kernel_rfl
noncomputable def midrangebase_Big.l (n : Nat) : Nat → (ByteArray → Int → Int → Int → Int → Option (Int))
  | 0 => (fun _ _ _ _ _ => none)
  | m + 1 => midrangebase_Big.r3 n (midrangebase_Big.l n m) Option.some
noncomputable def midrangebase_Big.F (n : Nat) (a0 : ByteArray) (a1 : Int) (a2 : Int) : Option (Int) := midrangebase_Big.e n (midrangebase_Big.l n n) Option.some a0 a1 a2
noncomputable def midrangebase_Big.dec (x : AV) : Option (Int) := match x with | .v (.int .i64 p0) => Option.some p0 | _ => none
theorem midrangebase_Big.dec_inv {p : Int} (y : AV) (h : midrangebase_Big.dec y = some p) : y = vi p := by
  unfold midrangebase_Big.dec at h
  split at h
  · cases h; rfl
  · cases h
theorem midrangebase_Big.l_eq (n m : Nat) : (∀ (z1 : ByteArray) (z2 : Int) (z3 : Int) (z4 : Int) (z5 : Int), runK G (midrangebase_Big.C n) midrangebase_Big.cut (fun S => finK G Tryz.f73.resultTypes.toList Tryz.f73.results.toList S midrangebase_Big.dec) m midrangebase_Big.t3 (midrangebase_Big.s3 z1 z2 z3 z4 z5) = (midrangebase_Big.l n m) z1 z2 z3 z4 z5) := by
  induction m with
  | zero => exact fun z1 z2 z3 z4 z5 => rfl
  | succ m ih =>
    have h3 := ih
    have e3 : (fun (z1 : ByteArray) (z2 : Int) (z3 : Int) (z4 : Int) (z5 : Int) => runK G (midrangebase_Big.C n) midrangebase_Big.cut (fun S => finK G Tryz.f73.resultTypes.toList Tryz.f73.results.toList S midrangebase_Big.dec) m midrangebase_Big.t3 (midrangebase_Big.s3 z1 z2 z3 z4 z5)) = (midrangebase_Big.l n m) := by funext z1 z2 z3 z4 z5; exact h3 z1 z2 z3 z4 z5
    have q3 : ∀ (z1 : ByteArray) (z2 : Int) (z3 : Int) (z4 : Int) (z5 : Int), runK G (midrangebase_Big.C n) midrangebase_Big.cut (fun S => finK G Tryz.f73.resultTypes.toList Tryz.f73.results.toList S midrangebase_Big.dec) (m + 1) midrangebase_Big.t3 (midrangebase_Big.s3 z1 z2 z3 z4 z5) = (midrangebase_Big.l n (m + 1)) z1 z2 z3 z4 z5 := by
      intro z1 z2 z3 z4 z5
      rw [runK_succ]
      refine (midrangebase_Big.r3_eq n _ midrangebase_Big.dec z1 z2 z3 z4 z5).trans ?_
      rw [e3]
      rfl
    exact q3
theorem midrangebase_Big.hands (n : Nat) (a0 : ByteArray) (a1 : Int) (a2 : Int) {p : Int} (h : midrangebase_Big.F n a0 a1 a2 = some p) : HandsIn Tryz.prog 73 [vs a0, vi a1, vi a2] (vi p) := by
  refine hands_of cfg mixed (fun _ => rfl) rfl (midrangebase_Big.tells n) (fn := Tryz.f73) Tryz.func73 (by kernel_rfl) (by kernel_rfl) (cut := midrangebase_Big.cut) (K := midrangebase_Big.dec) (r := p) (n := n) midrangebase_Big.dec_inv ?_
  rw [funK_getD (by kernel_rfl)]
  have h1 := midrangebase_Big.e_eq n (runK G (midrangebase_Big.C n) midrangebase_Big.cut (fun S => finK G Tryz.f73.resultTypes.toList Tryz.f73.results.toList S midrangebase_Big.dec) n) midrangebase_Big.dec a0 a1 a2
  have hl := midrangebase_Big.l_eq n n
  simp only [hl] at h1
  exact h1.trans h
noncomputable def midrangebase_Big.via {R : Type} (n : Nat) (xs : List AV) : (AV → Option R) → Option R := match xs with | [.v (.string a0), .v (.int .i64 a1), .v (.int .i64 a2)] => fun K => (midrangebase_Big.F n a0 a1 a2).bind fun p => K (vi p) | _ => fun _ => none
theorem midrangebase_Big.tells1 {R : Type} (n : Nat) (xs : List AV) : Tells1 (R := R) Tryz.prog 73 xs (midrangebase_Big.via n xs) := by
  unfold midrangebase_Big.via
  split
  · exact Tells1.of (fun p hp => (midrangebase_Big.hands n _ _ _ hp).hands rfl)
  · exact Tells1.none
end Go.Proofs.YtgmpnhfnkhohiaaGreatDoor.Ev

/- midrange/midrangeref03.In, out of its evaluation. Printed by the session's own program. -/
namespace Go.Proofs.YtgmpnhfnkhohiaaGreatDoor.Ev
open Go Go.Proofs Go.Proofs.Ev
set_option linter.unusedVariables false
set_option maxRecDepth 100000
/-! midrange/midrangeref03.In: function 40 -/
noncomputable def midrangeref03_In.e {R : Type} (n : Nat)  (k : Int × Int × Int × Int × Int → Option R) (a0 : ByteArray) : Option R :=
  let y1 : Bool := ((a0.size : Nat) : Int) != 16
  bif y1 then (k (0, 0, 0, 0, 18)) else (bif decide ((1 : Int) < (a0.size : Nat)) then (let y2 : Int := (((a0.data.getD 1 0).toNat : Nat) : Int)
  bif y2 != 0 then (k (0, 0, 0, 0, 5)) else (bif decide ((0 : Int) < (a0.size : Nat)) then (let y3 : Int := (((a0.data.getD 0 0).toNat : Nat) : Int)
  (midrangebase_Big.F n a0 2 2).bind fun p4 =>
  (midrangebase_Big.F n a0 4 6).bind fun p5 =>
  (midrangebase_Big.F n a0 10 6).bind fun p6 =>
  (midrangeref03_PointerErr.F n (IntKind.i64.wrap y3) p5 p6 p4).bind fun p7 =>
  bif p7 != 0 then (k (0, 0, 0, 0, p7)) else (k (IntKind.i64.wrap y3, p5, p6, p4, 0))) else none)) else none)
noncomputable def midrangeref03_In.C {R : Type} (n : Nat) (f : FuncId) (xs : List AV) : (AV → Option R) → Option R :=
  bif Nat.beq f 14 then midrangeref03_PointerErr.via n xs else bif Nat.beq f 73 then midrangebase_Big.via n xs else fun _ => none
theorem midrangeref03_In.tells {R : Type} (n : Nat) : Tells (R := R) Tryz.prog (midrangeref03_In.C n) := fun _ xs => tells_at (midrangeref03_PointerErr.tells1 n xs) (tells_at (midrangebase_Big.tells1 n xs) (Tells1.none))
noncomputable def midrangeref03_In.cut (r : Nat) : Option Keep := match r with  | _ => none
theorem midrangeref03_In.e_eq {R : Type} (n : Nat) (rec : List Item → St → Option R) (K : AV → Option R) (a0 : ByteArray) :
    goK G (midrangeref03_In.C n) midrangeref03_In.cut (fun S => finK G Tryz.f40.resultTypes.toList Tryz.f40.results.toList S K) rec 1000 [.code (Tryz.f40.body.getD .skip)] (Ev.start Tryz.f40 [vs a0]) = midrangeref03_In.e n  (fun p => K (.tup [.agg [vi p.1, vi p.2.1, vi p.2.2.1, vi p.2.2.2.1], vi p.2.2.2.2])) a0 := by kernel_rfl
noncomputable def midrangeref03_In.F (n : Nat) (a0 : ByteArray) : Option (Int × Int × Int × Int × Int) := midrangeref03_In.e n  Option.some a0
noncomputable def midrangeref03_In.dec (x : AV) : Option (Int × Int × Int × Int × Int) := match x with | .tup [.agg [.v (.int .i64 p0), .v (.int .i64 p1), .v (.int .i64 p2), .v (.int .i64 p3)], .v (.int .i64 p4)] => Option.some (p0, p1, p2, p3, p4) | _ => none
theorem midrangeref03_In.dec_inv {p : Int × Int × Int × Int × Int} (y : AV) (h : midrangeref03_In.dec y = some p) : y = .tup [.agg [vi p.1, vi p.2.1, vi p.2.2.1, vi p.2.2.2.1], vi p.2.2.2.2] := by
  unfold midrangeref03_In.dec at h
  split at h
  · cases h; rfl
  · cases h
theorem midrangeref03_In.hands (n : Nat) (a0 : ByteArray) {p : Int × Int × Int × Int × Int} (h : midrangeref03_In.F n a0 = some p) : HandsIn Tryz.prog 40 [vs a0] (.tup [.agg [vi p.1, vi p.2.1, vi p.2.2.1, vi p.2.2.2.1], vi p.2.2.2.2]) := by
  refine hands_of cfg mixed (fun _ => rfl) rfl (midrangeref03_In.tells n) (fn := Tryz.f40) Tryz.func40 (by kernel_rfl) (by kernel_rfl) (cut := midrangeref03_In.cut) (K := midrangeref03_In.dec) (r := p) (n := n) midrangeref03_In.dec_inv ?_
  rw [funK_getD (by kernel_rfl)]
  have h1 := midrangeref03_In.e_eq n (runK G (midrangeref03_In.C n) midrangeref03_In.cut (fun S => finK G Tryz.f40.resultTypes.toList Tryz.f40.results.toList S midrangeref03_In.dec) n) midrangeref03_In.dec a0
  exact h1.trans h
noncomputable def midrangeref03_In.via {R : Type} (n : Nat) (xs : List AV) : (AV → Option R) → Option R := match xs with | [.v (.string a0)] => fun K => (midrangeref03_In.F n a0).bind fun p => K (.tup [.agg [vi p.1, vi p.2.1, vi p.2.2.1, vi p.2.2.2.1], vi p.2.2.2.2]) | _ => fun _ => none
theorem midrangeref03_In.tells1 {R : Type} (n : Nat) (xs : List AV) : Tells1 (R := R) Tryz.prog 40 xs (midrangeref03_In.via n xs) := by
  unfold midrangeref03_In.via
  split
  · exact Tells1.of (fun p hp => (midrangeref03_In.hands n _ hp).hands rfl)
  · exact Tells1.none
end Go.Proofs.YtgmpnhfnkhohiaaGreatDoor.Ev

/- midrange/midrangeref03.Check, out of its evaluation. Printed by the session's own program. -/
namespace Go.Proofs.YtgmpnhfnkhohiaaGreatDoor.Ev
open Go Go.Proofs Go.Proofs.Ev
set_option linter.unusedVariables false
set_option maxRecDepth 100000
/-! midrange/midrangeref03.Check: function 27 -/
noncomputable def midrangeref03_Check.r9 {R : Type} (n : Nat) (c9 : Int → Int → ByteArray → List AV → Option R) (k : Int × Int → Option R) (z1 : Int) (z2 : Int) (z3 : ByteArray) (z4 : List AV) : Option R :=
  bif decide (z2 < z1) then (bif decide ((0 : Int) ≤ z2) && decide (z2 < ((z4.length : Nat) : Int)) then (withCons ((z4.getD ((z2).toNat) .undef).cells) fun h5 r6 =>
  withBool h5 fun b7 =>
  bif b7 then ((midrangeref03_quad.F n z3 z4 z2).bind fun p8 =>
  (midrangeref03_In.F n p8).bind fun p9 =>
  bif p9.2.2.2.2 != 0 then (k (z2, 22)) else (c9 z1 (IntKind.i64.wrap (z2 + 1)) z3 z4)) else (c9 z1 (IntKind.i64.wrap (z2 + 1)) z3 z4)) else none) else (k (z1, 0))
noncomputable def midrangeref03_Check.e {R : Type} (n : Nat) (c9 : Int → Int → ByteArray → List AV → Option R) (k : Int × Int → Option R) (a0 : ByteArray) (a1 : List AV) : Option R :=
  let y1 : Bool := decide (((a0.size : Nat) : Int) > 1024)
  bif y1 then (k (0, 2)) else (let y2 : Int := Int.tmod ((a0.size : Nat) : Int) 16
  bif y2 != 0 then (k (0, 18)) else (let y3 : Int := IntKind.i64.wrap (Int.tdiv ((a0.size : Nat) : Int) 16)
  let y4 : Bool := ((a1.length : Nat) : Int) != y3
  bif y4 then (k (0, 6)) else (c9 y3 0 a0 a1)))
noncomputable def midrangeref03_Check.C {R : Type} (n : Nat) (f : FuncId) (xs : List AV) : (AV → Option R) → Option R :=
  bif Nat.beq f 38 then midrangeref03_quad.via n xs else bif Nat.beq f 40 then midrangeref03_In.via n xs else fun _ => none
theorem midrangeref03_Check.tells {R : Type} (n : Nat) : Tells (R := R) Tryz.prog (midrangeref03_Check.C n) := fun _ xs => tells_at (midrangeref03_quad.tells1 n xs) (tells_at (midrangeref03_In.tells1 n xs) (Tells1.none))
noncomputable def midrangeref03_Check.cut (r : Nat) : Option Keep := match r with | 9 => Option.some ⟨[1, 4, 5], []⟩ | _ => none
noncomputable def midrangeref03_Check.t9 : List Item := (todoOf 9 1000 [.code (Tryz.f27.body.getD .skip)]).getD []
noncomputable def midrangeref03_Check.s9 (z1 : Int) (z2 : Int) (z3 : ByteArray) (z4 : List AV) : St := ⟨[.undef, .ptr 0 0, .undef, .undef, vi z1, vi z2, .undef, .undef, .undef, .undef, .undef, .undef, .undef, .undef, .undef, .undef, .undef, .undef, .undef, .undef, .undef, .undef, .undef, .undef, .undef, .undef, .undef, .undef, .undef, .undef, .undef, .undef, .undef, .undef, .undef, .undef, .undef, .undef, .undef, .undef, .undef, .undef, .undef, .undef, .undef, .undef, .undef], Mem.ofList [.box 24 [vs z3, .sl ⟨true, 4⟩ 1 z4]], 1⟩
theorem midrangeref03_Check.e_eq {R : Type} (n : Nat) (rec : List Item → St → Option R) (K : AV → Option R) (a0 : ByteArray) (a1 : List AV) :
    goK G (midrangeref03_Check.C n) midrangeref03_Check.cut (fun S => finK G Tryz.f27.resultTypes.toList Tryz.f27.results.toList S K) rec 1000 [.code (Tryz.f27.body.getD .skip)] (Ev.start Tryz.f27 [AV.agg [vs a0, .sl ⟨true, 4⟩ 1 a1]]) = midrangeref03_Check.e n (fun z1 z2 z3 z4 => rec midrangeref03_Check.t9 (midrangeref03_Check.s9 z1 z2 z3 z4)) (fun p => K (.tup [vi p.1, vi p.2])) a0 a1 := by kernel_rfl
theorem midrangeref03_Check.r9_eq {R : Type} (n : Nat) (rec : List Item → St → Option R) (K : AV → Option R) (z1 : Int) (z2 : Int) (z3 : ByteArray) (z4 : List AV) :
    atK G (midrangeref03_Check.C n) midrangeref03_Check.cut (fun S => finK G Tryz.f27.resultTypes.toList Tryz.f27.results.toList S K) rec midrangeref03_Check.t9 (midrangeref03_Check.s9 z1 z2 z3 z4) = midrangeref03_Check.r9 n (fun z1 z2 z3 z4 => rec midrangeref03_Check.t9 (midrangeref03_Check.s9 z1 z2 z3 z4)) (fun p => K (.tup [vi p.1, vi p.2])) z1 z2 z3 z4 := by kernel_rfl
noncomputable def midrangeref03_Check.l (n : Nat) : Nat → (Int → Int → ByteArray → List AV → Option (Int × Int))
  | 0 => (fun _ _ _ _ => none)
  | m + 1 => midrangeref03_Check.r9 n (midrangeref03_Check.l n m) Option.some
noncomputable def midrangeref03_Check.F (n : Nat) (a0 : ByteArray) (a1 : List AV) : Option (Int × Int) := midrangeref03_Check.e n (midrangeref03_Check.l n n) Option.some a0 a1
noncomputable def midrangeref03_Check.dec (x : AV) : Option (Int × Int) := match x with | .tup [.v (.int .i64 p0), .v (.int .i64 p1)] => Option.some (p0, p1) | _ => none
theorem midrangeref03_Check.dec_inv {p : Int × Int} (y : AV) (h : midrangeref03_Check.dec y = some p) : y = .tup [vi p.1, vi p.2] := by
  unfold midrangeref03_Check.dec at h
  split at h
  · cases h; rfl
  · cases h
theorem midrangeref03_Check.l_eq (n m : Nat) : (∀ (z1 : Int) (z2 : Int) (z3 : ByteArray) (z4 : List AV), runK G (midrangeref03_Check.C n) midrangeref03_Check.cut (fun S => finK G Tryz.f27.resultTypes.toList Tryz.f27.results.toList S midrangeref03_Check.dec) m midrangeref03_Check.t9 (midrangeref03_Check.s9 z1 z2 z3 z4) = (midrangeref03_Check.l n m) z1 z2 z3 z4) := by
  induction m with
  | zero => exact fun z1 z2 z3 z4 => rfl
  | succ m ih =>
    have h9 := ih
    have e9 : (fun (z1 : Int) (z2 : Int) (z3 : ByteArray) (z4 : List AV) => runK G (midrangeref03_Check.C n) midrangeref03_Check.cut (fun S => finK G Tryz.f27.resultTypes.toList Tryz.f27.results.toList S midrangeref03_Check.dec) m midrangeref03_Check.t9 (midrangeref03_Check.s9 z1 z2 z3 z4)) = (midrangeref03_Check.l n m) := by funext z1 z2 z3 z4; exact h9 z1 z2 z3 z4
    have q9 : ∀ (z1 : Int) (z2 : Int) (z3 : ByteArray) (z4 : List AV), runK G (midrangeref03_Check.C n) midrangeref03_Check.cut (fun S => finK G Tryz.f27.resultTypes.toList Tryz.f27.results.toList S midrangeref03_Check.dec) (m + 1) midrangeref03_Check.t9 (midrangeref03_Check.s9 z1 z2 z3 z4) = (midrangeref03_Check.l n (m + 1)) z1 z2 z3 z4 := by
      intro z1 z2 z3 z4
      rw [runK_succ]
      refine (midrangeref03_Check.r9_eq n _ midrangeref03_Check.dec z1 z2 z3 z4).trans ?_
      rw [e9]
      rfl
    exact q9
theorem midrangeref03_Check.hands (n : Nat) (a0 : ByteArray) (a1 : List AV) {p : Int × Int} (h : midrangeref03_Check.F n a0 a1 = some p) : HandsIn Tryz.prog 27 [AV.agg [vs a0, .sl ⟨true, 4⟩ 1 a1]] (.tup [vi p.1, vi p.2]) := by
  refine hands_of cfg mixed (fun _ => rfl) rfl (midrangeref03_Check.tells n) (fn := Tryz.f27) Tryz.func27 (by kernel_rfl) (by kernel_rfl) (cut := midrangeref03_Check.cut) (K := midrangeref03_Check.dec) (r := p) (n := n) midrangeref03_Check.dec_inv ?_
  rw [funK_getD (by kernel_rfl)]
  have h1 := midrangeref03_Check.e_eq n (runK G (midrangeref03_Check.C n) midrangeref03_Check.cut (fun S => finK G Tryz.f27.resultTypes.toList Tryz.f27.results.toList S midrangeref03_Check.dec) n) midrangeref03_Check.dec a0 a1
  have hl := midrangeref03_Check.l_eq n n
  simp only [hl] at h1
  exact h1.trans h
noncomputable def midrangeref03_Check.via {R : Type} (n : Nat) (xs : List AV) : (AV → Option R) → Option R := match xs with | [.agg [.v (.string a0), .sl ⟨true, 4⟩ 1 a1]] => fun K => (midrangeref03_Check.F n a0 a1).bind fun p => K (.tup [vi p.1, vi p.2]) | _ => fun _ => none
theorem midrangeref03_Check.tells1 {R : Type} (n : Nat) (xs : List AV) : Tells1 (R := R) Tryz.prog 27 xs (midrangeref03_Check.via n xs) := by
  unfold midrangeref03_Check.via
  split
  · exact Tells1.of (fun p hp => (midrangeref03_Check.hands n _ _ hp).hands rfl)
  · exact Tells1.none
end Go.Proofs.YtgmpnhfnkhohiaaGreatDoor.Ev

/- midrange/midrangeref03.Err, out of its evaluation. Printed by the session's own program. -/
namespace Go.Proofs.YtgmpnhfnkhohiaaGreatDoor.Ev
open Go Go.Proofs Go.Proofs.Ev
set_option linter.unusedVariables false
set_option maxRecDepth 100000
/-! midrange/midrangeref03.Err: function 9 -/
noncomputable def midrangeref03_Err.e {R : Type} (n : Nat)  (k : Int → Option R) (a0 : ByteArray) (a1 : List AV) : Option R :=
  (midrangeref03_Check.F n a0 a1).bind fun p1 =>
  k p1.2
noncomputable def midrangeref03_Err.C {R : Type} (n : Nat) (f : FuncId) (xs : List AV) : (AV → Option R) → Option R :=
  bif Nat.beq f 27 then midrangeref03_Check.via n xs else fun _ => none
theorem midrangeref03_Err.tells {R : Type} (n : Nat) : Tells (R := R) Tryz.prog (midrangeref03_Err.C n) := fun _ xs => tells_at (midrangeref03_Check.tells1 n xs) (Tells1.none)
noncomputable def midrangeref03_Err.cut (r : Nat) : Option Keep := match r with  | _ => none
theorem midrangeref03_Err.e_eq {R : Type} (n : Nat) (rec : List Item → St → Option R) (K : AV → Option R) (a0 : ByteArray) (a1 : List AV) :
    goK G (midrangeref03_Err.C n) midrangeref03_Err.cut (fun S => finK G Tryz.f9.resultTypes.toList Tryz.f9.results.toList S K) rec 1000 [.code (Tryz.f9.body.getD .skip)] (Ev.start Tryz.f9 [AV.agg [vs a0, .sl ⟨true, 4⟩ 1 a1]]) = midrangeref03_Err.e n  (fun p => K (vi p)) a0 a1 := by kernel_rfl
noncomputable def midrangeref03_Err.F (n : Nat) (a0 : ByteArray) (a1 : List AV) : Option (Int) := midrangeref03_Err.e n  Option.some a0 a1
noncomputable def midrangeref03_Err.dec (x : AV) : Option (Int) := match x with | .v (.int .i64 p0) => Option.some p0 | _ => none
theorem midrangeref03_Err.dec_inv {p : Int} (y : AV) (h : midrangeref03_Err.dec y = some p) : y = vi p := by
  unfold midrangeref03_Err.dec at h
  split at h
  · cases h; rfl
  · cases h
theorem midrangeref03_Err.hands (n : Nat) (a0 : ByteArray) (a1 : List AV) {p : Int} (h : midrangeref03_Err.F n a0 a1 = some p) : HandsIn Tryz.prog 9 [AV.agg [vs a0, .sl ⟨true, 4⟩ 1 a1]] (vi p) := by
  refine hands_of cfg mixed (fun _ => rfl) rfl (midrangeref03_Err.tells n) (fn := Tryz.f9) Tryz.func9 (by kernel_rfl) (by kernel_rfl) (cut := midrangeref03_Err.cut) (K := midrangeref03_Err.dec) (r := p) (n := n) midrangeref03_Err.dec_inv ?_
  rw [funK_getD (by kernel_rfl)]
  have h1 := midrangeref03_Err.e_eq n (runK G (midrangeref03_Err.C n) midrangeref03_Err.cut (fun S => finK G Tryz.f9.resultTypes.toList Tryz.f9.results.toList S midrangeref03_Err.dec) n) midrangeref03_Err.dec a0 a1
  exact h1.trans h
noncomputable def midrangeref03_Err.via {R : Type} (n : Nat) (xs : List AV) : (AV → Option R) → Option R := match xs with | [.agg [.v (.string a0), .sl ⟨true, 4⟩ 1 a1]] => fun K => (midrangeref03_Err.F n a0 a1).bind fun p => K (vi p) | _ => fun _ => none
theorem midrangeref03_Err.tells1 {R : Type} (n : Nat) (xs : List AV) : Tells1 (R := R) Tryz.prog 9 xs (midrangeref03_Err.via n xs) := by
  unfold midrangeref03_Err.via
  split
  · exact Tells1.of (fun p hp => (midrangeref03_Err.hands n _ _ hp).hands rfl)
  · exact Tells1.none
end Go.Proofs.YtgmpnhfnkhohiaaGreatDoor.Ev

/- strings.Cut, out of the library's contract. Printed by the session's own program. -/
namespace Go.Proofs.YtgmpnhfnkhohiaaGreatDoor.Ev
open Go Go.Proofs Go.Proofs.Ev
set_option linter.unusedVariables false
set_option maxRecDepth 100000
noncomputable def strings_Cut.F (n : Nat) (s : ByteArray) (t : ByteArray) : Option (ByteArray × ByteArray × Bool) := bif decide (s.size < 4294967281) then Option.some ((⟨(Lib.cut s.data.toList t.data.toList).1.toArray⟩, ⟨(Lib.cut s.data.toList t.data.toList).2.1.toArray⟩, (Lib.cut s.data.toList t.data.toList).2.2)) else none
theorem strings_Cut.hands (n : Nat) (s : ByteArray) (t : ByteArray) {p : ByteArray × ByteArray × Bool} (h : strings_Cut.F n s t = some p) : HandsIn Tryz.prog 31 [.v (.string s), .v (.string t)] (.tup [.v (.string p.1), .v (.string p.2.1), .v (.bool p.2.2)]) := by
  unfold strings_Cut.F at h
  cases hc : (decide (s.size < 4294967281)) with
  | false => rw [hc] at h; cases h
  | true =>
    rw [hc] at h
    cases h
    refine hands_calls (fn := Tryz.f31) Tryz.func31 (by kernel_rfl) (by kernel_rfl) fun w F vals hQ hF hl hr => ?_
    obtain ⟨u0, u1, rfl, h0, h1⟩ := vals2 hl hr
    obtain rfl := rel_v h0
    obtain rfl := rel_v h1
    refine (Tryz.strings_Cut_shaped s t w (Rooted.opened _ hQ) (of_decide_eq_true hc)).mono ?_
    rintro e w' ⟨rfl, n, rfl⟩
    exact ⟨F, fun _ => none, Came.of_below hF ⟨rfl, rfl, rfl, Nat.le_refl _, fun _ _ => rfl⟩, #[_, _, _], rfl, rfl, .v _ rfl, .v _ rfl, .v _ rfl, trivial⟩
noncomputable def strings_Cut.via {R : Type} (n : Nat) (ys : List AV) : (AV → Option R) → Option R := match ys with | [.v (.string s), .v (.string t)] => fun K => (strings_Cut.F n s t).bind fun p => K (.tup [.v (.string p.1), .v (.string p.2.1), .v (.bool p.2.2)]) | _ => fun _ => none
theorem strings_Cut.tells1 {R : Type} (n : Nat) (ys : List AV) : Tells1 (R := R) Tryz.prog 31 ys (strings_Cut.via n ys) := by
  unfold strings_Cut.via
  split
  · exact Tells1.of (fun p hp => (strings_Cut.hands n _ _ hp).hands rfl)
  · exact Tells1.none
end Go.Proofs.YtgmpnhfnkhohiaaGreatDoor.Ev

/- internal/stringslite.HasPrefix, out of its evaluation. Printed by the session's own program. -/
namespace Go.Proofs.YtgmpnhfnkhohiaaGreatDoor.Ev
open Go Go.Proofs Go.Proofs.Ev
set_option linter.unusedVariables false
set_option maxRecDepth 100000
/-! internal/stringslite.HasPrefix: function 81 -/
noncomputable def stringslite_HasPrefix.e {R : Type} (n : Nat)  (k : Bool → Option R) (a0 : ByteArray) (a1 : ByteArray) : Option R :=
  let y1 : Bool := decide (((a0.size : Nat) : Int) ≥ ((a1.size : Nat) : Int))
  bif y1 then (bif decide ((0 : Int) ≤ ((a1.size : Nat) : Int)) && decide ((((a1.size : Nat) : Int) : Int) ≤ ((a0.size : Nat) : Int)) then (let y2 : ByteArray := a0.extract 0 (((a1.size : Nat) : Int)).toNat
  k (y2.toList == a1.toList)) else none) else (k false)
noncomputable def stringslite_HasPrefix.C {R : Type} (n : Nat) (f : FuncId) (xs : List AV) : (AV → Option R) → Option R :=
  fun _ => none
theorem stringslite_HasPrefix.tells {R : Type} (n : Nat) : Tells (R := R) Tryz.prog (stringslite_HasPrefix.C n) := fun _ xs => Tells1.none
noncomputable def stringslite_HasPrefix.cut (r : Nat) : Option Keep := match r with  | _ => none
theorem stringslite_HasPrefix.e_eq {R : Type} (n : Nat) (rec : List Item → St → Option R) (K : AV → Option R) (a0 : ByteArray) (a1 : ByteArray) :
    goK G (stringslite_HasPrefix.C n) stringslite_HasPrefix.cut (fun S => finK G Tryz.f81.resultTypes.toList Tryz.f81.results.toList S K) rec 1000 [.code (Tryz.f81.body.getD .skip)] (Ev.start Tryz.f81 [vs a0, vs a1]) = stringslite_HasPrefix.e n  (fun p => K (vb p)) a0 a1 := by kernel_rfl
noncomputable def stringslite_HasPrefix.F (n : Nat) (a0 : ByteArray) (a1 : ByteArray) : Option (Bool) := stringslite_HasPrefix.e n  Option.some a0 a1
noncomputable def stringslite_HasPrefix.dec (x : AV) : Option (Bool) := match x with | .v (.bool p0) => Option.some p0 | _ => none
theorem stringslite_HasPrefix.dec_inv {p : Bool} (y : AV) (h : stringslite_HasPrefix.dec y = some p) : y = vb p := by
  unfold stringslite_HasPrefix.dec at h
  split at h
  · cases h; rfl
  · cases h
theorem stringslite_HasPrefix.hands (n : Nat) (a0 : ByteArray) (a1 : ByteArray) {p : Bool} (h : stringslite_HasPrefix.F n a0 a1 = some p) : HandsIn Tryz.prog 81 [vs a0, vs a1] (vb p) := by
  refine hands_of cfg mixed (fun _ => rfl) rfl (stringslite_HasPrefix.tells n) (fn := Tryz.f81) Tryz.func81 (by kernel_rfl) (by kernel_rfl) (cut := stringslite_HasPrefix.cut) (K := stringslite_HasPrefix.dec) (r := p) (n := n) stringslite_HasPrefix.dec_inv ?_
  rw [funK_getD (by kernel_rfl)]
  have h1 := stringslite_HasPrefix.e_eq n (runK G (stringslite_HasPrefix.C n) stringslite_HasPrefix.cut (fun S => finK G Tryz.f81.resultTypes.toList Tryz.f81.results.toList S stringslite_HasPrefix.dec) n) stringslite_HasPrefix.dec a0 a1
  exact h1.trans h
noncomputable def stringslite_HasPrefix.via {R : Type} (n : Nat) (xs : List AV) : (AV → Option R) → Option R := match xs with | [.v (.string a0), .v (.string a1)] => fun K => (stringslite_HasPrefix.F n a0 a1).bind fun p => K (vb p) | _ => fun _ => none
theorem stringslite_HasPrefix.tells1 {R : Type} (n : Nat) (xs : List AV) : Tells1 (R := R) Tryz.prog 81 xs (stringslite_HasPrefix.via n xs) := by
  unfold stringslite_HasPrefix.via
  split
  · exact Tells1.of (fun p hp => (stringslite_HasPrefix.hands n _ _ hp).hands rfl)
  · exact Tells1.none
end Go.Proofs.YtgmpnhfnkhohiaaGreatDoor.Ev
