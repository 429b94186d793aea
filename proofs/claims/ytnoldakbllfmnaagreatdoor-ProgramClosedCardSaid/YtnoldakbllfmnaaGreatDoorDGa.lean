import Derived.Test.YtnoldakbllfmnaaGreatDoorDGVc
import Derived.Test.YtnoldakbllfmnaaGreatDoorProg
import Derived.KernelRfl
import Derived.Shelf.Strings.Builder1
import Derived.Shelf.Strings.Builder2
import Derived.Shelf.Strings.OnBuilder
import Derived.Shelf.Strings.Trim
import Derived.Shelf.Small.Utf8
import Derived.Shelf.Small.Strs
import Derived.Shelf.Strings.BuilderF
import Derived.Shelf.Strconv.Atoi
import Derived.Shelf.Strconv.Itoa0
import Derived.Shelf.Strconv.Itoa1
import Derived.Shelf.LaysM
import Derived.Shelf.Strconv.Itoa2
import Derived.Shelf.Strconv.Itoa3
import Derived.Shelf.Strconv.AtoiErrFast
import Derived.Shelf.Strconv.ParseIntEmpty
import Derived.Shelf.Strconv.AtoiFail
import Derived.Shelf.Strconv.Clone
import Derived.Shelf.Strconv.SyntaxError
import Derived.Shelf.LaysC
import Derived.Shelf.Strconv.ToError
import Derived.Shelf.Strconv.Lower
import Derived.Shelf.Strconv.ParseUint10
import Derived.Shelf.Strconv.ParseUint10Empty
import Derived.Shelf.Strconv.ParseUint10Any
import Derived.Shelf.Strconv.ParseInt10
import Derived.Shelf.Strconv.AtoiLong
import Derived.Shelf.Strconv.AtoiInnerAll
import Derived.Shelf.Strconv.RangeError
import Derived.Shelf.Strconv.ToErrorRange
import Derived.Shelf.Strconv.AtoiAll
import Derived.Shelf.Strconv.ErrVarAll
import Derived.Shelf.Strings.Search1
import Derived.Shelf.Strings.Search2
import Derived.Shelf.Strings.Search3
import Derived.Shelf.Strings.Cut
import Derived.Shelf.Strings.Count
import Derived.Shelf.Strings.Shaped
import Derived.Shelf.Strings.Prefix
import Derived.Shelf.Strings.Split
import Derived.Shelf.Strings.Replace
import Derived.Shelf.Strings.SplitShaped
import Derived.Shelf.Strings.Runes
import Derived.Shelf.Strings.AsciiSet
import Derived.Shelf.Bits.Mul64
import Derived.Shelf.Strings.Repeat
import Derived.Shelf.Unicode.DecodeSlow
import Derived.Ground.Names2Prog
import Derived.Shelf.Slices.CompactI
import Derived.Shelf.Slices.In.SortNone
import Derived.Shelf.Strings.SlTrimAscii
noncomputable section
namespace Go.Proofs.YtnoldakbllfmnaaGreatDoor.Ev
open Go Go.Proofs Go.Proofs.Ev
set_option linter.unusedVariables false
set_option maxRecDepth 100000
def tabL:List (Option TI):=[
 none,
 Option.some ⟨.other,1,8,false,[.any],[.nilFunc],1⟩,
 Option.some ⟨.int .i64,1,8,false,[(.int .i64)],[.int .i64 0],2⟩,
 Option.some ⟨.int .i64,1,8,false,[(.int .i64)],[.int .i64 0],3⟩,
 Option.some ⟨.bool,1,1,false,[.bool],[.bool false],4⟩,
 Option.some ⟨.int .u8,1,1,false,[(.int .u8)],[.int .u8 0],5⟩,
 none,
 none,
 none,
 Option.some ⟨.string,1,16,false,[.str],[.string ⟨#[]⟩],9⟩,
 none,
 none,
 Option.some ⟨.int .u64,1,8,false,[(.int .u64)],[.int .u64 0],12⟩,
 none,
 none,
 Option.some ⟨.ptr 298,1,8,false,[.any],[.pointer none],15⟩,
 Option.some ⟨.ptr 301,1,8,false,[.any],[.pointer none],16⟩,
 Option.some ⟨.ptr 308,1,8,false,[.any],[.pointer none],17⟩,
 none,
 none,
 Option.some ⟨.iface,1,16,false,[.any],[.nilIface],20⟩,
 Option.some ⟨.int .i32,1,4,false,[(.int .i32)],[.int .i32 0],21⟩,
 Option.some ⟨.slice 74,1,24,false,[(.slice ⟨true,74,false⟩ 10)],[.slice none 0 0],22⟩,
 Option.some ⟨.slice 86,1,24,false,[(.slice ⟨false,86,false⟩ 2)],[.slice none 0 0],23⟩,
 Option.some ⟨.slice 82,1,24,false,[(.slice ⟨true,82,false⟩ 4)],[.slice none 0 0],24⟩,
 Option.some ⟨.struct [(22,0),(23,1),(24,2)],3,72,true,[(.slice ⟨true,74,false⟩ 10),(.slice ⟨false,86,false⟩ 2),(.slice ⟨true,82,false⟩ 4)],[.slice none 0 0,.slice none 0 0,.slice none 0 0],25⟩,
 Option.some ⟨.struct [(22,0),(23,1),(24,2)],3,72,true,[(.slice ⟨true,74,false⟩ 10),(.slice ⟨false,86,false⟩ 2),(.slice ⟨true,82,false⟩ 4)],[.slice none 0 0,.slice none 0 0,.slice none 0 0],26⟩,
 Option.some ⟨.other,1,8,false,[.any],[.nilFunc],27⟩,
 Option.some ⟨.other,1,8,false,[.any],[.nilFunc],28⟩,
 Option.some ⟨.struct [(3,0),(3,1)],2,16,true,[(.int .i64),(.int .i64)],[.int .i64 0,.int .i64 0],29⟩,
 Option.some ⟨.struct [(3,0),(3,1)],2,16,true,[(.int .i64),(.int .i64)],[.int .i64 0,.int .i64 0],30⟩,
 Option.some ⟨.int .i64,1,8,false,[(.int .i64)],[.int .i64 0],31⟩,
 none,
 Option.some ⟨.other,1,8,false,[.any],[.nilFunc],33⟩,
 Option.some ⟨.other,1,8,false,[.any],[.nilFunc],34⟩,
 none,
 Option.some ⟨.other,1,8,false,[.any],[.nilFunc],36⟩,
 none,
 Option.some ⟨.other,1,8,false,[.any],[.nilFunc],38⟩,
 Option.some ⟨.other,1,8,false,[.any],[.nilFunc],39⟩,
 Option.some ⟨.other,1,8,false,[.any],[.nilFunc],40⟩,
 none,
 Option.some ⟨.other,1,8,false,[.any],[.nilFunc],42⟩,
 none,
 Option.some ⟨.other,1,8,false,[.any],[.nilFunc],44⟩,
 Option.some ⟨.other,1,8,false,[.any],[.nilFunc],45⟩,
 Option.some ⟨.other,1,8,false,[.any],[.nilFunc],46⟩,
 Option.some ⟨.other,1,8,false,[.any],[.nilFunc],47⟩,
 none,
 Option.some ⟨.other,1,8,false,[.any],[.nilFunc],49⟩,
 Option.some ⟨.slice 3,1,24,false,[(.slice ⟨true,3,false⟩ 1)],[.slice none 0 0],50⟩,
 none,
 Option.some ⟨.other,1,8,false,[.any],[.nilFunc],52⟩,
 Option.some ⟨.other,1,8,false,[.any],[.nilFunc],53⟩,
 Option.some ⟨.other,1,8,false,[.any],[.nilFunc],54⟩,
 Option.some ⟨.other,1,8,false,[.any],[.nilFunc],55⟩,
 Option.some ⟨.other,1,8,false,[.any],[.nilFunc],56⟩,
 Option.some ⟨.other,1,8,false,[.any],[.nilFunc],57⟩,
 none,
 Option.some ⟨.other,1,8,false,[.any],[.nilFunc],59⟩,
 Option.some ⟨.slice 4,1,24,false,[(.slice ⟨true,4,false⟩ 1)],[.slice none 0 0],60⟩,
 Option.some ⟨.struct [(9,0),(60,1)],2,40,true,[.str,(.slice ⟨true,4,false⟩ 1)],[.string ⟨#[]⟩,.slice none 0 0],61⟩,
 Option.some ⟨.struct [(9,0),(60,1)],2,40,true,[.str,(.slice ⟨true,4,false⟩ 1)],[.string ⟨#[]⟩,.slice none 0 0],62⟩,
 none,
 Option.some ⟨.other,1,8,false,[.any],[.nilFunc],64⟩,
 none,
 Option.some ⟨.other,1,8,false,[.any],[.nilFunc],66⟩,
 Option.some ⟨.other,1,8,false,[.any],[.nilFunc],67⟩,
 Option.some ⟨.other,1,8,false,[.any],[.nilFunc],68⟩,
 Option.some ⟨.struct [(3,0),(3,1),(3,2)],3,24,true,[(.int .i64),(.int .i64),(.int .i64)],[.int .i64 0,.int .i64 0,.int .i64 0],69⟩,
 Option.some ⟨.struct [(3,0),(3,1),(3,2)],3,24,true,[(.int .i64),(.int .i64),(.int .i64)],[.int .i64 0,.int .i64 0,.int .i64 0],70⟩,
 Option.some ⟨.struct [(3,0),(9,1)],2,24,true,[(.int .i64),.str],[.int .i64 0,.string ⟨#[]⟩],71⟩,
 Option.some ⟨.struct [(3,0),(9,1)],2,24,true,[(.int .i64),.str],[.int .i64 0,.string ⟨#[]⟩],72⟩,
 Option.some ⟨.struct [(9,0),(3,1),(70,2),(72,5),(9,7),(3,8),(3,9)],10,104,true,[.str,(.int .i64),(.int .i64),(.int .i64),(.int .i64),(.int .i64),.str,.str,(.int .i64),(.int .i64)],[.string ⟨#[]⟩,.int .i64 0,.int .i64 0,.int .i64 0,.int .i64 0,.int .i64 0,.string ⟨#[]⟩,.string ⟨#[]⟩,.int .i64 0,.int .i64 0],73⟩,
 Option.some ⟨.struct [(9,0),(3,1),(70,2),(72,5),(9,7),(3,8),(3,9)],10,104,true,[.str,(.int .i64),(.int .i64),(.int .i64),(.int .i64),(.int .i64),.str,.str,(.int .i64),(.int .i64)],[.string ⟨#[]⟩,.int .i64 0,.int .i64 0,.int .i64 0,.int .i64 0,.int .i64 0,.string ⟨#[]⟩,.string ⟨#[]⟩,.int .i64 0,.int .i64 0],74⟩,
 Option.some ⟨.other,1,8,false,[.any],[.nilFunc],75⟩,
 none,
 Option.some ⟨.other,1,8,false,[.any],[.nilFunc],77⟩,
 Option.some ⟨.other,1,8,false,[.any],[.nilFunc],78⟩,
 Option.some ⟨.other,1,8,false,[.any],[.nilFunc],79⟩,
 Option.some ⟨.other,1,8,false,[.any],[.nilFunc],80⟩,
 Option.some ⟨.struct [(3,0),(3,1),(3,2),(3,3)],4,32,true,[(.int .i64),(.int .i64),(.int .i64),(.int .i64)],[.int .i64 0,.int .i64 0,.int .i64 0,.int .i64 0],81⟩,
 Option.some ⟨.struct [(3,0),(3,1),(3,2),(3,3)],4,32,true,[(.int .i64),(.int .i64),(.int .i64),(.int .i64)],[.int .i64 0,.int .i64 0,.int .i64 0,.int .i64 0],82⟩,
 Option.some ⟨.other,1,8,false,[.any],[.nilFunc],83⟩,
 Option.some ⟨.other,1,8,false,[.any],[.nilFunc],84⟩,
 Option.some ⟨.struct [(3,0),(50,1)],2,32,true,[(.int .i64),(.slice ⟨true,3,false⟩ 1)],[.int .i64 0,.slice none 0 0],85⟩,
 Option.some ⟨.struct [(3,0),(50,1)],2,32,true,[(.int .i64),(.slice ⟨true,3,false⟩ 1)],[.int .i64 0,.slice none 0 0],86⟩,
 Option.some ⟨.other,1,8,false,[.any],[.nilFunc],87⟩,
 Option.some ⟨.other,1,8,false,[.any],[.nilFunc],88⟩,
 Option.some ⟨.other,1,8,false,[.any],[.nilFunc],89⟩,
 Option.some ⟨.other,1,8,false,[.any],[.nilFunc],90⟩,
 Option.some ⟨.other,1,8,false,[.any],[.nilFunc],91⟩,
 Option.some ⟨.other,1,8,false,[.any],[.nilFunc],92⟩,
 Option.some ⟨.other,1,8,false,[.any],[.nilFunc],93⟩,
 Option.some ⟨.other,1,8,false,[.any],[.nilFunc],94⟩,
 Option.some ⟨.other,1,8,false,[.any],[.nilFunc],95⟩,
 Option.some ⟨.other,1,8,false,[.any],[.nilFunc],96⟩,
 Option.some ⟨.slice 9,1,24,false,[(.slice ⟨true,9,false⟩ 1)],[.slice none 0 0],97⟩,
 Option.some ⟨.other,1,8,false,[.any],[.nilFunc],98⟩,
 Option.some ⟨.other,1,8,false,[.any],[.nilFunc],99⟩,
 Option.some ⟨.other,1,8,false,[.any],[.nilFunc],100⟩,
 Option.some ⟨.other,1,8,false,[.any],[.nilFunc],101⟩,
 Option.some ⟨.other,1,8,false,[.any],[.nilFunc],102⟩,
 Option.some ⟨.other,1,8,false,[.any],[.nilFunc],103⟩,
 Option.some ⟨.slice 109,1,24,false,[(.slice ⟨false,109,false⟩ 18)],[.slice none 0 0],104⟩,
 none,
 Option.some ⟨.other,1,8,false,[.any],[.nilFunc],106⟩,
 Option.some ⟨.other,1,8,false,[.any],[.nilFunc],107⟩,
 Option.some ⟨.struct [(3,0),(3,1),(74,2),(3,12),(97,13),(82,14)],18,184,true,[(.int .i64),(.int .i64),.str,(.int .i64),(.int .i64),(.int .i64),(.int .i64),(.int .i64),.str,.str,(.int .i64),(.int .i64),(.int .i64),(.slice ⟨true,9,false⟩ 1),(.int .i64),(.int .i64),(.int .i64),(.int .i64)],[.int .i64 0,.int .i64 0,.string ⟨#[]⟩,.int .i64 0,.int .i64 0,.int .i64 0,.int .i64 0,.int .i64 0,.string ⟨#[]⟩,.string ⟨#[]⟩,.int .i64 0,.int .i64 0,.int .i64 0,.slice none 0 0,.int .i64 0,.int .i64 0,.int .i64 0,.int .i64 0],108⟩,
 Option.some ⟨.struct [(3,0),(3,1),(74,2),(3,12),(97,13),(82,14)],18,184,true,[(.int .i64),(.int .i64),.str,(.int .i64),(.int .i64),(.int .i64),(.int .i64),(.int .i64),.str,.str,(.int .i64),(.int .i64),(.int .i64),(.slice ⟨true,9,false⟩ 1),(.int .i64),(.int .i64),(.int .i64),(.int .i64)],[.int .i64 0,.int .i64 0,.string ⟨#[]⟩,.int .i64 0,.int .i64 0,.int .i64 0,.int .i64 0,.int .i64 0,.string ⟨#[]⟩,.string ⟨#[]⟩,.int .i64 0,.int .i64 0,.int .i64 0,.slice none 0 0,.int .i64 0,.int .i64 0,.int .i64 0,.int .i64 0],109⟩,
 none,
 Option.some ⟨.other,1,8,false,[.any],[.nilFunc],111⟩,
 Option.some ⟨.other,1,8,false,[.any],[.nilFunc],112⟩,
 Option.some ⟨.slice 115,1,24,false,[(.slice ⟨false,115,false⟩ 18)],[.slice none 0 0],113⟩,
 Option.some ⟨.struct [(3,0),(3,1),(74,2),(3,12),(97,13),(82,14)],18,184,true,[(.int .i64),(.int .i64),.str,(.int .i64),(.int .i64),(.int .i64),(.int .i64),(.int .i64),.str,.str,(.int .i64),(.int .i64),(.int .i64),(.slice ⟨true,9,false⟩ 1),(.int .i64),(.int .i64),(.int .i64),(.int .i64)],[.int .i64 0,.int .i64 0,.string ⟨#[]⟩,.int .i64 0,.int .i64 0,.int .i64 0,.int .i64 0,.int .i64 0,.string ⟨#[]⟩,.string ⟨#[]⟩,.int .i64 0,.int .i64 0,.int .i64 0,.slice none 0 0,.int .i64 0,.int .i64 0,.int .i64 0,.int .i64 0],114⟩,
 Option.some ⟨.struct [(3,0),(3,1),(74,2),(3,12),(97,13),(82,14)],18,184,true,[(.int .i64),(.int .i64),.str,(.int .i64),(.int .i64),(.int .i64),(.int .i64),(.int .i64),.str,.str,(.int .i64),(.int .i64),(.int .i64),(.slice ⟨true,9,false⟩ 1),(.int .i64),(.int .i64),(.int .i64),(.int .i64)],[.int .i64 0,.int .i64 0,.string ⟨#[]⟩,.int .i64 0,.int .i64 0,.int .i64 0,.int .i64 0,.int .i64 0,.string ⟨#[]⟩,.string ⟨#[]⟩,.int .i64 0,.int .i64 0,.int .i64 0,.slice none 0 0,.int .i64 0,.int .i64 0,.int .i64 0,.int .i64 0],115⟩,
 none,
 Option.some ⟨.other,1,8,false,[.any],[.nilFunc],117⟩,
 Option.some ⟨.arr 4 50,4,96,true,[(.slice ⟨true,3,false⟩ 1),(.slice ⟨true,3,false⟩ 1),(.slice ⟨true,3,false⟩ 1),(.slice ⟨true,3,false⟩ 1)],[.slice none 0 0,.slice none 0 0,.slice none 0 0,.slice none 0 0],118⟩,
 Option.some ⟨.other,1,8,false,[.any],[.nilFunc],119⟩,
 Option.some ⟨.other,1,8,false,[.any],[.nilFunc],120⟩,
 Option.some ⟨.other,1,8,false,[.any],[.nilFunc],121⟩,
 Option.some ⟨.other,1,8,false,[.any],[.nilFunc],122⟩,
 Option.some ⟨.other,1,8,false,[.any],[.nilFunc],123⟩,
 Option.some ⟨.other,1,8,false,[.any],[.nilFunc],124⟩,
 Option.some ⟨.other,1,8,false,[.any],[.nilFunc],125⟩,
 Option.some ⟨.other,1,8,false,[.any],[.nilFunc],126⟩,
 Option.some ⟨.other,1,8,false,[.any],[.nilFunc],127⟩,
 Option.some ⟨.other,1,8,false,[.any],[.nilFunc],128⟩,
 Option.some ⟨.other,1,8,false,[.any],[.nilFunc],129⟩,
 Option.some ⟨.slice 31,1,24,false,[(.slice ⟨true,31,false⟩ 1)],[.slice none 0 0],130⟩,
 Option.some ⟨.other,1,8,false,[.any],[.nilFunc],131⟩,
 Option.some ⟨.other,1,8,false,[.any],[.nilFunc],132⟩,
 Option.some ⟨.other,1,8,false,[.any],[.nilFunc],133⟩,
 Option.some ⟨.other,1,8,false,[.any],[.nilFunc],134⟩,
 Option.some ⟨.other,1,8,false,[.any],[.nilFunc],135⟩,
 Option.some ⟨.other,1,8,false,[.any],[.nilFunc],136⟩,
 Option.some ⟨.other,1,8,false,[.any],[.nilFunc],137⟩,
 Option.some ⟨.arr 19 50,19,456,true,[(.slice ⟨true,3,false⟩ 1),(.slice ⟨true,3,false⟩ 1),(.slice ⟨true,3,false⟩ 1),(.slice ⟨true,3,false⟩ 1),(.slice ⟨true,3,false⟩ 1),(.slice ⟨true,3,false⟩ 1),(.slice ⟨true,3,false⟩ 1),(.slice ⟨true,3,false⟩ 1),(.slice ⟨true,3,false⟩ 1),(.slice ⟨true,3,false⟩ 1),(.slice ⟨true,3,false⟩ 1),(.slice ⟨true,3,false⟩ 1),(.slice ⟨true,3,false⟩ 1),(.slice ⟨true,3,false⟩ 1),(.slice ⟨true,3,false⟩ 1),(.slice ⟨true,3,false⟩ 1),(.slice ⟨true,3,false⟩ 1),(.slice ⟨true,3,false⟩ 1),(.slice ⟨true,3,false⟩ 1)],[.slice none 0 0,.slice none 0 0,.slice none 0 0,.slice none 0 0,.slice none 0 0,.slice none 0 0,.slice none 0 0,.slice none 0 0,.slice none 0 0,.slice none 0 0,.slice none 0 0,.slice none 0 0,.slice none 0 0,.slice none 0 0,.slice none 0 0,.slice none 0 0,.slice none 0 0,.slice none 0 0,.slice none 0 0],138⟩,
 Option.some ⟨.other,1,8,false,[.any],[.nilFunc],139⟩,
 Option.some ⟨.other,1,8,false,[.any],[.nilFunc],140⟩,
 Option.some ⟨.other,1,8,false,[.any],[.nilFunc],141⟩,
 Option.some ⟨.other,1,8,false,[.any],[.nilFunc],142⟩,
 Option.some ⟨.other,1,8,false,[.any],[.nilFunc],143⟩,
 Option.some ⟨.arr 19 9,19,304,true,[.str,.str,.str,.str,.str,.str,.str,.str,.str,.str,.str,.str,.str,.str,.str,.str,.str,.str,.str],[.string ⟨#[]⟩,.string ⟨#[]⟩,.string ⟨#[]⟩,.string ⟨#[]⟩,.string ⟨#[]⟩,.string ⟨#[]⟩,.string ⟨#[]⟩,.string ⟨#[]⟩,.string ⟨#[]⟩,.string ⟨#[]⟩,.string ⟨#[]⟩,.string ⟨#[]⟩,.string ⟨#[]⟩,.string ⟨#[]⟩,.string ⟨#[]⟩,.string ⟨#[]⟩,.string ⟨#[]⟩,.string ⟨#[]⟩,.string ⟨#[]⟩],144⟩,
 Option.some ⟨.ptr 148,1,8,false,[.any],[.pointer none],145⟩,
 Option.some ⟨.slice 5,1,24,false,[(.slice ⟨true,5,false⟩ 1)],[.slice none 0 0],146⟩,
 Option.some ⟨.struct [(145,0),(146,1)],2,32,true,[.any,(.slice ⟨true,5,false⟩ 1)],[.pointer none,.slice none 0 0],147⟩,
 Option.some ⟨.struct [(145,0),(146,1)],2,32,true,[.any,(.slice ⟨true,5,false⟩ 1)],[.pointer none,.slice none 0 0],148⟩,
 Option.some ⟨.other,1,8,false,[.any],[.nilFunc],149⟩,
 Option.some ⟨.iface,1,16,false,[.any],[.nilIface],150⟩,
 Option.some ⟨.iface,1,16,false,[.any],[.nilIface],151⟩,
 none,
 Option.some ⟨.other,1,8,false,[.any],[.nilFunc],153⟩,
 none,
 Option.some ⟨.other,1,8,false,[.any],[.nilFunc],155⟩,
 none,
 Option.some ⟨.other,1,8,false,[.any],[.nilFunc],157⟩,
 Option.some ⟨.other,1,8,false,[.any],[.nilFunc],158⟩,
 none,
 Option.some ⟨.other,1,8,false,[.any],[.nilFunc],160⟩,
 Option.some ⟨.other,1,8,false,[.any],[.nilFunc],161⟩,
 Option.some ⟨.other,1,8,false,[.any],[.nilFunc],162⟩,
 Option.some ⟨.ptr 165,1,8,false,[.any],[.pointer none],163⟩,
 Option.some ⟨.struct [(9,0),(4,1)],2,24,true,[.str,.bool],[.string ⟨#[]⟩,.bool false],164⟩,
 Option.some ⟨.struct [(9,0),(4,1)],2,24,true,[.str,.bool],[.string ⟨#[]⟩,.bool false],165⟩,
 Option.some ⟨.other,1,8,false,[.any],[.nilFunc],166⟩,
 Option.some ⟨.other,1,8,false,[.any],[.nilFunc],167⟩,
 Option.some ⟨.other,1,8,false,[.any],[.nilFunc],168⟩,
 Option.some ⟨.other,1,8,false,[.any],[.nilFunc],169⟩,
 Option.some ⟨.other,1,8,false,[.any],[.nilFunc],170⟩,
 Option.some ⟨.other,1,8,false,[.any],[.nilFunc],171⟩,
 Option.some ⟨.other,1,8,false,[.any],[.nilFunc],172⟩,
 Option.some ⟨.other,1,8,false,[.any],[.nilFunc],173⟩,
 Option.some ⟨.other,1,8,false,[.any],[.nilFunc],174⟩,
 Option.some ⟨.other,1,8,false,[.any],[.nilFunc],175⟩,
 Option.some ⟨.int .u64,1,8,false,[(.int .u64)],[.int .u64 0],176⟩,
 none,
 Option.some ⟨.other,1,8,false,[.any],[.nilFunc],178⟩,
 Option.some ⟨.other,1,8,false,[.any],[.nilFunc],179⟩,
 Option.some ⟨.other,1,8,false,[.any],[.nilFunc],180⟩,
 Option.some ⟨.other,1,8,false,[.any],[.nilFunc],181⟩,
 Option.some ⟨.struct [(3,0),(3,1)],2,16,true,[(.int .i64),(.int .i64)],[.int .i64 0,.int .i64 0],182⟩,
 Option.some ⟨.struct [(3,0),(3,1)],2,16,true,[(.int .i64),(.int .i64)],[.int .i64 0,.int .i64 0],183⟩,
 Option.some ⟨.other,1,8,false,[.any],[.nilFunc],184⟩,
 Option.some ⟨.ptr 5,1,8,false,[.any],[.pointer none],185⟩,
 Option.some ⟨.other,1,8,false,[.any],[.nilFunc],186⟩,
 Option.some ⟨.other,1,8,false,[.any],[.nilFunc],187⟩,
 none,
 Option.some ⟨.other,1,8,false,[.any],[.nilFunc],189⟩,
 none,
 Option.some ⟨.other,1,8,false,[.any],[.nilFunc],191⟩,
 Option.some ⟨.other,1,8,false,[.any],[.nilFunc],192⟩,
 Option.some ⟨.other,1,8,false,[.any],[.nilFunc],193⟩,
 Option.some ⟨.other,1,8,false,[.any],[.nilFunc],194⟩,
 Option.some ⟨.other,1,8,false,[.any],[.nilFunc],195⟩,
 Option.some ⟨.other,1,8,false,[.any],[.nilFunc],196⟩,
 Option.some ⟨.other,1,8,false,[.any],[.nilFunc],197⟩,
 Option.some ⟨.other,1,8,false,[.any],[.nilFunc],198⟩,
 Option.some ⟨.other,1,8,false,[.any],[.nilFunc],199⟩,
 Option.some ⟨.other,1,8,false,[.any],[.nilFunc],200⟩,
 Option.some ⟨.other,1,8,false,[.any],[.nilFunc],201⟩,
 Option.some ⟨.other,1,8,false,[.any],[.nilFunc],202⟩,
 Option.some ⟨.int .u32,1,4,false,[(.int .u32)],[.int .u32 0],203⟩,
 none,
 Option.some ⟨.other,1,8,false,[.any],[.nilFunc],205⟩,
 Option.some ⟨.int .u64,1,8,false,[(.int .u64)],[.int .u64 0],206⟩,
 none,
 Option.some ⟨.other,1,8,false,[.any],[.nilFunc],208⟩,
 Option.some ⟨.other,1,8,false,[.any],[.nilFunc],209⟩,
 Option.some ⟨.other,1,8,false,[.any],[.nilFunc],210⟩,
 Option.some ⟨.other,1,8,false,[.any],[.nilFunc],211⟩,
 Option.some ⟨.other,1,8,false,[.any],[.nilFunc],212⟩,
 none,
 Option.some ⟨.other,1,8,false,[.any],[.nilFunc],214⟩,
 Option.some ⟨.other,1,8,false,[.any],[.nilFunc],215⟩,
 Option.some ⟨.other,1,8,false,[.any],[.nilFunc],216⟩,
 none,
 Option.some ⟨.other,1,8,false,[.any],[.nilFunc],218⟩,
 Option.some ⟨.other,1,8,false,[.any],[.nilFunc],219⟩,
 Option.some ⟨.other,1,8,false,[.any],[.nilFunc],220⟩,
 Option.some ⟨.other,1,8,false,[.any],[.nilFunc],221⟩,
 Option.some ⟨.other,1,8,false,[.any],[.nilFunc],222⟩,
 Option.some ⟨.struct [(183,0),(3,2),(3,3)],4,32,true,[(.int .i64),(.int .i64),(.int .i64),(.int .i64)],[.int .i64 0,.int .i64 0,.int .i64 0,.int .i64 0],223⟩,
 Option.some ⟨.struct [(183,0),(3,2),(3,3)],4,32,true,[(.int .i64),(.int .i64),(.int .i64),(.int .i64)],[.int .i64 0,.int .i64 0,.int .i64 0,.int .i64 0],224⟩,
 Option.some ⟨.other,1,8,false,[.any],[.nilFunc],225⟩,
 Option.some ⟨.struct [(3,0),(3,1)],2,16,true,[(.int .i64),(.int .i64)],[.int .i64 0,.int .i64 0],226⟩,
 Option.some ⟨.struct [(3,0),(3,1)],2,16,true,[(.int .i64),(.int .i64)],[.int .i64 0,.int .i64 0],227⟩,
 Option.some ⟨.struct [(3,0),(227,1),(3,3)],4,32,true,[(.int .i64),(.int .i64),(.int .i64),(.int .i64)],[.int .i64 0,.int .i64 0,.int .i64 0,.int .i64 0],228⟩,
 Option.some ⟨.struct [(3,0),(227,1),(3,3)],4,32,true,[(.int .i64),(.int .i64),(.int .i64),(.int .i64)],[.int .i64 0,.int .i64 0,.int .i64 0,.int .i64 0],229⟩,
 none,
 Option.some ⟨.other,1,8,false,[.any],[.nilFunc],231⟩,
 Option.some ⟨.other,1,8,false,[.any],[.nilFunc],232⟩,
 Option.some ⟨.int .i64,1,8,false,[(.int .i64)],[.int .i64 0],233⟩,
 none,
 Option.some ⟨.other,1,8,false,[.any],[.nilFunc],235⟩,
 Option.some ⟨.other,1,8,false,[.any],[.nilFunc],236⟩,
 Option.some ⟨.other,1,8,false,[.any],[.nilFunc],237⟩,
 Option.some ⟨.other,1,8,false,[.any],[.nilFunc],238⟩,
 Option.some ⟨.other,1,8,false,[.any],[.nilFunc],239⟩,
 Option.some ⟨.other,1,8,false,[.any],[.nilFunc],240⟩,
 Option.some ⟨.other,1,8,false,[.any],[.nilFunc],241⟩,
 Option.some ⟨.other,1,8,false,[.any],[.nilFunc],242⟩,
 none,
 Option.some ⟨.other,1,8,false,[.any],[.nilFunc],244⟩,
 Option.some ⟨.arr 24 5,24,24,true,[(.int .u8),(.int .u8),(.int .u8),(.int .u8),(.int .u8),(.int .u8),(.int .u8),(.int .u8),(.int .u8),(.int .u8),(.int .u8),(.int .u8),(.int .u8),(.int .u8),(.int .u8),(.int .u8),(.int .u8),(.int .u8),(.int .u8),(.int .u8),(.int .u8),(.int .u8),(.int .u8),(.int .u8)],[.int .u8 0,.int .u8 0,.int .u8 0,.int .u8 0,.int .u8 0,.int .u8 0,.int .u8 0,.int .u8 0,.int .u8 0,.int .u8 0,.int .u8 0,.int .u8 0,.int .u8 0,.int .u8 0,.int .u8 0,.int .u8 0,.int .u8 0,.int .u8 0,.int .u8 0,.int .u8 0,.int .u8 0,.int .u8 0,.int .u8 0,.int .u8 0],245⟩,
 Option.some ⟨.other,1,8,false,[.any],[.nilFunc],246⟩,
 none,
 Option.some ⟨.other,1,8,false,[.any],[.nilFunc],248⟩,
 Option.some ⟨.other,1,8,false,[.any],[.nilFunc],249⟩,
 none,
 Option.some ⟨.other,1,8,false,[.any],[.nilFunc],251⟩,
 none,
 none,
 Option.some ⟨.other,1,8,false,[.any],[.nilFunc],254⟩,
 Option.some ⟨.ptr 278,1,8,false,[.any],[.pointer none],255⟩,
 Option.some ⟨.other,1,8,false,[.any],[.nilFunc],256⟩,
 Option.some ⟨.other,1,8,false,[.any],[.nilFunc],257⟩,
 Option.some ⟨.other,1,8,false,[.any],[.nilFunc],258⟩,
 Option.some ⟨.int .u64,1,8,false,[(.int .u64)],[.int .u64 0],259⟩,
 Option.some ⟨.other,1,8,false,[.any],[.nilFunc],260⟩,
 Option.some ⟨.other,1,8,false,[.any],[.nilFunc],261⟩,
 Option.some ⟨.other,1,8,false,[.any],[.nilFunc],262⟩,
 Option.some ⟨.ptr 3,1,8,false,[.any],[.pointer none],263⟩,
 Option.some ⟨.other,1,8,false,[.any],[.nilFunc],264⟩,
 Option.some ⟨.arr 20 206,20,160,true,[(.int .u64),(.int .u64),(.int .u64),(.int .u64),(.int .u64),(.int .u64),(.int .u64),(.int .u64),(.int .u64),(.int .u64),(.int .u64),(.int .u64),(.int .u64),(.int .u64),(.int .u64),(.int .u64),(.int .u64),(.int .u64),(.int .u64),(.int .u64)],[.int .u64 0,.int .u64 0,.int .u64 0,.int .u64 0,.int .u64 0,.int .u64 0,.int .u64 0,.int .u64 0,.int .u64 0,.int .u64 0,.int .u64 0,.int .u64 0,.int .u64 0,.int .u64 0,.int .u64 0,.int .u64 0,.int .u64 0,.int .u64 0,.int .u64 0,.int .u64 0],265⟩,
 Option.some ⟨.arr 65 5,65,65,true,[(.int .u8),(.int .u8),(.int .u8),(.int .u8),(.int .u8),(.int .u8),(.int .u8),(.int .u8),(.int .u8),(.int .u8),(.int .u8),(.int .u8),(.int .u8),(.int .u8),(.int .u8),(.int .u8),(.int .u8),(.int .u8),(.int .u8),(.int .u8),(.int .u8),(.int .u8),(.int .u8),(.int .u8),(.int .u8),(.int .u8),(.int .u8),(.int .u8),(.int .u8),(.int .u8),(.int .u8),(.int .u8),(.int .u8),(.int .u8),(.int .u8),(.int .u8),(.int .u8),(.int .u8),(.int .u8),(.int .u8),(.int .u8),(.int .u8),(.int .u8),(.int .u8),(.int .u8),(.int .u8),(.int .u8),(.int .u8),(.int .u8),(.int .u8),(.int .u8),(.int .u8),(.int .u8),(.int .u8),(.int .u8),(.int .u8),(.int .u8),(.int .u8),(.int .u8),(.int .u8),(.int .u8),(.int .u8),(.int .u8),(.int .u8),(.int .u8)],[.int .u8 0,.int .u8 0,.int .u8 0,.int .u8 0,.int .u8 0,.int .u8 0,.int .u8 0,.int .u8 0,.int .u8 0,.int .u8 0,.int .u8 0,.int .u8 0,.int .u8 0,.int .u8 0,.int .u8 0,.int .u8 0,.int .u8 0,.int .u8 0,.int .u8 0,.int .u8 0,.int .u8 0,.int .u8 0,.int .u8 0,.int .u8 0,.int .u8 0,.int .u8 0,.int .u8 0,.int .u8 0,.int .u8 0,.int .u8 0,.int .u8 0,.int .u8 0,.int .u8 0,.int .u8 0,.int .u8 0,.int .u8 0,.int .u8 0,.int .u8 0,.int .u8 0,.int .u8 0,.int .u8 0,.int .u8 0,.int .u8 0,.int .u8 0,.int .u8 0,.int .u8 0,.int .u8 0,.int .u8 0,.int .u8 0,.int .u8 0,.int .u8 0,.int .u8 0,.int .u8 0,.int .u8 0,.int .u8 0,.int .u8 0,.int .u8 0,.int .u8 0,.int .u8 0,.int .u8 0,.int .u8 0,.int .u8 0,.int .u8 0,.int .u8 0,.int .u8 0],266⟩,
 Option.some ⟨.other,1,8,false,[.any],[.nilFunc],267⟩,
 Option.some ⟨.other,1,8,false,[.any],[.nilFunc],268⟩,
 Option.some ⟨.arr 256 4,256,256,true,[.bool,.bool,.bool,.bool,.bool,.bool,.bool,.bool,.bool,.bool,.bool,.bool,.bool,.bool,.bool,.bool,.bool,.bool,.bool,.bool,.bool,.bool,.bool,.bool,.bool,.bool,.bool,.bool,.bool,.bool,.bool,.bool,.bool,.bool,.bool,.bool,.bool,.bool,.bool,.bool,.bool,.bool,.bool,.bool,.bool,.bool,.bool,.bool,.bool,.bool,.bool,.bool,.bool,.bool,.bool,.bool,.bool,.bool,.bool,.bool,.bool,.bool,.bool,.bool,.bool,.bool,.bool,.bool,.bool,.bool,.bool,.bool,.bool,.bool,.bool,.bool,.bool,.bool,.bool,.bool,.bool,.bool,.bool,.bool,.bool,.bool,.bool,.bool,.bool,.bool,.bool,.bool,.bool,.bool,.bool,.bool,.bool,.bool,.bool,.bool,.bool,.bool,.bool,.bool,.bool,.bool,.bool,.bool,.bool,.bool,.bool,.bool,.bool,.bool,.bool,.bool,.bool,.bool,.bool,.bool,.bool,.bool,.bool,.bool,.bool,.bool,.bool,.bool,.bool,.bool,.bool,.bool,.bool,.bool,.bool,.bool,.bool,.bool,.bool,.bool,.bool,.bool,.bool,.bool,.bool,.bool,.bool,.bool,.bool,.bool,.bool,.bool,.bool,.bool,.bool,.bool,.bool,.bool,.bool,.bool,.bool,.bool,.bool,.bool,.bool,.bool,.bool,.bool,.bool,.bool,.bool,.bool,.bool,.bool,.bool,.bool,.bool,.bool,.bool,.bool,.bool,.bool,.bool,.bool,.bool,.bool,.bool,.bool,.bool,.bool,.bool,.bool,.bool,.bool,.bool,.bool,.bool,.bool,.bool,.bool,.bool,.bool,.bool,.bool,.bool,.bool,.bool,.bool,.bool,.bool,.bool,.bool,.bool,.bool,.bool,.bool,.bool,.bool,.bool,.bool,.bool,.bool,.bool,.bool,.bool,.bool,.bool,.bool,.bool,.bool,.bool,.bool,.bool,.bool,.bool,.bool,.bool,.bool,.bool,.bool,.bool,.bool,.bool,.bool,.bool,.bool,.bool,.bool,.bool,.bool,.bool,.bool,.bool,.bool,.bool,.bool],[.bool false,.bool false,.bool false,.bool false,.bool false,.bool false,.bool false,.bool false,.bool false,.bool false,.bool false,.bool false,.bool false,.bool false,.bool false,.bool false,.bool false,.bool false,.bool false,.bool false,.bool false,.bool false,.bool false,.bool false,.bool false,.bool false,.bool false,.bool false,.bool false,.bool false,.bool false,.bool false,.bool false,.bool false,.bool false,.bool false,.bool false,.bool false,.bool false,.bool false,.bool false,.bool false,.bool false,.bool false,.bool false,.bool false,.bool false,.bool false,.bool false,.bool false,.bool false,.bool false,.bool false,.bool false,.bool false,.bool false,.bool false,.bool false,.bool false,.bool false,.bool false,.bool false,.bool false,.bool false,.bool false,.bool false,.bool false,.bool false,.bool false,.bool false,.bool false,.bool false,.bool false,.bool false,.bool false,.bool false,.bool false,.bool false,.bool false,.bool false,.bool false,.bool false,.bool false,.bool false,.bool false,.bool false,.bool false,.bool false,.bool false,.bool false,.bool false,.bool false,.bool false,.bool false,.bool false,.bool false,.bool false,.bool false,.bool false,.bool false,.bool false,.bool false,.bool false,.bool false,.bool false,.bool false,.bool false,.bool false,.bool false,.bool false,.bool false,.bool false,.bool false,.bool false,.bool false,.bool false,.bool false,.bool false,.bool false,.bool false,.bool false,.bool false,.bool false,.bool false,.bool false,.bool false,.bool false,.bool false,.bool false,.bool false,.bool false,.bool false,.bool false,.bool false,.bool false,.bool false,.bool false,.bool false,.bool false,.bool false,.bool false,.bool false,.bool false,.bool false,.bool false,.bool false,.bool false,.bool false,.bool false,.bool false,.bool false,.bool false,.bool false,.bool false,.bool false,.bool false,.bool false,.bool false,.bool false,.bool false,.bool false,.bool false,.bool false,.bool false,.bool false,.bool false,.bool false,.bool false,.bool false,.bool false,.bool false,.bool false,.bool false,.bool false,.bool false,.bool false,.bool false,.bool false,.bool false,.bool false,.bool false,.bool false,.bool false,.bool false,.bool false,.bool false,.bool false,.bool false,.bool false,.bool false,.bool false,.bool false,.bool false,.bool false,.bool false,.bool false,.bool false,.bool false,.bool false,.bool false,.bool false,.bool false,.bool false,.bool false,.bool false,.bool false,.bool false,.bool false,.bool false,.bool false,.bool false,.bool false,.bool false,.bool false,.bool false,.bool false,.bool false,.bool false,.bool false,.bool false,.bool false,.bool false,.bool false,.bool false,.bool false,.bool false,.bool false,.bool false,.bool false,.bool false,.bool false,.bool false,.bool false,.bool false,.bool false,.bool false,.bool false,.bool false,.bool false,.bool false,.bool false,.bool false,.bool false,.bool false,.bool false,.bool false,.bool false,.bool false,.bool false,.bool false,.bool false,.bool false,.bool false,.bool false,.bool false,.bool false],269⟩,
 Option.some ⟨.arr 256 4,256,256,true,[.bool,.bool,.bool,.bool,.bool,.bool,.bool,.bool,.bool,.bool,.bool,.bool,.bool,.bool,.bool,.bool,.bool,.bool,.bool,.bool,.bool,.bool,.bool,.bool,.bool,.bool,.bool,.bool,.bool,.bool,.bool,.bool,.bool,.bool,.bool,.bool,.bool,.bool,.bool,.bool,.bool,.bool,.bool,.bool,.bool,.bool,.bool,.bool,.bool,.bool,.bool,.bool,.bool,.bool,.bool,.bool,.bool,.bool,.bool,.bool,.bool,.bool,.bool,.bool,.bool,.bool,.bool,.bool,.bool,.bool,.bool,.bool,.bool,.bool,.bool,.bool,.bool,.bool,.bool,.bool,.bool,.bool,.bool,.bool,.bool,.bool,.bool,.bool,.bool,.bool,.bool,.bool,.bool,.bool,.bool,.bool,.bool,.bool,.bool,.bool,.bool,.bool,.bool,.bool,.bool,.bool,.bool,.bool,.bool,.bool,.bool,.bool,.bool,.bool,.bool,.bool,.bool,.bool,.bool,.bool,.bool,.bool,.bool,.bool,.bool,.bool,.bool,.bool,.bool,.bool,.bool,.bool,.bool,.bool,.bool,.bool,.bool,.bool,.bool,.bool,.bool,.bool,.bool,.bool,.bool,.bool,.bool,.bool,.bool,.bool,.bool,.bool,.bool,.bool,.bool,.bool,.bool,.bool,.bool,.bool,.bool,.bool,.bool,.bool,.bool,.bool,.bool,.bool,.bool,.bool,.bool,.bool,.bool,.bool,.bool,.bool,.bool,.bool,.bool,.bool,.bool,.bool,.bool,.bool,.bool,.bool,.bool,.bool,.bool,.bool,.bool,.bool,.bool,.bool,.bool,.bool,.bool,.bool,.bool,.bool,.bool,.bool,.bool,.bool,.bool,.bool,.bool,.bool,.bool,.bool,.bool,.bool,.bool,.bool,.bool,.bool,.bool,.bool,.bool,.bool,.bool,.bool,.bool,.bool,.bool,.bool,.bool,.bool,.bool,.bool,.bool,.bool,.bool,.bool,.bool,.bool,.bool,.bool,.bool,.bool,.bool,.bool,.bool,.bool,.bool,.bool,.bool,.bool,.bool,.bool,.bool,.bool,.bool,.bool,.bool,.bool],[.bool false,.bool false,.bool false,.bool false,.bool false,.bool false,.bool false,.bool false,.bool false,.bool false,.bool false,.bool false,.bool false,.bool false,.bool false,.bool false,.bool false,.bool false,.bool false,.bool false,.bool false,.bool false,.bool false,.bool false,.bool false,.bool false,.bool false,.bool false,.bool false,.bool false,.bool false,.bool false,.bool false,.bool false,.bool false,.bool false,.bool false,.bool false,.bool false,.bool false,.bool false,.bool false,.bool false,.bool false,.bool false,.bool false,.bool false,.bool false,.bool false,.bool false,.bool false,.bool false,.bool false,.bool false,.bool false,.bool false,.bool false,.bool false,.bool false,.bool false,.bool false,.bool false,.bool false,.bool false,.bool false,.bool false,.bool false,.bool false,.bool false,.bool false,.bool false,.bool false,.bool false,.bool false,.bool false,.bool false,.bool false,.bool false,.bool false,.bool false,.bool false,.bool false,.bool false,.bool false,.bool false,.bool false,.bool false,.bool false,.bool false,.bool false,.bool false,.bool false,.bool false,.bool false,.bool false,.bool false,.bool false,.bool false,.bool false,.bool false,.bool false,.bool false,.bool false,.bool false,.bool false,.bool false,.bool false,.bool false,.bool false,.bool false,.bool false,.bool false,.bool false,.bool false,.bool false,.bool false,.bool false,.bool false,.bool false,.bool false,.bool false,.bool false,.bool false,.bool false,.bool false,.bool false,.bool false,.bool false,.bool false,.bool false,.bool false,.bool false,.bool false,.bool false,.bool false,.bool false,.bool false,.bool false,.bool false,.bool false,.bool false,.bool false,.bool false,.bool false,.bool false,.bool false,.bool false,.bool false,.bool false,.bool false,.bool false,.bool false,.bool false,.bool false,.bool false,.bool false,.bool false,.bool false,.bool false,.bool false,.bool false,.bool false,.bool false,.bool false,.bool false,.bool false,.bool false,.bool false,.bool false,.bool false,.bool false,.bool false,.bool false,.bool false,.bool false,.bool false,.bool false,.bool false,.bool false,.bool false,.bool false,.bool false,.bool false,.bool false,.bool false,.bool false,.bool false,.bool false,.bool false,.bool false,.bool false,.bool false,.bool false,.bool false,.bool false,.bool false,.bool false,.bool false,.bool false,.bool false,.bool false,.bool false,.bool false,.bool false,.bool false,.bool false,.bool false,.bool false,.bool false,.bool false,.bool false,.bool false,.bool false,.bool false,.bool false,.bool false,.bool false,.bool false,.bool false,.bool false,.bool false,.bool false,.bool false,.bool false,.bool false,.bool false,.bool false,.bool false,.bool false,.bool false,.bool false,.bool false,.bool false,.bool false,.bool false,.bool false,.bool false,.bool false,.bool false,.bool false,.bool false,.bool false,.bool false,.bool false,.bool false,.bool false,.bool false,.bool false,.bool false,.bool false,.bool false,.bool false,.bool false,.bool false,.bool false,.bool false],270⟩,
 none,
 Option.some ⟨.other,1,8,false,[.any],[.nilFunc],272⟩,
 Option.some ⟨.other,1,8,false,[.any],[.nilFunc],273⟩,
 Option.some ⟨.ptr 270,1,8,false,[.any],[.pointer none],274⟩,
 none,
 Option.some ⟨.other,1,8,false,[.any],[.nilFunc],276⟩,
 Option.some ⟨.struct [(9,0),(9,1),(151,2)],3,48,true,[.str,.str,.any],[.string ⟨#[]⟩,.string ⟨#[]⟩,.nilIface],277⟩,
 Option.some ⟨.struct [(9,0),(9,1),(151,2)],3,48,true,[.str,.str,.any],[.string ⟨#[]⟩,.string ⟨#[]⟩,.nilIface],278⟩,
 Option.some ⟨.other,1,8,false,[.any],[.nilFunc],279⟩,
 Option.some ⟨.ptr 259,1,8,false,[.any],[.pointer none],280⟩,
 none,
 Option.some ⟨.other,1,8,false,[.any],[.nilFunc],282⟩,
 Option.some ⟨.arr 256 5,256,256,true,[(.int .u8),(.int .u8),(.int .u8),(.int .u8),(.int .u8),(.int .u8),(.int .u8),(.int .u8),(.int .u8),(.int .u8),(.int .u8),(.int .u8),(.int .u8),(.int .u8),(.int .u8),(.int .u8),(.int .u8),(.int .u8),(.int .u8),(.int .u8),(.int .u8),(.int .u8),(.int .u8),(.int .u8),(.int .u8),(.int .u8),(.int .u8),(.int .u8),(.int .u8),(.int .u8),(.int .u8),(.int .u8),(.int .u8),(.int .u8),(.int .u8),(.int .u8),(.int .u8),(.int .u8),(.int .u8),(.int .u8),(.int .u8),(.int .u8),(.int .u8),(.int .u8),(.int .u8),(.int .u8),(.int .u8),(.int .u8),(.int .u8),(.int .u8),(.int .u8),(.int .u8),(.int .u8),(.int .u8),(.int .u8),(.int .u8),(.int .u8),(.int .u8),(.int .u8),(.int .u8),(.int .u8),(.int .u8),(.int .u8),(.int .u8),(.int .u8),(.int .u8),(.int .u8),(.int .u8),(.int .u8),(.int .u8),(.int .u8),(.int .u8),(.int .u8),(.int .u8),(.int .u8),(.int .u8),(.int .u8),(.int .u8),(.int .u8),(.int .u8),(.int .u8),(.int .u8),(.int .u8),(.int .u8),(.int .u8),(.int .u8),(.int .u8),(.int .u8),(.int .u8),(.int .u8),(.int .u8),(.int .u8),(.int .u8),(.int .u8),(.int .u8),(.int .u8),(.int .u8),(.int .u8),(.int .u8),(.int .u8),(.int .u8),(.int .u8),(.int .u8),(.int .u8),(.int .u8),(.int .u8),(.int .u8),(.int .u8),(.int .u8),(.int .u8),(.int .u8),(.int .u8),(.int .u8),(.int .u8),(.int .u8),(.int .u8),(.int .u8),(.int .u8),(.int .u8),(.int .u8),(.int .u8),(.int .u8),(.int .u8),(.int .u8),(.int .u8),(.int .u8),(.int .u8),(.int .u8),(.int .u8),(.int .u8),(.int .u8),(.int .u8),(.int .u8),(.int .u8),(.int .u8),(.int .u8),(.int .u8),(.int .u8),(.int .u8),(.int .u8),(.int .u8),(.int .u8),(.int .u8),(.int .u8),(.int .u8),(.int .u8),(.int .u8),(.int .u8),(.int .u8),(.int .u8),(.int .u8),(.int .u8),(.int .u8),(.int .u8),(.int .u8),(.int .u8),(.int .u8),(.int .u8),(.int .u8),(.int .u8),(.int .u8),(.int .u8),(.int .u8),(.int .u8),(.int .u8),(.int .u8),(.int .u8),(.int .u8),(.int .u8),(.int .u8),(.int .u8),(.int .u8),(.int .u8),(.int .u8),(.int .u8),(.int .u8),(.int .u8),(.int .u8),(.int .u8),(.int .u8),(.int .u8),(.int .u8),(.int .u8),(.int .u8),(.int .u8),(.int .u8),(.int .u8),(.int .u8),(.int .u8),(.int .u8),(.int .u8),(.int .u8),(.int .u8),(.int .u8),(.int .u8),(.int .u8),(.int .u8),(.int .u8),(.int .u8),(.int .u8),(.int .u8),(.int .u8),(.int .u8),(.int .u8),(.int .u8),(.int .u8),(.int .u8),(.int .u8),(.int .u8),(.int .u8),(.int .u8),(.int .u8),(.int .u8),(.int .u8),(.int .u8),(.int .u8),(.int .u8),(.int .u8),(.int .u8),(.int .u8),(.int .u8),(.int .u8),(.int .u8),(.int .u8),(.int .u8),(.int .u8),(.int .u8),(.int .u8),(.int .u8),(.int .u8),(.int .u8),(.int .u8),(.int .u8),(.int .u8),(.int .u8),(.int .u8),(.int .u8),(.int .u8),(.int .u8),(.int .u8),(.int .u8),(.int .u8),(.int .u8),(.int .u8),(.int .u8),(.int .u8),(.int .u8),(.int .u8),(.int .u8),(.int .u8),(.int .u8),(.int .u8),(.int .u8),(.int .u8),(.int .u8),(.int .u8)],[.int .u8 0,.int .u8 0,.int .u8 0,.int .u8 0,.int .u8 0,.int .u8 0,.int .u8 0,.int .u8 0,.int .u8 0,.int .u8 0,.int .u8 0,.int .u8 0,.int .u8 0,.int .u8 0,.int .u8 0,.int .u8 0,.int .u8 0,.int .u8 0,.int .u8 0,.int .u8 0,.int .u8 0,.int .u8 0,.int .u8 0,.int .u8 0,.int .u8 0,.int .u8 0,.int .u8 0,.int .u8 0,.int .u8 0,.int .u8 0,.int .u8 0,.int .u8 0,.int .u8 0,.int .u8 0,.int .u8 0,.int .u8 0,.int .u8 0,.int .u8 0,.int .u8 0,.int .u8 0,.int .u8 0,.int .u8 0,.int .u8 0,.int .u8 0,.int .u8 0,.int .u8 0,.int .u8 0,.int .u8 0,.int .u8 0,.int .u8 0,.int .u8 0,.int .u8 0,.int .u8 0,.int .u8 0,.int .u8 0,.int .u8 0,.int .u8 0,.int .u8 0,.int .u8 0,.int .u8 0,.int .u8 0,.int .u8 0,.int .u8 0,.int .u8 0,.int .u8 0,.int .u8 0,.int .u8 0,.int .u8 0,.int .u8 0,.int .u8 0,.int .u8 0,.int .u8 0,.int .u8 0,.int .u8 0,.int .u8 0,.int .u8 0,.int .u8 0,.int .u8 0,.int .u8 0,.int .u8 0,.int .u8 0,.int .u8 0,.int .u8 0,.int .u8 0,.int .u8 0,.int .u8 0,.int .u8 0,.int .u8 0,.int .u8 0,.int .u8 0,.int .u8 0,.int .u8 0,.int .u8 0,.int .u8 0,.int .u8 0,.int .u8 0,.int .u8 0,.int .u8 0,.int .u8 0,.int .u8 0,.int .u8 0,.int .u8 0,.int .u8 0,.int .u8 0,.int .u8 0,.int .u8 0,.int .u8 0,.int .u8 0,.int .u8 0,.int .u8 0,.int .u8 0,.int .u8 0,.int .u8 0,.int .u8 0,.int .u8 0,.int .u8 0,.int .u8 0,.int .u8 0,.int .u8 0,.int .u8 0,.int .u8 0,.int .u8 0,.int .u8 0,.int .u8 0,.int .u8 0,.int .u8 0,.int .u8 0,.int .u8 0,.int .u8 0,.int .u8 0,.int .u8 0,.int .u8 0,.int .u8 0,.int .u8 0,.int .u8 0,.int .u8 0,.int .u8 0,.int .u8 0,.int .u8 0,.int .u8 0,.int .u8 0,.int .u8 0,.int .u8 0,.int .u8 0,.int .u8 0,.int .u8 0,.int .u8 0,.int .u8 0,.int .u8 0,.int .u8 0,.int .u8 0,.int .u8 0,.int .u8 0,.int .u8 0,.int .u8 0,.int .u8 0,.int .u8 0,.int .u8 0,.int .u8 0,.int .u8 0,.int .u8 0,.int .u8 0,.int .u8 0,.int .u8 0,.int .u8 0,.int .u8 0,.int .u8 0,.int .u8 0,.int .u8 0,.int .u8 0,.int .u8 0,.int .u8 0,.int .u8 0,.int .u8 0,.int .u8 0,.int .u8 0,.int .u8 0,.int .u8 0,.int .u8 0,.int .u8 0,.int .u8 0,.int .u8 0,.int .u8 0,.int .u8 0,.int .u8 0,.int .u8 0,.int .u8 0,.int .u8 0,.int .u8 0,.int .u8 0,.int .u8 0,.int .u8 0,.int .u8 0,.int .u8 0,.int .u8 0,.int .u8 0,.int .u8 0,.int .u8 0,.int .u8 0,.int .u8 0,.int .u8 0,.int .u8 0,.int .u8 0,.int .u8 0,.int .u8 0,.int .u8 0,.int .u8 0,.int .u8 0,.int .u8 0,.int .u8 0,.int .u8 0,.int .u8 0,.int .u8 0,.int .u8 0,.int .u8 0,.int .u8 0,.int .u8 0,.int .u8 0,.int .u8 0,.int .u8 0,.int .u8 0,.int .u8 0,.int .u8 0,.int .u8 0,.int .u8 0,.int .u8 0,.int .u8 0,.int .u8 0,.int .u8 0,.int .u8 0,.int .u8 0,.int .u8 0,.int .u8 0,.int .u8 0,.int .u8 0,.int .u8 0,.int .u8 0,.int .u8 0,.int .u8 0,.int .u8 0,.int .u8 0,.int .u8 0,.int .u8 0,.int .u8 0,.int .u8 0,.int .u8 0,.int .u8 0,.int .u8 0,.int .u8 0,.int .u8 0,.int .u8 0,.int .u8 0,.int .u8 0,.int .u8 0,.int .u8 0,.int .u8 0],283⟩,
 Option.some ⟨.struct [(5,0),(5,1)],2,2,true,[(.int .u8),(.int .u8)],[.int .u8 0,.int .u8 0],284⟩,
 Option.some ⟨.struct [(5,0),(5,1)],2,2,true,[(.int .u8),(.int .u8)],[.int .u8 0,.int .u8 0],285⟩,
 Option.some ⟨.arr 16 285,32,32,true,[(.int .u8),(.int .u8),(.int .u8),(.int .u8),(.int .u8),(.int .u8),(.int .u8),(.int .u8),(.int .u8),(.int .u8),(.int .u8),(.int .u8),(.int .u8),(.int .u8),(.int .u8),(.int .u8),(.int .u8),(.int .u8),(.int .u8),(.int .u8),(.int .u8),(.int .u8),(.int .u8),(.int .u8),(.int .u8),(.int .u8),(.int .u8),(.int .u8),(.int .u8),(.int .u8),(.int .u8),(.int .u8)],[.int .u8 0,.int .u8 0,.int .u8 0,.int .u8 0,.int .u8 0,.int .u8 0,.int .u8 0,.int .u8 0,.int .u8 0,.int .u8 0,.int .u8 0,.int .u8 0,.int .u8 0,.int .u8 0,.int .u8 0,.int .u8 0,.int .u8 0,.int .u8 0,.int .u8 0,.int .u8 0,.int .u8 0,.int .u8 0,.int .u8 0,.int .u8 0,.int .u8 0,.int .u8 0,.int .u8 0,.int .u8 0,.int .u8 0,.int .u8 0,.int .u8 0,.int .u8 0],286⟩,
 Option.some ⟨.other,1,8,false,[.any],[.nilFunc],287⟩,
 Option.some ⟨.other,1,8,false,[.any],[.nilFunc],288⟩,
 Option.some ⟨.other,1,8,false,[.any],[.nilFunc],289⟩,
 Option.some ⟨.ptr 292,1,8,false,[.any],[.pointer none],290⟩,
 Option.some ⟨.struct [(9,0)],1,16,true,[.str],[.string ⟨#[]⟩],291⟩,
 Option.some ⟨.struct [(9,0)],1,16,true,[.str],[.string ⟨#[]⟩],292⟩,
 Option.some ⟨.arr 32 5,32,32,true,[(.int .u8),(.int .u8),(.int .u8),(.int .u8),(.int .u8),(.int .u8),(.int .u8),(.int .u8),(.int .u8),(.int .u8),(.int .u8),(.int .u8),(.int .u8),(.int .u8),(.int .u8),(.int .u8),(.int .u8),(.int .u8),(.int .u8),(.int .u8),(.int .u8),(.int .u8),(.int .u8),(.int .u8),(.int .u8),(.int .u8),(.int .u8),(.int .u8),(.int .u8),(.int .u8),(.int .u8),(.int .u8)],[.int .u8 0,.int .u8 0,.int .u8 0,.int .u8 0,.int .u8 0,.int .u8 0,.int .u8 0,.int .u8 0,.int .u8 0,.int .u8 0,.int .u8 0,.int .u8 0,.int .u8 0,.int .u8 0,.int .u8 0,.int .u8 0,.int .u8 0,.int .u8 0,.int .u8 0,.int .u8 0,.int .u8 0,.int .u8 0,.int .u8 0,.int .u8 0,.int .u8 0,.int .u8 0,.int .u8 0,.int .u8 0,.int .u8 0,.int .u8 0,.int .u8 0,.int .u8 0],293⟩,
 Option.some ⟨.arr 64 5,64,64,true,[(.int .u8),(.int .u8),(.int .u8),(.int .u8),(.int .u8),(.int .u8),(.int .u8),(.int .u8),(.int .u8),(.int .u8),(.int .u8),(.int .u8),(.int .u8),(.int .u8),(.int .u8),(.int .u8),(.int .u8),(.int .u8),(.int .u8),(.int .u8),(.int .u8),(.int .u8),(.int .u8),(.int .u8),(.int .u8),(.int .u8),(.int .u8),(.int .u8),(.int .u8),(.int .u8),(.int .u8),(.int .u8),(.int .u8),(.int .u8),(.int .u8),(.int .u8),(.int .u8),(.int .u8),(.int .u8),(.int .u8),(.int .u8),(.int .u8),(.int .u8),(.int .u8),(.int .u8),(.int .u8),(.int .u8),(.int .u8),(.int .u8),(.int .u8),(.int .u8),(.int .u8),(.int .u8),(.int .u8),(.int .u8),(.int .u8),(.int .u8),(.int .u8),(.int .u8),(.int .u8),(.int .u8),(.int .u8),(.int .u8),(.int .u8)],[.int .u8 0,.int .u8 0,.int .u8 0,.int .u8 0,.int .u8 0,.int .u8 0,.int .u8 0,.int .u8 0,.int .u8 0,.int .u8 0,.int .u8 0,.int .u8 0,.int .u8 0,.int .u8 0,.int .u8 0,.int .u8 0,.int .u8 0,.int .u8 0,.int .u8 0,.int .u8 0,.int .u8 0,.int .u8 0,.int .u8 0,.int .u8 0,.int .u8 0,.int .u8 0,.int .u8 0,.int .u8 0,.int .u8 0,.int .u8 0,.int .u8 0,.int .u8 0,.int .u8 0,.int .u8 0,.int .u8 0,.int .u8 0,.int .u8 0,.int .u8 0,.int .u8 0,.int .u8 0,.int .u8 0,.int .u8 0,.int .u8 0,.int .u8 0,.int .u8 0,.int .u8 0,.int .u8 0,.int .u8 0,.int .u8 0,.int .u8 0,.int .u8 0,.int .u8 0,.int .u8 0,.int .u8 0,.int .u8 0,.int .u8 0,.int .u8 0,.int .u8 0,.int .u8 0,.int .u8 0,.int .u8 0,.int .u8 0,.int .u8 0,.int .u8 0],294⟩,
 Option.some ⟨.other,1,8,false,[.any],[.nilFunc],295⟩,
 Option.some ⟨.other,1,8,false,[.any],[.nilFunc],296⟩,
 none,
 none,
 Option.some ⟨.arr 0 16,0,0,true,[],[],299⟩,
 none,
 none,
 none,
 none,
 Option.some ⟨.other,1,8,false,[.any],[.nilFunc],304⟩,
 none,
 none,
 none,
 none]
def params (f:FuncId):List TypeId:=match f with | 0=>[] | 1=>[] | 2=>[] | 3=>[26] | 4=>[26] | 5=>[9] | 6=>[26,9] | 7=>[26,9,3] | 8=>[26] | 9=>[26] | 10=>[26,3] | 11=>[26] | 12=>[] | 13=>[26] | 14=>[26] | 15=>[26] | 16=>[26] | 17=>[26] | 18=>[26] | 19=>[26] | 20=>[9] | 21=>[9] | 22=>[26,26] | 23=>[26] | 24=>[26,9] | 25=>[26,3] | 26=>[26,9] | 27=>[3,3,3] | 28=>[50,50] | 29=>[26,3] | 30=>[26] | 31=>[26] | 32=>[26] | 33=>[62,62] | 34=>[26] | 35=>[70] | 36=>[26,3] | 37=>[26] | 38=>[60,60] | 39=>[26] | 40=>[26,3] | 41=>[] | 42=>[] | 43=>[130] | 44=>[4,31] | 45=>[26,3] | 46=>[22] | 47=>[26,86] | 48=>[26,82] | 49=>[50] | 50=>[26,3] | 51=>[26,86] | 52=>[26] | 53=>[74] | 54=>[3,97] | 55=>[82] | 56=>[97,9] | 57=>[74] | 58=>[] | 59=>[3] | 60=>[9,9] | 61=>[9,9] | 62=>[9] | 63=>[104] | 64=>[9] | 65=>[3] | 66=>[22,9] | 67=>[3,3,3] | 68=>[50,3] | 69=>[50,3] | 70=>[3] | 71=>[70,72] | 72=>[62,3,9] | 73=>[5,3] | 74=>[9,3,9] | 75=>[70,72] | 76=>[4] | 77=>[26,3] | 78=>[9] | 79=>[74] | 80=>[74] | 81=>[70] | 82=>[70,72] | 83=>[74,22] | 84=>[50,3] | 85=>[74] | 86=>[74,74,3] | 87=>[9] | 88=>[74] | 89=>[3] | 90=>[70] | 91=>[70,72] | 92=>[3] | 93=>[3] | 94=>[74] | 95=>[70] | 96=>[70,72] | 97=>[3] | 98=>[145,3] | 99=>[145,9] | 100=>[145] | 101=>[70] | 102=>[70,72] | 103=>[9,9] | 104=>[9,9] | 105=>[9,9] | 106=>[9] | 107=>[9,9] | 108=>[9] | 109=>[97,9] | 110=>[97,46] | 111=>[9] | 112=>[9] | 113=>[163,9] | 114=>[163,9] | 115=>[163,9] | 116=>[97,9] | 117=>[163,9] | 118=>[22,132] | 119=>[74] | 120=>[50,3] | 121=>[3,3,3] | 122=>[9,3] | 123=>[70,72] | 124=>[62,3,3] | 125=>[62,3,9] | 126=>[3,3] | 127=>[3,3] | 128=>[3] | 129=>[50] | 130=>[50] | 131=>[3,3,3] | 132=>[130] | 133=>[4,31] | 134=>[3] | 135=>[176,176] | 136=>[70] | 137=>[74] | 138=>[5] | 139=>[5] | 140=>[3] | 141=>[70] | 142=>[183] | 143=>[9] | 144=>[9,9,9] | 145=>[3] | 146=>[145] | 147=>[145,3] | 148=>[183] | 149=>[9] | 150=>[9] | 151=>[9,9] | 152=>[9,9] | 153=>[9] | 154=>[9,9] | 155=>[70,9] | 156=>[9,9,3,3] | 157=>[9] | 158=>[97,46] | 159=>[163] | 160=>[163,70] | 161=>[9] | 162=>[145] | 163=>[3,3] | 164=>[146] | 165=>[70] | 166=>[62] | 167=>[60] | 168=>[50,3,3,3] | 169=>[176] | 170=>[203,203] | 171=>[206,206] | 172=>[3] | 173=>[183] | 174=>[146,180] | 175=>[5] | 176=>[9,9,9,3] | 177=>[2,3] | 179=>[3] | 180=>[9,5] | 181=>[9,9] | 182=>[3] | 183=>[9,9] | 184=>[9,9] | 185=>[9] | 186=>[9,9] | 187=>[9] | 188=>[9,3] | 189=>[9,9] | 190=>[9,9] | 191=>[9] | 192=>[9,9,3,3,151] | 193=>[9] | 194=>[9] | 195=>[9] | 196=>[50,3,3] | 197=>[50,3,3] | 198=>[50,3,3] | 199=>[50,3,3] | 200=>[50,3,3] | 201=>[50,3,3] | 202=>[3,3] | 203=>[50,3,3,3] | 204=>[50,3,3,3] | 205=>[203] | 206=>[206] | 207=>[146,180] | 208=>[9] | 209=>[3] | 210=>[206] | 211=>[146,206] | 212=>[146,206,3,4,4] | 213=>[9,5] | 214=>[9] | 215=>[9,9] | 216=>[9] | 217=>[9,9] | 218=>[9,9] | 219=>[9,5] | 220=>[9] | 221=>[9,5] | 222=>[9,3,3] | 223=>[9,9] | 224=>[9,9] | 225=>[9,9,3] | 226=>[9,9,3] | 227=>[9] | 228=>[229] | 229=>[50,3,3,3] | 230=>[3] | 231=>[280] | 232=>[50,3,263] | 233=>[50,3,3,3,263] | 234=>[3] | 235=>[9] | 236=>[3] | 237=>[4] | 238=>[3] | 239=>[176] | 240=>[9,3] | 241=>[9,5] | 242=>[9] | 243=>[9,274] | 244=>[9,9] | 245=>[9,3,3] | 246=>[9] | 247=>[9] | 248=>[50,3,3,263] | 249=>[203] | 250=>[206] | 251=>[9,3] | 252=>[274,5] | 253=>[9,21] | 254=>[5] | 255=>[9] | 256=>[9,21] | 257=>[21] | 258=>[8] | 259=>[8] | 260=>[10] | 261=>[10] | 262=>[11] | 263=>[11] | 264=>[14] | 265=>[14] | 266=>[15] | 267=>[15] | 268=>[16] | 269=>[16] | 270=>[17] | 271=>[19] | 272=>[19] | 273=>[145] | 274=>[252] | 275=>[255] | 276=>[290] | 277=>[303] | 278=>[] | 279=>[] | 280=>[] | 281=>[] | 282=>[] | 283=>[] | 284=>[] | 285=>[] | 286=>[] | 287=>[] | 288=>[] | 289=>[] | 290=>[] | 291=>[] | 292=>[] | _=>[]
def gr0:List AV:=[vi 0,vi 4]
def gr1:List AV:=[vi 2,vi 3]
def gr2:List AV:=[vi 2,vi 3,vi 3]
def gr3:List AV:=[vi 2,vi 3,vi 3]
def gr4:List AV:=[vi 2,vi 3,vi 3]
def gr5:List AV:=[vi 2,vi 3,vi 3]
def gr6:List AV:=[vi 2,vi 3,vi 3]
def gr7:List AV:=[vi 1,vi 4,vi 6]
def gr8:List AV:=[vi 1,vi 4,vi 6]
def gr9:List AV:=[vi 6]
def gr10:List AV:=[vi 5,vi 0]
def gr11:List AV:=[vi 5,vi 5]
def gr12:List AV:=[vi 5,vi 3]
def gr13:List AV:=[vi 6]
def gr14:List AV:=[]
def gr15:List AV:=[vi 3]
def gr16:List AV:=[vi 2]
def gr17:List AV:=[vi 1]
def gr18:List AV:=[]
def gr19:List AV:=[vs (⟨#[67,72,65,82]⟩ : ByteArray),vs (⟨#[80,65,67,75,69,68]⟩ : ByteArray),vs (⟨#[90,79,78,69,68]⟩ : ByteArray),vs (⟨#[66,73,78,65,82,89]⟩ : ByteArray)]
def glist:List (Nat × List AV):=[(0,[.sl ⟨true,3,false⟩ 1 gr0,.sl ⟨true,3,false⟩ 1 gr1,.sl ⟨true,3,false⟩ 1 gr2,.sl ⟨true,3,false⟩ 1 gr3,.sl ⟨true,3,false⟩ 1 gr4,.sl ⟨true,3,false⟩ 1 gr5,.sl ⟨true,3,false⟩ 1 gr6,.sl ⟨true,3,false⟩ 1 gr7,.sl ⟨true,3,false⟩ 1 gr8,.sl ⟨true,3,false⟩ 1 gr9,.sl ⟨true,3,false⟩ 1 gr10,.sl ⟨true,3,false⟩ 1 gr11,.sl ⟨true,3,false⟩ 1 gr12,.sl ⟨true,3,false⟩ 1 gr13,.sl ⟨true,3,false⟩ 1 gr14,.sl ⟨true,3,false⟩ 1 gr15,.sl ⟨true,3,false⟩ 1 gr16,.sl ⟨true,3,false⟩ 1 gr17,.sl ⟨true,3,false⟩ 1 gr18]),(1,[vs (⟨#[77,79,86,69]⟩ : ByteArray),vs (⟨#[77,79,86,69,72]⟩ : ByteArray),vs (⟨#[65,68,68]⟩ : ByteArray),vs (⟨#[83,85,66]⟩ : ByteArray),vs (⟨#[77,85,76]⟩ : ByteArray),vs (⟨#[68,73,86]⟩ : ByteArray),vs (⟨#[82,69,77]⟩ : ByteArray),vs (⟨#[73,70,69,81]⟩ : ByteArray),vs (⟨#[73,70,76,84]⟩ : ByteArray),vs (⟨#[71,79,84,79]⟩ : ByteArray),vs (⟨#[65,68,68,82]⟩ : ByteArray),vs (⟨#[77,79,86,69,80]⟩ : ByteArray),vs (⟨#[65,68,86,65,78,67,69]⟩ : ByteArray),vs (⟨#[67,65,76,76]⟩ : ByteArray),vs (⟨#[82,69,84,85,82,78]⟩ : ByteArray),vs (⟨#[83,73,71,78,65,76]⟩ : ByteArray),vs (⟨#[69,88,67,69,80,84,73,79,78]⟩ : ByteArray),vs (⟨#[80,82,73,78,84]⟩ : ByteArray),vs (⟨#[69,78,68]⟩ : ByteArray)]),(2,[.sl ⟨true,9,false⟩ 1 gr19])]
def rowsF (f:FuncId):Bool:=Nat.beq f 54||Nat.beq f 56
def refsF (f:FuncId):Bool:=Nat.beq f 129||Nat.beq f 130
def G:Cfg:=⟨fun t=>(tabL[t]?).join,globL glist,params,0,rowsF,refsF⟩
abbrev Gk (k:Nat):Cfg:={ G with kb:=k }
theorem mixed:Tryz.prog.follows .mixedOrders=true:=by kernel_rfl
instance rooted : Rooted Tryz.prog := gents Tryz.prog ["strconv.ErrSyntax", "strconv.ErrRange"] [("internal/strconv.uint64pow10", .u64, Lib.pow10Tab)] glist
theorem globs (R0:World) (hQ:Rooted.Q Tryz.prog R0):Globs G R0:=by
 have h:Sents Tryz.prog _ R0∧Tabs Tryz.prog _ R0∧GlobsL glist R0:=hQ
 exact h.2.2.globs rfl
theorem tabL_len:tabL.length=309:=by kernel_rfl
theorem tabG:G.tab=fun t=>(tabL[t]?).join:=rfl
theorem cfg:CfgOk Tryz.prog G:=by
 refine cfgOk_of (n:=309) (fun t ht=>?_) (by kernel_rfl)
 have h:tabL[t]?=none:=List.getElem?_eq_none (by rw [tabL_len]; exact ht)
 rw [tabG]
 simp only [h]
 rfl
end Go.Proofs.YtnoldakbllfmnaaGreatDoor.Ev
namespace Go.Proofs.YtnoldakbllfmnaaGreatDoor.Ev
open Go Go.Proofs Go.Proofs.Ev
set_option linter.unusedVariables false
set_option maxRecDepth 100000
abbrev Q2i.A:=List AV
abbrev Q2i.T:=Int
def Q2i.i:Q2i.A→List AV:=fun a0=>[.sl ⟨true,31,false⟩ 1 a0]
def Q2i.o (xs:List AV):Option Q2i.A:=match xs with | [.sl ⟨true,31,false⟩ 1 a0]=>some a0 | _=>none
theorem Q2i.oi:∀ xs a,Q2i.o xs=some a→xs=Q2i.i a:=by
 intro xs a h
 unfold Q2i.o at h
 split at h
 ·cases h; rfl
 ·cases h
def Q2i.p (p:Q2i.T):AV:=vi p
def Q2i.q (x:AV):Option Q2i.T:=match x with | .v (.int .i64 p0)=>some p0 | _=>none
theorem Q2i.qi:∀ x p,Q2i.q x=some p→x=Q2i.p p:=by
 intro x p h
 unfold Q2i.q at h
 split at h
 ·cases h; rfl
 ·cases h
inductive Q2i.Z where
 | z2 (z1:List AV) (z2 z3:Int)
def Q2i.C {R:Type} (n:Nat) (f:FuncId) (xs:List AV):(AV→Option R)→Option R:=
 fun _=>none
theorem Q2i.tells {R:Type} (n:Nat):Tells (R:=R) Tryz.prog (Q2i.C n):=fun _ xs=>Tells1.none
def Q2i.cut (r:Nat):Option Keep:=match r with | 2=>some ⟨[5,6,7],[]⟩ | _=>none
def Q2i.t (z:Q2i.Z):List Item:=(todoOf (match z with | .z2 _ _ _=>2) 1000 [.code (Tryz.f43.body.getD .skip)]).getD []
def Q2i.s:Q2i.Z→St
 | .z2 z1 z2 z3=>⟨spr 15 0 [(5,.sl ⟨true,31,false⟩ 1 z1),(6,vi z2),(7,vi z3)],Mem.ofList [],0⟩
def Q2i.r2 (n:Nat) (c:Q2i.Z→Option Int) (z1:List AV) (z2 z3:Int):Option Int:=
 bif decide (z3 < z2) then (bif decide ((0:Int)≤z3)&&decide (z3 < ((z1.length:Nat):Int)) then (withCons ((z1.getD ((z3).toNat) .undef).cells) fun h1 r2=>
 withInt .i64 h1 fun x3=>
 bif x3 != 0 then (some x3) else (c (.z2 z1 z2 (IntKind.i64.wrap (z3+1))))) else none) else (some 0)
def Q2i.r (n:Nat) (c:Q2i.Z→Option Int):Q2i.Z→Option Int
 | .z2 z1 z2 z3=>Q2i.r2 n c z1 z2 z3
def Q2i.e (n:Nat) (c:Q2i.Z→Option Int) (a0:List AV):Option Int:=
 c (.z2 a0 ((a0.length:Nat):Int) 0)
def Q2i.E (n:Nat) (c:Q2i.Z→Option Int):Q2i.A→Option Q2i.T:=fun a0=>Q2i.e n c a0
def Q2i.l (n:Nat):Nat→Q2i.Z→Option Int:=loopL (Q2i.r n)
def Q2i.F (n:Nat) (a0:List AV):Option Int:=Q2i.e n (Q2i.l n n) a0
def Q2i.FA (n:Nat):Q2i.A→Option Q2i.T:=Q2i.E n (Q2i.l n n)
theorem Q2i.hands (n:Nat):∀ a p,Q2i.FA n a=some p→HandsIn Tryz.prog 43 (Q2i.i a) (Q2i.p p):=
 pf_hands (C:=Q2i.C n) (cut:=Q2i.cut) (t:=Q2i.t) (s:=Q2i.s) (e:=Q2i.E n) (r:=Q2i.r n) (n:=n) cfg mixed globs rfl Q2i.qi (Q2i.tells n) Tryz.func43 (by kernel_rfl) (by kernel_rfl) (fun rec a=>by kernel_rfl) (fun rec z=>by cases z <;> kernel_rfl)
def Q2i.via {R:Type} (n:Nat):List AV→(AV→Option R)→Option R:=viaK (Q2i.FA n) Q2i.o Q2i.p
theorem Q2i.tells1 {R:Type} (n:Nat) (xs:List AV):Tells1 (R:=R) Tryz.prog 43 xs (Q2i.via n xs):=tells_via Q2i.oi (fun a=>by kernel_rfl) (Q2i.hands n) xs
end Go.Proofs.YtnoldakbllfmnaaGreatDoor.Ev
namespace Go.Proofs.YtnoldakbllfmnaaGreatDoor.Ev
open Go Go.Proofs Go.Proofs.Ev
set_option linter.unusedVariables false
set_option maxRecDepth 100000
abbrev Q2g.A:=Bool × Int
abbrev Q2g.T:=Int
def Q2g.i:Q2g.A→List AV:=fun (a0,a1)=>[vb a0,vi a1]
def Q2g.o (xs:List AV):Option Q2g.A:=match xs with | [.v (.bool a0),.v (.int .i64 a1)]=>some (a0,a1) | _=>none
theorem Q2g.oi:∀ xs a,Q2g.o xs=some a→xs=Q2g.i a:=by
 intro xs a h
 unfold Q2g.o at h
 split at h
 ·cases h; rfl
 ·cases h
def Q2g.p (p:Q2g.T):AV:=vi p
def Q2g.q (x:AV):Option Q2g.T:=match x with | .v (.int .i64 p0)=>some p0 | _=>none
theorem Q2g.qi:∀ x p,Q2g.q x=some p→x=Q2g.p p:=by
 intro x p h
 unfold Q2g.q at h
 split at h
 ·cases h; rfl
 ·cases h
def Q2g.C {R:Type} (n:Nat) (f:FuncId) (xs:List AV):(AV→Option R)→Option R:=
 fun _=>none
theorem Q2g.tells {R:Type} (n:Nat):Tells (R:=R) Tryz.prog (Q2g.C n):=fun _ xs=>Tells1.none
def Q2g.cut (r:Nat):Option Keep:=match r with  | _=>none
def Q2g.e (n:Nat) (a0:Bool) (a1:Int):Option Int:=
 bif a0 then (some a1) else (some 0)
def Q2g.E (n:Nat):Q2g.A→Option Q2g.T:=fun (a0,a1)=>Q2g.e n a0 a1
def Q2g.F (n:Nat) (a0:Bool) (a1:Int):Option Int:=Q2g.e n a0 a1
def Q2g.FA (n:Nat):Q2g.A→Option Q2g.T:=Q2g.E n
theorem Q2g.hands (n:Nat):∀ a p,Q2g.FA n a=some p→HandsIn Tryz.prog 44 (Q2g.i a) (Q2g.p p):=
 pf_hands (C:=Q2g.C n) (cut:=Q2g.cut) (Z:=Empty) (t:=nofun) (s:=nofun) (e:=fun _=>Q2g.E n) (r:=fun _ z=>nomatch z) (n:=n) cfg mixed globs rfl Q2g.qi (Q2g.tells n) Tryz.func44 (by kernel_rfl) (by kernel_rfl) (fun rec a=>by kernel_rfl) (fun rec z=>nomatch z)
def Q2g.via {R:Type} (n:Nat):List AV→(AV→Option R)→Option R:=viaK (Q2g.FA n) Q2g.o Q2g.p
theorem Q2g.tells1 {R:Type} (n:Nat) (xs:List AV):Tells1 (R:=R) Tryz.prog 44 xs (Q2g.via n xs):=tells_via Q2g.oi (fun a=>by kernel_rfl) (Q2g.hands n) xs
end Go.Proofs.YtnoldakbllfmnaaGreatDoor.Ev
namespace Go.Proofs.YtnoldakbllfmnaaGreatDoor.Ev
open Go Go.Proofs Go.Proofs.Ev
set_option linter.unusedVariables false
set_option maxRecDepth 100000
abbrev Q2x.A:=ByteArray × Int × Int × Int × Int × Int × ByteArray × ByteArray × Int × Int × ByteArray
abbrev Q2x.T:=Bool × ByteArray
def Q2x.i:Q2x.A→List AV:=fun (a0,a1,a2,a3,a4,a5,a6,a7,a8,a9,a10)=>[AV.agg [vs a0,vi a1,vi a2,vi a3,vi a4,vi a5,vs a6,vs a7,vi a8,vi a9],.ptr 0 0]
def Q2x.b:Q2x.A→List AV:=fun (a0,a1,a2,a3,a4,a5,a6,a7,a8,a9,a10)=>[.fn 9 [vs a10]]
def Q2x.o (xs:List AV):Option Q2x.A:=match xs with | [.agg [.v (.string a0),.v (.int .i64 a1),.v (.int .i64 a2),.v (.int .i64 a3),.v (.int .i64 a4),.v (.int .i64 a5),.v (.string a6),.v (.string a7),.v (.int .i64 a8),.v (.int .i64 a9)],.ptr 0 0,.tup [.fn 9 [.v (.string a10)]]]=>some (a0,a1,a2,a3,a4,a5,a6,a7,a8,a9,a10) | _=>none
theorem Q2x.oi:∀ xs a,Q2x.o xs=some a→xs=Q2x.i a++[.tup (Q2x.b a)]:=by
 intro xs a h
 unfold Q2x.o at h
 split at h
 ·cases h; rfl
 ·cases h
def Q2x.y (p:Q2x.T):AV:=vb p.1
def Q2x.w (p:Q2x.T):List AV:=[.fn 9 [vs p.2]]
def Q2x.p (p:Q2x.T):AV:=.tup [Q2x.y p,.tup (Q2x.w p)]
def Q2x.q (x:AV):Option Q2x.T:=match x with | .tup [.v (.bool p0),.tup [.fn 9 [.v (.string p1)]]]=>some (p0,p1) | _=>none
theorem Q2x.qi:∀ x p,Q2x.q x=some p→x=Q2x.p p:=by
 intro x p h
 unfold Q2x.q at h
 split at h
 ·cases h; rfl
 ·cases h
def Q2x.C {R:Type} (n:Nat) (f:FuncId) (xs:List AV):(AV→Option R)→Option R:=
 fun _=>none
theorem Q2x.tells {R:Type} (n:Nat):Tells (R:=R) Tryz.prog (Q2x.C n):=fun _ xs=>Tells1.none
def Q2x.cut (r:Nat):Option Keep:=match r with  | _=>none
def Q2x.e (n:Nat) (a0:ByteArray) (a1 a2 a3 a4 a5:Int) (a6 a7:ByteArray) (a8 a9:Int) (a10:ByteArray):Option (Bool × ByteArray):=
 some (a0.toList==a10.toList,a10)
def Q2x.E (n:Nat):Q2x.A→Option Q2x.T:=fun (a0,a1,a2,a3,a4,a5,a6,a7,a8,a9,a10)=>Q2x.e n a0 a1 a2 a3 a4 a5 a6 a7 a8 a9 a10
def Q2x.F (n:Nat) (a0:ByteArray) (a1 a2 a3 a4 a5:Int) (a6 a7:ByteArray) (a8 a9:Int) (a10:ByteArray):Option (Bool × ByteArray):=Q2x.e n a0 a1 a2 a3 a4 a5 a6 a7 a8 a9 a10
def Q2x.FA (n:Nat):Q2x.A→Option Q2x.T:=Q2x.E n
def Q2x.nils:List (Nat × Nat × Fl × Nat):=[]
theorem Q2x.hands (n:Nat):∀ a p,Q2x.FA n a=some p→HandsMIn Tryz.prog 119 (Q2x.i a) (Q2x.b a) (Q2x.y p) (Q2x.w p):=
 pfM_hands (G:=Gk 1) (C:=Q2x.C n) (cut:=Q2x.cut) (Z:=Empty) (t:=nofun) (s:=nofun) (nils:=Q2x.nils) (e:=fun _=>Q2x.E n) (r:=fun _ z=>nomatch z) (n:=n) (cfg.kb 1) mixed globs Q2x.qi (fun a=>by kernel_rfl) (Q2x.tells n) Tryz.func119 (by kernel_rfl) (by kernel_rfl) (fun rec a=>by kernel_rfl) (fun rec z=>nomatch z)
def Q2x.via {R:Type} (n:Nat):List AV→(AV→Option R)→Option R:=viaK (Q2x.FA n) Q2x.o Q2x.p
theorem Q2x.tells1 {R:Type} (n:Nat) (xs:List AV):Tells1 (R:=R) Tryz.prog 119 xs (Q2x.via n xs):=tells_viaM (fun _=>rfl) Q2x.oi (Q2x.hands n) xs
end Go.Proofs.YtnoldakbllfmnaaGreatDoor.Ev
namespace Go.Proofs.YtnoldakbllfmnaaGreatDoor.Ev
open Go Go.Proofs Go.Proofs.Ev
set_option linter.unusedVariables false
set_option maxRecDepth 100000
abbrev Q00.A:=List AV × ByteArray
abbrev Q00.T:=Int × ByteArray
def Q00.i:Q00.A→List AV:=fun (a0,a1)=>[.sl ⟨true,74,false⟩ 10 a0,.fn 119 [.ptr 0 0]]
def Q00.b:Q00.A→List AV:=fun (a0,a1)=>[.fn 9 [vs a1]]
def Q00.o (xs:List AV):Option Q00.A:=match xs with | [.sl ⟨true,74,false⟩ 10 a0,.fn 119 [.ptr 0 0],.tup [.fn 9 [.v (.string a1)]]]=>some (a0,a1) | _=>none
theorem Q00.oi:∀ xs a,Q00.o xs=some a→xs=Q00.i a++[.tup (Q00.b a)]:=by
 intro xs a h
 unfold Q00.o at h
 split at h
 ·cases h; rfl
 ·cases h
def Q00.y (p:Q00.T):AV:=vi p.1
def Q00.w (p:Q00.T):List AV:=[.fn 9 [vs p.2]]
def Q00.p (p:Q00.T):AV:=.tup [Q00.y p,.tup (Q00.w p)]
def Q00.q (x:AV):Option Q00.T:=match x with | .tup [.v (.int .i64 p0),.tup [.fn 9 [.v (.string p1)]]]=>some (p0,p1) | _=>none
theorem Q00.qi:∀ x p,Q00.q x=some p→x=Q00.p p:=by
 intro x p h
 unfold Q00.q at h
 split at h
 ·cases h; rfl
 ·cases h
inductive Q00.Z where
 | z2 (z1:List AV) (z2 z3:Int) (z4:ByteArray)
def Q00.C {R:Type} (n:Nat) (f:FuncId) (xs:List AV):(AV→Option R)→Option R:=
 bif Nat.beq f 119 then Q2x.via n xs else fun _=>none
theorem Q00.tells {R:Type} (n:Nat):Tells (R:=R) Tryz.prog (Q00.C n):=fun _ xs=>tells_at (Q2x.tells1 n xs) (Tells1.none)
def Q00.cut (r:Nat):Option Keep:=match r with | 2=>some ⟨[0,1,7,8],[]⟩ | _=>none
def Q00.t (z:Q00.Z):List Item:=(todoOf (match z with | .z2 _ _ _ _=>2) 1000 [.code (Tryz.f118.body.getD .skip)]).getD []
def Q00.s:Q00.Z→St
 | .z2 z1 z2 z3 z4=>⟨spr 19 0 [(0,.sl ⟨true,74,false⟩ 10 z1),(1,.fn 119 [.ptr 0 0]),(7,vi z2),(8,vi z3)],Mem.ofList [.box 9 [vs z4]],1⟩
def Q00.r2 (n:Nat) (c:Q00.Z→Option (Int × ByteArray)) (z1:List AV) (z2 z3:Int) (z4:ByteArray):Option (Int × ByteArray):=
 bif decide (z3 < z2) then (bif decide ((0:Int)≤z3)&&decide (z3 < ((z1.length:Nat):Int)) then (withCons ((z1.getD ((z3).toNat) .undef).cells) fun h1 r2=>
 withStr h1 fun s3=>
 withCons r2 fun h4 r5=>
 withInt .i64 h4 fun x6=>
 withCons r5 fun h7 r8=>
 withInt .i64 h7 fun x9=>
 withCons r8 fun h10 r11=>
 withInt .i64 h10 fun x12=>
 withCons r11 fun h13 r14=>
 withInt .i64 h13 fun x15=>
 withCons r14 fun h16 r17=>
 withInt .i64 h16 fun x18=>
 withCons r17 fun h19 r20=>
 withStr h19 fun s21=>
 withCons r20 fun h22 r23=>
 withStr h22 fun s24=>
 withCons r23 fun h25 r26=>
 withInt .i64 h25 fun x27=>
 withCons r26 fun h28 r29=>
 withInt .i64 h28 fun x30=>
 (Q2x.F n s3 x6 x9 x12 x15 x18 s21 s24 x27 x30 z4).bind fun p31=>
 bif p31.1 then (some (z3,p31.2)) else (c (.z2 z1 z2 (IntKind.i64.wrap (z3+1)) p31.2))) else none) else (some ((-1),z4))
def Q00.r (n:Nat) (c:Q00.Z→Option (Int × ByteArray)):Q00.Z→Option (Int × ByteArray)
 | .z2 z1 z2 z3 z4=>Q00.r2 n c z1 z2 z3 z4
def Q00.e (n:Nat) (c:Q00.Z→Option (Int × ByteArray)) (a0:List AV) (a1:ByteArray):Option (Int × ByteArray):=
 c (.z2 a0 ((a0.length:Nat):Int) 0 a1)
def Q00.E (n:Nat) (c:Q00.Z→Option (Int × ByteArray)):Q00.A→Option Q00.T:=fun (a0,a1)=>Q00.e n c a0 a1
def Q00.l (n:Nat):Nat→Q00.Z→Option (Int × ByteArray):=loopL (Q00.r n)
def Q00.F (n:Nat) (a0:List AV) (a1:ByteArray):Option (Int × ByteArray):=Q00.e n (Q00.l n n) a0 a1
def Q00.FA (n:Nat):Q00.A→Option Q00.T:=Q00.E n (Q00.l n n)
def Q00.nils:List (Nat × Nat × Fl × Nat):=[]
theorem Q00.hands (n:Nat):∀ a p,Q00.FA n a=some p→HandsMIn Tryz.prog 118 (Q00.i a) (Q00.b a) (Q00.y p) (Q00.w p):=
 pfM_hands (G:=Gk 1) (C:=Q00.C n) (cut:=Q00.cut) (t:=Q00.t) (s:=Q00.s) (nils:=Q00.nils) (e:=Q00.E n) (r:=Q00.r n) (n:=n) (cfg.kb 1) mixed globs Q00.qi (fun a=>by kernel_rfl) (Q00.tells n) Tryz.func118 (by kernel_rfl) (by kernel_rfl) (fun rec a=>by kernel_rfl) (fun rec z=>by cases z <;> kernel_rfl)
def Q00.via {R:Type} (n:Nat):List AV→(AV→Option R)→Option R:=viaK (Q00.FA n) Q00.o Q00.p
theorem Q00.tells1 {R:Type} (n:Nat) (xs:List AV):Tells1 (R:=R) Tryz.prog 118 xs (Q00.via n xs):=tells_viaM (fun _=>rfl) Q00.oi (Q00.hands n) xs
end Go.Proofs.YtnoldakbllfmnaaGreatDoor.Ev
namespace Go.Proofs.YtnoldakbllfmnaaGreatDoor.Ev
open Go Go.Proofs Go.Proofs.Ev
set_option linter.unusedVariables false
set_option maxRecDepth 100000
abbrev Q2w.A:=List AV × ByteArray
abbrev Q2w.T:=Int
def Q2w.i:Q2w.A→List AV:=fun (a0,a1)=>[.sl ⟨true,74,false⟩ 10 a0,vs a1]
def Q2w.o (xs:List AV):Option Q2w.A:=match xs with | [.sl ⟨true,74,false⟩ 10 a0,.v (.string a1)]=>some (a0,a1) | _=>none
theorem Q2w.oi:∀ xs a,Q2w.o xs=some a→xs=Q2w.i a:=by
 intro xs a h
 unfold Q2w.o at h
 split at h
 ·cases h; rfl
 ·cases h
def Q2w.p (p:Q2w.T):AV:=vi p
def Q2w.q (x:AV):Option Q2w.T:=match x with | .v (.int .i64 p0)=>some p0 | _=>none
theorem Q2w.qi:∀ x p,Q2w.q x=some p→x=Q2w.p p:=by
 intro x p h
 unfold Q2w.q at h
 split at h
 ·cases h; rfl
 ·cases h
def Q2w.C {R:Type} (n:Nat) (f:FuncId) (xs:List AV):(AV→Option R)→Option R:=
 bif Nat.beq f 118 then Q00.via n xs else fun _=>none
theorem Q2w.tells {R:Type} (n:Nat):Tells (R:=R) Tryz.prog (Q2w.C n):=fun _ xs=>tells_at (Q00.tells1 n xs) (Tells1.none)
def Q2w.cut (r:Nat):Option Keep:=match r with  | _=>none
def Q2w.e (n:Nat) (a0:List AV) (a1:ByteArray):Option Int:=
 (Q00.F n a0 a1).bind fun p1=>
 some p1.1
def Q2w.E (n:Nat):Q2w.A→Option Q2w.T:=fun (a0,a1)=>Q2w.e n a0 a1
def Q2w.F (n:Nat) (a0:List AV) (a1:ByteArray):Option Int:=Q2w.e n a0 a1
def Q2w.FA (n:Nat):Q2w.A→Option Q2w.T:=Q2w.E n
theorem Q2w.hands (n:Nat):∀ a p,Q2w.FA n a=some p→HandsIn Tryz.prog 66 (Q2w.i a) (Q2w.p p):=
 pf_hands (C:=Q2w.C n) (cut:=Q2w.cut) (Z:=Empty) (t:=nofun) (s:=nofun) (e:=fun _=>Q2w.E n) (r:=fun _ z=>nomatch z) (n:=n) cfg mixed globs rfl Q2w.qi (Q2w.tells n) Tryz.func66 (by kernel_rfl) (by kernel_rfl) (fun rec a=>by kernel_rfl) (fun rec z=>nomatch z)
def Q2w.via {R:Type} (n:Nat):List AV→(AV→Option R)→Option R:=viaK (Q2w.FA n) Q2w.o Q2w.p
theorem Q2w.tells1 {R:Type} (n:Nat) (xs:List AV):Tells1 (R:=R) Tryz.prog 66 xs (Q2w.via n xs):=tells_via Q2w.oi (fun a=>by kernel_rfl) (Q2w.hands n) xs
end Go.Proofs.YtnoldakbllfmnaaGreatDoor.Ev
namespace Go.Proofs.YtnoldakbllfmnaaGreatDoor.Ev
open Go Go.Proofs Go.Proofs.Ev
set_option linter.unusedVariables false
set_option maxRecDepth 100000
abbrev Q2k.A:=Int × Int × Int
abbrev Q2k.T:=Bool
def Q2k.i:Q2k.A→List AV:=fun (a0,a1,a2)=>[vi a0,vi a1,vi a2]
def Q2k.o (xs:List AV):Option Q2k.A:=match xs with | [.v (.int .i64 a0),.v (.int .i64 a1),.v (.int .i64 a2)]=>some (a0,a1,a2) | _=>none
theorem Q2k.oi:∀ xs a,Q2k.o xs=some a→xs=Q2k.i a:=by
 intro xs a h
 unfold Q2k.o at h
 split at h
 ·cases h; rfl
 ·cases h
def Q2k.p (p:Q2k.T):AV:=vb p
def Q2k.q (x:AV):Option Q2k.T:=match x with | .v (.bool p0)=>some p0 | _=>none
theorem Q2k.qi:∀ x p,Q2k.q x=some p→x=Q2k.p p:=by
 intro x p h
 unfold Q2k.q at h
 split at h
 ·cases h; rfl
 ·cases h
def Q2k.C {R:Type} (n:Nat) (f:FuncId) (xs:List AV):(AV→Option R)→Option R:=
 fun _=>none
theorem Q2k.tells {R:Type} (n:Nat):Tells (R:=R) Tryz.prog (Q2k.C n):=fun _ xs=>Tells1.none
def Q2k.cut (r:Nat):Option Keep:=match r with  | _=>none
def Q2k.e (n:Nat) (a0 a1 a2:Int):Option Bool:=
 bif decide (a1≤a0) then (some (decide (a0≤a2))) else (some false)
def Q2k.E (n:Nat):Q2k.A→Option Q2k.T:=fun (a0,a1,a2)=>Q2k.e n a0 a1 a2
def Q2k.F (n:Nat) (a0 a1 a2:Int):Option Bool:=Q2k.e n a0 a1 a2
def Q2k.FA (n:Nat):Q2k.A→Option Q2k.T:=Q2k.E n
theorem Q2k.hands (n:Nat):∀ a p,Q2k.FA n a=some p→HandsIn Tryz.prog 67 (Q2k.i a) (Q2k.p p):=
 pf_hands (C:=Q2k.C n) (cut:=Q2k.cut) (Z:=Empty) (t:=nofun) (s:=nofun) (e:=fun _=>Q2k.E n) (r:=fun _ z=>nomatch z) (n:=n) cfg mixed globs rfl Q2k.qi (Q2k.tells n) Tryz.func67 (by kernel_rfl) (by kernel_rfl) (fun rec a=>by kernel_rfl) (fun rec z=>nomatch z)
def Q2k.via {R:Type} (n:Nat):List AV→(AV→Option R)→Option R:=viaK (Q2k.FA n) Q2k.o Q2k.p
theorem Q2k.tells1 {R:Type} (n:Nat) (xs:List AV):Tells1 (R:=R) Tryz.prog 67 xs (Q2k.via n xs):=tells_via Q2k.oi (fun a=>by kernel_rfl) (Q2k.hands n) xs
end Go.Proofs.YtnoldakbllfmnaaGreatDoor.Ev
namespace Go.Proofs.YtnoldakbllfmnaaGreatDoor.Ev
open Go Go.Proofs Go.Proofs.Ev
set_option linter.unusedVariables false
set_option maxRecDepth 100000
abbrev Q2o.A:=ByteArray
abbrev Q2o.T:=Bool
def Q2o.i:Q2o.A→List AV:=fun a0=>[vs a0]
def Q2o.o (xs:List AV):Option Q2o.A:=match xs with | [.v (.string a0)]=>some a0 | _=>none
theorem Q2o.oi:∀ xs a,Q2o.o xs=some a→xs=Q2o.i a:=by
 intro xs a h
 unfold Q2o.o at h
 split at h
 ·cases h; rfl
 ·cases h
def Q2o.p (p:Q2o.T):AV:=vb p
def Q2o.q (x:AV):Option Q2o.T:=match x with | .v (.bool p0)=>some p0 | _=>none
theorem Q2o.qi:∀ x p,Q2o.q x=some p→x=Q2o.p p:=by
 intro x p h
 unfold Q2o.q at h
 split at h
 ·cases h; rfl
 ·cases h
inductive Q2o.Z where
 | z4 (z1 z2:Int) (z3:List AV)
 | z7 (z1 z2:Int) (z3:Bool) (z4 z5:Int) (z6:List AV)
 | z8 (z1:Int) (z2 z3:Bool) (z4 z5:Int) (z6:List AV)
def Q2o.C {R:Type} (n:Nat) (f:FuncId) (xs:List AV):(AV→Option R)→Option R:=
 fun _=>none
theorem Q2o.tells {R:Type} (n:Nat):Tells (R:=R) Tryz.prog (Q2o.C n):=fun _ xs=>Tells1.none
def Q2o.cut (r:Nat):Option Keep:=match r with | 4=>some ⟨[15,16,17],[]⟩ | 7=>some ⟨[3,4,5,15,16,17],[]⟩ | 8=>some ⟨[3,5,6,15,16,17],[]⟩ | _=>none
def Q2o.t (z:Q2o.Z):List Item:=(todoOf (match z with | .z4 _ _ _=>4 | .z7 _ _ _ _ _ _=>7 | .z8 _ _ _ _ _ _=>8) 1000 [.code (Tryz.f78.body.getD .skip)]).getD []
def Q2o.s:Q2o.Z→St
 | .z4 z1 z2 z3=>⟨spr 65 0 [(15,.own 0 0 none),(16,vi z1),(17,vi z2)],Mem.ofList [.row ⟨true,5,false⟩ 1 z3],1⟩
 | .z7 z1 z2 z3 z4 z5 z6=>⟨spr 65 0 [(3,vi z1),(4,vu z2),(5,vb z3),(15,.own 0 0 none),(16,vi z4),(17,vi z5)],Mem.ofList [.row ⟨true,5,false⟩ 1 z6],1⟩
 | .z8 z1 z2 z3 z4 z5 z6=>⟨spr 65 0 [(3,vi z1),(5,vb z2),(6,vb z3),(15,.own 0 0 none),(16,vi z4),(17,vi z5)],Mem.ofList [.row ⟨true,5,false⟩ 1 z6],1⟩
def Q2o.r4 (n:Nat) (c:Q2o.Z→Option Bool) (z1 z2:Int) (z3:List AV):Option Bool:=
 bif decide (z2 < z1) then (bif decide ((0:Int)≤z2)&&decide (z2 < ((z3.length:Nat):Int)) then (withCons ((z3.getD ((z2).toNat) .undef).cells) fun h4 r5=>
 withInt .u8 h4 fun x6=>
 bif decide ((65:Int)≤x6) then (bif decide (x6≤90) then (c (.z7 z2 x6 true z1 z2 z3)) else (bif x6==35 then (c (.z7 z2 x6 true z1 z2 z3)) else (bif x6==36 then (c (.z7 z2 x6 true z1 z2 z3)) else (c (.z7 z2 x6 (x6==64) z1 z2 z3))))) else (bif x6==35 then (c (.z7 z2 x6 true z1 z2 z3)) else (bif x6==36 then (c (.z7 z2 x6 true z1 z2 z3)) else (c (.z7 z2 x6 (x6==64) z1 z2 z3))))) else none) else (some true)
def Q2o.r7 (n:Nat) (c:Q2o.Z→Option Bool) (z1 z2:Int) (z3:Bool) (z4 z5:Int) (z6:List AV):Option Bool:=
 bif decide ((48:Int)≤z2) then (bif decide (z2≤57) then (c (.z8 z1 z3 true z4 z5 z6)) else (bif z2==95 then (c (.z8 z1 z3 true z4 z5 z6)) else (c (.z8 z1 z3 (z2==46) z4 z5 z6)))) else (bif z2==95 then (c (.z8 z1 z3 true z4 z5 z6)) else (c (.z8 z1 z3 (z2==46) z4 z5 z6)))
def Q2o.r8 (n:Nat) (c:Q2o.Z→Option Bool) (z1:Int) (z2 z3:Bool) (z4 z5:Int) (z6:List AV):Option Bool:=
 bif !z2 then (bif z1==0 then (some false) else (bif !z3 then (some false) else (c (.z4 z4 (IntKind.i64.wrap (z5+1)) z6)))) else (c (.z4 z4 (IntKind.i64.wrap (z5+1)) z6))
def Q2o.r (n:Nat) (c:Q2o.Z→Option Bool):Q2o.Z→Option Bool
 | .z4 z1 z2 z3=>Q2o.r4 n c z1 z2 z3
 | .z7 z1 z2 z3 z4 z5 z6=>Q2o.r7 n c z1 z2 z3 z4 z5 z6
 | .z8 z1 z2 z3 z4 z5 z6=>Q2o.r8 n c z1 z2 z3 z4 z5 z6
def Q2o.e (n:Nat) (c:Q2o.Z→Option Bool) (a0:ByteArray):Option Bool:=
 let y1:Bool:=a0.toList==(⟨#[]⟩ : ByteArray).toList
 bif y1 then (some false) else (let y2:Bool:=decide (((a0.size:Nat):Int) > 10)
 bif y2 then (some false) else (let y3:List AV:=a0.toList.map fun b=>vu b.toNat
 c (.z4 ((y3.length:Nat):Int) 0 y3)))
def Q2o.E (n:Nat) (c:Q2o.Z→Option Bool):Q2o.A→Option Q2o.T:=fun a0=>Q2o.e n c a0
def Q2o.l (n:Nat):Nat→Q2o.Z→Option Bool:=loopL (Q2o.r n)
def Q2o.F (n:Nat) (a0:ByteArray):Option Bool:=Q2o.e n (Q2o.l n n) a0
def Q2o.FA (n:Nat):Q2o.A→Option Q2o.T:=Q2o.E n (Q2o.l n n)
theorem Q2o.hands (n:Nat):∀ a p,Q2o.FA n a=some p→HandsIn Tryz.prog 78 (Q2o.i a) (Q2o.p p):=
 pf_hands (C:=Q2o.C n) (cut:=Q2o.cut) (t:=Q2o.t) (s:=Q2o.s) (e:=Q2o.E n) (r:=Q2o.r n) (n:=n) cfg mixed globs rfl Q2o.qi (Q2o.tells n) Tryz.func78 (by kernel_rfl) (by kernel_rfl) (fun rec a=>by kernel_rfl) (fun rec z=>by cases z <;> kernel_rfl)
def Q2o.via {R:Type} (n:Nat):List AV→(AV→Option R)→Option R:=viaK (Q2o.FA n) Q2o.o Q2o.p
theorem Q2o.tells1 {R:Type} (n:Nat) (xs:List AV):Tells1 (R:=R) Tryz.prog 78 xs (Q2o.via n xs):=tells_via Q2o.oi (fun a=>by kernel_rfl) (Q2o.hands n) xs
end Go.Proofs.YtnoldakbllfmnaaGreatDoor.Ev
namespace Go.Proofs.YtnoldakbllfmnaaGreatDoor.Ev
open Go Go.Proofs Go.Proofs.Ev
set_option linter.unusedVariables false
set_option maxRecDepth 100000
abbrev Q2n.A:=ByteArray × Int × Int × Int × Int × Int × ByteArray × ByteArray × Int × Int
abbrev Q2n.T:=Bool
def Q2n.i:Q2n.A→List AV:=fun (a0,a1,a2,a3,a4,a5,a6,a7,a8,a9)=>[AV.agg [vs a0,vi a1,vi a2,vi a3,vi a4,vi a5,vs a6,vs a7,vi a8,vi a9]]
def Q2n.o (xs:List AV):Option Q2n.A:=match xs with | [.agg [.v (.string a0),.v (.int .i64 a1),.v (.int .i64 a2),.v (.int .i64 a3),.v (.int .i64 a4),.v (.int .i64 a5),.v (.string a6),.v (.string a7),.v (.int .i64 a8),.v (.int .i64 a9)]]=>some (a0,a1,a2,a3,a4,a5,a6,a7,a8,a9) | _=>none
theorem Q2n.oi:∀ xs a,Q2n.o xs=some a→xs=Q2n.i a:=by
 intro xs a h
 unfold Q2n.o at h
 split at h
 ·cases h; rfl
 ·cases h
def Q2n.p (p:Q2n.T):AV:=vb p
def Q2n.q (x:AV):Option Q2n.T:=match x with | .v (.bool p0)=>some p0 | _=>none
theorem Q2n.qi:∀ x p,Q2n.q x=some p→x=Q2n.p p:=by
 intro x p h
 unfold Q2n.q at h
 split at h
 ·cases h; rfl
 ·cases h
def Q2n.C {R:Type} (n:Nat) (f:FuncId) (xs:List AV):(AV→Option R)→Option R:=
 fun _=>none
theorem Q2n.tells {R:Type} (n:Nat):Tells (R:=R) Tryz.prog (Q2n.C n):=fun _ xs=>Tells1.none
def Q2n.cut (r:Nat):Option Keep:=match r with  | _=>none
def Q2n.e (n:Nat) (a0:ByteArray) (a1 a2 a3 a4 a5:Int) (a6 a7:ByteArray) (a8 a9:Int):Option Bool:=
 bif a1==0 then (some true) else (bif a1==1 then (some true) else (bif a1==2 then (some true) else (some (a1==4))))
def Q2n.E (n:Nat):Q2n.A→Option Q2n.T:=fun (a0,a1,a2,a3,a4,a5,a6,a7,a8,a9)=>Q2n.e n a0 a1 a2 a3 a4 a5 a6 a7 a8 a9
def Q2n.F (n:Nat) (a0:ByteArray) (a1 a2 a3 a4 a5:Int) (a6 a7:ByteArray) (a8 a9:Int):Option Bool:=Q2n.e n a0 a1 a2 a3 a4 a5 a6 a7 a8 a9
def Q2n.FA (n:Nat):Q2n.A→Option Q2n.T:=Q2n.E n
theorem Q2n.hands (n:Nat):∀ a p,Q2n.FA n a=some p→HandsIn Tryz.prog 80 (Q2n.i a) (Q2n.p p):=
 pf_hands (C:=Q2n.C n) (cut:=Q2n.cut) (Z:=Empty) (t:=nofun) (s:=nofun) (e:=fun _=>Q2n.E n) (r:=fun _ z=>nomatch z) (n:=n) cfg mixed globs rfl Q2n.qi (Q2n.tells n) Tryz.func80 (by kernel_rfl) (by kernel_rfl) (fun rec a=>by kernel_rfl) (fun rec z=>nomatch z)
def Q2n.via {R:Type} (n:Nat):List AV→(AV→Option R)→Option R:=viaK (Q2n.FA n) Q2n.o Q2n.p
theorem Q2n.tells1 {R:Type} (n:Nat) (xs:List AV):Tells1 (R:=R) Tryz.prog 80 xs (Q2n.via n xs):=tells_via Q2n.oi (fun a=>by kernel_rfl) (Q2n.hands n) xs
end Go.Proofs.YtnoldakbllfmnaaGreatDoor.Ev
namespace Go.Proofs.YtnoldakbllfmnaaGreatDoor.Ev
open Go Go.Proofs Go.Proofs.Ev
set_option linter.unusedVariables false
set_option maxRecDepth 100000
abbrev Q2s.A:=ByteArray × Int × Int × Int × Int × Int × ByteArray × ByteArray × Int × Int
abbrev Q2s.T:=ByteArray × Int × Int × Int × Int × Int × ByteArray × ByteArray × Int × Int
def Q2s.i:Q2s.A→List AV:=fun (a0,a1,a2,a3,a4,a5,a6,a7,a8,a9)=>[AV.agg [vs a0,vi a1,vi a2,vi a3,vi a4,vi a5,vs a6,vs a7,vi a8,vi a9]]
def Q2s.o (xs:List AV):Option Q2s.A:=match xs with | [.agg [.v (.string a0),.v (.int .i64 a1),.v (.int .i64 a2),.v (.int .i64 a3),.v (.int .i64 a4),.v (.int .i64 a5),.v (.string a6),.v (.string a7),.v (.int .i64 a8),.v (.int .i64 a9)]]=>some (a0,a1,a2,a3,a4,a5,a6,a7,a8,a9) | _=>none
theorem Q2s.oi:∀ xs a,Q2s.o xs=some a→xs=Q2s.i a:=by
 intro xs a h
 unfold Q2s.o at h
 split at h
 ·cases h; rfl
 ·cases h
def Q2s.p (p:Q2s.T):AV:=AV.agg [vs p.1,vi p.2.1,vi p.2.2.1,vi p.2.2.2.1,vi p.2.2.2.2.1,vi p.2.2.2.2.2.1,vs p.2.2.2.2.2.2.1,vs p.2.2.2.2.2.2.2.1,vi p.2.2.2.2.2.2.2.2.1,vi p.2.2.2.2.2.2.2.2.2]
def Q2s.q (x:AV):Option Q2s.T:=match x with | .agg [.v (.string p0),.v (.int .i64 p1),.v (.int .i64 p2),.v (.int .i64 p3),.v (.int .i64 p4),.v (.int .i64 p5),.v (.string p6),.v (.string p7),.v (.int .i64 p8),.v (.int .i64 p9)]=>some (p0,p1,p2,p3,p4,p5,p6,p7,p8,p9) | _=>none
theorem Q2s.qi:∀ x p,Q2s.q x=some p→x=Q2s.p p:=by
 intro x p h
 unfold Q2s.q at h
 split at h
 ·cases h; rfl
 ·cases h
inductive Q2s.Z where
 | z7 (z1:ByteArray) (z2 z3 z4 z5 z6:Int) (z7 z8:ByteArray) (z9 z10:Int) (z11:ByteArray) (z12 z13 z14 z15 z16:Int) (z17 z18:ByteArray) (z19 z20:Int) (z21:ByteArray) (z22 z23 z24 z25 z26:Int) (z27 z28:ByteArray) (z29 z30:Int)
 | z10 (z1:ByteArray) (z2 z3 z4 z5 z6:Int) (z7 z8:ByteArray) (z9 z10:Int) (z11:ByteArray) (z12 z13 z14 z15 z16:Int) (z17 z18:ByteArray) (z19 z20:Int) (z21:ByteArray) (z22 z23 z24 z25 z26:Int) (z27 z28:ByteArray) (z29 z30:Int)
 | z13 (z1:ByteArray) (z2 z3 z4 z5 z6:Int) (z7 z8:ByteArray) (z9 z10:Int) (z11:ByteArray) (z12 z13 z14 z15 z16:Int) (z17 z18:ByteArray) (z19 z20:Int)
def Q2s.C {R:Type} (n:Nat) (f:FuncId) (xs:List AV):(AV→Option R)→Option R:=
 bif Nat.beq f 80 then Q2n.via n xs else fun _=>none
theorem Q2s.tells {R:Type} (n:Nat):Tells (R:=R) Tryz.prog (Q2s.C n):=fun _ xs=>tells_at (Q2n.tells1 n xs) (Tells1.none)
def Q2s.cut (r:Nat):Option Keep:=match r with | 7=>some ⟨[1,2,3],[]⟩ | 10=>some ⟨[1,2,3],[]⟩ | 13=>some ⟨[2,3],[]⟩ | _=>none
def Q2s.t (z:Q2s.Z):List Item:=(todoOf (match z with | .z7 _ _ _ _ _ _ _ _ _ _ _ _ _ _ _ _ _ _ _ _ _ _ _ _ _ _ _ _ _ _=>7 | .z10 _ _ _ _ _ _ _ _ _ _ _ _ _ _ _ _ _ _ _ _ _ _ _ _ _ _ _ _ _ _=>10 | .z13 _ _ _ _ _ _ _ _ _ _ _ _ _ _ _ _ _ _ _ _=>13) 1000 [.code (Tryz.f79.body.getD .skip)]).getD []
def Q2s.s:Q2s.Z→St
 | .z7 z1 z2 z3 z4 z5 z6 z7 z8 z9 z10 z11 z12 z13 z14 z15 z16 z17 z18 z19 z20 z21 z22 z23 z24 z25 z26 z27 z28 z29 z30=>⟨spr 37 0 [(1,.ptr 0 0),(2,.ptr 1 0),(3,.ptr 2 0)],Mem.ofList [.box 74 [vs z1,vi z2,vi z3,vi z4,vi z5,vi z6,vs z7,vs z8,vi z9,vi z10],.box 74 [vs z11,vi z12,vi z13,vi z14,vi z15,vi z16,vs z17,vs z18,vi z19,vi z20],.box 74 [vs z21,vi z22,vi z23,vi z24,vi z25,vi z26,vs z27,vs z28,vi z29,vi z30]],3⟩
 | .z10 z1 z2 z3 z4 z5 z6 z7 z8 z9 z10 z11 z12 z13 z14 z15 z16 z17 z18 z19 z20 z21 z22 z23 z24 z25 z26 z27 z28 z29 z30=>⟨spr 37 0 [(1,.ptr 0 0),(2,.ptr 1 0),(3,.ptr 2 0)],Mem.ofList [.box 74 [vs z1,vi z2,vi z3,vi z4,vi z5,vi z6,vs z7,vs z8,vi z9,vi z10],.box 74 [vs z11,vi z12,vi z13,vi z14,vi z15,vi z16,vs z17,vs z18,vi z19,vi z20],.box 74 [vs z21,vi z22,vi z23,vi z24,vi z25,vi z26,vs z27,vs z28,vi z29,vi z30]],3⟩
 | .z13 z1 z2 z3 z4 z5 z6 z7 z8 z9 z10 z11 z12 z13 z14 z15 z16 z17 z18 z19 z20=>⟨spr 37 0 [(2,.ptr 0 0),(3,.ptr 1 0)],Mem.ofList [.box 74 [vs z1,vi z2,vi z3,vi z4,vi z5,vi z6,vs z7,vs z8,vi z9,vi z10],.box 74 [vs z11,vi z12,vi z13,vi z14,vi z15,vi z16,vs z17,vs z18,vi z19,vi z20]],2⟩
def Q2s.r7 (n:Nat) (c:Q2s.Z→Option Q2s.T) (z1:ByteArray) (z2 z3 z4 z5 z6:Int) (z7 z8:ByteArray) (z9 z10:Int) (z11:ByteArray) (z12 z13 z14 z15 z16:Int) (z17 z18:ByteArray) (z19 z20:Int) (z21:ByteArray) (z22 z23 z24 z25 z26:Int) (z27 z28:ByteArray) (z29 z30:Int):Option Q2s.T:=
 c (.z13 z11 z12 z13 z14 z15 z16 z17 z18 z19 z20 z21 z22 z23 z24 z25 z6 z7 z28 z29 z30)
def Q2s.r10 (n:Nat) (c:Q2s.Z→Option Q2s.T) (z1:ByteArray) (z2 z3 z4 z5 z6:Int) (z7 z8:ByteArray) (z9 z10:Int) (z11:ByteArray) (z12 z13 z14 z15 z16:Int) (z17 z18:ByteArray) (z19 z20:Int) (z21:ByteArray) (z22 z23 z24 z25 z26:Int) (z27 z28:ByteArray) (z29 z30:Int):Option Q2s.T:=
 c (.z13 z11 z12 z13 z14 z15 z16 z17 z18 z19 z20 z21 z22 z23 z24 z25 z26 z27 z8 z9 z30)
def Q2s.r13 (n:Nat) (c:Q2s.Z→Option Q2s.T) (z1:ByteArray) (z2 z3 z4 z5 z6:Int) (z7 z8:ByteArray) (z9 z10:Int) (z11:ByteArray) (z12 z13 z14 z15 z16:Int) (z17 z18:ByteArray) (z19 z20:Int):Option Q2s.T:=
 some (z11,z12,z13,z14,z15,z16,z17,z18,z19,z20)
def Q2s.r (n:Nat) (c:Q2s.Z→Option Q2s.T):Q2s.Z→Option Q2s.T
 | .z7 z1 z2 z3 z4 z5 z6 z7 z8 z9 z10 z11 z12 z13 z14 z15 z16 z17 z18 z19 z20 z21 z22 z23 z24 z25 z26 z27 z28 z29 z30=>Q2s.r7 n c z1 z2 z3 z4 z5 z6 z7 z8 z9 z10 z11 z12 z13 z14 z15 z16 z17 z18 z19 z20 z21 z22 z23 z24 z25 z26 z27 z28 z29 z30
 | .z10 z1 z2 z3 z4 z5 z6 z7 z8 z9 z10 z11 z12 z13 z14 z15 z16 z17 z18 z19 z20 z21 z22 z23 z24 z25 z26 z27 z28 z29 z30=>Q2s.r10 n c z1 z2 z3 z4 z5 z6 z7 z8 z9 z10 z11 z12 z13 z14 z15 z16 z17 z18 z19 z20 z21 z22 z23 z24 z25 z26 z27 z28 z29 z30
 | .z13 z1 z2 z3 z4 z5 z6 z7 z8 z9 z10 z11 z12 z13 z14 z15 z16 z17 z18 z19 z20=>Q2s.r13 n c z1 z2 z3 z4 z5 z6 z7 z8 z9 z10 z11 z12 z13 z14 z15 z16 z17 z18 z19 z20
def Q2s.e (n:Nat) (c:Q2s.Z→Option Q2s.T) (a0:ByteArray) (a1 a2 a3 a4 a5:Int) (a6 a7:ByteArray) (a8 a9:Int):Option Q2s.T:=
 (Q2n.F n a0 a1 a2 a3 a4 a5 a6 a7 a8 a9).bind fun p1=>
 bif p1 then (bif a1==0 then (c (.z7 a0 a1 a2 a3 a4 a5 a6 a7 a8 a9 (⟨#[]⟩ : ByteArray) 0 0 0 0 0 (⟨#[]⟩ : ByteArray) (⟨#[]⟩ : ByteArray) 0 0 a0 a1 a2 a3 a4 0 (⟨#[]⟩ : ByteArray) (⟨#[]⟩ : ByteArray) 0 0)) else (bif a1==4 then (c (.z7 a0 a1 a2 a3 a4 a5 a6 a7 a8 a9 (⟨#[]⟩ : ByteArray) 0 0 0 0 0 (⟨#[]⟩ : ByteArray) (⟨#[]⟩ : ByteArray) 0 0 a0 a1 a2 a3 a4 0 (⟨#[]⟩ : ByteArray) (⟨#[]⟩ : ByteArray) 0 0)) else (bif a1==1 then (c (.z10 a0 a1 a2 a3 a4 a5 a6 a7 a8 a9 (⟨#[]⟩ : ByteArray) 0 0 0 0 0 (⟨#[]⟩ : ByteArray) (⟨#[]⟩ : ByteArray) 0 0 a0 a1 a2 a3 a4 0 (⟨#[]⟩ : ByteArray) (⟨#[]⟩ : ByteArray) 0 0)) else (bif a1==2 then (c (.z10 a0 a1 a2 a3 a4 a5 a6 a7 a8 a9 (⟨#[]⟩ : ByteArray) 0 0 0 0 0 (⟨#[]⟩ : ByteArray) (⟨#[]⟩ : ByteArray) 0 0 a0 a1 a2 a3 a4 0 (⟨#[]⟩ : ByteArray) (⟨#[]⟩ : ByteArray) 0 0)) else (bif a1==5 then (c (.z13 (⟨#[]⟩ : ByteArray) 0 0 0 0 0 (⟨#[]⟩ : ByteArray) (⟨#[]⟩ : ByteArray) 0 0 a0 a1 a2 a3 a4 0 (⟨#[]⟩ : ByteArray) (⟨#[]⟩ : ByteArray) 0 a9)) else (c (.z13 (⟨#[]⟩ : ByteArray) 0 0 0 0 0 (⟨#[]⟩ : ByteArray) (⟨#[]⟩ : ByteArray) 0 0 a0 a1 a2 a3 a4 0 (⟨#[]⟩ : ByteArray) (⟨#[]⟩ : ByteArray) 0 0))))))) else (bif a1==0 then (c (.z7 a0 a1 a2 a3 a4 a5 a6 a7 a8 a9 (⟨#[]⟩ : ByteArray) 0 0 0 0 0 (⟨#[]⟩ : ByteArray) (⟨#[]⟩ : ByteArray) 0 0 a0 a1 0 0 0 0 (⟨#[]⟩ : ByteArray) (⟨#[]⟩ : ByteArray) 0 0)) else (bif a1==4 then (c (.z7 a0 a1 a2 a3 a4 a5 a6 a7 a8 a9 (⟨#[]⟩ : ByteArray) 0 0 0 0 0 (⟨#[]⟩ : ByteArray) (⟨#[]⟩ : ByteArray) 0 0 a0 a1 0 0 0 0 (⟨#[]⟩ : ByteArray) (⟨#[]⟩ : ByteArray) 0 0)) else (bif a1==1 then (c (.z10 a0 a1 a2 a3 a4 a5 a6 a7 a8 a9 (⟨#[]⟩ : ByteArray) 0 0 0 0 0 (⟨#[]⟩ : ByteArray) (⟨#[]⟩ : ByteArray) 0 0 a0 a1 0 0 0 0 (⟨#[]⟩ : ByteArray) (⟨#[]⟩ : ByteArray) 0 0)) else (bif a1==2 then (c (.z10 a0 a1 a2 a3 a4 a5 a6 a7 a8 a9 (⟨#[]⟩ : ByteArray) 0 0 0 0 0 (⟨#[]⟩ : ByteArray) (⟨#[]⟩ : ByteArray) 0 0 a0 a1 0 0 0 0 (⟨#[]⟩ : ByteArray) (⟨#[]⟩ : ByteArray) 0 0)) else (bif a1==5 then (c (.z13 (⟨#[]⟩ : ByteArray) 0 0 0 0 0 (⟨#[]⟩ : ByteArray) (⟨#[]⟩ : ByteArray) 0 0 a0 a1 0 0 0 0 (⟨#[]⟩ : ByteArray) (⟨#[]⟩ : ByteArray) 0 a9)) else (c (.z13 (⟨#[]⟩ : ByteArray) 0 0 0 0 0 (⟨#[]⟩ : ByteArray) (⟨#[]⟩ : ByteArray) 0 0 a0 a1 0 0 0 0 (⟨#[]⟩ : ByteArray) (⟨#[]⟩ : ByteArray) 0 0)))))))
def Q2s.E (n:Nat) (c:Q2s.Z→Option Q2s.T):Q2s.A→Option Q2s.T:=fun (a0,a1,a2,a3,a4,a5,a6,a7,a8,a9)=>Q2s.e n c a0 a1 a2 a3 a4 a5 a6 a7 a8 a9
def Q2s.l (n:Nat):Nat→Q2s.Z→Option Q2s.T:=loopL (Q2s.r n)
def Q2s.F (n:Nat) (a0:ByteArray) (a1 a2 a3 a4 a5:Int) (a6 a7:ByteArray) (a8 a9:Int):Option Q2s.T:=Q2s.e n (Q2s.l n n) a0 a1 a2 a3 a4 a5 a6 a7 a8 a9
def Q2s.FA (n:Nat):Q2s.A→Option Q2s.T:=Q2s.E n (Q2s.l n n)
theorem Q2s.hands (n:Nat):∀ a p,Q2s.FA n a=some p→HandsIn Tryz.prog 79 (Q2s.i a) (Q2s.p p):=
 pf_hands (C:=Q2s.C n) (cut:=Q2s.cut) (t:=Q2s.t) (s:=Q2s.s) (e:=Q2s.E n) (r:=Q2s.r n) (n:=n) cfg mixed globs rfl Q2s.qi (Q2s.tells n) Tryz.func79 (by kernel_rfl) (by kernel_rfl) (fun rec a=>by kernel_rfl) (fun rec z=>by cases z <;> kernel_rfl)
def Q2s.via {R:Type} (n:Nat):List AV→(AV→Option R)→Option R:=viaK (Q2s.FA n) Q2s.o Q2s.p
theorem Q2s.tells1 {R:Type} (n:Nat) (xs:List AV):Tells1 (R:=R) Tryz.prog 79 xs (Q2s.via n xs):=tells_via Q2s.oi (fun a=>by kernel_rfl) (Q2s.hands n) xs
end Go.Proofs.YtnoldakbllfmnaaGreatDoor.Ev
namespace Go.Proofs.YtnoldakbllfmnaaGreatDoor.Ev
open Go Go.Proofs Go.Proofs.Ev
set_option linter.unusedVariables false
set_option maxRecDepth 100000
abbrev Q1z.A:=Int × Int × Int
abbrev Q1z.T:=Bool
def Q1z.i:Q1z.A→List AV:=fun (a0,a1,a2)=>[vi a0,vi a1,vi a2]
def Q1z.o (xs:List AV):Option Q1z.A:=match xs with | [.v (.int .i64 a0),.v (.int .i64 a1),.v (.int .i64 a2)]=>some (a0,a1,a2) | _=>none
theorem Q1z.oi:∀ xs a,Q1z.o xs=some a→xs=Q1z.i a:=by
 intro xs a h
 unfold Q1z.o at h
 split at h
 ·cases h; rfl
 ·cases h
def Q1z.p (p:Q1z.T):AV:=vb p
def Q1z.q (x:AV):Option Q1z.T:=match x with | .v (.bool p0)=>some p0 | _=>none
theorem Q1z.qi:∀ x p,Q1z.q x=some p→x=Q1z.p p:=by
 intro x p h
 unfold Q1z.q at h
 split at h
 ·cases h; rfl
 ·cases h
def Q1z.C {R:Type} (n:Nat) (f:FuncId) (xs:List AV):(AV→Option R)→Option R:=
 fun _=>none
theorem Q1z.tells {R:Type} (n:Nat):Tells (R:=R) Tryz.prog (Q1z.C n):=fun _ xs=>Tells1.none
def Q1z.cut (r:Nat):Option Keep:=match r with  | _=>none
def Q1z.e (n:Nat) (a0 a1 a2:Int):Option Bool:=
 bif decide (a1≤a0) then (some (decide (a0≤a2))) else (some false)
def Q1z.E (n:Nat):Q1z.A→Option Q1z.T:=fun (a0,a1,a2)=>Q1z.e n a0 a1 a2
def Q1z.F (n:Nat) (a0 a1 a2:Int):Option Bool:=Q1z.e n a0 a1 a2
def Q1z.FA (n:Nat):Q1z.A→Option Q1z.T:=Q1z.E n
theorem Q1z.hands (n:Nat):∀ a p,Q1z.FA n a=some p→HandsIn Tryz.prog 131 (Q1z.i a) (Q1z.p p):=
 pf_hands (C:=Q1z.C n) (cut:=Q1z.cut) (Z:=Empty) (t:=nofun) (s:=nofun) (e:=fun _=>Q1z.E n) (r:=fun _ z=>nomatch z) (n:=n) cfg mixed globs rfl Q1z.qi (Q1z.tells n) Tryz.func131 (by kernel_rfl) (by kernel_rfl) (fun rec a=>by kernel_rfl) (fun rec z=>nomatch z)
def Q1z.via {R:Type} (n:Nat):List AV→(AV→Option R)→Option R:=viaK (Q1z.FA n) Q1z.o Q1z.p
theorem Q1z.tells1 {R:Type} (n:Nat) (xs:List AV):Tells1 (R:=R) Tryz.prog 131 xs (Q1z.via n xs):=tells_via Q1z.oi (fun a=>by kernel_rfl) (Q1z.hands n) xs
end Go.Proofs.YtnoldakbllfmnaaGreatDoor.Ev
namespace Go.Proofs.YtnoldakbllfmnaaGreatDoor.Ev
open Go Go.Proofs Go.Proofs.Ev
set_option linter.unusedVariables false
set_option maxRecDepth 100000
abbrev Q1y.A:=List AV
abbrev Q1y.T:=Int
def Q1y.i:Q1y.A→List AV:=fun a0=>[.sl ⟨true,31,false⟩ 1 a0]
def Q1y.o (xs:List AV):Option Q1y.A:=match xs with | [.sl ⟨true,31,false⟩ 1 a0]=>some a0 | _=>none
theorem Q1y.oi:∀ xs a,Q1y.o xs=some a→xs=Q1y.i a:=by
 intro xs a h
 unfold Q1y.o at h
 split at h
 ·cases h; rfl
 ·cases h
def Q1y.p (p:Q1y.T):AV:=vi p
def Q1y.q (x:AV):Option Q1y.T:=match x with | .v (.int .i64 p0)=>some p0 | _=>none
theorem Q1y.qi:∀ x p,Q1y.q x=some p→x=Q1y.p p:=by
 intro x p h
 unfold Q1y.q at h
 split at h
 ·cases h; rfl
 ·cases h
inductive Q1y.Z where
 | z2 (z1:List AV) (z2 z3:Int)
def Q1y.C {R:Type} (n:Nat) (f:FuncId) (xs:List AV):(AV→Option R)→Option R:=
 fun _=>none
theorem Q1y.tells {R:Type} (n:Nat):Tells (R:=R) Tryz.prog (Q1y.C n):=fun _ xs=>Tells1.none
def Q1y.cut (r:Nat):Option Keep:=match r with | 2=>some ⟨[5,6,7],[]⟩ | _=>none
def Q1y.t (z:Q1y.Z):List Item:=(todoOf (match z with | .z2 _ _ _=>2) 1000 [.code (Tryz.f132.body.getD .skip)]).getD []
def Q1y.s:Q1y.Z→St
 | .z2 z1 z2 z3=>⟨spr 15 0 [(5,.sl ⟨true,31,false⟩ 1 z1),(6,vi z2),(7,vi z3)],Mem.ofList [],0⟩
def Q1y.r2 (n:Nat) (c:Q1y.Z→Option Int) (z1:List AV) (z2 z3:Int):Option Int:=
 bif decide (z3 < z2) then (bif decide ((0:Int)≤z3)&&decide (z3 < ((z1.length:Nat):Int)) then (withCons ((z1.getD ((z3).toNat) .undef).cells) fun h1 r2=>
 withInt .i64 h1 fun x3=>
 bif x3 != 0 then (some x3) else (c (.z2 z1 z2 (IntKind.i64.wrap (z3+1))))) else none) else (some 0)
def Q1y.r (n:Nat) (c:Q1y.Z→Option Int):Q1y.Z→Option Int
 | .z2 z1 z2 z3=>Q1y.r2 n c z1 z2 z3
def Q1y.e (n:Nat) (c:Q1y.Z→Option Int) (a0:List AV):Option Int:=
 c (.z2 a0 ((a0.length:Nat):Int) 0)
def Q1y.E (n:Nat) (c:Q1y.Z→Option Int):Q1y.A→Option Q1y.T:=fun a0=>Q1y.e n c a0
def Q1y.l (n:Nat):Nat→Q1y.Z→Option Int:=loopL (Q1y.r n)
def Q1y.F (n:Nat) (a0:List AV):Option Int:=Q1y.e n (Q1y.l n n) a0
def Q1y.FA (n:Nat):Q1y.A→Option Q1y.T:=Q1y.E n (Q1y.l n n)
theorem Q1y.hands (n:Nat):∀ a p,Q1y.FA n a=some p→HandsIn Tryz.prog 132 (Q1y.i a) (Q1y.p p):=
 pf_hands (C:=Q1y.C n) (cut:=Q1y.cut) (t:=Q1y.t) (s:=Q1y.s) (e:=Q1y.E n) (r:=Q1y.r n) (n:=n) cfg mixed globs rfl Q1y.qi (Q1y.tells n) Tryz.func132 (by kernel_rfl) (by kernel_rfl) (fun rec a=>by kernel_rfl) (fun rec z=>by cases z <;> kernel_rfl)
def Q1y.via {R:Type} (n:Nat):List AV→(AV→Option R)→Option R:=viaK (Q1y.FA n) Q1y.o Q1y.p
theorem Q1y.tells1 {R:Type} (n:Nat) (xs:List AV):Tells1 (R:=R) Tryz.prog 132 xs (Q1y.via n xs):=tells_via Q1y.oi (fun a=>by kernel_rfl) (Q1y.hands n) xs
end Go.Proofs.YtnoldakbllfmnaaGreatDoor.Ev
namespace Go.Proofs.YtnoldakbllfmnaaGreatDoor.Ev
open Go Go.Proofs Go.Proofs.Ev
set_option linter.unusedVariables false
set_option maxRecDepth 100000
abbrev Q1v.A:=Bool × Int
abbrev Q1v.T:=Int
def Q1v.i:Q1v.A→List AV:=fun (a0,a1)=>[vb a0,vi a1]
def Q1v.o (xs:List AV):Option Q1v.A:=match xs with | [.v (.bool a0),.v (.int .i64 a1)]=>some (a0,a1) | _=>none
theorem Q1v.oi:∀ xs a,Q1v.o xs=some a→xs=Q1v.i a:=by
 intro xs a h
 unfold Q1v.o at h
 split at h
 ·cases h; rfl
 ·cases h
def Q1v.p (p:Q1v.T):AV:=vi p
def Q1v.q (x:AV):Option Q1v.T:=match x with | .v (.int .i64 p0)=>some p0 | _=>none
theorem Q1v.qi:∀ x p,Q1v.q x=some p→x=Q1v.p p:=by
 intro x p h
 unfold Q1v.q at h
 split at h
 ·cases h; rfl
 ·cases h
def Q1v.C {R:Type} (n:Nat) (f:FuncId) (xs:List AV):(AV→Option R)→Option R:=
 fun _=>none
theorem Q1v.tells {R:Type} (n:Nat):Tells (R:=R) Tryz.prog (Q1v.C n):=fun _ xs=>Tells1.none
def Q1v.cut (r:Nat):Option Keep:=match r with  | _=>none
def Q1v.e (n:Nat) (a0:Bool) (a1:Int):Option Int:=
 bif a0 then (some a1) else (some 0)
def Q1v.E (n:Nat):Q1v.A→Option Q1v.T:=fun (a0,a1)=>Q1v.e n a0 a1
def Q1v.F (n:Nat) (a0:Bool) (a1:Int):Option Int:=Q1v.e n a0 a1
def Q1v.FA (n:Nat):Q1v.A→Option Q1v.T:=Q1v.E n
theorem Q1v.hands (n:Nat):∀ a p,Q1v.FA n a=some p→HandsIn Tryz.prog 133 (Q1v.i a) (Q1v.p p):=
 pf_hands (C:=Q1v.C n) (cut:=Q1v.cut) (Z:=Empty) (t:=nofun) (s:=nofun) (e:=fun _=>Q1v.E n) (r:=fun _ z=>nomatch z) (n:=n) cfg mixed globs rfl Q1v.qi (Q1v.tells n) Tryz.func133 (by kernel_rfl) (by kernel_rfl) (fun rec a=>by kernel_rfl) (fun rec z=>nomatch z)
def Q1v.via {R:Type} (n:Nat):List AV→(AV→Option R)→Option R:=viaK (Q1v.FA n) Q1v.o Q1v.p
theorem Q1v.tells1 {R:Type} (n:Nat) (xs:List AV):Tells1 (R:=R) Tryz.prog 133 xs (Q1v.via n xs):=tells_via Q1v.oi (fun a=>by kernel_rfl) (Q1v.hands n) xs
end Go.Proofs.YtnoldakbllfmnaaGreatDoor.Ev
namespace Go.Proofs.YtnoldakbllfmnaaGreatDoor.Ev
open Go Go.Proofs Go.Proofs.Ev
set_option linter.unusedVariables false
set_option maxRecDepth 100000
abbrev Q1p.A:=Int × Int × Int
abbrev Q1p.T:=Int
def Q1p.i:Q1p.A→List AV:=fun (a0,a1,a2)=>[AV.agg [vi a0,vi a1,vi a2]]
def Q1p.o (xs:List AV):Option Q1p.A:=match xs with | [.agg [.v (.int .i64 a0),.v (.int .i64 a1),.v (.int .i64 a2)]]=>some (a0,a1,a2) | _=>none
theorem Q1p.oi:∀ xs a,Q1p.o xs=some a→xs=Q1p.i a:=by
 intro xs a h
 unfold Q1p.o at h
 split at h
 ·cases h; rfl
 ·cases h
def Q1p.p (p:Q1p.T):AV:=vi p
def Q1p.q (x:AV):Option Q1p.T:=match x with | .v (.int .i64 p0)=>some p0 | _=>none
theorem Q1p.qi:∀ x p,Q1p.q x=some p→x=Q1p.p p:=by
 intro x p h
 unfold Q1p.q at h
 split at h
 ·cases h; rfl
 ·cases h
inductive Q1p.Z where
 | z13 (z1 z2:Bool)
def Q1p.C {R:Type} (n:Nat) (f:FuncId) (xs:List AV):(AV→Option R)→Option R:=
 bif Nat.beq f 131 then Q1z.via n xs else bif Nat.beq f 132 then Q1y.via n xs else bif Nat.beq f 133 then Q1v.via n xs else fun _=>none
theorem Q1p.tells {R:Type} (n:Nat):Tells (R:=R) Tryz.prog (Q1p.C n):=fun _ xs=>tells_at (Q1z.tells1 n xs) (tells_at (Q1y.tells1 n xs) (tells_at (Q1v.tells1 n xs) (Tells1.none)))
def Q1p.cut (r:Nat):Option Keep:=match r with | 13=>some ⟨[3,4],[]⟩ | _=>none
def Q1p.t (z:Q1p.Z):List Item:=(todoOf (match z with | .z13 _ _=>13) 1000 [.code (Tryz.f81.body.getD .skip)]).getD []
def Q1p.s:Q1p.Z→St
 | .z13 z1 z2=>⟨spr 54 0 [(3,vb z1),(4,vb z2)],Mem.ofList [],0⟩
def Q1p.r13 (n:Nat) (c:Q1p.Z→Option Int) (z1 z2:Bool):Option Int:=
 (Q1v.F n (!z1) 18).bind fun p8=>
 (Q1v.F n (!z2) 3).bind fun p9=>
 (Q1y.F n [vi p8,vi p9]).bind fun p10=>
 some p10
def Q1p.r (n:Nat) (c:Q1p.Z→Option Int):Q1p.Z→Option Int
 | .z13 z1 z2=>Q1p.r13 n c z1 z2
def Q1p.e (n:Nat) (c:Q1p.Z→Option Int) (a0 a1 a2:Int):Option Int:=
 bif a0==0 then ((Q1z.F n a1 1 256).bind fun p1=>
 c (.z13 p1 (a2==0))) else (bif a0==1 then ((Q1z.F n a1 1 15).bind fun p2=>
 (Q1z.F n a2 0 a1).bind fun p3=>
 c (.z13 p2 p3)) else (bif a0==2 then ((Q1z.F n a1 1 15).bind fun p4=>
 (Q1z.F n a2 0 a1).bind fun p5=>
 c (.z13 p4 p5)) else (bif a0==3 then (bif a1==4 then ((Q1z.F n a2 0 a1).bind fun p6=>
 c (.z13 true p6)) else ((Q1z.F n a2 0 a1).bind fun p7=>
 c (.z13 (a1==9) p7))) else (bif a0==4 then (c (.z13 (a1==0) (a2==0))) else (some 4)))))
def Q1p.E (n:Nat) (c:Q1p.Z→Option Int):Q1p.A→Option Q1p.T:=fun (a0,a1,a2)=>Q1p.e n c a0 a1 a2
def Q1p.l (n:Nat):Nat→Q1p.Z→Option Int:=loopL (Q1p.r n)
def Q1p.F (n:Nat) (a0 a1 a2:Int):Option Int:=Q1p.e n (Q1p.l n n) a0 a1 a2
def Q1p.FA (n:Nat):Q1p.A→Option Q1p.T:=Q1p.E n (Q1p.l n n)
theorem Q1p.hands (n:Nat):∀ a p,Q1p.FA n a=some p→HandsIn Tryz.prog 81 (Q1p.i a) (Q1p.p p):=
 pf_hands (C:=Q1p.C n) (cut:=Q1p.cut) (t:=Q1p.t) (s:=Q1p.s) (e:=Q1p.E n) (r:=Q1p.r n) (n:=n) cfg mixed globs rfl Q1p.qi (Q1p.tells n) Tryz.func81 (by kernel_rfl) (by kernel_rfl) (fun rec a=>by kernel_rfl) (fun rec z=>by cases z <;> kernel_rfl)
def Q1p.via {R:Type} (n:Nat):List AV→(AV→Option R)→Option R:=viaK (Q1p.FA n) Q1p.o Q1p.p
theorem Q1p.tells1 {R:Type} (n:Nat) (xs:List AV):Tells1 (R:=R) Tryz.prog 81 xs (Q1p.via n xs):=tells_via Q1p.oi (fun a=>by kernel_rfl) (Q1p.hands n) xs
end Go.Proofs.YtnoldakbllfmnaaGreatDoor.Ev
namespace Go.Proofs.YtnoldakbllfmnaaGreatDoor.Ev
open Go Go.Proofs Go.Proofs.Ev
set_option linter.unusedVariables false
set_option maxRecDepth 100000
abbrev Q23.A:=Int
abbrev Q23.T:=Int
def Q23.i:Q23.A→List AV:=fun a0=>[vi a0]
def Q23.o (xs:List AV):Option Q23.A:=match xs with | [.v (.int .i64 a0)]=>some a0 | _=>none
theorem Q23.oi:∀ xs a,Q23.o xs=some a→xs=Q23.i a:=by
 intro xs a h
 unfold Q23.o at h
 split at h
 ·cases h; rfl
 ·cases h
def Q23.p (p:Q23.T):AV:=vi p
def Q23.q (x:AV):Option Q23.T:=match x with | .v (.int .i64 p0)=>some p0 | _=>none
theorem Q23.qi:∀ x p,Q23.q x=some p→x=Q23.p p:=by
 intro x p h
 unfold Q23.q at h
 split at h
 ·cases h; rfl
 ·cases h
inductive Q23.Z where
 | z3 (z1 z2 z3:Int)
def Q23.C {R:Type} (n:Nat) (f:FuncId) (xs:List AV):(AV→Option R)→Option R:=
 fun _=>none
theorem Q23.tells {R:Type} (n:Nat):Tells (R:=R) Tryz.prog (Q23.C n):=fun _ xs=>Tells1.none
def Q23.cut (r:Nat):Option Keep:=match r with | 3=>some ⟨[3,5,6],[]⟩ | _=>none
def Q23.t (z:Q23.Z):List Item:=(todoOf (match z with | .z3 _ _ _=>3) 1000 [.code (Tryz.f134.body.getD .skip)]).getD []
def Q23.s:Q23.Z→St
 | .z3 z1 z2 z3=>⟨spr 12 0 [(3,vi z1),(5,vi z2),(6,vi z3)],Mem.ofList [],0⟩
def Q23.r3 (n:Nat) (c:Q23.Z→Option Int) (z1 z2 z3:Int):Option Int:=
 bif decide (z3 < z2) then (c (.z3 (IntKind.i64.wrap (z1*10)) z2 (IntKind.i64.wrap (z3+1)))) else (some z1)
def Q23.r (n:Nat) (c:Q23.Z→Option Int):Q23.Z→Option Int
 | .z3 z1 z2 z3=>Q23.r3 n c z1 z2 z3
def Q23.e (n:Nat) (c:Q23.Z→Option Int) (a0:Int):Option Int:=
 c (.z3 1 (if 18 < a0 then 18 else a0) 0)
def Q23.E (n:Nat) (c:Q23.Z→Option Int):Q23.A→Option Q23.T:=fun a0=>Q23.e n c a0
def Q23.l (n:Nat):Nat→Q23.Z→Option Int:=loopL (Q23.r n)
def Q23.F (n:Nat) (a0:Int):Option Int:=Q23.e n (Q23.l n n) a0
def Q23.FA (n:Nat):Q23.A→Option Q23.T:=Q23.E n (Q23.l n n)
theorem Q23.hands (n:Nat):∀ a p,Q23.FA n a=some p→HandsIn Tryz.prog 134 (Q23.i a) (Q23.p p):=
 pf_hands (C:=Q23.C n) (cut:=Q23.cut) (t:=Q23.t) (s:=Q23.s) (e:=Q23.E n) (r:=Q23.r n) (n:=n) cfg mixed globs rfl Q23.qi (Q23.tells n) Tryz.func134 (by kernel_rfl) (by kernel_rfl) (fun rec a=>by kernel_rfl) (fun rec z=>by cases z <;> kernel_rfl)
def Q23.via {R:Type} (n:Nat):List AV→(AV→Option R)→Option R:=viaK (Q23.FA n) Q23.o Q23.p
theorem Q23.tells1 {R:Type} (n:Nat) (xs:List AV):Tells1 (R:=R) Tryz.prog 134 xs (Q23.via n xs):=tells_via Q23.oi (fun a=>by kernel_rfl) (Q23.hands n) xs
end Go.Proofs.YtnoldakbllfmnaaGreatDoor.Ev
namespace Go.Proofs.YtnoldakbllfmnaaGreatDoor.Ev
open Go Go.Proofs Go.Proofs.Ev
set_option linter.unusedVariables false
set_option maxRecDepth 100000
abbrev Q1q.A:=Int × Int × Int × Int × ByteArray
abbrev Q1q.T:=Int
def Q1q.i:Q1q.A→List AV:=fun (a0,a1,a2,a3,a4)=>[AV.agg [vi a0,vi a1,vi a2],AV.agg [vi a3,vs a4]]
def Q1q.o (xs:List AV):Option Q1q.A:=match xs with | [.agg [.v (.int .i64 a0),.v (.int .i64 a1),.v (.int .i64 a2)],.agg [.v (.int .i64 a3),.v (.string a4)]]=>some (a0,a1,a2,a3,a4) | _=>none
theorem Q1q.oi:∀ xs a,Q1q.o xs=some a→xs=Q1q.i a:=by
 intro xs a h
 unfold Q1q.o at h
 split at h
 ·cases h; rfl
 ·cases h
def Q1q.p (p:Q1q.T):AV:=vi p
def Q1q.q (x:AV):Option Q1q.T:=match x with | .v (.int .i64 p0)=>some p0 | _=>none
theorem Q1q.qi:∀ x p,Q1q.q x=some p→x=Q1q.p p:=by
 intro x p h
 unfold Q1q.q at h
 split at h
 ·cases h; rfl
 ·cases h
def Q1q.C {R:Type} (n:Nat) (f:FuncId) (xs:List AV):(AV→Option R)→Option R:=
 bif Nat.beq f 81 then Q1p.via n xs else bif Nat.beq f 131 then Q1z.via n xs else bif Nat.beq f 132 then Q1y.via n xs else bif Nat.beq f 133 then Q1v.via n xs else bif Nat.beq f 134 then Q23.via n xs else fun _=>none
theorem Q1q.tells {R:Type} (n:Nat):Tells (R:=R) Tryz.prog (Q1q.C n):=fun _ xs=>tells_at (Q1p.tells1 n xs) (tells_at (Q1z.tells1 n xs) (tells_at (Q1y.tells1 n xs) (tells_at (Q1v.tells1 n xs) (tells_at (Q23.tells1 n xs) (Tells1.none)))))
def Q1q.cut (r:Nat):Option Keep:=match r with  | _=>none
def Q1q.e (n:Nat) (a0 a1 a2 a3:Int) (a4:ByteArray):Option Int:=
 (Q1p.F n a0 a1 a2).bind fun p1=>
 (Q1v.F n (a0==4) 17).bind fun p2=>
 (Q1y.F n [vi p1,vi p2]).bind fun p3=>
 bif p3 != 0 then (some p3) else (bif a0==0 then ((Q1v.F n (a3 != 0) 5).bind fun p4=>
 let y5:Bool:=((a4.size:Nat):Int) != a1
 (Q1v.F n y5 18).bind fun p6=>
 (Q1y.F n [vi p4,vi p6]).bind fun p7=>
 some p7) else ((Q23.F n a1).bind fun p8=>
 let y9:Bool:=!(a4.toList==(⟨#[]⟩ : ByteArray).toList)
 (Q1v.F n y9 5).bind fun p10=>
 (Q1z.F n a3 (IntKind.i64.wrap (0 - (IntKind.i64.wrap (p8 - 1)))) (IntKind.i64.wrap (p8 - 1))).bind fun p11=>
 (Q1v.F n (!p11) 19).bind fun p12=>
 (Q1y.F n [vi p10,vi p12]).bind fun p13=>
 some p13))
def Q1q.E (n:Nat):Q1q.A→Option Q1q.T:=fun (a0,a1,a2,a3,a4)=>Q1q.e n a0 a1 a2 a3 a4
def Q1q.F (n:Nat) (a0 a1 a2 a3:Int) (a4:ByteArray):Option Int:=Q1q.e n a0 a1 a2 a3 a4
def Q1q.FA (n:Nat):Q1q.A→Option Q1q.T:=Q1q.E n
theorem Q1q.hands (n:Nat):∀ a p,Q1q.FA n a=some p→HandsIn Tryz.prog 82 (Q1q.i a) (Q1q.p p):=
 pf_hands (C:=Q1q.C n) (cut:=Q1q.cut) (Z:=Empty) (t:=nofun) (s:=nofun) (e:=fun _=>Q1q.E n) (r:=fun _ z=>nomatch z) (n:=n) cfg mixed globs rfl Q1q.qi (Q1q.tells n) Tryz.func82 (by kernel_rfl) (by kernel_rfl) (fun rec a=>by kernel_rfl) (fun rec z=>nomatch z)
def Q1q.via {R:Type} (n:Nat):List AV→(AV→Option R)→Option R:=viaK (Q1q.FA n) Q1q.o Q1q.p
theorem Q1q.tells1 {R:Type} (n:Nat) (xs:List AV):Tells1 (R:=R) Tryz.prog 82 xs (Q1q.via n xs):=tells_via Q1q.oi (fun a=>by kernel_rfl) (Q1q.hands n) xs
end Go.Proofs.YtnoldakbllfmnaaGreatDoor.Ev
namespace Go.Proofs.YtnoldakbllfmnaaGreatDoor.Ev
open Go Go.Proofs Go.Proofs.Ev
set_option linter.unusedVariables false
set_option maxRecDepth 100000
abbrev Q25.A:=Int × Int × Int
abbrev Q25.T:=Int
def Q25.i:Q25.A→List AV:=fun (a0,a1,a2)=>[AV.agg [vi a0,vi a1,vi a2]]
def Q25.o (xs:List AV):Option Q25.A:=match xs with | [.agg [.v (.int .i64 a0),.v (.int .i64 a1),.v (.int .i64 a2)]]=>some (a0,a1,a2) | _=>none
theorem Q25.oi:∀ xs a,Q25.o xs=some a→xs=Q25.i a:=by
 intro xs a h
 unfold Q25.o at h
 split at h
 ·cases h; rfl
 ·cases h
def Q25.p (p:Q25.T):AV:=vi p
def Q25.q (x:AV):Option Q25.T:=match x with | .v (.int .i64 p0)=>some p0 | _=>none
theorem Q25.qi:∀ x p,Q25.q x=some p→x=Q25.p p:=by
 intro x p h
 unfold Q25.q at h
 split at h
 ·cases h; rfl
 ·cases h
def Q25.C {R:Type} (n:Nat) (f:FuncId) (xs:List AV):(AV→Option R)→Option R:=
 fun _=>none
theorem Q25.tells {R:Type} (n:Nat):Tells (R:=R) Tryz.prog (Q25.C n):=fun _ xs=>Tells1.none
def Q25.cut (r:Nat):Option Keep:=match r with  | _=>none
def Q25.e (n:Nat) (a0 a1 a2:Int):Option Int:=
 bif a0==1 then (let y1:Int:=IntKind.i64.wrap (Int.tdiv a1 2)
 some (IntKind.i64.wrap (y1+1))) else (bif a0==3 then (let y2:Int:=IntKind.i64.wrap (Int.tdiv a1 9)
 let y3:Int:=IntKind.i64.wrap ((2:Int)+(IntKind.i64.wrap (y2*2)))
 some y3) else (bif a0==4 then (some 16) else (some a1)))
def Q25.E (n:Nat):Q25.A→Option Q25.T:=fun (a0,a1,a2)=>Q25.e n a0 a1 a2
def Q25.F (n:Nat) (a0 a1 a2:Int):Option Int:=Q25.e n a0 a1 a2
def Q25.FA (n:Nat):Q25.A→Option Q25.T:=Q25.E n
theorem Q25.hands (n:Nat):∀ a p,Q25.FA n a=some p→HandsIn Tryz.prog 165 (Q25.i a) (Q25.p p):=
 pf_hands (C:=Q25.C n) (cut:=Q25.cut) (Z:=Empty) (t:=nofun) (s:=nofun) (e:=fun _=>Q25.E n) (r:=fun _ z=>nomatch z) (n:=n) cfg mixed globs rfl Q25.qi (Q25.tells n) Tryz.func165 (by kernel_rfl) (by kernel_rfl) (fun rec a=>by kernel_rfl) (fun rec z=>nomatch z)
def Q25.via {R:Type} (n:Nat):List AV→(AV→Option R)→Option R:=viaK (Q25.FA n) Q25.o Q25.p
theorem Q25.tells1 {R:Type} (n:Nat) (xs:List AV):Tells1 (R:=R) Tryz.prog 165 xs (Q25.via n xs):=tells_via Q25.oi (fun a=>by kernel_rfl) (Q25.hands n) xs
end Go.Proofs.YtnoldakbllfmnaaGreatDoor.Ev
namespace Go.Proofs.YtnoldakbllfmnaaGreatDoor.Ev
open Go Go.Proofs Go.Proofs.Ev
set_option linter.unusedVariables false
set_option maxRecDepth 100000
abbrev Q1u.A:=Int × Int × Int
abbrev Q1u.T:=Int × Int
def Q1u.i:Q1u.A→List AV:=fun (a0,a1,a2)=>[AV.agg [vi a0,vi a1,vi a2]]
def Q1u.o (xs:List AV):Option Q1u.A:=match xs with | [.agg [.v (.int .i64 a0),.v (.int .i64 a1),.v (.int .i64 a2)]]=>some (a0,a1,a2) | _=>none
theorem Q1u.oi:∀ xs a,Q1u.o xs=some a→xs=Q1u.i a:=by
 intro xs a h
 unfold Q1u.o at h
 split at h
 ·cases h; rfl
 ·cases h
def Q1u.p (p:Q1u.T):AV:=.tup [vi p.1,vi p.2]
def Q1u.q (x:AV):Option Q1u.T:=match x with | .tup [.v (.int .i64 p0),.v (.int .i64 p1)]=>some (p0,p1) | _=>none
theorem Q1u.qi:∀ x p,Q1u.q x=some p→x=Q1u.p p:=by
 intro x p h
 unfold Q1u.q at h
 split at h
 ·cases h; rfl
 ·cases h
def Q1u.C {R:Type} (n:Nat) (f:FuncId) (xs:List AV):(AV→Option R)→Option R:=
 bif Nat.beq f 81 then Q1p.via n xs else bif Nat.beq f 165 then Q25.via n xs else fun _=>none
theorem Q1u.tells {R:Type} (n:Nat):Tells (R:=R) Tryz.prog (Q1u.C n):=fun _ xs=>tells_at (Q1p.tells1 n xs) (tells_at (Q25.tells1 n xs) (Tells1.none))
def Q1u.cut (r:Nat):Option Keep:=match r with  | _=>none
def Q1u.e (n:Nat) (a0 a1 a2:Int):Option (Int × Int):=
 (Q1p.F n a0 a1 a2).bind fun p1=>
 bif p1 != 0 then (some (0,p1)) else ((Q25.F n a0 a1 a2).bind fun p2=>
 some (p2,0))
def Q1u.E (n:Nat):Q1u.A→Option Q1u.T:=fun (a0,a1,a2)=>Q1u.e n a0 a1 a2
def Q1u.F (n:Nat) (a0 a1 a2:Int):Option (Int × Int):=Q1u.e n a0 a1 a2
def Q1u.FA (n:Nat):Q1u.A→Option Q1u.T:=Q1u.E n
theorem Q1u.hands (n:Nat):∀ a p,Q1u.FA n a=some p→HandsIn Tryz.prog 136 (Q1u.i a) (Q1u.p p):=
 pf_hands (C:=Q1u.C n) (cut:=Q1u.cut) (Z:=Empty) (t:=nofun) (s:=nofun) (e:=fun _=>Q1u.E n) (r:=fun _ z=>nomatch z) (n:=n) cfg mixed globs rfl Q1u.qi (Q1u.tells n) Tryz.func136 (by kernel_rfl) (by kernel_rfl) (fun rec a=>by kernel_rfl) (fun rec z=>nomatch z)
def Q1u.via {R:Type} (n:Nat):List AV→(AV→Option R)→Option R:=viaK (Q1u.FA n) Q1u.o Q1u.p
theorem Q1u.tells1 {R:Type} (n:Nat) (xs:List AV):Tells1 (R:=R) Tryz.prog 136 xs (Q1u.via n xs):=tells_via Q1u.oi (fun a=>by kernel_rfl) (Q1u.hands n) xs
end Go.Proofs.YtnoldakbllfmnaaGreatDoor.Ev
namespace Go.Proofs.YtnoldakbllfmnaaGreatDoor.Ev
open Go Go.Proofs Go.Proofs.Ev
set_option linter.unusedVariables false
set_option maxRecDepth 100000
abbrev Q34.A:=ByteArray × Int × Int × Int × Int × Int × ByteArray × ByteArray × Int × Int
abbrev Q34.T:=Int
def Q34.i:Q34.A→List AV:=fun (a0,a1,a2,a3,a4,a5,a6,a7,a8,a9)=>[AV.agg [vs a0,vi a1,vi a2,vi a3,vi a4,vi a5,vs a6,vs a7,vi a8,vi a9]]
def Q34.o (xs:List AV):Option Q34.A:=match xs with | [.agg [.v (.string a0),.v (.int .i64 a1),.v (.int .i64 a2),.v (.int .i64 a3),.v (.int .i64 a4),.v (.int .i64 a5),.v (.string a6),.v (.string a7),.v (.int .i64 a8),.v (.int .i64 a9)]]=>some (a0,a1,a2,a3,a4,a5,a6,a7,a8,a9) | _=>none
theorem Q34.oi:∀ xs a,Q34.o xs=some a→xs=Q34.i a:=by
 intro xs a h
 unfold Q34.o at h
 split at h
 ·cases h; rfl
 ·cases h
def Q34.p (p:Q34.T):AV:=vi p
def Q34.q (x:AV):Option Q34.T:=match x with | .v (.int .i64 p0)=>some p0 | _=>none
theorem Q34.qi:∀ x p,Q34.q x=some p→x=Q34.p p:=by
 intro x p h
 unfold Q34.q at h
 split at h
 ·cases h; rfl
 ·cases h
def Q34.C {R:Type} (n:Nat) (f:FuncId) (xs:List AV):(AV→Option R)→Option R:=
 bif Nat.beq f 136 then Q1u.via n xs else fun _=>none
theorem Q34.tells {R:Type} (n:Nat):Tells (R:=R) Tryz.prog (Q34.C n):=fun _ xs=>tells_at (Q1u.tells1 n xs) (Tells1.none)
def Q34.cut (r:Nat):Option Keep:=match r with  | _=>none
def Q34.e (n:Nat) (a0:ByteArray) (a1 a2 a3 a4 a5:Int) (a6 a7:ByteArray) (a8 a9:Int):Option Int:=
 (Q1u.F n a2 a3 a4).bind fun p1=>
 some p1.1
def Q34.E (n:Nat):Q34.A→Option Q34.T:=fun (a0,a1,a2,a3,a4,a5,a6,a7,a8,a9)=>Q34.e n a0 a1 a2 a3 a4 a5 a6 a7 a8 a9
def Q34.F (n:Nat) (a0:ByteArray) (a1 a2 a3 a4 a5:Int) (a6 a7:ByteArray) (a8 a9:Int):Option Int:=Q34.e n a0 a1 a2 a3 a4 a5 a6 a7 a8 a9
def Q34.FA (n:Nat):Q34.A→Option Q34.T:=Q34.E n
theorem Q34.hands (n:Nat):∀ a p,Q34.FA n a=some p→HandsIn Tryz.prog 85 (Q34.i a) (Q34.p p):=
 pf_hands (C:=Q34.C n) (cut:=Q34.cut) (Z:=Empty) (t:=nofun) (s:=nofun) (e:=fun _=>Q34.E n) (r:=fun _ z=>nomatch z) (n:=n) cfg mixed globs rfl Q34.qi (Q34.tells n) Tryz.func85 (by kernel_rfl) (by kernel_rfl) (fun rec a=>by kernel_rfl) (fun rec z=>nomatch z)
def Q34.via {R:Type} (n:Nat):List AV→(AV→Option R)→Option R:=viaK (Q34.FA n) Q34.o Q34.p
theorem Q34.tells1 {R:Type} (n:Nat) (xs:List AV):Tells1 (R:=R) Tryz.prog 85 xs (Q34.via n xs):=tells_via Q34.oi (fun a=>by kernel_rfl) (Q34.hands n) xs
end Go.Proofs.YtnoldakbllfmnaaGreatDoor.Ev
namespace Go.Proofs.YtnoldakbllfmnaaGreatDoor.Ev
open Go Go.Proofs Go.Proofs.Ev
set_option linter.unusedVariables false
set_option maxRecDepth 100000
abbrev Q2e.A:=ByteArray × Int × Int × Int × Int × Int × ByteArray × ByteArray × Int × Int × List AV
abbrev Q2e.T:=Int
def Q2e.i:Q2e.A→List AV:=fun (a0,a1,a2,a3,a4,a5,a6,a7,a8,a9,a10)=>[AV.agg [vs a0,vi a1,vi a2,vi a3,vi a4,vi a5,vs a6,vs a7,vi a8,vi a9],.sl ⟨true,74,false⟩ 10 a10]
def Q2e.o (xs:List AV):Option Q2e.A:=match xs with | [.agg [.v (.string a0),.v (.int .i64 a1),.v (.int .i64 a2),.v (.int .i64 a3),.v (.int .i64 a4),.v (.int .i64 a5),.v (.string a6),.v (.string a7),.v (.int .i64 a8),.v (.int .i64 a9)],.sl ⟨true,74,false⟩ 10 a10]=>some (a0,a1,a2,a3,a4,a5,a6,a7,a8,a9,a10) | _=>none
theorem Q2e.oi:∀ xs a,Q2e.o xs=some a→xs=Q2e.i a:=by
 intro xs a h
 unfold Q2e.o at h
 split at h
 ·cases h; rfl
 ·cases h
def Q2e.p (p:Q2e.T):AV:=vi p
def Q2e.q (x:AV):Option Q2e.T:=match x with | .v (.int .i64 p0)=>some p0 | _=>none
theorem Q2e.qi:∀ x p,Q2e.q x=some p→x=Q2e.p p:=by
 intro x p h
 unfold Q2e.q at h
 split at h
 ·cases h; rfl
 ·cases h
def Q2e.C {R:Type} (n:Nat) (f:FuncId) (xs:List AV):(AV→Option R)→Option R:=
 bif Nat.beq f 43 then Q2i.via n xs else bif Nat.beq f 44 then Q2g.via n xs else bif Nat.beq f 66 then Q2w.via n xs else bif Nat.beq f 67 then Q2k.via n xs else bif Nat.beq f 85 then Q34.via n xs else fun _=>none
theorem Q2e.tells {R:Type} (n:Nat):Tells (R:=R) Tryz.prog (Q2e.C n):=fun _ xs=>tells_at (Q2i.tells1 n xs) (tells_at (Q2g.tells1 n xs) (tells_at (Q2w.tells1 n xs) (tells_at (Q2k.tells1 n xs) (tells_at (Q34.tells1 n xs) (Tells1.none)))))
def Q2e.cut (r:Nat):Option Keep:=match r with  | _=>none
def Q2e.e (n:Nat) (a0:ByteArray) (a1 a2 a3 a4 a5:Int) (a6 a7:ByteArray) (a8 a9:Int) (a10:List AV):Option Int:=
 (Q2w.F n a10 a7).bind fun p1=>
 bif decide (p1 < 0) then (some 11) else (bif decide ((0:Int)≤p1)&&decide (p1 < ((a10.length:Nat):Int)) then (withCons ((a10.getD ((p1).toNat) .undef).cells) fun h2 r3=>
 withStr h2 fun s4=>
 withCons r3 fun h5 r6=>
 withInt .i64 h5 fun x7=>
 withCons r6 fun h8 r9=>
 withInt .i64 h8 fun x10=>
 withCons r9 fun h11 r12=>
 withInt .i64 h11 fun x13=>
 withCons r12 fun h14 r15=>
 withInt .i64 h14 fun x16=>
 withCons r15 fun h17 r18=>
 withInt .i64 h17 fun x19=>
 withCons r18 fun h20 r21=>
 withStr h20 fun s22=>
 withCons r21 fun h23 r24=>
 withStr h23 fun s25=>
 withCons r24 fun h26 r27=>
 withInt .i64 h26 fun x28=>
 withCons r27 fun h29 r30=>
 withInt .i64 h29 fun x31=>
 bif a1==2 then ((Q2g.F n (x7 != 3) 17).bind fun p32=>
 (Q2k.F n a8 0 256).bind fun p33=>
 (Q2g.F n (!p33) 3).bind fun p34=>
 (Q2i.F n [vi p32,vi p34]).bind fun p35=>
 some p35) else (bif x7 != 0 then (some 17) else ((Q34.F n s4 x7 x10 x13 x16 x19 s22 s25 x28 x31).bind fun p36=>
 (Q34.F n a0 a1 a2 a3 a4 a5 a6 a7 a8 a9).bind fun p37=>
 (Q2k.F n a8 0 (IntKind.i64.wrap (p36 - p37))).bind fun p38=>
 (Q2g.F n (!p38) 3).bind fun p39=>
 some p39))) else none)
def Q2e.E (n:Nat):Q2e.A→Option Q2e.T:=fun (a0,a1,a2,a3,a4,a5,a6,a7,a8,a9,a10)=>Q2e.e n a0 a1 a2 a3 a4 a5 a6 a7 a8 a9 a10
def Q2e.F (n:Nat) (a0:ByteArray) (a1 a2 a3 a4 a5:Int) (a6 a7:ByteArray) (a8 a9:Int) (a10:List AV):Option Int:=Q2e.e n a0 a1 a2 a3 a4 a5 a6 a7 a8 a9 a10
def Q2e.FA (n:Nat):Q2e.A→Option Q2e.T:=Q2e.E n
theorem Q2e.hands (n:Nat):∀ a p,Q2e.FA n a=some p→HandsIn Tryz.prog 83 (Q2e.i a) (Q2e.p p):=
 pf_hands (C:=Q2e.C n) (cut:=Q2e.cut) (Z:=Empty) (t:=nofun) (s:=nofun) (e:=fun _=>Q2e.E n) (r:=fun _ z=>nomatch z) (n:=n) cfg mixed globs rfl Q2e.qi (Q2e.tells n) Tryz.func83 (by kernel_rfl) (by kernel_rfl) (fun rec a=>by kernel_rfl) (fun rec z=>nomatch z)
def Q2e.via {R:Type} (n:Nat):List AV→(AV→Option R)→Option R:=viaK (Q2e.FA n) Q2e.o Q2e.p
theorem Q2e.tells1 {R:Type} (n:Nat) (xs:List AV):Tells1 (R:=R) Tryz.prog 83 xs (Q2e.via n xs):=tells_via Q2e.oi (fun a=>by kernel_rfl) (Q2e.hands n) xs
end Go.Proofs.YtnoldakbllfmnaaGreatDoor.Ev
namespace Go.Proofs.YtnoldakbllfmnaaGreatDoor.Ev
open Go Go.Proofs Go.Proofs.Ev
set_option linter.unusedVariables false
set_option maxRecDepth 100000
abbrev Q2z.A:=List AV × List AV × List AV × Int
abbrev Q2z.T:=Int
def Q2z.i:Q2z.A→List AV:=fun (a0,a1,a2,a3)=>[AV.agg [.sl ⟨true,74,false⟩ 10 a0,.sl ⟨false,86,false⟩ 2 a1,.sl ⟨true,82,false⟩ 4 a2],vi a3]
def Q2z.o (xs:List AV):Option Q2z.A:=match xs with | [.agg [.sl ⟨true,74,false⟩ 10 a0,.sl ⟨false,86,false⟩ 2 a1,.sl ⟨true,82,false⟩ 4 a2],.v (.int .i64 a3)]=>some (a0,a1,a2,a3) | _=>none
theorem Q2z.oi:∀ xs a,Q2z.o xs=some a→xs=Q2z.i a:=by
 intro xs a h
 unfold Q2z.o at h
 split at h
 ·cases h; rfl
 ·cases h
def Q2z.p (p:Q2z.T):AV:=vi p
def Q2z.q (x:AV):Option Q2z.T:=match x with | .v (.int .i64 p0)=>some p0 | _=>none
theorem Q2z.qi:∀ x p,Q2z.q x=some p→x=Q2z.p p:=by
 intro x p h
 unfold Q2z.q at h
 split at h
 ·cases h; rfl
 ·cases h
inductive Q2z.Z where
 | z12 (z1:ByteArray) (z2 z3 z4 z5 z6:Int) (z7 z8:ByteArray) (z9 z10:Int)
 | z15 (z1:List AV) (z2:ByteArray) (z3 z4 z5 z6 z7:Int) (z8 z9:ByteArray) (z10 z11:Int)
def Q2z.C {R:Type} (n:Nat) (f:FuncId) (xs:List AV):(AV→Option R)→Option R:=
 bif Nat.beq f 43 then Q2i.via n xs else bif Nat.beq f 44 then Q2g.via n xs else bif Nat.beq f 66 then Q2w.via n xs else bif Nat.beq f 67 then Q2k.via n xs else bif Nat.beq f 78 then Q2o.via n xs else bif Nat.beq f 79 then Q2s.via n xs else bif Nat.beq f 80 then Q2n.via n xs else bif Nat.beq f 81 then Q1p.via n xs else bif Nat.beq f 82 then Q1q.via n xs else bif Nat.beq f 83 then Q2e.via n xs else fun _=>none
theorem Q2z.tells {R:Type} (n:Nat):Tells (R:=R) Tryz.prog (Q2z.C n):=fun _ xs=>tells_at (Q2i.tells1 n xs) (tells_at (Q2g.tells1 n xs) (tells_at (Q2w.tells1 n xs) (tells_at (Q2k.tells1 n xs) (tells_at (Q2o.tells1 n xs) (tells_at (Q2s.tells1 n xs) (tells_at (Q2n.tells1 n xs) (tells_at (Q1p.tells1 n xs) (tells_at (Q1q.tells1 n xs) (tells_at (Q2e.tells1 n xs) (Tells1.none))))))))))
def Q2z.cut (r:Nat):Option Keep:=match r with | 12=>some ⟨[5],[]⟩ | 15=>some ⟨[5,6],[]⟩ | _=>none
def Q2z.t (z:Q2z.Z):List Item:=(todoOf (match z with | .z12 _ _ _ _ _ _ _ _ _ _=>12 | .z15 _ _ _ _ _ _ _ _ _ _ _=>15) 1000 [.code (Tryz.f45.body.getD .skip)]).getD []
def Q2z.s:Q2z.Z→St
 | .z12 z1 z2 z3 z4 z5 z6 z7 z8 z9 z10=>⟨spr 86 0 [(5,.ptr 0 0)],Mem.ofList [.box 74 [vs z1,vi z2,vi z3,vi z4,vi z5,vi z6,vs z7,vs z8,vi z9,vi z10]],1⟩
 | .z15 z1 z2 z3 z4 z5 z6 z7 z8 z9 z10 z11=>⟨spr 86 0 [(5,.ptr 0 0),(6,.sl ⟨true,74,false⟩ 10 z1)],Mem.ofList [.box 74 [vs z2,vi z3,vi z4,vi z5,vi z6,vi z7,vs z8,vs z9,vi z10,vi z11]],1⟩
def Q2z.r12 (n:Nat) (c:Q2z.Z→Option Int) (z1:ByteArray) (z2 z3 z4 z5 z6:Int) (z7 z8:ByteArray) (z9 z10:Int):Option Int:=
 (Q1q.F n z3 z4 z5 z6 z7).bind fun p51=>
 some p51
def Q2z.r15 (n:Nat) (c:Q2z.Z→Option Int) (z1:List AV) (z2:ByteArray) (z3 z4 z5 z6 z7:Int) (z8 z9:ByteArray) (z10 z11:Int):Option Int:=
 (Q2e.F n z2 z3 z4 z5 z6 z7 z8 z9 z10 z11 z1).bind fun p52=>
 some p52
def Q2z.r (n:Nat) (c:Q2z.Z→Option Int):Q2z.Z→Option Int
 | .z12 z1 z2 z3 z4 z5 z6 z7 z8 z9 z10=>Q2z.r12 n c z1 z2 z3 z4 z5 z6 z7 z8 z9 z10
 | .z15 z1 z2 z3 z4 z5 z6 z7 z8 z9 z10 z11=>Q2z.r15 n c z1 z2 z3 z4 z5 z6 z7 z8 z9 z10 z11
def Q2z.e (n:Nat) (c:Q2z.Z→Option Int) (a0 a1 a2:List AV) (a3:Int):Option Int:=
 bif decide ((0:Int)≤a3)&&decide (a3 < ((a0.length:Nat):Int)) then (withCons ((a0.getD ((a3).toNat) .undef).cells) fun h1 r2=>
 withStr h1 fun s3=>
 withCons r2 fun h4 r5=>
 withInt .i64 h4 fun x6=>
 withCons r5 fun h7 r8=>
 withInt .i64 h7 fun x9=>
 withCons r8 fun h10 r11=>
 withInt .i64 h10 fun x12=>
 withCons r11 fun h13 r14=>
 withInt .i64 h13 fun x15=>
 withCons r14 fun h16 r17=>
 withInt .i64 h16 fun x18=>
 withCons r17 fun h19 r20=>
 withStr h19 fun s21=>
 withCons r20 fun h22 r23=>
 withStr h22 fun s24=>
 withCons r23 fun h25 r26=>
 withInt .i64 h25 fun x27=>
 withCons r26 fun h28 r29=>
 withInt .i64 h28 fun x30=>
 bif decide ((0:Int)≤a3)&&decide ((a3:Int)≤((a0.length:Nat):Int)) then ((Q2o.F n s3).bind fun p31=>
 (Q2g.F n (!p31) 7).bind fun p32=>
 (Q2w.F n ((a0.take (a3).toNat).drop 0) s3).bind fun p33=>
 (Q2g.F n (decide (p33≥0)) 13).bind fun p34=>
 (Q2k.F n x6 0 5).bind fun p35=>
 (Q2g.F n (!p35) 4).bind fun p36=>
 (Q2s.F n s3 x6 x9 x12 x15 x18 s21 s24 x27 x30).bind fun p37=>
 let y38:Bool:=!((p37.1==s3)&&((p37.2.1==x6)&&((p37.2.2.1==x9)&&((p37.2.2.2.1==x12)&&((p37.2.2.2.2.1==x15)&&((p37.2.2.2.2.2.1==x18)&&((p37.2.2.2.2.2.2.1==s21)&&((p37.2.2.2.2.2.2.2.1==s24)&&((p37.2.2.2.2.2.2.2.2.1==x27)&&((p37.2.2.2.2.2.2.2.2.2==x30)&&true))))))))))
 (Q2g.F n y38 5).bind fun p39=>
 (Q2i.F n [vi p32,vi p34,vi p36,vi p39]).bind fun p40=>
 bif p40 != 0 then (some p40) else ((Q2n.F n s3 x6 x9 x12 x15 x18 s21 s24 x27 x30).bind fun p41=>
 bif p41 then ((Q1p.F n x9 x12 x15).bind fun p42=>
 (Q2g.F n (x9==4) 17).bind fun p43=>
 (Q2i.F n [vi p42,vi p43]).bind fun p44=>
 bif p44 != 0 then (some p44) else (bif x6==0 then (c (.z12 s3 x6 x9 x12 x15 x18 s21 s24 x27 x30)) else (bif x6==4 then (c (.z12 s3 x6 x9 x12 x15 x18 s21 s24 x27 x30)) else (bif x6==1 then (c (.z15 ((a0.take (a3).toNat).drop 0) s3 x6 x9 x12 x15 x18 s21 s24 x27 x30)) else (bif x6==2 then (c (.z15 ((a0.take (a3).toNat).drop 0) s3 x6 x9 x12 x15 x18 s21 s24 x27 x30)) else (bif x6==5 then (let y45:Int:=IntKind.i64.wrap (((a1.length:Nat):Int) - 1)
 (Q2k.F n x30 0 y45).bind fun p46=>
 (Q2g.F n (!p46) 3).bind fun p47=>
 some p47) else (some 0))))))) else (bif x6==0 then (c (.z12 s3 x6 x9 x12 x15 x18 s21 s24 x27 x30)) else (bif x6==4 then (c (.z12 s3 x6 x9 x12 x15 x18 s21 s24 x27 x30)) else (bif x6==1 then (c (.z15 ((a0.take (a3).toNat).drop 0) s3 x6 x9 x12 x15 x18 s21 s24 x27 x30)) else (bif x6==2 then (c (.z15 ((a0.take (a3).toNat).drop 0) s3 x6 x9 x12 x15 x18 s21 s24 x27 x30)) else (bif x6==5 then (let y48:Int:=IntKind.i64.wrap (((a1.length:Nat):Int) - 1)
 (Q2k.F n x30 0 y48).bind fun p49=>
 (Q2g.F n (!p49) 3).bind fun p50=>
 some p50) else (some 0)))))))) else none) else none
def Q2z.E (n:Nat) (c:Q2z.Z→Option Int):Q2z.A→Option Q2z.T:=fun (a0,a1,a2,a3)=>Q2z.e n c a0 a1 a2 a3
def Q2z.l (n:Nat):Nat→Q2z.Z→Option Int:=loopL (Q2z.r n)
def Q2z.F (n:Nat) (a0 a1 a2:List AV) (a3:Int):Option Int:=Q2z.e n (Q2z.l n n) a0 a1 a2 a3
def Q2z.FA (n:Nat):Q2z.A→Option Q2z.T:=Q2z.E n (Q2z.l n n)
theorem Q2z.hands (n:Nat):∀ a p,Q2z.FA n a=some p→HandsIn Tryz.prog 45 (Q2z.i a) (Q2z.p p):=
 pf_hands (C:=Q2z.C n) (cut:=Q2z.cut) (t:=Q2z.t) (s:=Q2z.s) (e:=Q2z.E n) (r:=Q2z.r n) (n:=n) cfg mixed globs rfl Q2z.qi (Q2z.tells n) Tryz.func45 (by kernel_rfl) (by kernel_rfl) (fun rec a=>by kernel_rfl) (fun rec z=>by cases z <;> kernel_rfl)
def Q2z.via {R:Type} (n:Nat):List AV→(AV→Option R)→Option R:=viaK (Q2z.FA n) Q2z.o Q2z.p
theorem Q2z.tells1 {R:Type} (n:Nat) (xs:List AV):Tells1 (R:=R) Tryz.prog 45 xs (Q2z.via n xs):=tells_via Q2z.oi (fun a=>by kernel_rfl) (Q2z.hands n) xs
end Go.Proofs.YtnoldakbllfmnaaGreatDoor.Ev
namespace Go.Proofs.YtnoldakbllfmnaaGreatDoor.Ev
open Go Go.Proofs Go.Proofs.Ev
set_option linter.unusedVariables false
set_option maxRecDepth 100000
abbrev Q02.A:=Int × Int
abbrev Q02.T:=Int × Int
def Q02.i:Q02.A→List AV:=fun (a0,a1)=>[.v (.int .u64 a0),.v (.int .u64 a1)]
def Q02.o (xs:List AV):Option Q02.A:=match xs with | [.v (.int .u64 a0),.v (.int .u64 a1)]=>some (a0,a1) | _=>none
theorem Q02.oi:∀ xs a,Q02.o xs=some a→xs=Q02.i a:=by
 intro xs a h
 unfold Q02.o at h
 split at h
 ·cases h; rfl
 ·cases h
def Q02.p (p:Q02.T):AV:=.tup [.v (.int .u64 p.1),.v (.int .u64 p.2)]
def Q02.q (x:AV):Option Q02.T:=match x with | .tup [.v (.int .u64 p0),.v (.int .u64 p1)]=>some (p0,p1) | _=>none
theorem Q02.qi:∀ x p,Q02.q x=some p→x=Q02.p p:=by
 intro x p h
 unfold Q02.q at h
 split at h
 ·cases h; rfl
 ·cases h
def Q02.C {R:Type} (n:Nat) (f:FuncId) (xs:List AV):(AV→Option R)→Option R:=
 fun _=>none
theorem Q02.tells {R:Type} (n:Nat):Tells (R:=R) Tryz.prog (Q02.C n):=fun _ xs=>Tells1.none
def Q02.cut (r:Nat):Option Keep:=match r with  | _=>none
def Q02.e (n:Nat) (a0 a1:Int):Option (Int × Int):=
 let y1:Int:=IntKind.u64.wrap (BitVec.ofInt 64 a0 &&& BitVec.ofInt 64 4294967295).toNat
 let y2:Int:=Int.fdiv a0 (2 ^ min (32:Int).toNat 64)
 let y3:Int:=IntKind.u64.wrap (BitVec.ofInt 64 a1 &&& BitVec.ofInt 64 4294967295).toNat
 let y4:Int:=Int.fdiv a1 (2 ^ min (32:Int).toNat 64)
 let y5:Int:=Int.fdiv (IntKind.u64.wrap (y1*y3)) (2 ^ min (32:Int).toNat 64)
 let y6:Int:=IntKind.u64.wrap ((IntKind.u64.wrap (y2*y3))+y5)
 let y7:Int:=IntKind.u64.wrap (BitVec.ofInt 64 y6 &&& BitVec.ofInt 64 4294967295).toNat
 let y8:Int:=Int.fdiv y6 (2 ^ min (32:Int).toNat 64)
 let y9:Int:=IntKind.u64.wrap (y7+(IntKind.u64.wrap (y1*y4)))
 let y10:Int:=IntKind.u64.wrap ((IntKind.u64.wrap (y2*y4))+y8)
 let y11:Int:=Int.fdiv y9 (2 ^ min (32:Int).toNat 64)
 some (IntKind.u64.wrap (y10+y11),IntKind.u64.wrap (a0*a1))
def Q02.E (n:Nat):Q02.A→Option Q02.T:=fun (a0,a1)=>Q02.e n a0 a1
def Q02.F (n:Nat) (a0 a1:Int):Option (Int × Int):=Q02.e n a0 a1
def Q02.FA (n:Nat):Q02.A→Option Q02.T:=Q02.E n
theorem Q02.hands (n:Nat):∀ a p,Q02.FA n a=some p→HandsIn Tryz.prog 171 (Q02.i a) (Q02.p p):=
 pf_hands (C:=Q02.C n) (cut:=Q02.cut) (Z:=Empty) (t:=nofun) (s:=nofun) (e:=fun _=>Q02.E n) (r:=fun _ z=>nomatch z) (n:=n) cfg mixed globs rfl Q02.qi (Q02.tells n) Tryz.func171 (by kernel_rfl) (by kernel_rfl) (fun rec a=>by kernel_rfl) (fun rec z=>nomatch z)
def Q02.via {R:Type} (n:Nat):List AV→(AV→Option R)→Option R:=viaK (Q02.FA n) Q02.o Q02.p
theorem Q02.tells1 {R:Type} (n:Nat) (xs:List AV):Tells1 (R:=R) Tryz.prog 171 xs (Q02.via n xs):=tells_via Q02.oi (fun a=>by kernel_rfl) (Q02.hands n) xs
end Go.Proofs.YtnoldakbllfmnaaGreatDoor.Ev
namespace Go.Proofs.YtnoldakbllfmnaaGreatDoor.Ev
open Go Go.Proofs Go.Proofs.Ev
set_option linter.unusedVariables false
set_option maxRecDepth 100000
abbrev Q01.A:=Int × Int
abbrev Q01.T:=Int × Int
def Q01.i:Q01.A→List AV:=fun (a0,a1)=>[.v (.int .u64 a0),.v (.int .u64 a1)]
def Q01.o (xs:List AV):Option Q01.A:=match xs with | [.v (.int .u64 a0),.v (.int .u64 a1)]=>some (a0,a1) | _=>none
theorem Q01.oi:∀ xs a,Q01.o xs=some a→xs=Q01.i a:=by
 intro xs a h
 unfold Q01.o at h
 split at h
 ·cases h; rfl
 ·cases h
def Q01.p (p:Q01.T):AV:=.tup [.v (.int .u64 p.1),.v (.int .u64 p.2)]
def Q01.q (x:AV):Option Q01.T:=match x with | .tup [.v (.int .u64 p0),.v (.int .u64 p1)]=>some (p0,p1) | _=>none
theorem Q01.qi:∀ x p,Q01.q x=some p→x=Q01.p p:=by
 intro x p h
 unfold Q01.q at h
 split at h
 ·cases h; rfl
 ·cases h
def Q01.C {R:Type} (n:Nat) (f:FuncId) (xs:List AV):(AV→Option R)→Option R:=
 bif Nat.beq f 171 then Q02.via n xs else fun _=>none
theorem Q01.tells {R:Type} (n:Nat):Tells (R:=R) Tryz.prog (Q01.C n):=fun _ xs=>tells_at (Q02.tells1 n xs) (Tells1.none)
def Q01.cut (r:Nat):Option Keep:=match r with  | _=>none
def Q01.e (n:Nat) (a0 a1:Int):Option (Int × Int):=
 (Q02.F n a0 a1).bind fun p1=>
 some (p1.1,p1.2)
def Q01.E (n:Nat):Q01.A→Option Q01.T:=fun (a0,a1)=>Q01.e n a0 a1
def Q01.F (n:Nat) (a0 a1:Int):Option (Int × Int):=Q01.e n a0 a1
def Q01.FA (n:Nat):Q01.A→Option Q01.T:=Q01.E n
theorem Q01.hands (n:Nat):∀ a p,Q01.FA n a=some p→HandsIn Tryz.prog 135 (Q01.i a) (Q01.p p):=
 pf_hands (C:=Q01.C n) (cut:=Q01.cut) (Z:=Empty) (t:=nofun) (s:=nofun) (e:=fun _=>Q01.E n) (r:=fun _ z=>nomatch z) (n:=n) cfg mixed globs rfl Q01.qi (Q01.tells n) Tryz.func135 (by kernel_rfl) (by kernel_rfl) (fun rec a=>by kernel_rfl) (fun rec z=>nomatch z)
def Q01.via {R:Type} (n:Nat):List AV→(AV→Option R)→Option R:=viaK (Q01.FA n) Q01.o Q01.p
theorem Q01.tells1 {R:Type} (n:Nat) (xs:List AV):Tells1 (R:=R) Tryz.prog 135 xs (Q01.via n xs):=tells_via Q01.oi (fun a=>by kernel_rfl) (Q01.hands n) xs
end Go.Proofs.YtnoldakbllfmnaaGreatDoor.Ev
namespace Go.Proofs.YtnoldakbllfmnaaGreatDoor.Ev
open Go Go.Proofs Go.Proofs.Ev
set_option linter.unusedVariables false
set_option maxRecDepth 100000
abbrev Q3j.A:=List AV × Int
abbrev Q3j.T:=List AV
def Q3j.i:Q3j.A→List AV:=fun (a0,a1)=>[.sl ⟨true,3,false⟩ 1 a0,vi a1]
def Q3j.o (xs:List AV):Option Q3j.A:=match xs with | [.sl ⟨true,3,false⟩ 1 a0,.v (.int .i64 a1)]=>some (a0,a1) | _=>none
theorem Q3j.oi:∀ xs a,Q3j.o xs=some a→xs=Q3j.i a:=by
 intro xs a h
 unfold Q3j.o at h
 split at h
 ·cases h; rfl
 ·cases h
def Q3j.p (p:Q3j.T):AV:=.fr ⟨true,3,false⟩ 1 p
def Q3j.q (x:AV):Option Q3j.T:=match x with | .fr ⟨true,3,false⟩ 1 p0=>some p0 | _=>none
theorem Q3j.qi:∀ x p,Q3j.q x=some p→x=Q3j.p p:=by
 intro x p h
 unfold Q3j.q at h
 split at h
 ·cases h; rfl
 ·cases h
inductive Q3j.Z where
 | z8 (z1:Int) (z2:List AV)
def Q3j.C {R:Type} (n:Nat) (f:FuncId) (xs:List AV):(AV→Option R)→Option R:=
 bif Nat.beq f 135 then Q01.via n xs else fun _=>none
theorem Q3j.tells {R:Type} (n:Nat):Tells (R:=R) Tryz.prog (Q3j.C n):=fun _ xs=>tells_at (Q01.tells1 n xs) (Tells1.none)
def Q3j.cut (r:Nat):Option Keep:=match r with | 8=>some ⟨[7,8],[]⟩ | _=>none
def Q3j.t (z:Q3j.Z):List Item:=(todoOf (match z with | .z8 _ _=>8) 1000 [.code (Tryz.f84.body.getD .skip)]).getD []
def Q3j.s:Q3j.Z→St
 | .z8 z1 z2=>⟨spr 48 0 [(7,.own 0 0 none),(8,vi z1)],Mem.ofList [.row ⟨true,3,false⟩ 1 z2],1⟩
def Q3j.r8 (n:Nat) (c:Q3j.Z→Option (List AV)) (z1:Int) (z2:List AV):Option (List AV):=
 let y6:Bool:=decide (z1 < ((z2.length:Nat):Int))
 bif y6 then (bif decide ((0:Int)≤z1)&&decide ((z1:Int)≤((z2.length:Nat):Int)) then (bif decide ((0:Int)≤z1)&&decide ((z1:Int)≤((z2.length:Nat):Int)) then (let y7:List AV:=(z2.drop 0).take ((z1 - 0).toNat)
 let y8:Nat:=min (z2.length - ((z1).toNat)) y7.length
 let y9:List AV:=z2.take ((z1).toNat)++y7.take y8++z2.drop (y8+((z1).toNat))
 let y10:Int:=IntKind.i64.wrap (z1+((y8:Nat):Int))
 c (.z8 y10 y9)) else none) else none) else (some z2)
def Q3j.r (n:Nat) (c:Q3j.Z→Option (List AV)):Q3j.Z→Option (List AV)
 | .z8 z1 z2=>Q3j.r8 n c z1 z2
def Q3j.e (n:Nat) (c:Q3j.Z→Option (List AV)) (a0:List AV) (a1:Int):Option (List AV):=
 bif decide (a1 < 0) then (none) else (let y1:Int:=IntKind.u64.wrap ((a0.length:Nat):Int)
 (Q01.F n y1 (IntKind.u64.wrap a1)).bind fun p2=>
 bif decide (p2.1 > 0) then (none) else (let y3:Bool:=decide (p2.2 > 9223372036854775807)
 bif y3 then (none) else (bif (decide ((0:Int)≤IntKind.i64.wrap p2.2)&&decide ((IntKind.i64.wrap p2.2:Int)≤most))&&decide ((IntKind.i64.wrap p2.2:Int)=IntKind.i64.wrap p2.2)&&true&&true then (let y4:List AV:=List.replicate (IntKind.i64.wrap p2.2).toNat (vi 0)
 let y5:List AV:=y4.take 0++a0.take (min y4.length a0.length)++y4.drop ((min y4.length a0.length)+0)
 c (.z8 ((min y4.length a0.length:Nat):Int) y5)) else none)))
def Q3j.E (n:Nat) (c:Q3j.Z→Option (List AV)):Q3j.A→Option Q3j.T:=fun (a0,a1)=>Q3j.e n c a0 a1
def Q3j.l (n:Nat):Nat→Q3j.Z→Option (List AV):=loopL (Q3j.r n)
def Q3j.F (n:Nat) (a0:List AV) (a1:Int):Option (List AV):=Q3j.e n (Q3j.l n n) a0 a1
def Q3j.FA (n:Nat):Q3j.A→Option Q3j.T:=Q3j.E n (Q3j.l n n)
theorem Q3j.hands (n:Nat):∀ a p,Q3j.FA n a=some p→HandsIn Tryz.prog 84 (Q3j.i a) (Q3j.p p):=
 pf_hands (C:=Q3j.C n) (cut:=Q3j.cut) (t:=Q3j.t) (s:=Q3j.s) (e:=Q3j.E n) (r:=Q3j.r n) (n:=n) cfg mixed globs rfl Q3j.qi (Q3j.tells n) Tryz.func84 (by kernel_rfl) (by kernel_rfl) (fun rec a=>by kernel_rfl) (fun rec z=>by cases z <;> kernel_rfl)
def Q3j.via {R:Type} (n:Nat):List AV→(AV→Option R)→Option R:=viaK (Q3j.FA n) Q3j.o Q3j.p
theorem Q3j.tells1 {R:Type} (n:Nat) (xs:List AV):Tells1 (R:=R) Tryz.prog 84 xs (Q3j.via n xs):=tells_via Q3j.oi (fun a=>by kernel_rfl) (Q3j.hands n) xs
end Go.Proofs.YtnoldakbllfmnaaGreatDoor.Ev
namespace Go.Proofs.YtnoldakbllfmnaaGreatDoor.Ev
open Go Go.Proofs Go.Proofs.Ev
set_option linter.unusedVariables false
set_option maxRecDepth 100000
abbrev Q2t.A:=List AV
abbrev Q2t.T:=List AV × Int
def Q2t.i:Q2t.A→List AV:=fun a0=>[.sl ⟨true,74,false⟩ 10 a0]
def Q2t.o (xs:List AV):Option Q2t.A:=match xs with | [.sl ⟨true,74,false⟩ 10 a0]=>some a0 | _=>none
theorem Q2t.oi:∀ xs a,Q2t.o xs=some a→xs=Q2t.i a:=by
 intro xs a h
 unfold Q2t.o at h
 split at h
 ·cases h; rfl
 ·cases h
def Q2t.p (p:Q2t.T):AV:=.tup [.fr ⟨true,3,false⟩ 1 p.1,vi p.2]
def Q2t.q (x:AV):Option Q2t.T:=match x with | .tup [.fr ⟨true,3,false⟩ 1 p0,.v (.int .i64 p1)]=>some (p0,p1) | _=>none
theorem Q2t.qi:∀ x p,Q2t.q x=some p→x=Q2t.p p:=by
 intro x p h
 unfold Q2t.q at h
 split at h
 ·cases h; rfl
 ·cases h
inductive Q2t.Z where
 | z4 (z1:List AV) (z2:Int) (z3:List AV) (z4 z5:Int) (z6:List AV)
 | z10 (z1:List AV) (z2:Int) (z3:List AV) (z4 z5:Int) (z6:List AV)
 | z16 (z1:List AV) (z2:Int) (z3:List AV) (z4 z5:Int) (z6:List AV)
def Q2t.C {R:Type} (n:Nat) (f:FuncId) (xs:List AV):(AV→Option R)→Option R:=
 bif Nat.beq f 66 then Q2w.via n xs else bif Nat.beq f 84 then Q3j.via n xs else bif Nat.beq f 85 then Q34.via n xs else fun _=>none
theorem Q2t.tells {R:Type} (n:Nat):Tells (R:=R) Tryz.prog (Q2t.C n):=fun _ xs=>tells_at (Q2w.tells1 n xs) (tells_at (Q3j.tells1 n xs) (tells_at (Q34.tells1 n xs) (Tells1.none)))
def Q2t.cut (r:Nat):Option Keep:=match r with | 4=>some ⟨[0,4,5,16,17,18],[]⟩ | 10=>some ⟨[0,4,5,33,34,35],[]⟩ | 16=>some ⟨[0,4,5,52,53,54],[]⟩ | _=>none
def Q2t.t (z:Q2t.Z):List Item:=(todoOf (match z with | .z4 _ _ _ _ _ _=>4 | .z10 _ _ _ _ _ _=>10 | .z16 _ _ _ _ _ _=>16) 1000 [.code (Tryz.f46.body.getD .skip)]).getD []
def Q2t.s:Q2t.Z→St
 | .z4 z1 z2 z3 z4 z5 z6=>⟨spr 81 0 [(0,.sl ⟨true,74,false⟩ 10 z1),(4,.own 0 0 none),(5,vi z2),(16,.sl ⟨true,74,false⟩ 10 z3),(17,vi z4),(18,vi z5)],Mem.ofList [.row ⟨true,3,false⟩ 1 z6],1⟩
 | .z10 z1 z2 z3 z4 z5 z6=>⟨spr 81 0 [(0,.sl ⟨true,74,false⟩ 10 z1),(4,.own 0 0 none),(5,vi z2),(33,.sl ⟨true,74,false⟩ 10 z3),(34,vi z4),(35,vi z5)],Mem.ofList [.row ⟨true,3,false⟩ 1 z6],1⟩
 | .z16 z1 z2 z3 z4 z5 z6=>⟨spr 81 0 [(0,.sl ⟨true,74,false⟩ 10 z1),(4,.own 0 0 none),(5,vi z2),(52,.sl ⟨true,74,false⟩ 10 z3),(53,vi z4),(54,vi z5)],Mem.ofList [.row ⟨true,3,false⟩ 1 z6],1⟩
def Q2t.r4 (n:Nat) (c:Q2t.Z→Option (List AV × Int)) (z1:List AV) (z2:Int) (z3:List AV) (z4 z5:Int) (z6:List AV):Option (List AV × Int):=
 bif decide (z5 < z4) then (bif decide ((0:Int)≤z5)&&decide (z5 < ((z3.length:Nat):Int)) then (withCons ((z3.getD ((z5).toNat) .undef).cells) fun h2 r3=>
 withStr h2 fun s4=>
 withCons r3 fun h5 r6=>
 withInt .i64 h5 fun x7=>
 withCons r6 fun h8 r9=>
 withInt .i64 h8 fun x10=>
 withCons r9 fun h11 r12=>
 withInt .i64 h11 fun x13=>
 withCons r12 fun h14 r15=>
 withInt .i64 h14 fun x16=>
 withCons r15 fun h17 r18=>
 withInt .i64 h17 fun x19=>
 withCons r18 fun h20 r21=>
 withStr h20 fun s22=>
 withCons r21 fun h23 r24=>
 withStr h23 fun s25=>
 withCons r24 fun h26 r27=>
 withInt .i64 h26 fun x28=>
 withCons r27 fun h29 r30=>
 withInt .i64 h29 fun x31=>
 bif x7==3 then (bif decide ((0:Int)≤z5)&&decide (z5 < ((z6.length:Nat):Int)) then (c (.z4 z1 (IntKind.i64.wrap (z2+16)) z3 z4 (IntKind.i64.wrap (z5+1)) (z6.set ((z5).toNat) (vi z2)))) else none) else (c (.z4 z1 z2 z3 z4 (IntKind.i64.wrap (z5+1)) z6))) else none) else (c (.z10 z1 z2 z1 ((z1.length:Nat):Int) 0 z6))
def Q2t.r10 (n:Nat) (c:Q2t.Z→Option (List AV × Int)) (z1:List AV) (z2:Int) (z3:List AV) (z4 z5:Int) (z6:List AV):Option (List AV × Int):=
 bif decide (z5 < z4) then (bif decide ((0:Int)≤z5)&&decide (z5 < ((z3.length:Nat):Int)) then (withCons ((z3.getD ((z5).toNat) .undef).cells) fun h32 r33=>
 withStr h32 fun s34=>
 withCons r33 fun h35 r36=>
 withInt .i64 h35 fun x37=>
 withCons r36 fun h38 r39=>
 withInt .i64 h38 fun x40=>
 withCons r39 fun h41 r42=>
 withInt .i64 h41 fun x43=>
 withCons r42 fun h44 r45=>
 withInt .i64 h44 fun x46=>
 withCons r45 fun h47 r48=>
 withInt .i64 h47 fun x49=>
 withCons r48 fun h50 r51=>
 withStr h50 fun s52=>
 withCons r51 fun h53 r54=>
 withStr h53 fun s55=>
 withCons r54 fun h56 r57=>
 withInt .i64 h56 fun x58=>
 withCons r57 fun h59 r60=>
 withInt .i64 h59 fun x61=>
 bif x37==0 then ((Q34.F n s34 x37 x40 x43 x46 x49 s52 s55 x58 x61).bind fun p62=>
 bif decide ((0:Int)≤z5)&&decide (z5 < ((z6.length:Nat):Int)) then (c (.z10 z1 (IntKind.i64.wrap (z2+p62)) z3 z4 (IntKind.i64.wrap (z5+1)) (z6.set ((z5).toNat) (vi z2)))) else none) else (c (.z10 z1 z2 z3 z4 (IntKind.i64.wrap (z5+1)) z6))) else none) else (c (.z16 z1 z2 z1 ((z1.length:Nat):Int) 0 z6))
def Q2t.r16 (n:Nat) (c:Q2t.Z→Option (List AV × Int)) (z1:List AV) (z2:Int) (z3:List AV) (z4 z5:Int) (z6:List AV):Option (List AV × Int):=
 bif decide (z5 < z4) then (bif decide ((0:Int)≤z5)&&decide (z5 < ((z3.length:Nat):Int)) then (withCons ((z3.getD ((z5).toNat) .undef).cells) fun h63 r64=>
 withStr h63 fun s65=>
 withCons r64 fun h66 r67=>
 withInt .i64 h66 fun x68=>
 withCons r67 fun h69 r70=>
 withInt .i64 h69 fun x71=>
 withCons r70 fun h72 r73=>
 withInt .i64 h72 fun x74=>
 withCons r73 fun h75 r76=>
 withInt .i64 h75 fun x77=>
 withCons r76 fun h78 r79=>
 withInt .i64 h78 fun x80=>
 withCons r79 fun h81 r82=>
 withStr h81 fun s83=>
 withCons r82 fun h84 r85=>
 withStr h84 fun s86=>
 withCons r85 fun h87 r88=>
 withInt .i64 h87 fun x89=>
 withCons r88 fun h90 r91=>
 withInt .i64 h90 fun x92=>
 bif x68==1 then ((Q2w.F n z1 s86).bind fun p93=>
 bif decide ((0:Int)≤p93)&&decide (p93 < ((z6.length:Nat):Int)) then (withCons ((z6.getD ((p93).toNat) .undef).cells) fun h94 r95=>
 withInt .i64 h94 fun x96=>
 bif decide ((0:Int)≤z5)&&decide (z5 < ((z6.length:Nat):Int)) then (let y97:List AV:=z6.set ((z5).toNat) (vi (IntKind.i64.wrap (x96+x89)))
 c (.z16 z1 z2 z3 z4 (IntKind.i64.wrap (z5+1)) y97)) else none) else none) else (c (.z16 z1 z2 z3 z4 (IntKind.i64.wrap (z5+1)) z6))) else none) else (let y98:Int:=IntKind.i64.wrap ((IntKind.i64.wrap (z2+16)) - 1)
 let y99:Int:=IntKind.i64.wrap (Int.tdiv y98 16)
 some (z6,y99))
def Q2t.r (n:Nat) (c:Q2t.Z→Option (List AV × Int)):Q2t.Z→Option (List AV × Int)
 | .z4 z1 z2 z3 z4 z5 z6=>Q2t.r4 n c z1 z2 z3 z4 z5 z6
 | .z10 z1 z2 z3 z4 z5 z6=>Q2t.r10 n c z1 z2 z3 z4 z5 z6
 | .z16 z1 z2 z3 z4 z5 z6=>Q2t.r16 n c z1 z2 z3 z4 z5 z6
def Q2t.e (n:Nat) (c:Q2t.Z→Option (List AV × Int)) (a0:List AV):Option (List AV × Int):=
 (Q3j.F n [vi (-1)] ((a0.length:Nat):Int)).bind fun p1=>
 c (.z4 a0 0 a0 ((a0.length:Nat):Int) 0 p1)
def Q2t.E (n:Nat) (c:Q2t.Z→Option (List AV × Int)):Q2t.A→Option Q2t.T:=fun a0=>Q2t.e n c a0
def Q2t.l (n:Nat):Nat→Q2t.Z→Option (List AV × Int):=loopL (Q2t.r n)
def Q2t.F (n:Nat) (a0:List AV):Option (List AV × Int):=Q2t.e n (Q2t.l n n) a0
def Q2t.FA (n:Nat):Q2t.A→Option Q2t.T:=Q2t.E n (Q2t.l n n)
theorem Q2t.hands (n:Nat):∀ a p,Q2t.FA n a=some p→HandsIn Tryz.prog 46 (Q2t.i a) (Q2t.p p):=
 pf_hands (C:=Q2t.C n) (cut:=Q2t.cut) (t:=Q2t.t) (s:=Q2t.s) (e:=Q2t.E n) (r:=Q2t.r n) (n:=n) cfg mixed globs rfl Q2t.qi (Q2t.tells n) Tryz.func46 (by kernel_rfl) (by kernel_rfl) (fun rec a=>by kernel_rfl) (fun rec z=>by cases z <;> kernel_rfl)
def Q2t.via {R:Type} (n:Nat):List AV→(AV→Option R)→Option R:=viaK (Q2t.FA n) Q2t.o Q2t.p
theorem Q2t.tells1 {R:Type} (n:Nat) (xs:List AV):Tells1 (R:=R) Tryz.prog 46 xs (Q2t.via n xs):=tells_via Q2t.oi (fun a=>by kernel_rfl) (Q2t.hands n) xs
end Go.Proofs.YtnoldakbllfmnaaGreatDoor.Ev
namespace Go.Proofs.YtnoldakbllfmnaaGreatDoor.Ev
open Go Go.Proofs Go.Proofs.Ev
set_option linter.unusedVariables false
set_option maxRecDepth 100000
abbrev Q2p.A:=ByteArray × Int × Int × Int × Int × Int × ByteArray × ByteArray × Int × Int
abbrev Q2p.T:=Bool
def Q2p.i:Q2p.A→List AV:=fun (a0,a1,a2,a3,a4,a5,a6,a7,a8,a9)=>[AV.agg [vs a0,vi a1,vi a2,vi a3,vi a4,vi a5,vs a6,vs a7,vi a8,vi a9]]
def Q2p.o (xs:List AV):Option Q2p.A:=match xs with | [.agg [.v (.string a0),.v (.int .i64 a1),.v (.int .i64 a2),.v (.int .i64 a3),.v (.int .i64 a4),.v (.int .i64 a5),.v (.string a6),.v (.string a7),.v (.int .i64 a8),.v (.int .i64 a9)]]=>some (a0,a1,a2,a3,a4,a5,a6,a7,a8,a9) | _=>none
theorem Q2p.oi:∀ xs a,Q2p.o xs=some a→xs=Q2p.i a:=by
 intro xs a h
 unfold Q2p.o at h
 split at h
 ·cases h; rfl
 ·cases h
def Q2p.p (p:Q2p.T):AV:=vb p
def Q2p.q (x:AV):Option Q2p.T:=match x with | .v (.bool p0)=>some p0 | _=>none
theorem Q2p.qi:∀ x p,Q2p.q x=some p→x=Q2p.p p:=by
 intro x p h
 unfold Q2p.q at h
 split at h
 ·cases h; rfl
 ·cases h
def Q2p.C {R:Type} (n:Nat) (f:FuncId) (xs:List AV):(AV→Option R)→Option R:=
 fun _=>none
theorem Q2p.tells {R:Type} (n:Nat):Tells (R:=R) Tryz.prog (Q2p.C n):=fun _ xs=>Tells1.none
def Q2p.cut (r:Nat):Option Keep:=match r with  | _=>none
def Q2p.e (n:Nat) (a0:ByteArray) (a1 a2 a3 a4 a5:Int) (a6 a7:ByteArray) (a8 a9:Int):Option Bool:=
 some (a2 != 0)
def Q2p.E (n:Nat):Q2p.A→Option Q2p.T:=fun (a0,a1,a2,a3,a4,a5,a6,a7,a8,a9)=>Q2p.e n a0 a1 a2 a3 a4 a5 a6 a7 a8 a9
def Q2p.F (n:Nat) (a0:ByteArray) (a1 a2 a3 a4 a5:Int) (a6 a7:ByteArray) (a8 a9:Int):Option Bool:=Q2p.e n a0 a1 a2 a3 a4 a5 a6 a7 a8 a9
def Q2p.FA (n:Nat):Q2p.A→Option Q2p.T:=Q2p.E n
theorem Q2p.hands (n:Nat):∀ a p,Q2p.FA n a=some p→HandsIn Tryz.prog 137 (Q2p.i a) (Q2p.p p):=
 pf_hands (C:=Q2p.C n) (cut:=Q2p.cut) (Z:=Empty) (t:=nofun) (s:=nofun) (e:=fun _=>Q2p.E n) (r:=fun _ z=>nomatch z) (n:=n) cfg mixed globs rfl Q2p.qi (Q2p.tells n) Tryz.func137 (by kernel_rfl) (by kernel_rfl) (fun rec a=>by kernel_rfl) (fun rec z=>nomatch z)
def Q2p.via {R:Type} (n:Nat):List AV→(AV→Option R)→Option R:=viaK (Q2p.FA n) Q2p.o Q2p.p
theorem Q2p.tells1 {R:Type} (n:Nat) (xs:List AV):Tells1 (R:=R) Tryz.prog 137 xs (Q2p.via n xs):=tells_via Q2p.oi (fun a=>by kernel_rfl) (Q2p.hands n) xs
end Go.Proofs.YtnoldakbllfmnaaGreatDoor.Ev
namespace Go.Proofs.YtnoldakbllfmnaaGreatDoor.Ev
open Go Go.Proofs Go.Proofs.Ev
set_option linter.unusedVariables false
set_option maxRecDepth 100000
abbrev Q2j.A:=ByteArray × Int × Int × Int × Int × Int × ByteArray × ByteArray × Int × Int × ByteArray × Int × Int × Int × Int × Int × ByteArray × ByteArray × Int × Int × Int
abbrev Q2j.T:=Bool
def Q2j.i:Q2j.A→List AV:=fun (a0,a1,a2,a3,a4,a5,a6,a7,a8,a9,a10,a11,a12,a13,a14,a15,a16,a17,a18,a19,a20)=>[AV.agg [vs a0,vi a1,vi a2,vi a3,vi a4,vi a5,vs a6,vs a7,vi a8,vi a9],AV.agg [vs a10,vi a11,vi a12,vi a13,vi a14,vi a15,vs a16,vs a17,vi a18,vi a19],vi a20]
def Q2j.o (xs:List AV):Option Q2j.A:=match xs with | [.agg [.v (.string a0),.v (.int .i64 a1),.v (.int .i64 a2),.v (.int .i64 a3),.v (.int .i64 a4),.v (.int .i64 a5),.v (.string a6),.v (.string a7),.v (.int .i64 a8),.v (.int .i64 a9)],.agg [.v (.string a10),.v (.int .i64 a11),.v (.int .i64 a12),.v (.int .i64 a13),.v (.int .i64 a14),.v (.int .i64 a15),.v (.string a16),.v (.string a17),.v (.int .i64 a18),.v (.int .i64 a19)],.v (.int .i64 a20)]=>some (a0,a1,a2,a3,a4,a5,a6,a7,a8,a9,a10,a11,a12,a13,a14,a15,a16,a17,a18,a19,a20) | _=>none
theorem Q2j.oi:∀ xs a,Q2j.o xs=some a→xs=Q2j.i a:=by
 intro xs a h
 unfold Q2j.o at h
 split at h
 ·cases h; rfl
 ·cases h
def Q2j.p (p:Q2j.T):AV:=vb p
def Q2j.q (x:AV):Option Q2j.T:=match x with | .v (.bool p0)=>some p0 | _=>none
theorem Q2j.qi:∀ x p,Q2j.q x=some p→x=Q2j.p p:=by
 intro x p h
 unfold Q2j.q at h
 split at h
 ·cases h; rfl
 ·cases h
inductive Q2j.Z where
 | z8 (z1:Int) (z2 z3:Bool) (z4:ByteArray) (z5 z6 z7 z8 z9:Int) (z10 z11:ByteArray) (z12 z13:Int) (z14:ByteArray) (z15 z16 z17 z18 z19:Int) (z20 z21:ByteArray) (z22 z23:Int)
def Q2j.C {R:Type} (n:Nat) (f:FuncId) (xs:List AV):(AV→Option R)→Option R:=
 bif Nat.beq f 80 then Q2n.via n xs else bif Nat.beq f 137 then Q2p.via n xs else fun _=>none
theorem Q2j.tells {R:Type} (n:Nat):Tells (R:=R) Tryz.prog (Q2j.C n):=fun _ xs=>tells_at (Q2n.tells1 n xs) (tells_at (Q2p.tells1 n xs) (Tells1.none))
def Q2j.cut (r:Nat):Option Keep:=match r with | 8=>some ⟨[2,3,4,7,8],[]⟩ | _=>none
def Q2j.t (z:Q2j.Z):List Item:=(todoOf (match z with | .z8 _ _ _ _ _ _ _ _ _ _ _ _ _ _ _ _ _ _ _ _ _ _ _=>8) 1000 [.code (Tryz.f86.body.getD .skip)]).getD []
def Q2j.s:Q2j.Z→St
 | .z8 z1 z2 z3 z4 z5 z6 z7 z8 z9 z10 z11 z12 z13 z14 z15 z16 z17 z18 z19 z20 z21 z22 z23=>⟨spr 64 0 [(2,vi z1),(3,.ptr 0 0),(4,.ptr 1 0),(7,vb z2),(8,vb z3)],Mem.ofList [.box 74 [vs z4,vi z5,vi z6,vi z7,vi z8,vi z9,vs z10,vs z11,vi z12,vi z13],.box 74 [vs z14,vi z15,vi z16,vi z17,vi z18,vi z19,vs z20,vs z21,vi z22,vi z23]],2⟩
def Q2j.r8 (n:Nat) (c:Q2j.Z→Option Bool) (z1:Int) (z2 z3:Bool) (z4:ByteArray) (z5 z6 z7 z8 z9:Int) (z10 z11:ByteArray) (z12 z13:Int) (z14:ByteArray) (z15 z16 z17 z18 z19:Int) (z20 z21:ByteArray) (z22 z23:Int):Option Bool:=
 (Q2n.F n z4 z5 z6 z7 z8 z9 z10 z11 z12 z13).bind fun p1=>
 bif p1 then (bif z2 then (bif !(z5==4) then (bif z3 then ((Q2p.F n z4 z5 z6 z7 z8 z9 z10 z11 z12 z13).bind fun p2=>
 bif !(!p2) then (bif z1==4 then ((Q2p.F n z4 z5 z6 z7 z8 z9 z10 z11 z12 z13).bind fun p3=>
 (Q2p.F n z14 z15 z16 z17 z18 z19 z20 z21 z22 z23).bind fun p4=>
 some (!(!(p3==p4)))) else (some true)) else (some false)) else (bif z1==4 then ((Q2p.F n z4 z5 z6 z7 z8 z9 z10 z11 z12 z13).bind fun p5=>
 (Q2p.F n z14 z15 z16 z17 z18 z19 z20 z21 z22 z23).bind fun p6=>
 some (!(!(p5==p6)))) else (some true))) else (some false)) else (bif z3 then ((Q2p.F n z4 z5 z6 z7 z8 z9 z10 z11 z12 z13).bind fun p7=>
 bif !(!p7) then (bif z1==4 then ((Q2p.F n z4 z5 z6 z7 z8 z9 z10 z11 z12 z13).bind fun p8=>
 (Q2p.F n z14 z15 z16 z17 z18 z19 z20 z21 z22 z23).bind fun p9=>
 some (!(!(p8==p9)))) else (some true)) else (some false)) else (bif z1==4 then ((Q2p.F n z4 z5 z6 z7 z8 z9 z10 z11 z12 z13).bind fun p10=>
 (Q2p.F n z14 z15 z16 z17 z18 z19 z20 z21 z22 z23).bind fun p11=>
 some (!(!(p10==p11)))) else (some true)))) else (some false)
def Q2j.r (n:Nat) (c:Q2j.Z→Option Bool):Q2j.Z→Option Bool
 | .z8 z1 z2 z3 z4 z5 z6 z7 z8 z9 z10 z11 z12 z13 z14 z15 z16 z17 z18 z19 z20 z21 z22 z23=>Q2j.r8 n c z1 z2 z3 z4 z5 z6 z7 z8 z9 z10 z11 z12 z13 z14 z15 z16 z17 z18 z19 z20 z21 z22 z23
def Q2j.e (n:Nat) (c:Q2j.Z→Option Bool) (a0:ByteArray) (a1 a2 a3 a4 a5:Int) (a6 a7:ByteArray) (a8 a9:Int) (a10:ByteArray) (a11 a12 a13 a14 a15:Int) (a16 a17:ByteArray) (a18 a19 a20:Int):Option Bool:=
 bif a20==5 then (some (a1==3)) else (bif a20==6 then (some (a1==5)) else (bif a20==0 then (bif a20==2 then (c (.z8 a20 true true a0 a1 a2 a3 a4 a5 a6 a7 a8 a9 a10 a11 a12 a13 a14 a15 a16 a17 a18 a19)) else (c (.z8 a20 true (a20==3) a0 a1 a2 a3 a4 a5 a6 a7 a8 a9 a10 a11 a12 a13 a14 a15 a16 a17 a18 a19))) else (bif a20==2 then (c (.z8 a20 (a20==2) true a0 a1 a2 a3 a4 a5 a6 a7 a8 a9 a10 a11 a12 a13 a14 a15 a16 a17 a18 a19)) else (c (.z8 a20 (a20==2) (a20==3) a0 a1 a2 a3 a4 a5 a6 a7 a8 a9 a10 a11 a12 a13 a14 a15 a16 a17 a18 a19)))))
def Q2j.E (n:Nat) (c:Q2j.Z→Option Bool):Q2j.A→Option Q2j.T:=fun (a0,a1,a2,a3,a4,a5,a6,a7,a8,a9,a10,a11,a12,a13,a14,a15,a16,a17,a18,a19,a20)=>Q2j.e n c a0 a1 a2 a3 a4 a5 a6 a7 a8 a9 a10 a11 a12 a13 a14 a15 a16 a17 a18 a19 a20
def Q2j.l (n:Nat):Nat→Q2j.Z→Option Bool:=loopL (Q2j.r n)
def Q2j.F (n:Nat) (a0:ByteArray) (a1 a2 a3 a4 a5:Int) (a6 a7:ByteArray) (a8 a9:Int) (a10:ByteArray) (a11 a12 a13 a14 a15:Int) (a16 a17:ByteArray) (a18 a19 a20:Int):Option Bool:=Q2j.e n (Q2j.l n n) a0 a1 a2 a3 a4 a5 a6 a7 a8 a9 a10 a11 a12 a13 a14 a15 a16 a17 a18 a19 a20
def Q2j.FA (n:Nat):Q2j.A→Option Q2j.T:=Q2j.E n (Q2j.l n n)
theorem Q2j.hands (n:Nat):∀ a p,Q2j.FA n a=some p→HandsIn Tryz.prog 86 (Q2j.i a) (Q2j.p p):=
 pf_hands (C:=Q2j.C n) (cut:=Q2j.cut) (t:=Q2j.t) (s:=Q2j.s) (e:=Q2j.E n) (r:=Q2j.r n) (n:=n) cfg mixed globs rfl Q2j.qi (Q2j.tells n) Tryz.func86 (by kernel_rfl) (by kernel_rfl) (fun rec a=>by kernel_rfl) (fun rec z=>by cases z <;> kernel_rfl)
def Q2j.via {R:Type} (n:Nat):List AV→(AV→Option R)→Option R:=viaK (Q2j.FA n) Q2j.o Q2j.p
theorem Q2j.tells1 {R:Type} (n:Nat) (xs:List AV):Tells1 (R:=R) Tryz.prog 86 xs (Q2j.via n xs):=tells_via Q2j.oi (fun a=>by kernel_rfl) (Q2j.hands n) xs
end Go.Proofs.YtnoldakbllfmnaaGreatDoor.Ev
namespace Go.Proofs.YtnoldakbllfmnaaGreatDoor.Ev
open Go Go.Proofs Go.Proofs.Ev
set_option linter.unusedVariables false
set_option maxRecDepth 100000
abbrev Q2l.A:=List AV × List AV × List AV × Int × List AV
abbrev Q2l.T:=Int
def Q2l.i:Q2l.A→List AV:=fun (a0,a1,a2,a3,a4)=>[AV.agg [.sl ⟨true,74,false⟩ 10 a0,.sl ⟨false,86,false⟩ 2 a1,.sl ⟨true,82,false⟩ 4 a2],AV.agg [vi a3,.sl ⟨true,3,false⟩ 1 a4]]
def Q2l.o (xs:List AV):Option Q2l.A:=match xs with | [.agg [.sl ⟨true,74,false⟩ 10 a0,.sl ⟨false,86,false⟩ 2 a1,.sl ⟨true,82,false⟩ 4 a2],.agg [.v (.int .i64 a3),.sl ⟨true,3,false⟩ 1 a4]]=>some (a0,a1,a2,a3,a4) | _=>none
theorem Q2l.oi:∀ xs a,Q2l.o xs=some a→xs=Q2l.i a:=by
 intro xs a h
 unfold Q2l.o at h
 split at h
 ·cases h; rfl
 ·cases h
def Q2l.p (p:Q2l.T):AV:=vi p
def Q2l.q (x:AV):Option Q2l.T:=match x with | .v (.int .i64 p0)=>some p0 | _=>none
theorem Q2l.qi:∀ x p,Q2l.q x=some p→x=Q2l.p p:=by
 intro x p h
 unfold Q2l.q at h
 split at h
 ·cases h; rfl
 ·cases h
inductive Q2l.Z where
 | z7 (z1:List AV) (z2 z3:Int) (z4 z5 z6:List AV) (z7:Int) (z8:List AV) (z9:ByteArray) (z10 z11 z12 z13 z14:Int) (z15 z16:ByteArray) (z17 z18:Int)
def Q2l.C {R:Type} (n:Nat) (f:FuncId) (xs:List AV):(AV→Option R)→Option R:=
 bif Nat.beq f 67 then Q2k.via n xs else bif Nat.beq f 86 then Q2j.via n xs else fun _=>none
theorem Q2l.tells {R:Type} (n:Nat):Tells (R:=R) Tryz.prog (Q2l.C n):=fun _ xs=>tells_at (Q2k.tells1 n xs) (tells_at (Q2j.tells1 n xs) (Tells1.none))
def Q2l.cut (r:Nat):Option Keep:=match r with | 7=>some ⟨[2,3,5,22,23,24],[]⟩ | _=>none
def Q2l.t (z:Q2l.Z):List Item:=(todoOf (match z with | .z7 _ _ _ _ _ _ _ _ _ _ _ _ _ _ _ _ _ _=>7) 1000 [.code (Tryz.f47.body.getD .skip)]).getD []
def Q2l.s:Q2l.Z→St
 | .z7 z1 z2 z3 z4 z5 z6 z7 z8 z9 z10 z11 z12 z13 z14 z15 z16 z17 z18=>⟨spr 57 0 [(2,.ptr 0 0),(3,.ptr 1 0),(5,.ptr 2 0),(22,.sl ⟨true,3,false⟩ 1 z1),(23,vi z2),(24,vi z3)],Mem.ofList [.box 26 [.sl ⟨true,74,false⟩ 10 z4,.sl ⟨false,86,false⟩ 2 z5,.sl ⟨true,82,false⟩ 4 z6],.box 86 [vi z7,.sl ⟨true,3,false⟩ 1 z8],.box 74 [vs z9,vi z10,vi z11,vi z12,vi z13,vi z14,vs z15,vs z16,vi z17,vi z18]],3⟩
def Q2l.r7 (n:Nat) (c:Q2l.Z→Option Int) (z1:List AV) (z2 z3:Int) (z4 z5 z6:List AV) (z7:Int) (z8:List AV) (z9:ByteArray) (z10 z11 z12 z13 z14:Int) (z15 z16:ByteArray) (z17 z18:Int):Option Int:=
 bif decide (z3 < z2) then (bif decide ((0:Int)≤z3)&&decide (z3 < ((z1.length:Nat):Int)) then (withCons ((z1.getD ((z3).toNat) .undef).cells) fun h6 r7=>
 withInt .i64 h6 fun x8=>
 let y9:Int:=IntKind.i64.wrap (((z4.length:Nat):Int) - 1)
 (Q2k.F n x8 0 y9).bind fun p10=>
 bif !p10 then (some 3) else (bif decide ((0:Int)≤x8)&&decide (x8 < ((z4.length:Nat):Int)) then (withCons ((z4.getD ((x8).toNat) .undef).cells) fun h11 r12=>
 withStr h11 fun s13=>
 withCons r12 fun h14 r15=>
 withInt .i64 h14 fun x16=>
 withCons r15 fun h17 r18=>
 withInt .i64 h17 fun x19=>
 withCons r18 fun h20 r21=>
 withInt .i64 h20 fun x22=>
 withCons r21 fun h23 r24=>
 withInt .i64 h23 fun x25=>
 withCons r24 fun h26 r27=>
 withInt .i64 h26 fun x28=>
 withCons r27 fun h29 r30=>
 withStr h29 fun s31=>
 withCons r30 fun h32 r33=>
 withStr h32 fun s34=>
 withCons r33 fun h35 r36=>
 withInt .i64 h35 fun x37=>
 withCons r36 fun h38 r39=>
 withInt .i64 h38 fun x40=>
 bif decide ((0:Int)≤z7)&&decide (z7 < ((19:Nat):Int)) then (withCons (chop ((z7).toNat*1) [.sl ⟨true,3,false⟩ 1 gr0,.sl ⟨true,3,false⟩ 1 gr1,.sl ⟨true,3,false⟩ 1 gr2,.sl ⟨true,3,false⟩ 1 gr3,.sl ⟨true,3,false⟩ 1 gr4,.sl ⟨true,3,false⟩ 1 gr5,.sl ⟨true,3,false⟩ 1 gr6,.sl ⟨true,3,false⟩ 1 gr7,.sl ⟨true,3,false⟩ 1 gr8,.sl ⟨true,3,false⟩ 1 gr9,.sl ⟨true,3,false⟩ 1 gr10,.sl ⟨true,3,false⟩ 1 gr11,.sl ⟨true,3,false⟩ 1 gr12,.sl ⟨true,3,false⟩ 1 gr13,.sl ⟨true,3,false⟩ 1 gr14,.sl ⟨true,3,false⟩ 1 gr15,.sl ⟨true,3,false⟩ 1 gr16,.sl ⟨true,3,false⟩ 1 gr17,.sl ⟨true,3,false⟩ 1 gr18]) fun h41 r42=>
 withSl ⟨true,3,false⟩ 1 h41 fun xs43=>
 bif decide ((0:Int)≤z3)&&decide (z3 < ((xs43.length:Nat):Int)) then (withCons ((xs43.getD ((z3).toNat) .undef).cells) fun h44 r45=>
 withInt .i64 h44 fun x46=>
 (Q2j.F n s13 x16 x19 x22 x25 x28 s31 s34 x37 x40 z9 z10 z11 z12 z13 z14 z15 z16 z17 z18 x46).bind fun p47=>
 bif !p47 then (some 17) else (bif decide ((0:Int)≤x8)&&decide (x8 < ((z4.length:Nat):Int)) then (withCons ((z4.getD ((x8).toNat) .undef).cells) fun h48 r49=>
 withStr h48 fun s50=>
 withCons r49 fun h51 r52=>
 withInt .i64 h51 fun x53=>
 withCons r52 fun h54 r55=>
 withInt .i64 h54 fun x56=>
 withCons r55 fun h57 r58=>
 withInt .i64 h57 fun x59=>
 withCons r58 fun h60 r61=>
 withInt .i64 h60 fun x62=>
 withCons r61 fun h63 r64=>
 withInt .i64 h63 fun x65=>
 withCons r64 fun h66 r67=>
 withStr h66 fun s68=>
 withCons r67 fun h69 r70=>
 withStr h69 fun s71=>
 withCons r70 fun h72 r73=>
 withInt .i64 h72 fun x74=>
 withCons r73 fun h75 r76=>
 withInt .i64 h75 fun x77=>
 c (.z7 z1 z2 (IntKind.i64.wrap (z3+1)) z4 z5 z6 z7 z8 s50 x53 x56 x59 x62 x65 s68 s71 x74 x77)) else none)) else none) else none) else none)) else none) else (some 0)
def Q2l.r (n:Nat) (c:Q2l.Z→Option Int):Q2l.Z→Option Int
 | .z7 z1 z2 z3 z4 z5 z6 z7 z8 z9 z10 z11 z12 z13 z14 z15 z16 z17 z18=>Q2l.r7 n c z1 z2 z3 z4 z5 z6 z7 z8 z9 z10 z11 z12 z13 z14 z15 z16 z17 z18
def Q2l.e (n:Nat) (c:Q2l.Z→Option Int) (a0 a1 a2:List AV) (a3:Int) (a4:List AV):Option Int:=
 (Q2k.F n a3 0 18).bind fun p1=>
 bif !p1 then (some 4) else (bif decide ((0:Int)≤a3)&&decide (a3 < ((19:Nat):Int)) then (withCons (chop ((a3).toNat*1) [.sl ⟨true,3,false⟩ 1 gr0,.sl ⟨true,3,false⟩ 1 gr1,.sl ⟨true,3,false⟩ 1 gr2,.sl ⟨true,3,false⟩ 1 gr3,.sl ⟨true,3,false⟩ 1 gr4,.sl ⟨true,3,false⟩ 1 gr5,.sl ⟨true,3,false⟩ 1 gr6,.sl ⟨true,3,false⟩ 1 gr7,.sl ⟨true,3,false⟩ 1 gr8,.sl ⟨true,3,false⟩ 1 gr9,.sl ⟨true,3,false⟩ 1 gr10,.sl ⟨true,3,false⟩ 1 gr11,.sl ⟨true,3,false⟩ 1 gr12,.sl ⟨true,3,false⟩ 1 gr13,.sl ⟨true,3,false⟩ 1 gr14,.sl ⟨true,3,false⟩ 1 gr15,.sl ⟨true,3,false⟩ 1 gr16,.sl ⟨true,3,false⟩ 1 gr17,.sl ⟨true,3,false⟩ 1 gr18]) fun h2 r3=>
 withSl ⟨true,3,false⟩ 1 h2 fun xs4=>
 let y5:Bool:=((a4.length:Nat):Int) != ((xs4.length:Nat):Int)
 bif y5 then (some 37) else (c (.z7 a4 ((a4.length:Nat):Int) 0 a0 a1 a2 a3 a4 (⟨#[]⟩ : ByteArray) 0 0 0 0 0 (⟨#[]⟩ : ByteArray) (⟨#[]⟩ : ByteArray) 0 0))) else none)
def Q2l.E (n:Nat) (c:Q2l.Z→Option Int):Q2l.A→Option Q2l.T:=fun (a0,a1,a2,a3,a4)=>Q2l.e n c a0 a1 a2 a3 a4
def Q2l.l (n:Nat):Nat→Q2l.Z→Option Int:=loopL (Q2l.r n)
def Q2l.F (n:Nat) (a0 a1 a2:List AV) (a3:Int) (a4:List AV):Option Int:=Q2l.e n (Q2l.l n n) a0 a1 a2 a3 a4
def Q2l.FA (n:Nat):Q2l.A→Option Q2l.T:=Q2l.E n (Q2l.l n n)
theorem Q2l.hands (n:Nat):∀ a p,Q2l.FA n a=some p→HandsIn Tryz.prog 47 (Q2l.i a) (Q2l.p p):=
 pf_hands (C:=Q2l.C n) (cut:=Q2l.cut) (t:=Q2l.t) (s:=Q2l.s) (e:=Q2l.E n) (r:=Q2l.r n) (n:=n) cfg mixed globs rfl Q2l.qi (Q2l.tells n) Tryz.func47 (by kernel_rfl) (by kernel_rfl) (fun rec a=>by kernel_rfl) (fun rec z=>by cases z <;> kernel_rfl)
def Q2l.via {R:Type} (n:Nat):List AV→(AV→Option R)→Option R:=viaK (Q2l.FA n) Q2l.o Q2l.p
theorem Q2l.tells1 {R:Type} (n:Nat) (xs:List AV):Tells1 (R:=R) Tryz.prog 47 xs (Q2l.via n xs):=tells_via Q2l.oi (fun a=>by kernel_rfl) (Q2l.hands n) xs
end Go.Proofs.YtnoldakbllfmnaaGreatDoor.Ev
namespace Go.Proofs.YtnoldakbllfmnaaGreatDoor.Ev
open Go Go.Proofs Go.Proofs.Ev
set_option linter.unusedVariables false
set_option maxRecDepth 100000
abbrev Q2u.A:=List AV × List AV × List AV × Int × Int × Int × Int
abbrev Q2u.T:=Int
def Q2u.i:Q2u.A→List AV:=fun (a0,a1,a2,a3,a4,a5,a6)=>[AV.agg [.sl ⟨true,74,false⟩ 10 a0,.sl ⟨false,86,false⟩ 2 a1,.sl ⟨true,82,false⟩ 4 a2],AV.agg [vi a3,vi a4,vi a5,vi a6]]
def Q2u.o (xs:List AV):Option Q2u.A:=match xs with | [.agg [.sl ⟨true,74,false⟩ 10 a0,.sl ⟨false,86,false⟩ 2 a1,.sl ⟨true,82,false⟩ 4 a2],.agg [.v (.int .i64 a3),.v (.int .i64 a4),.v (.int .i64 a5),.v (.int .i64 a6)]]=>some (a0,a1,a2,a3,a4,a5,a6) | _=>none
theorem Q2u.oi:∀ xs a,Q2u.o xs=some a→xs=Q2u.i a:=by
 intro xs a h
 unfold Q2u.o at h
 split at h
 ·cases h; rfl
 ·cases h
def Q2u.p (p:Q2u.T):AV:=vi p
def Q2u.q (x:AV):Option Q2u.T:=match x with | .v (.int .i64 p0)=>some p0 | _=>none
theorem Q2u.qi:∀ x p,Q2u.q x=some p→x=Q2u.p p:=by
 intro x p h
 unfold Q2u.q at h
 split at h
 ·cases h; rfl
 ·cases h
inductive Q2u.Z where
 | z3 (z1:Bool)
def Q2u.C {R:Type} (n:Nat) (f:FuncId) (xs:List AV):(AV→Option R)→Option R:=
 bif Nat.beq f 44 then Q2g.via n xs else bif Nat.beq f 67 then Q2k.via n xs else fun _=>none
theorem Q2u.tells {R:Type} (n:Nat):Tells (R:=R) Tryz.prog (Q2u.C n):=fun _ xs=>tells_at (Q2g.tells1 n xs) (tells_at (Q2k.tells1 n xs) (Tells1.none))
def Q2u.cut (r:Nat):Option Keep:=match r with | 3=>some ⟨[6],[]⟩ | _=>none
def Q2u.t (z:Q2u.Z):List Item:=(todoOf (match z with | .z3 _=>3) 1000 [.code (Tryz.f48.body.getD .skip)]).getD []
def Q2u.s:Q2u.Z→St
 | .z3 z1=>⟨spr 41 0 [(6,vb z1)],Mem.ofList [],0⟩
def Q2u.r3 (n:Nat) (c:Q2u.Z→Option Int) (z1:Bool):Option Int:=
 (Q2g.F n (!z1) 3).bind fun p5=>
 some p5
def Q2u.r (n:Nat) (c:Q2u.Z→Option Int):Q2u.Z→Option Int
 | .z3 z1=>Q2u.r3 n c z1
def Q2u.e (n:Nat) (c:Q2u.Z→Option Int) (a0 a1 a2:List AV) (a3 a4 a5 a6:Int):Option Int:=
 bif decide (a3≥0) then (bif decide (a3 < a4) then (let y1:Bool:=decide (a4≤((a1.length:Nat):Int))
 bif y1 then ((Q2k.F n a5 0 999).bind fun p2=>
 bif p2 then (let y3:Int:=IntKind.i64.wrap (((a1.length:Nat):Int) - 1)
 (Q2k.F n a6 0 y3).bind fun p4=>
 c (.z3 p4)) else (c (.z3 false))) else (c (.z3 false))) else (c (.z3 false))) else (c (.z3 false))
def Q2u.E (n:Nat) (c:Q2u.Z→Option Int):Q2u.A→Option Q2u.T:=fun (a0,a1,a2,a3,a4,a5,a6)=>Q2u.e n c a0 a1 a2 a3 a4 a5 a6
def Q2u.l (n:Nat):Nat→Q2u.Z→Option Int:=loopL (Q2u.r n)
def Q2u.F (n:Nat) (a0 a1 a2:List AV) (a3 a4 a5 a6:Int):Option Int:=Q2u.e n (Q2u.l n n) a0 a1 a2 a3 a4 a5 a6
def Q2u.FA (n:Nat):Q2u.A→Option Q2u.T:=Q2u.E n (Q2u.l n n)
theorem Q2u.hands (n:Nat):∀ a p,Q2u.FA n a=some p→HandsIn Tryz.prog 48 (Q2u.i a) (Q2u.p p):=
 pf_hands (C:=Q2u.C n) (cut:=Q2u.cut) (t:=Q2u.t) (s:=Q2u.s) (e:=Q2u.E n) (r:=Q2u.r n) (n:=n) cfg mixed globs rfl Q2u.qi (Q2u.tells n) Tryz.func48 (by kernel_rfl) (by kernel_rfl) (fun rec a=>by kernel_rfl) (fun rec z=>by cases z <;> kernel_rfl)
def Q2u.via {R:Type} (n:Nat):List AV→(AV→Option R)→Option R:=viaK (Q2u.FA n) Q2u.o Q2u.p
theorem Q2u.tells1 {R:Type} (n:Nat) (xs:List AV):Tells1 (R:=R) Tryz.prog 48 xs (Q2u.via n xs):=tells_via Q2u.oi (fun a=>by kernel_rfl) (Q2u.hands n) xs
end Go.Proofs.YtnoldakbllfmnaaGreatDoor.Ev
namespace Go.Proofs.YtnoldakbllfmnaaGreatDoor.Ev
open Go Go.Proofs Go.Proofs.Ev
set_option linter.unusedVariables false
set_option maxRecDepth 100000
abbrev Q26.A:=List AV × List AV × List AV
abbrev Q26.T:=Int × Int × Int
def Q26.i:Q26.A→List AV:=fun (a0,a1,a2)=>[AV.agg [.sl ⟨true,74,false⟩ 10 a0,.sl ⟨false,86,false⟩ 2 a1,.sl ⟨true,82,false⟩ 4 a2]]
def Q26.o (xs:List AV):Option Q26.A:=match xs with | [.agg [.sl ⟨true,74,false⟩ 10 a0,.sl ⟨false,86,false⟩ 2 a1,.sl ⟨true,82,false⟩ 4 a2]]=>some (a0,a1,a2) | _=>none
theorem Q26.oi:∀ xs a,Q26.o xs=some a→xs=Q26.i a:=by
 intro xs a h
 unfold Q26.o at h
 split at h
 ·cases h; rfl
 ·cases h
def Q26.p (p:Q26.T):AV:=.tup [AV.agg [vi p.1,vi p.2.1],vi p.2.2]
def Q26.q (x:AV):Option Q26.T:=match x with | .tup [.agg [.v (.int .i64 p0),.v (.int .i64 p1)],.v (.int .i64 p2)]=>some (p0,p1,p2) | _=>none
theorem Q26.qi:∀ x p,Q26.q x=some p→x=Q26.p p:=by
 intro x p h
 unfold Q26.q at h
 split at h
 ·cases h; rfl
 ·cases h
inductive Q26.Z where
 | z2 (z1:Bool) (z2 z3 z4:List AV) (z5 z6:Int)
 | z6 (z1 z2:Int) (z3 z4 z5:List AV) (z6 z7:Int)
 | z16 (z1:List AV) (z2 z3:Int) (z4 z5 z6:List AV) (z7 z8:Int)
 | z23 (z1:List AV) (z2 z3:Int) (z4 z5 z6:List AV) (z7 z8:Int)
def Q26.C {R:Type} (n:Nat) (f:FuncId) (xs:List AV):(AV→Option R)→Option R:=
 bif Nat.beq f 43 then Q2i.via n xs else bif Nat.beq f 44 then Q2g.via n xs else bif Nat.beq f 45 then Q2z.via n xs else bif Nat.beq f 46 then Q2t.via n xs else bif Nat.beq f 47 then Q2l.via n xs else bif Nat.beq f 48 then Q2u.via n xs else fun _=>none
theorem Q26.tells {R:Type} (n:Nat):Tells (R:=R) Tryz.prog (Q26.C n):=fun _ xs=>tells_at (Q2i.tells1 n xs) (tells_at (Q2g.tells1 n xs) (tells_at (Q2z.tells1 n xs) (tells_at (Q2t.tells1 n xs) (tells_at (Q2l.tells1 n xs) (tells_at (Q2u.tells1 n xs) (Tells1.none))))))
def Q26.cut (r:Nat):Option Keep:=match r with | 2=>some ⟨[1,2,4],[]⟩ | 6=>some ⟨[1,2,47,48],[]⟩ | 16=>some ⟨[1,2,70,71,72],[]⟩ | 23=>some ⟨[1,2,87,88,89],[]⟩ | _=>none
def Q26.t (z:Q26.Z):List Item:=(todoOf (match z with | .z2 _ _ _ _ _ _=>2 | .z6 _ _ _ _ _ _ _=>6 | .z16 _ _ _ _ _ _ _ _=>16 | .z23 _ _ _ _ _ _ _ _=>23) 1000 [.code (Tryz.f14.body.getD .skip)]).getD []
def Q26.s:Q26.Z→St
 | .z2 z1 z2 z3 z4 z5 z6=>⟨spr 104 0 [(1,.ptr 0 0),(2,.ptr 1 0),(4,vb z1)],Mem.ofList [.box 26 [.sl ⟨true,74,false⟩ 10 z2,.sl ⟨false,86,false⟩ 2 z3,.sl ⟨true,82,false⟩ 4 z4],.box 30 [vi z5,vi z6]],2⟩
 | .z6 z1 z2 z3 z4 z5 z6 z7=>⟨spr 104 0 [(1,.ptr 0 0),(2,.ptr 1 0),(47,vi z1),(48,vi z2)],Mem.ofList [.box 26 [.sl ⟨true,74,false⟩ 10 z3,.sl ⟨false,86,false⟩ 2 z4,.sl ⟨true,82,false⟩ 4 z5],.box 30 [vi z6,vi z7]],2⟩
 | .z16 z1 z2 z3 z4 z5 z6 z7 z8=>⟨spr 104 0 [(1,.ptr 0 0),(2,.ptr 1 0),(70,.sl ⟨false,86,false⟩ 2 z1),(71,vi z2),(72,vi z3)],Mem.ofList [.box 26 [.sl ⟨true,74,false⟩ 10 z4,.sl ⟨false,86,false⟩ 2 z5,.sl ⟨true,82,false⟩ 4 z6],.box 30 [vi z7,vi z8]],2⟩
 | .z23 z1 z2 z3 z4 z5 z6 z7 z8=>⟨spr 104 0 [(1,.ptr 0 0),(2,.ptr 1 0),(87,.sl ⟨true,82,false⟩ 4 z1),(88,vi z2),(89,vi z3)],Mem.ofList [.box 26 [.sl ⟨true,74,false⟩ 10 z4,.sl ⟨false,86,false⟩ 2 z5,.sl ⟨true,82,false⟩ 4 z6],.box 30 [vi z7,vi z8]],2⟩
def Q26.r2 (n:Nat) (c:Q26.Z→Option (Int × Int × Int)) (z1:Bool) (z2 z3 z4:List AV) (z5 z6:Int):Option (Int × Int × Int):=
 (Q2g.F n z1 2).bind fun p4=>
 let y5:Bool:=((z3.length:Nat):Int)==0
 (Q2g.F n y5 1).bind fun p6=>
 (Q2i.F n [vi p4,vi p6]).bind fun p7=>
 bif p7 != 0 then (some (0,0,p7)) else (c (.z6 ((z2.length:Nat):Int) 0 z2 z3 z4 z5 z6))
def Q26.r6 (n:Nat) (c:Q26.Z→Option (Int × Int × Int)) (z1 z2:Int) (z3 z4 z5:List AV) (z6 z7:Int):Option (Int × Int × Int):=
 bif decide (z2 < z1) then ((Q2z.F n z3 z4 z5 z2).bind fun p8=>
 bif p8 != 0 then (some (1,z2,p8)) else (c (.z6 z1 (IntKind.i64.wrap (z2+1)) z3 z4 z5 z6 z7))) else ((Q2t.F n z3).bind fun p9=>
 bif decide (p9.2 > 24) then (some (0,0,30)) else (c (.z16 z4 ((z4.length:Nat):Int) 0 z3 z4 z5 z6 z7)))
def Q26.r16 (n:Nat) (c:Q26.Z→Option (Int × Int × Int)) (z1:List AV) (z2 z3:Int) (z4 z5 z6:List AV) (z7 z8:Int):Option (Int × Int × Int):=
 bif decide (z3 < z2) then (bif decide ((0:Int)≤z3)&&decide (z3 < ((z1.length:Nat):Int)) then (withCons ((z1.getD ((z3).toNat) .undef).cells) fun h10 r11=>
 withInt .i64 h10 fun x12=>
 withCons r11 fun h13 r14=>
 withSl ⟨true,3,false⟩ 1 h13 fun xs15=>
 (Q2l.F n z4 z5 z6 x12 xs15).bind fun p16=>
 bif p16 != 0 then (some (2,z3,p16)) else (c (.z16 z1 z2 (IntKind.i64.wrap (z3+1)) z4 z5 z6 z7 z8))) else none) else (c (.z23 z6 ((z6.length:Nat):Int) 0 z4 z5 z6 z7 z8))
def Q26.r23 (n:Nat) (c:Q26.Z→Option (Int × Int × Int)) (z1:List AV) (z2 z3:Int) (z4 z5 z6:List AV) (z7 z8:Int):Option (Int × Int × Int):=
 bif decide (z3 < z2) then (bif decide ((0:Int)≤z3)&&decide (z3 < ((z1.length:Nat):Int)) then (withCons ((z1.getD ((z3).toNat) .undef).cells) fun h17 r18=>
 withInt .i64 h17 fun x19=>
 withCons r18 fun h20 r21=>
 withInt .i64 h20 fun x22=>
 withCons r21 fun h23 r24=>
 withInt .i64 h23 fun x25=>
 withCons r24 fun h26 r27=>
 withInt .i64 h26 fun x28=>
 (Q2u.F n z4 z5 z6 x19 x22 x25 x28).bind fun p29=>
 bif p29 != 0 then (some (3,z3,p29)) else (c (.z23 z1 z2 (IntKind.i64.wrap (z3+1)) z4 z5 z6 z7 z8))) else none) else (some (0,0,0))
def Q26.r (n:Nat) (c:Q26.Z→Option (Int × Int × Int)):Q26.Z→Option (Int × Int × Int)
 | .z2 z1 z2 z3 z4 z5 z6=>Q26.r2 n c z1 z2 z3 z4 z5 z6
 | .z6 z1 z2 z3 z4 z5 z6 z7=>Q26.r6 n c z1 z2 z3 z4 z5 z6 z7
 | .z16 z1 z2 z3 z4 z5 z6 z7 z8=>Q26.r16 n c z1 z2 z3 z4 z5 z6 z7 z8
 | .z23 z1 z2 z3 z4 z5 z6 z7 z8=>Q26.r23 n c z1 z2 z3 z4 z5 z6 z7 z8
def Q26.e (n:Nat) (c:Q26.Z→Option (Int × Int × Int)) (a0 a1 a2:List AV):Option (Int × Int × Int):=
 let y1:Bool:=decide (((a0.length:Nat):Int) > 24)
 bif y1 then (c (.z2 true a0 a1 a2 0 0)) else (let y2:Bool:=decide (((a1.length:Nat):Int) > 40)
 bif y2 then (c (.z2 true a0 a1 a2 0 0)) else (let y3:Bool:=decide (((a2.length:Nat):Int) > 6)
 c (.z2 y3 a0 a1 a2 0 0)))
def Q26.E (n:Nat) (c:Q26.Z→Option (Int × Int × Int)):Q26.A→Option Q26.T:=fun (a0,a1,a2)=>Q26.e n c a0 a1 a2
def Q26.l (n:Nat):Nat→Q26.Z→Option (Int × Int × Int):=loopL (Q26.r n)
def Q26.F (n:Nat) (a0 a1 a2:List AV):Option (Int × Int × Int):=Q26.e n (Q26.l n n) a0 a1 a2
def Q26.FA (n:Nat):Q26.A→Option Q26.T:=Q26.E n (Q26.l n n)
theorem Q26.hands (n:Nat):∀ a p,Q26.FA n a=some p→HandsIn Tryz.prog 14 (Q26.i a) (Q26.p p):=
 pf_hands (C:=Q26.C n) (cut:=Q26.cut) (t:=Q26.t) (s:=Q26.s) (e:=Q26.E n) (r:=Q26.r n) (n:=n) cfg mixed globs rfl Q26.qi (Q26.tells n) Tryz.func14 (by kernel_rfl) (by kernel_rfl) (fun rec a=>by kernel_rfl) (fun rec z=>by cases z <;> kernel_rfl)
def Q26.via {R:Type} (n:Nat):List AV→(AV→Option R)→Option R:=viaK (Q26.FA n) Q26.o Q26.p
theorem Q26.tells1 {R:Type} (n:Nat) (xs:List AV):Tells1 (R:=R) Tryz.prog 14 xs (Q26.via n xs):=tells_via Q26.oi (fun a=>by kernel_rfl) (Q26.hands n) xs
end Go.Proofs.YtnoldakbllfmnaaGreatDoor.Ev
namespace Go.Proofs.YtnoldakbllfmnaaGreatDoor.Ev
open Go Go.Proofs Go.Proofs.Ev
set_option linter.unusedVariables false
set_option maxRecDepth 100000
abbrev Q31.A:=List AV × List AV × List AV
abbrev Q31.T:=Int
def Q31.i:Q31.A→List AV:=fun (a0,a1,a2)=>[AV.agg [.sl ⟨true,74,false⟩ 10 a0,.sl ⟨false,86,false⟩ 2 a1,.sl ⟨true,82,false⟩ 4 a2]]
def Q31.o (xs:List AV):Option Q31.A:=match xs with | [.agg [.sl ⟨true,74,false⟩ 10 a0,.sl ⟨false,86,false⟩ 2 a1,.sl ⟨true,82,false⟩ 4 a2]]=>some (a0,a1,a2) | _=>none
theorem Q31.oi:∀ xs a,Q31.o xs=some a→xs=Q31.i a:=by
 intro xs a h
 unfold Q31.o at h
 split at h
 ·cases h; rfl
 ·cases h
def Q31.p (p:Q31.T):AV:=vi p
def Q31.q (x:AV):Option Q31.T:=match x with | .v (.int .i64 p0)=>some p0 | _=>none
theorem Q31.qi:∀ x p,Q31.q x=some p→x=Q31.p p:=by
 intro x p h
 unfold Q31.q at h
 split at h
 ·cases h; rfl
 ·cases h
def Q31.C {R:Type} (n:Nat) (f:FuncId) (xs:List AV):(AV→Option R)→Option R:=
 bif Nat.beq f 14 then Q26.via n xs else fun _=>none
theorem Q31.tells {R:Type} (n:Nat):Tells (R:=R) Tryz.prog (Q31.C n):=fun _ xs=>tells_at (Q26.tells1 n xs) (Tells1.none)
def Q31.cut (r:Nat):Option Keep:=match r with  | _=>none
def Q31.e (n:Nat) (a0 a1 a2:List AV):Option Int:=
 (Q26.F n a0 a1 a2).bind fun p1=>
 some p1.2.2
def Q31.E (n:Nat):Q31.A→Option Q31.T:=fun (a0,a1,a2)=>Q31.e n a0 a1 a2
def Q31.F (n:Nat) (a0 a1 a2:List AV):Option Int:=Q31.e n a0 a1 a2
def Q31.FA (n:Nat):Q31.A→Option Q31.T:=Q31.E n
theorem Q31.hands (n:Nat):∀ a p,Q31.FA n a=some p→HandsIn Tryz.prog 52 (Q31.i a) (Q31.p p):=
 pf_hands (C:=Q31.C n) (cut:=Q31.cut) (Z:=Empty) (t:=nofun) (s:=nofun) (e:=fun _=>Q31.E n) (r:=fun _ z=>nomatch z) (n:=n) cfg mixed globs rfl Q31.qi (Q31.tells n) Tryz.func52 (by kernel_rfl) (by kernel_rfl) (fun rec a=>by kernel_rfl) (fun rec z=>nomatch z)
def Q31.via {R:Type} (n:Nat):List AV→(AV→Option R)→Option R:=viaK (Q31.FA n) Q31.o Q31.p
theorem Q31.tells1 {R:Type} (n:Nat) (xs:List AV):Tells1 (R:=R) Tryz.prog 52 xs (Q31.via n xs):=tells_via Q31.oi (fun a=>by kernel_rfl) (Q31.hands n) xs
end Go.Proofs.YtnoldakbllfmnaaGreatDoor.Ev
namespace Go.Proofs
open Go.Shelf
def Tryz.lays137_ren:Go.Shelf.Ren:=⟨fun | 137=>219 | 217=>180 | 266=>213 | n=>n,fun | 9=>9 | 5=>5 | 3=>3 | n=>n,fun | n=>n⟩
theorem Tryz.lays137:Go.Proofs.Lays.n137 Tryz.prog Tryz.lays137_ren:={
  mixed:=by kernel_rfl
  f137:=Tryz.func219.trans (congrArg some (by kernel_rfl))
  f217:=Tryz.func180.trans (congrArg some (by kernel_rfl))
  f266:=Tryz.func213.trans (congrArg some (by kernel_rfl))
  t3:=Tryz.underlying3
  a3:=Tryz.isAgg3
  z3:=Tryz.sizeOf3
  v3:=Tryz.zeroValue3
  t5:=Tryz.underlying5
  a5:=Tryz.isAgg5
  z5:=Tryz.sizeOf5
  v5:=Tryz.zeroValue5
  t9:=Tryz.underlying9
  a9:=Tryz.isAgg9
  z9:=Tryz.sizeOf9
  v9:=Tryz.zeroValue9 }
open Go.RowKit in
theorem Tryz.strings_IndexByte (s:ByteArray) (c:Int) (w:World) :
  Calls Tryz.prog 219 #[.string s,.int .u8 c] w fun e w'=>e=.returned (.int .i64 (Lib.indexByte s.data.toList c.toNat.toUInt8))∧w'=w:=Any.strings_IndexByte Tryz.lays137 s c w
def Tryz.laysM171_ren:Go.Shelf.Ren:=⟨fun | 171=>97 | 243=>145 | 246=>177 | 283=>209 | 284=>210 | 285=>211 | 286=>212 | 129=>206 | 317=>236 | 318=>237 | 319=>238 | 320=>239 | 337=>249 | 338=>250 | n=>n,fun | 3=>3 | 9=>9 | 2=>2 | 4=>4 | 171=>245 | 0=>0 | 53=>206 | 37=>146 | 5=>5 | 173=>247 | 212=>265 | 51=>203 | 20=>20 | 213=>266 | 46=>176 | 232=>293 | 233=>294 | n=>n,fun | 17=>4 | 18=>9 | 19=>10 | n=>n⟩
theorem Tryz.laysM171:Go.Proofs.LaysM.n171 Tryz.prog Tryz.laysM171_ren:={
  mixed:=by kernel_rfl
  f129:=Tryz.func206.trans (congrArg some (by kernel_rfl))
  f171:=Tryz.func97.trans (congrArg some (by kernel_rfl))
  f243:=Tryz.func145.trans (congrArg some (by kernel_rfl))
  f246:=Tryz.func177.trans (congrArg some (by kernel_rfl))
  f283:=Tryz.func209.trans (congrArg some (by kernel_rfl))
  f284:=Tryz.func210.trans (congrArg some (by kernel_rfl))
  f285:=Tryz.func211.trans (congrArg some (by kernel_rfl))
  f286:=Tryz.func212.trans (congrArg some (by kernel_rfl))
  f317:=Tryz.func236.trans (congrArg some (by kernel_rfl))
  f318:=Tryz.func237.trans (congrArg some (by kernel_rfl))
  f319:=Tryz.func238.trans (congrArg some (by kernel_rfl))
  f320:=Tryz.func239.trans (congrArg some (by kernel_rfl))
  f337:=Tryz.func249.trans (congrArg some (by kernel_rfl))
  f338:=Tryz.func250.trans (congrArg some (by kernel_rfl))
  t0:=Tryz.underlying0
  a0:=Tryz.isAgg0
  z0:=Tryz.sizeOf0
  v0:=Tryz.zeroValue0
  t2:=Tryz.underlying2
  a2:=Tryz.isAgg2
  z2:=Tryz.sizeOf2
  v2:=Tryz.zeroValue2
  t3:=Tryz.underlying3
  a3:=Tryz.isAgg3
  z3:=Tryz.sizeOf3
  v3:=Tryz.zeroValue3
  t4:=Tryz.underlying4
  a4:=Tryz.isAgg4
  z4:=Tryz.sizeOf4
  v4:=Tryz.zeroValue4
  t5:=Tryz.underlying5
  a5:=Tryz.isAgg5
  z5:=Tryz.sizeOf5
  v5:=Tryz.zeroValue5
  t9:=Tryz.underlying9
  a9:=Tryz.isAgg9
  z9:=Tryz.sizeOf9
  v9:=Tryz.zeroValue9
  t20:=Tryz.underlying20
  a20:=Tryz.isAgg20
  z20:=Tryz.sizeOf20
  v20:=Tryz.zeroValue20
  t37:=Tryz.underlying146
  a37:=Tryz.isAgg146
  z37:=Tryz.sizeOf146
  v37:=Tryz.zeroValue146
  t46:=Tryz.underlying176
  a46:=Tryz.isAgg176
  z46:=Tryz.sizeOf176
  v46:=Tryz.zeroValue176
  t51:=Tryz.underlying203
  a51:=Tryz.isAgg203
  z51:=Tryz.sizeOf203
  v51:=Tryz.zeroValue203
  t53:=Tryz.underlying206
  a53:=Tryz.isAgg206
  z53:=Tryz.sizeOf206
  v53:=Tryz.zeroValue206
  t171:=Tryz.underlying245
  a171:=Tryz.isAgg245
  z171:=Tryz.sizeOf245
  v171:=Tryz.zeroValue245
  t173:=Tryz.underlying247
  a173:=Tryz.isAgg247
  z173:=Tryz.sizeOf247
  v173:=Tryz.zeroValue247
  t212:=Tryz.underlying265
  a212:=Tryz.isAgg265
  z212:=Tryz.sizeOf265
  v212:=Tryz.zeroValue265
  t213:=Tryz.underlying266
  a213:=Tryz.isAgg266
  z213:=Tryz.sizeOf266
  t232:=Tryz.underlying293
  a232:=Tryz.isAgg293
  z232:=Tryz.sizeOf293
  v232:=Tryz.zeroValue293
  t233:=Tryz.underlying294
  a233:=Tryz.isAgg294
  z233:=Tryz.sizeOf294
  v233:=Tryz.zeroValue294
  g17:=by kernel_rfl
  g18:=by kernel_rfl
  g19:=by kernel_rfl
  i0:=by kernel_rfl
  i2:=by kernel_rfl
  i3:=by kernel_rfl
  i4:=by kernel_rfl
  i5:=by kernel_rfl
  i9:=by kernel_rfl
  i20:=by kernel_rfl
  i37:=by kernel_rfl
  i46:=by kernel_rfl
  i51:=by kernel_rfl
  i53:=by kernel_rfl
  i171:=by kernel_rfl
  i173:=by kernel_rfl
  i212:=by kernel_rfl
  i232:=by kernel_rfl
  i233:=by kernel_rfl
  m17:=by kernel_rfl
  m18:=by kernel_rfl
  m19:=by kernel_rfl }
open Go.RowKit Go.Sort Go.Lib in
theorem Tryz.strconv_Itoa (n : Int) (h0 : -9223372036854775808 ≤ n) (h1 : n ≤ 9223372036854775807) (w : World) (htab : Lib.TabIs Tryz.prog w "internal/strconv.uint64pow10" .u64 Lib.pow10Tab) :
  Calls Tryz.prog 97 #[.int .i64 n] w fun e w'=>e=.returned (.string ⟨(Lib.itoa n).toArray⟩)∧∃ k os,w'=grow (w.drewN k) os:=Any.strconv_Itoa Tryz.laysM171 n h0 h1 w htab
def Tryz.laysM145_ren:Go.Shelf.Ren:=⟨fun | 145=>60 | 220=>103 | 219=>151 | 217=>180 | 225=>181 | 224=>182 | 267=>183 | 266=>213 | 314=>214 | n=>n,fun | 9=>9 | 4=>4 | 59=>105 | 3=>3 | 5=>5 | 46=>176 | 146=>204 | 51=>203 | n=>n,fun | 1=>3 | n=>n⟩
theorem Tryz.laysM145:Go.Proofs.LaysM.n145 Tryz.prog Tryz.laysM145_ren:={
  mixed:=by kernel_rfl
  f145:=Tryz.func60.trans (congrArg some (by kernel_rfl))
  f217:=Tryz.func180.trans (congrArg some (by kernel_rfl))
  f219:=Tryz.func151.trans (congrArg some (by kernel_rfl))
  f220:=Tryz.func103.trans (congrArg some (by kernel_rfl))
  f224:=Tryz.func182.trans (congrArg some (by kernel_rfl))
  f225:=Tryz.func181.trans (congrArg some (by kernel_rfl))
  f266:=Tryz.func213.trans (congrArg some (by kernel_rfl))
  f267:=Tryz.func183.trans (congrArg some (by kernel_rfl))
  f314:=Tryz.func214.trans (congrArg some (by kernel_rfl))
  t3:=Tryz.underlying3
  a3:=Tryz.isAgg3
  z3:=Tryz.sizeOf3
  v3:=Tryz.zeroValue3
  t4:=Tryz.underlying4
  a4:=Tryz.isAgg4
  z4:=Tryz.sizeOf4
  v4:=Tryz.zeroValue4
  t5:=Tryz.underlying5
  a5:=Tryz.isAgg5
  z5:=Tryz.sizeOf5
  v5:=Tryz.zeroValue5
  t9:=Tryz.underlying9
  a9:=Tryz.isAgg9
  z9:=Tryz.sizeOf9
  v9:=Tryz.zeroValue9
  t46:=Tryz.underlying176
  a46:=Tryz.isAgg176
  z46:=Tryz.sizeOf176
  v46:=Tryz.zeroValue176
  t51:=Tryz.underlying203
  a51:=Tryz.isAgg203
  z51:=Tryz.sizeOf203
  v51:=Tryz.zeroValue203
  t59:=Tryz.underlying105
  a59:=Tryz.isAgg105
  z59:=Tryz.sizeOf105
  v59:=Tryz.zeroValue105
  t146:=Tryz.underlying204
  a146:=Tryz.isAgg204
  z146:=Tryz.sizeOf204
  v146:=Tryz.zeroValue204
  g1:=by kernel_rfl
  i3:=by kernel_rfl
  i4:=by kernel_rfl
  i5:=by kernel_rfl
  i9:=by kernel_rfl
  i46:=by kernel_rfl
  i51:=by kernel_rfl
  i59:=by kernel_rfl
  i146:=by kernel_rfl
  m1:=by kernel_rfl
  s1_3:=fun w h=>Go.Proofs.cell_of_shapedOpen_int (zero:=#[.int .i64 0]) (t:=3) h (of_decide_eq_true (by kernel_rfl)) (by kernel_rfl) rfl (by kernel_rfl) (by kernel_rfl) Tryz.underlying3 }
open Go.RowKit Go.Lib in
theorem Tryz.strings_Cut_shaped (s sep:ByteArray) (w:World) (h:w.ShapedOpen Tryz.prog) (hs:s.size < 4294967281) :
  Calls Tryz.prog 60 #[.string s,.string sep] w fun e w'=>e=.returned (.tuple #[.string ⟨(Lib.cut s.data.toList sep.data.toList).1.toArray⟩,.string ⟨(Lib.cut s.data.toList sep.data.toList).2.1.toArray⟩,.bool (Lib.cut s.data.toList sep.data.toList).2.2])∧∃ n,w'=w.drewN n:=Any.strings_Cut_shaped Tryz.laysM145 s sep w h hs
def Tryz.lays161_ren:Go.Shelf.Ren:=⟨fun | 161=>217 | 231=>241 | 227=>242 | 233=>243 | 235=>244 | 228=>252 | 197=>208 | 151=>253 | 260=>235 | 152=>256 | 137=>219 | 119=>257 | 224=>182 | 225=>181 | 217=>180 | 266=>213 | n=>n,fun | 9=>9 | 4=>4 | 3=>3 | 5=>5 | 117=>271 | 116=>270 | 0=>0 | 124=>274 | 105=>243 | 21=>21 | 119=>283 | 46=>176 | 139=>286 | 138=>285 | n=>n,fun | 3=>7 | 4=>8 | n=>n⟩
theorem Tryz.lays161:Go.Proofs.Lays.n161 Tryz.prog Tryz.lays161_ren:={
  mixed:=by kernel_rfl
  f119:=Tryz.func257.trans (congrArg some (by kernel_rfl))
  f137:=Tryz.func219.trans (congrArg some (by kernel_rfl))
  f151:=Tryz.func253.trans (congrArg some (by kernel_rfl))
  f152:=Tryz.func256.trans (congrArg some (by kernel_rfl))
  f161:=Tryz.func217.trans (congrArg some (by kernel_rfl))
  f197:=Tryz.func208.trans (congrArg some (by kernel_rfl))
  f217:=Tryz.func180.trans (congrArg some (by kernel_rfl))
  f224:=Tryz.func182.trans (congrArg some (by kernel_rfl))
  f225:=Tryz.func181.trans (congrArg some (by kernel_rfl))
  f227:=Tryz.func242.trans (congrArg some (by kernel_rfl))
  f228:=Tryz.func252.trans (congrArg some (by kernel_rfl))
  f231:=Tryz.func241.trans (congrArg some (by kernel_rfl))
  f233:=Tryz.func243.trans (congrArg some (by kernel_rfl))
  f235:=Tryz.func244.trans (congrArg some (by kernel_rfl))
  f260:=Tryz.func235.trans (congrArg some (by kernel_rfl))
  f266:=Tryz.func213.trans (congrArg some (by kernel_rfl))
  t0:=Tryz.underlying0
  a0:=Tryz.isAgg0
  z0:=Tryz.sizeOf0
  v0:=Tryz.zeroValue0
  t3:=Tryz.underlying3
  a3:=Tryz.isAgg3
  z3:=Tryz.sizeOf3
  v3:=Tryz.zeroValue3
  t4:=Tryz.underlying4
  a4:=Tryz.isAgg4
  z4:=Tryz.sizeOf4
  v4:=Tryz.zeroValue4
  t5:=Tryz.underlying5
  a5:=Tryz.isAgg5
  z5:=Tryz.sizeOf5
  v5:=Tryz.zeroValue5
  t9:=Tryz.underlying9
  a9:=Tryz.isAgg9
  z9:=Tryz.sizeOf9
  v9:=Tryz.zeroValue9
  t21:=Tryz.underlying21
  a21:=Tryz.isAgg21
  z21:=Tryz.sizeOf21
  v21:=Tryz.zeroValue21
  t46:=Tryz.underlying176
  a46:=Tryz.isAgg176
  z46:=Tryz.sizeOf176
  v46:=Tryz.zeroValue176
  t105:=Tryz.underlying243
  a105:=Tryz.isAgg243
  z105:=Tryz.sizeOf243
  v105:=Tryz.zeroValue243
  t116:=Tryz.underlying270
  a116:=Tryz.isAgg270
  z116:=Tryz.sizeOf270
  t117:=Tryz.underlying271
  a117:=Tryz.isAgg271
  z117:=Tryz.sizeOf271
  v117:=Tryz.zeroValue271
  t119:=Tryz.underlying283
  a119:=Tryz.isAgg283
  z119:=Tryz.sizeOf283
  t124:=Tryz.underlying274
  a124:=Tryz.isAgg274
  z124:=Tryz.sizeOf274
  v124:=Tryz.zeroValue274
  t138:=Tryz.underlying285
  a138:=Tryz.isAgg285
  z138:=Tryz.sizeOf285
  v138:=Tryz.zeroValue285
  t139:=Tryz.underlying286
  a139:=Tryz.isAgg286
  z139:=Tryz.sizeOf286
  v139:=Tryz.zeroValue286
  g3:=by kernel_rfl
  g4:=by kernel_rfl }
open Go.RowKit in
theorem Tryz.strings_TrimLeft_one (s:ByteArray) (c:UInt8) (hc:c.toNat < 128) (w:World) :
  Calls Tryz.prog 217 #[.string s,.string ⟨#[c]⟩] w fun e w'=>e=.returned (.string ⟨(Lib.trimLeftB s.data.toList c).toArray⟩)∧w'=w:=Any.strings_TrimLeft_one Tryz.lays161 s c hc w
def Tryz.laysM155_ren:Go.Shelf.Ren:=⟨fun | 155=>144 | 154=>176 | 138=>189 | 165=>98 | 143=>190 | 166=>99 | 197=>208 | 169=>100 | 195=>220 | 218=>221 | 240=>146 | 241=>147 | 219=>151 | 260=>235 | 276=>178 | 277=>179 | 217=>180 | 225=>181 | 224=>182 | 267=>183 | 266=>213 | 314=>214 | n=>n,fun | 9=>9 | 3=>3 | 4=>4 | 72=>148 | 0=>0 | 76=>152 | 105=>243 | 21=>21 | 5=>5 | 70=>145 | 20=>20 | 37=>146 | 75=>151 | 127=>185 | 164=>213 | 46=>176 | 119=>283 | 139=>286 | 138=>285 | 146=>204 | 51=>203 | 80=>84 | n=>n,fun | 1=>3 | 3=>7 | 4=>8 | n=>n⟩
theorem Tryz.laysM155:Go.Proofs.LaysM.n155 Tryz.prog Tryz.laysM155_ren:={
  mixed:=by kernel_rfl
  f138:=Tryz.func189.trans (congrArg some (by kernel_rfl))
  f143:=Tryz.func190.trans (congrArg some (by kernel_rfl))
  f154:=Tryz.func176.trans (congrArg some (by kernel_rfl))
  f155:=Tryz.func144.trans (congrArg some (by kernel_rfl))
  f165:=Tryz.func98.trans (congrArg some (by kernel_rfl))
  f166:=Tryz.func99.trans (congrArg some (by kernel_rfl))
  f169:=Tryz.func100.trans (congrArg some (by kernel_rfl))
  f195:=Tryz.func220.trans (congrArg some (by kernel_rfl))
  f197:=Tryz.func208.trans (congrArg some (by kernel_rfl))
  f217:=Tryz.func180.trans (congrArg some (by kernel_rfl))
  f218:=Tryz.func221.trans (congrArg some (by kernel_rfl))
  f219:=Tryz.func151.trans (congrArg some (by kernel_rfl))
  f224:=Tryz.func182.trans (congrArg some (by kernel_rfl))
  f225:=Tryz.func181.trans (congrArg some (by kernel_rfl))
  f240:=Tryz.func146.trans (congrArg some (by kernel_rfl))
  f241:=Tryz.func147.trans (congrArg some (by kernel_rfl))
  f260:=Tryz.func235.trans (congrArg some (by kernel_rfl))
  f266:=Tryz.func213.trans (congrArg some (by kernel_rfl))
  f267:=Tryz.func183.trans (congrArg some (by kernel_rfl))
  f276:=Tryz.func178.trans (congrArg some (by kernel_rfl))
  f277:=Tryz.func179.trans (congrArg some (by kernel_rfl))
  f314:=Tryz.func214.trans (congrArg some (by kernel_rfl))
  t0:=Tryz.underlying0
  a0:=Tryz.isAgg0
  z0:=Tryz.sizeOf0
  v0:=Tryz.zeroValue0
  t3:=Tryz.underlying3
  a3:=Tryz.isAgg3
  z3:=Tryz.sizeOf3
  v3:=Tryz.zeroValue3
  t4:=Tryz.underlying4
  a4:=Tryz.isAgg4
  z4:=Tryz.sizeOf4
  v4:=Tryz.zeroValue4
  t5:=Tryz.underlying5
  a5:=Tryz.isAgg5
  z5:=Tryz.sizeOf5
  v5:=Tryz.zeroValue5
  t9:=Tryz.underlying9
  a9:=Tryz.isAgg9
  z9:=Tryz.sizeOf9
  v9:=Tryz.zeroValue9
  t20:=Tryz.underlying20
  a20:=Tryz.isAgg20
  z20:=Tryz.sizeOf20
  v20:=Tryz.zeroValue20
  t21:=Tryz.underlying21
  a21:=Tryz.isAgg21
  z21:=Tryz.sizeOf21
  v21:=Tryz.zeroValue21
  t37:=Tryz.underlying146
  a37:=Tryz.isAgg146
  z37:=Tryz.sizeOf146
  v37:=Tryz.zeroValue146
  t46:=Tryz.underlying176
  a46:=Tryz.isAgg176
  z46:=Tryz.sizeOf176
  v46:=Tryz.zeroValue176
  t51:=Tryz.underlying203
  a51:=Tryz.isAgg203
  z51:=Tryz.sizeOf203
  v51:=Tryz.zeroValue203
  t70:=Tryz.underlying145
  a70:=Tryz.isAgg145
  z70:=Tryz.sizeOf145
  v70:=Tryz.zeroValue145
  t72:=Tryz.underlying148
  a72:=Tryz.isAgg148
  z72:=Tryz.sizeOf148
  v72:=Tryz.zeroValue148
  t75:=Tryz.underlying151
  a75:=Tryz.isAgg151
  z75:=Tryz.sizeOf151
  v75:=Tryz.zeroValue151
  t76:=Tryz.underlying152
  a76:=Tryz.isAgg152
  z76:=Tryz.sizeOf152
  v76:=Tryz.zeroValue152
  t105:=Tryz.underlying243
  a105:=Tryz.isAgg243
  z105:=Tryz.sizeOf243
  v105:=Tryz.zeroValue243
  t119:=Tryz.underlying283
  a119:=Tryz.isAgg283
  z119:=Tryz.sizeOf283
  t127:=Tryz.underlying185
  a127:=Tryz.isAgg185
  z127:=Tryz.sizeOf185
  v127:=Tryz.zeroValue185
  t138:=Tryz.underlying285
  a138:=Tryz.isAgg285
  z138:=Tryz.sizeOf285
  v138:=Tryz.zeroValue285
  t139:=Tryz.underlying286
  a139:=Tryz.isAgg286
  z139:=Tryz.sizeOf286
  v139:=Tryz.zeroValue286
  t146:=Tryz.underlying204
  a146:=Tryz.isAgg204
  z146:=Tryz.sizeOf204
  v146:=Tryz.zeroValue204
  t164:=Tryz.underlying213
  a164:=Tryz.isAgg213
  z164:=Tryz.sizeOf213
  v164:=Tryz.zeroValue213
  g1:=by kernel_rfl
  g3:=by kernel_rfl
  g4:=by kernel_rfl
  t80:=Tryz.underlying84
  a80:=Tryz.isAgg84
  z80:=Tryz.sizeOf84
  v80:=Tryz.zeroValue84
  i0:=by kernel_rfl
  i3:=by kernel_rfl
  i4:=by kernel_rfl
  i5:=by kernel_rfl
  i9:=by kernel_rfl
  i20:=by kernel_rfl
  i21:=by kernel_rfl
  i37:=by kernel_rfl
  i46:=by kernel_rfl
  i51:=by kernel_rfl
  i70:=by kernel_rfl
  i72:=by kernel_rfl
  i75:=by kernel_rfl
  i76:=by kernel_rfl
  i80:=by kernel_rfl
  i105:=by kernel_rfl
  i127:=by kernel_rfl
  i138:=by kernel_rfl
  i139:=by kernel_rfl
  i146:=by kernel_rfl
  i164:=by kernel_rfl
  m1:=by kernel_rfl
  s1_3:=fun w h=>Go.Proofs.cell_of_shapedOpen_int (zero:=#[.int .i64 0]) (t:=3) h (of_decide_eq_true (by kernel_rfl)) (by kernel_rfl) rfl (by kernel_rfl) (by kernel_rfl) Tryz.underlying3
  m3:=by kernel_rfl
  m4:=by kernel_rfl }
theorem Tryz.Builder_Extra_M155:Builder.Extra Tryz.prog Tryz.laysM155_ren:={
  sizeBuilder:=by kernel_rfl
  liesBuilder:=by kernel_rfl
  t5:=Tryz.underlying5
  a5:=Tryz.isAgg5
  z5:=Tryz.sizeOf5
  v5:=Tryz.zeroValue5
  infoByte:=by kernel_rfl
  cellsByte:=by kernel_rfl
  sizeByte:=by kernel_rfl
  neB5:=by decide }
open Go.RowKit Go.Lib in
theorem Tryz.strings_ReplaceAll_shaped (s old new:ByteArray) (w:World) (h:w.ShapedOpen Tryz.prog) (hs:s.size < 4294967281) (h1:1≤old.size) (hlen:s.size+Lib.countB s old*new.size≤140737488355328) :
  Calls Tryz.prog 144 #[.string s,.string old,.string new] w fun e w'=>
   e=.returned (.string ⟨(Lib.replaceAll s.data.toList old.data.toList new.data.toList).toArray⟩)∧Below w.heap.size w w':=Any.strings_ReplaceAll_shaped Tryz.laysM155 Tryz.Builder_Extra_M155 s old new w h hs h1 hlen
def Tryz.laysM146_ren:Go.Shelf.Ren:=⟨fun | 146=>107 | 221=>156 | 268=>188 | 138=>189 | 143=>190 | 195=>220 | 197=>208 | 218=>221 | 219=>151 | 260=>235 | 217=>180 | 225=>181 | 224=>182 | 267=>183 | 266=>213 | 314=>214 | n=>n,fun | 9=>9 | 31=>97 | 3=>3 | 4=>4 | 0=>0 | 105=>243 | 21=>21 | 5=>5 | 46=>176 | 119=>283 | 139=>286 | 138=>285 | 146=>204 | 51=>203 | n=>n,fun | 1=>3 | 3=>7 | 4=>8 | n=>n⟩
theorem Tryz.laysM146:Go.Proofs.LaysM.n146 Tryz.prog Tryz.laysM146_ren:={
  mixed:=by kernel_rfl
  f138:=Tryz.func189.trans (congrArg some (by kernel_rfl))
  f143:=Tryz.func190.trans (congrArg some (by kernel_rfl))
  f146:=Tryz.func107.trans (congrArg some (by kernel_rfl))
  f195:=Tryz.func220.trans (congrArg some (by kernel_rfl))
  f197:=Tryz.func208.trans (congrArg some (by kernel_rfl))
  f217:=Tryz.func180.trans (congrArg some (by kernel_rfl))
  f218:=Tryz.func221.trans (congrArg some (by kernel_rfl))
  f219:=Tryz.func151.trans (congrArg some (by kernel_rfl))
  f221:=Tryz.func156.trans (congrArg some (by kernel_rfl))
  f224:=Tryz.func182.trans (congrArg some (by kernel_rfl))
  f225:=Tryz.func181.trans (congrArg some (by kernel_rfl))
  f260:=Tryz.func235.trans (congrArg some (by kernel_rfl))
  f266:=Tryz.func213.trans (congrArg some (by kernel_rfl))
  f267:=Tryz.func183.trans (congrArg some (by kernel_rfl))
  f268:=Tryz.func188.trans (congrArg some (by kernel_rfl))
  f314:=Tryz.func214.trans (congrArg some (by kernel_rfl))
  t0:=Tryz.underlying0
  a0:=Tryz.isAgg0
  z0:=Tryz.sizeOf0
  v0:=Tryz.zeroValue0
  t3:=Tryz.underlying3
  a3:=Tryz.isAgg3
  z3:=Tryz.sizeOf3
  v3:=Tryz.zeroValue3
  t4:=Tryz.underlying4
  a4:=Tryz.isAgg4
  z4:=Tryz.sizeOf4
  v4:=Tryz.zeroValue4
  t5:=Tryz.underlying5
  a5:=Tryz.isAgg5
  z5:=Tryz.sizeOf5
  v5:=Tryz.zeroValue5
  t9:=Tryz.underlying9
  a9:=Tryz.isAgg9
  z9:=Tryz.sizeOf9
  v9:=Tryz.zeroValue9
  t21:=Tryz.underlying21
  a21:=Tryz.isAgg21
  z21:=Tryz.sizeOf21
  v21:=Tryz.zeroValue21
  t31:=Tryz.underlying97
  a31:=Tryz.isAgg97
  z31:=Tryz.sizeOf97
  v31:=Tryz.zeroValue97
  t46:=Tryz.underlying176
  a46:=Tryz.isAgg176
  z46:=Tryz.sizeOf176
  v46:=Tryz.zeroValue176
  t51:=Tryz.underlying203
  a51:=Tryz.isAgg203
  z51:=Tryz.sizeOf203
  v51:=Tryz.zeroValue203
  t105:=Tryz.underlying243
  a105:=Tryz.isAgg243
  z105:=Tryz.sizeOf243
  v105:=Tryz.zeroValue243
  t119:=Tryz.underlying283
  a119:=Tryz.isAgg283
  z119:=Tryz.sizeOf283
  t138:=Tryz.underlying285
  a138:=Tryz.isAgg285
  z138:=Tryz.sizeOf285
  v138:=Tryz.zeroValue285
  t139:=Tryz.underlying286
  a139:=Tryz.isAgg286
  z139:=Tryz.sizeOf286
  v139:=Tryz.zeroValue286
  t146:=Tryz.underlying204
  a146:=Tryz.isAgg204
  z146:=Tryz.sizeOf204
  v146:=Tryz.zeroValue204
  g1:=by kernel_rfl
  g3:=by kernel_rfl
  g4:=by kernel_rfl
  i0:=by kernel_rfl
  i3:=by kernel_rfl
  i4:=by kernel_rfl
  i5:=by kernel_rfl
  i9:=by kernel_rfl
  i21:=by kernel_rfl
  i31:=by kernel_rfl
  i46:=by kernel_rfl
  i51:=by kernel_rfl
  i105:=by kernel_rfl
  i138:=by kernel_rfl
  i139:=by kernel_rfl
  i146:=by kernel_rfl
  m1:=by kernel_rfl
  s1_3:=fun w h=>Go.Proofs.cell_of_shapedOpen_int (zero:=#[.int .i64 0]) (t:=3) h (of_decide_eq_true (by kernel_rfl)) (by kernel_rfl) rfl (by kernel_rfl) (by kernel_rfl) Tryz.underlying3
  m3:=by kernel_rfl
  m4:=by kernel_rfl }
open Go.RowKit Go.Lib in
theorem Tryz.strings_Split_shaped (s sep:ByteArray) (w:World) (h:w.ShapedOpen Tryz.prog) (hs:s.size < 4294967281) (h1:1≤sep.size) :
  Calls Tryz.prog 107 #[.string s,.string sep] w fun e w'=>
   e=.returned (.slice (some ⟨w.heap.size,0,none⟩) (Lib.countB s sep+1) (Lib.countB s sep+1))∧w'=w.alloc (.cells ((Lib.splitB sep 0 (Lib.countB s sep) s).map Value.string).toArray 9):=Any.strings_Split_shaped Tryz.laysM146 s sep w h hs h1
def Tryz.lays105_ren:Go.Shelf.Ren:=⟨fun | 105=>122 | 212=>135 | 99=>61 | 165=>98 | 166=>99 | 170=>162 | 169=>100 | 263=>170 | 264=>171 | 206=>104 | 240=>146 | 241=>147 | 276=>178 | 277=>179 | n=>n,fun | 9=>9 | 3=>3 | 4=>4 | 20=>20 | 0=>0 | 46=>176 | 109=>177 | 5=>5 | 72=>148 | 76=>152 | 51=>203 | 146=>204 | 53=>206 | 148=>207 | 70=>145 | 37=>146 | 75=>151 | 127=>185 | 164=>213 | 80=>84 | n=>n,fun | n=>n⟩
theorem Tryz.lays105:Go.Proofs.Lays.n105 Tryz.prog Tryz.lays105_ren:={
  mixed:=by kernel_rfl
  f99:=Tryz.func61.trans (congrArg some (by kernel_rfl))
  f105:=Tryz.func122.trans (congrArg some (by kernel_rfl))
  f165:=Tryz.func98.trans (congrArg some (by kernel_rfl))
  f166:=Tryz.func99.trans (congrArg some (by kernel_rfl))
  f169:=Tryz.func100.trans (congrArg some (by kernel_rfl))
  f170:=Tryz.func162.trans (congrArg some (by kernel_rfl))
  f206:=Tryz.func104.trans (congrArg some (by kernel_rfl))
  f212:=Tryz.func135.trans (congrArg some (by kernel_rfl))
  f240:=Tryz.func146.trans (congrArg some (by kernel_rfl))
  f241:=Tryz.func147.trans (congrArg some (by kernel_rfl))
  f263:=Tryz.func170.trans (congrArg some (by kernel_rfl))
  f264:=Tryz.func171.trans (congrArg some (by kernel_rfl))
  f276:=Tryz.func178.trans (congrArg some (by kernel_rfl))
  f277:=Tryz.func179.trans (congrArg some (by kernel_rfl))
  t0:=Tryz.underlying0
  a0:=Tryz.isAgg0
  z0:=Tryz.sizeOf0
  v0:=Tryz.zeroValue0
  t3:=Tryz.underlying3
  a3:=Tryz.isAgg3
  z3:=Tryz.sizeOf3
  v3:=Tryz.zeroValue3
  t4:=Tryz.underlying4
  a4:=Tryz.isAgg4
  z4:=Tryz.sizeOf4
  v4:=Tryz.zeroValue4
  t5:=Tryz.underlying5
  a5:=Tryz.isAgg5
  z5:=Tryz.sizeOf5
  v5:=Tryz.zeroValue5
  t9:=Tryz.underlying9
  a9:=Tryz.isAgg9
  z9:=Tryz.sizeOf9
  v9:=Tryz.zeroValue9
  t20:=Tryz.underlying20
  a20:=Tryz.isAgg20
  z20:=Tryz.sizeOf20
  v20:=Tryz.zeroValue20
  t37:=Tryz.underlying146
  a37:=Tryz.isAgg146
  z37:=Tryz.sizeOf146
  v37:=Tryz.zeroValue146
  t46:=Tryz.underlying176
  a46:=Tryz.isAgg176
  z46:=Tryz.sizeOf176
  v46:=Tryz.zeroValue176
  t51:=Tryz.underlying203
  a51:=Tryz.isAgg203
  z51:=Tryz.sizeOf203
  v51:=Tryz.zeroValue203
  t53:=Tryz.underlying206
  a53:=Tryz.isAgg206
  z53:=Tryz.sizeOf206
  v53:=Tryz.zeroValue206
  t70:=Tryz.underlying145
  a70:=Tryz.isAgg145
  z70:=Tryz.sizeOf145
  v70:=Tryz.zeroValue145
  t72:=Tryz.underlying148
  a72:=Tryz.isAgg148
  z72:=Tryz.sizeOf148
  v72:=Tryz.zeroValue148
  t75:=Tryz.underlying151
  a75:=Tryz.isAgg151
  z75:=Tryz.sizeOf151
  v75:=Tryz.zeroValue151
  t76:=Tryz.underlying152
  a76:=Tryz.isAgg152
  z76:=Tryz.sizeOf152
  v76:=Tryz.zeroValue152
  t109:=Tryz.underlying177
  a109:=Tryz.isAgg177
  z109:=Tryz.sizeOf177
  v109:=Tryz.zeroValue177
  t127:=Tryz.underlying185
  a127:=Tryz.isAgg185
  z127:=Tryz.sizeOf185
  v127:=Tryz.zeroValue185
  t146:=Tryz.underlying204
  a146:=Tryz.isAgg204
  z146:=Tryz.sizeOf204
  v146:=Tryz.zeroValue204
  t148:=Tryz.underlying207
  a148:=Tryz.isAgg207
  z148:=Tryz.sizeOf207
  v148:=Tryz.zeroValue207
  t164:=Tryz.underlying213
  a164:=Tryz.isAgg213
  z164:=Tryz.sizeOf213
  v164:=Tryz.zeroValue213 }
theorem Tryz.Builder_Extra_105:Builder.Extra Tryz.prog Tryz.lays105_ren:={
  sizeBuilder:=by kernel_rfl
  liesBuilder:=by kernel_rfl
  t5:=Tryz.underlying5
  a5:=Tryz.isAgg5
  z5:=Tryz.sizeOf5
  v5:=Tryz.zeroValue5
  infoByte:=by kernel_rfl
  cellsByte:=by kernel_rfl
  sizeByte:=by kernel_rfl
  neB5:=by decide }
open Go.RowKit Go.Lib in
theorem Tryz.strings_Repeat (s:ByteArray) (c:Nat) (w:World) (hc:c≤9223372036854775807) (hlen:s.size*c≤140737488355328) :
  Calls Tryz.prog 122 #[.string s,.int .i64 c] w fun e w'=>e=.returned (.string ⟨(Lib.repeatL s.data.toList c).toArray⟩)∧Below w.heap.size w w':=Any.strings_Repeat Tryz.lays105 Tryz.Builder_Extra_105 s c w hc hlen
def Tryz.lays156_ren:Go.Shelf.Ren:=⟨fun | 156=>56 | 165=>98 | 166=>99 | 169=>100 | 240=>146 | 241=>147 | 276=>178 | 277=>179 | n=>n,fun | 31=>97 | 9=>9 | 3=>3 | 4=>4 | 0=>0 | 20=>20 | 72=>148 | 76=>152 | 70=>145 | 37=>146 | 75=>151 | 127=>185 | 164=>213 | 5=>5 | 80=>84 | n=>n,fun | n=>n⟩
theorem Tryz.lays156:Go.Proofs.Lays.n156 Tryz.prog Tryz.lays156_ren:={
  mixed:=by kernel_rfl
  f156:=Tryz.func56.trans (congrArg some (by kernel_rfl))
  f165:=Tryz.func98.trans (congrArg some (by kernel_rfl))
  f166:=Tryz.func99.trans (congrArg some (by kernel_rfl))
  f169:=Tryz.func100.trans (congrArg some (by kernel_rfl))
  f240:=Tryz.func146.trans (congrArg some (by kernel_rfl))
  f241:=Tryz.func147.trans (congrArg some (by kernel_rfl))
  f276:=Tryz.func178.trans (congrArg some (by kernel_rfl))
  f277:=Tryz.func179.trans (congrArg some (by kernel_rfl))
  t0:=Tryz.underlying0
  a0:=Tryz.isAgg0
  z0:=Tryz.sizeOf0
  v0:=Tryz.zeroValue0
  t3:=Tryz.underlying3
  a3:=Tryz.isAgg3
  z3:=Tryz.sizeOf3
  v3:=Tryz.zeroValue3
  t4:=Tryz.underlying4
  a4:=Tryz.isAgg4
  z4:=Tryz.sizeOf4
  v4:=Tryz.zeroValue4
  t9:=Tryz.underlying9
  a9:=Tryz.isAgg9
  z9:=Tryz.sizeOf9
  v9:=Tryz.zeroValue9
  t20:=Tryz.underlying20
  a20:=Tryz.isAgg20
  z20:=Tryz.sizeOf20
  v20:=Tryz.zeroValue20
  t31:=Tryz.underlying97
  a31:=Tryz.isAgg97
  z31:=Tryz.sizeOf97
  v31:=Tryz.zeroValue97
  t37:=Tryz.underlying146
  a37:=Tryz.isAgg146
  z37:=Tryz.sizeOf146
  v37:=Tryz.zeroValue146
  t70:=Tryz.underlying145
  a70:=Tryz.isAgg145
  z70:=Tryz.sizeOf145
  v70:=Tryz.zeroValue145
  t72:=Tryz.underlying148
  a72:=Tryz.isAgg148
  z72:=Tryz.sizeOf148
  v72:=Tryz.zeroValue148
  t75:=Tryz.underlying151
  a75:=Tryz.isAgg151
  z75:=Tryz.sizeOf151
  v75:=Tryz.zeroValue151
  t76:=Tryz.underlying152
  a76:=Tryz.isAgg152
  z76:=Tryz.sizeOf152
  v76:=Tryz.zeroValue152
  t127:=Tryz.underlying185
  a127:=Tryz.isAgg185
  z127:=Tryz.sizeOf185
  v127:=Tryz.zeroValue185
  t164:=Tryz.underlying213
  a164:=Tryz.isAgg213
  z164:=Tryz.sizeOf213
  v164:=Tryz.zeroValue213 }
theorem Tryz.Builder_Extra_156:Builder.Extra Tryz.prog Tryz.lays156_ren:={
  sizeBuilder:=by kernel_rfl
  liesBuilder:=by kernel_rfl
  t5:=Tryz.underlying5
  a5:=Tryz.isAgg5
  z5:=Tryz.sizeOf5
  v5:=Tryz.zeroValue5
  infoByte:=by kernel_rfl
  cellsByte:=by kernel_rfl
  sizeByte:=by kernel_rfl
  neB5:=by decide }
open Go.RowKit in
theorem Tryz.strings_Join (bk o c:Nat) (xs:List ByteArray) (sep:ByteArray) (w:World) (hcells:∀ (j:Nat) x,xs[j]?=some x→w.cell? ⟨bk,o+j,none⟩=some (.string x)) (hbk:bk < w.heap.size) (hN:xs.length≤140737488355328) (hcap:xs.length≤c) (hlen:(Lib.join (xs.map (·.data.toList)) sep.data.toList).length≤140737488355328) :
  Calls Tryz.prog 56 #[.slice (some ⟨bk,o,none⟩) xs.length c,.string sep] w fun e w'=>e=.returned (.string ⟨(Lib.join (xs.map (·.data.toList)) sep.data.toList).toArray⟩)∧Below w.heap.size w w':=Any.strings_Join Tryz.lays156 Tryz.Builder_Extra_156 bk o c xs sep w hcells hbk hN hcap hlen
open Go.RowKit in
theorem Tryz.strings_Join_none (a:Option Addr) (c:Nat) (sep:ByteArray) (w:World) :
  Calls Tryz.prog 56 #[.slice a 0 c,.string sep] w fun e w'=>e=.returned (.string ⟨#[]⟩)∧w'=w:=Any.strings_Join_none Tryz.lays156 Tryz.Builder_Extra_156 a c sep w
def Tryz.laysC172_ren:Go.Shelf.Ren:=⟨fun | 172=>157 | 244=>191 | 245=>192 | 247=>222 | 279=>223 | 280=>224 | 281=>225 | 282=>226 | 287=>245 | 316=>246 | 171=>97 | 205=>247 | 321=>254 | 322=>255 | 243=>145 | 246=>177 | 283=>209 | 284=>210 | 285=>211 | 286=>212 | 129=>206 | 317=>236 | 318=>237 | 319=>238 | 320=>239 | 337=>249 | 338=>250 | n=>n,fun | 9=>9 | 3=>3 | 75=>151 | 76=>152 | 4=>4 | 5=>5 | 167=>252 | 37=>146 | 0=>0 | 85=>253 | 2=>2 | 168=>255 | 53=>206 | 175=>275 | 46=>176 | 210=>278 | 127=>185 | 145=>292 | 143=>290 | 21=>21 | 171=>245 | 173=>247 | 212=>265 | 51=>203 | 20=>20 | 213=>266 | 232=>293 | 233=>294 | 80=>84 | n=>n,fun | 15=>5 | 16=>6 | 17=>4 | 18=>9 | 19=>10 | n=>n⟩
theorem Tryz.laysC172:Go.Proofs.LaysC.n172 Tryz.prog Tryz.laysC172_ren:={
  mixed:=by kernel_rfl
  f129:=Tryz.func206.trans (congrArg some (by kernel_rfl))
  f171:=Tryz.func97.trans (congrArg some (by kernel_rfl))
  f172:=Tryz.func157.trans (congrArg some (by kernel_rfl))
  f205:=Tryz.func247.trans (congrArg some (by kernel_rfl))
  f243:=Tryz.func145.trans (congrArg some (by kernel_rfl))
  f244:=Tryz.func191.trans (congrArg some (by kernel_rfl))
  f245:=Tryz.func192.trans (congrArg some (by kernel_rfl))
  f246:=Tryz.func177.trans (congrArg some (by kernel_rfl))
  f247:=Tryz.func222.trans (congrArg some (by kernel_rfl))
  f279:=Tryz.func223.trans (congrArg some (by kernel_rfl))
  f280:=Tryz.func224.trans (congrArg some (by kernel_rfl))
  f281:=Tryz.func225.trans (congrArg some (by kernel_rfl))
  f282:=Tryz.func226.trans (congrArg some (by kernel_rfl))
  f283:=Tryz.func209.trans (congrArg some (by kernel_rfl))
  f284:=Tryz.func210.trans (congrArg some (by kernel_rfl))
  f285:=Tryz.func211.trans (congrArg some (by kernel_rfl))
  f286:=Tryz.func212.trans (congrArg some (by kernel_rfl))
  f287:=Tryz.func245.trans (congrArg some (by kernel_rfl))
  f316:=Tryz.func246.trans (congrArg some (by kernel_rfl))
  f317:=Tryz.func236.trans (congrArg some (by kernel_rfl))
  f318:=Tryz.func237.trans (congrArg some (by kernel_rfl))
  f319:=Tryz.func238.trans (congrArg some (by kernel_rfl))
  f320:=Tryz.func239.trans (congrArg some (by kernel_rfl))
  f321:=Tryz.func254.trans (congrArg some (by kernel_rfl))
  f322:=Tryz.func255.trans (congrArg some (by kernel_rfl))
  f337:=Tryz.func249.trans (congrArg some (by kernel_rfl))
  f338:=Tryz.func250.trans (congrArg some (by kernel_rfl))
  t0:=Tryz.underlying0
  a0:=Tryz.isAgg0
  z0:=Tryz.sizeOf0
  v0:=Tryz.zeroValue0
  t2:=Tryz.underlying2
  a2:=Tryz.isAgg2
  z2:=Tryz.sizeOf2
  v2:=Tryz.zeroValue2
  t3:=Tryz.underlying3
  a3:=Tryz.isAgg3
  z3:=Tryz.sizeOf3
  v3:=Tryz.zeroValue3
  t4:=Tryz.underlying4
  a4:=Tryz.isAgg4
  z4:=Tryz.sizeOf4
  v4:=Tryz.zeroValue4
  t5:=Tryz.underlying5
  a5:=Tryz.isAgg5
  z5:=Tryz.sizeOf5
  v5:=Tryz.zeroValue5
  t9:=Tryz.underlying9
  a9:=Tryz.isAgg9
  z9:=Tryz.sizeOf9
  v9:=Tryz.zeroValue9
  t20:=Tryz.underlying20
  a20:=Tryz.isAgg20
  z20:=Tryz.sizeOf20
  v20:=Tryz.zeroValue20
  t21:=Tryz.underlying21
  a21:=Tryz.isAgg21
  z21:=Tryz.sizeOf21
  v21:=Tryz.zeroValue21
  t37:=Tryz.underlying146
  a37:=Tryz.isAgg146
  z37:=Tryz.sizeOf146
  v37:=Tryz.zeroValue146
  t46:=Tryz.underlying176
  a46:=Tryz.isAgg176
  z46:=Tryz.sizeOf176
  v46:=Tryz.zeroValue176
  t51:=Tryz.underlying203
  a51:=Tryz.isAgg203
  z51:=Tryz.sizeOf203
  v51:=Tryz.zeroValue203
  t53:=Tryz.underlying206
  a53:=Tryz.isAgg206
  z53:=Tryz.sizeOf206
  v53:=Tryz.zeroValue206
  t75:=Tryz.underlying151
  a75:=Tryz.isAgg151
  z75:=Tryz.sizeOf151
  v75:=Tryz.zeroValue151
  t76:=Tryz.underlying152
  a76:=Tryz.isAgg152
  z76:=Tryz.sizeOf152
  v76:=Tryz.zeroValue152
  t85:=Tryz.underlying253
  a85:=Tryz.isAgg253
  z85:=Tryz.sizeOf253
  v85:=Tryz.zeroValue253
  t127:=Tryz.underlying185
  a127:=Tryz.isAgg185
  z127:=Tryz.sizeOf185
  v127:=Tryz.zeroValue185
  t143:=Tryz.underlying290
  a143:=Tryz.isAgg290
  z143:=Tryz.sizeOf290
  v143:=Tryz.zeroValue290
  t145:=Tryz.underlying292
  a145:=Tryz.isAgg292
  z145:=Tryz.sizeOf292
  v145:=Tryz.zeroValue292
  t167:=Tryz.underlying252
  a167:=Tryz.isAgg252
  z167:=Tryz.sizeOf252
  v167:=Tryz.zeroValue252
  t168:=Tryz.underlying255
  a168:=Tryz.isAgg255
  z168:=Tryz.sizeOf255
  v168:=Tryz.zeroValue255
  t171:=Tryz.underlying245
  a171:=Tryz.isAgg245
  z171:=Tryz.sizeOf245
  v171:=Tryz.zeroValue245
  t173:=Tryz.underlying247
  a173:=Tryz.isAgg247
  z173:=Tryz.sizeOf247
  v173:=Tryz.zeroValue247
  t175:=Tryz.underlying275
  a175:=Tryz.isAgg275
  z175:=Tryz.sizeOf275
  v175:=Tryz.zeroValue275
  t210:=Tryz.underlying278
  a210:=Tryz.isAgg278
  z210:=Tryz.sizeOf278
  v210:=Tryz.zeroValue278
  t212:=Tryz.underlying265
  a212:=Tryz.isAgg265
  z212:=Tryz.sizeOf265
  v212:=Tryz.zeroValue265
  t213:=Tryz.underlying266
  a213:=Tryz.isAgg266
  z213:=Tryz.sizeOf266
  t232:=Tryz.underlying293
  a232:=Tryz.isAgg293
  z232:=Tryz.sizeOf293
  v232:=Tryz.zeroValue293
  t233:=Tryz.underlying294
  a233:=Tryz.isAgg294
  z233:=Tryz.sizeOf294
  v233:=Tryz.zeroValue294
  g15:=by kernel_rfl
  g16:=by kernel_rfl
  g17:=by kernel_rfl
  g18:=by kernel_rfl
  g19:=by kernel_rfl
  t80:=Tryz.underlying84
  a80:=Tryz.isAgg84
  z80:=Tryz.sizeOf84
  v80:=Tryz.zeroValue84
  i0:=by kernel_rfl
  i2:=by kernel_rfl
  i3:=by kernel_rfl
  i4:=by kernel_rfl
  i5:=by kernel_rfl
  i9:=by kernel_rfl
  i20:=by kernel_rfl
  i21:=by kernel_rfl
  i37:=by kernel_rfl
  i46:=by kernel_rfl
  i51:=by kernel_rfl
  i53:=by kernel_rfl
  i75:=by kernel_rfl
  i76:=by kernel_rfl
  i80:=by kernel_rfl
  i85:=by kernel_rfl
  i127:=by kernel_rfl
  i143:=by kernel_rfl
  i145:=by kernel_rfl
  i167:=by kernel_rfl
  i168:=by kernel_rfl
  i171:=by kernel_rfl
  i173:=by kernel_rfl
  i175:=by kernel_rfl
  i210:=by kernel_rfl
  i212:=by kernel_rfl
  i232:=by kernel_rfl
  i233:=by kernel_rfl
  m15:=by kernel_rfl
  m16:=by kernel_rfl
  m17:=by kernel_rfl
  m18:=by kernel_rfl
  m19:=by kernel_rfl
  c0:=by kernel_rfl
  c2:=by kernel_rfl
  c3:=by kernel_rfl
  c4:=by kernel_rfl
  c5:=by kernel_rfl
  c9:=by kernel_rfl
  c20:=by kernel_rfl
  c21:=by kernel_rfl
  c37:=by kernel_rfl
  c46:=by kernel_rfl
  c51:=by kernel_rfl
  c53:=by kernel_rfl
  c75:=by kernel_rfl
  c76:=by kernel_rfl
  c80:=by kernel_rfl
  c85:=by kernel_rfl
  c127:=by kernel_rfl
  c143:=by kernel_rfl
  c145:=by kernel_rfl
  c167:=by kernel_rfl
  c168:=by kernel_rfl
  c171:=by kernel_rfl
  c173:=by kernel_rfl
  c175:=by kernel_rfl
  c210:=by kernel_rfl
  c212:=by kernel_rfl
  c213:=by kernel_rfl
  c232:=by kernel_rfl
  c233:=by kernel_rfl }
def Tryz.lays189_ren:Go.Shelf.Ren:=⟨fun | 189=>129 | 125=>169 | 257=>168 | 128=>205 | 129=>206 | 294=>196 | 295=>197 | 296=>198 | 297=>199 | 298=>200 | 299=>201 | 216=>202 | 300=>203 | 301=>204 | 328=>229 | 329=>230 | 330=>231 | 331=>232 | 332=>233 | 215=>234 | 343=>248 | n=>n,fun | 28=>50 | 3=>3 | 46=>176 | 0=>0 | 51=>203 | 53=>206 | 4=>4 | 183=>234 | 182=>233 | 131=>159 | 5=>5 | 9=>9 | 218=>259 | 222=>263 | 228=>280 | 229=>281 | n=>n,fun | n=>n⟩
theorem Tryz.lays189:Go.Proofs.Lays.n189 Tryz.prog Tryz.lays189_ren:={
  mixed:=by kernel_rfl
  f125:=Tryz.func169.trans (congrArg some (by kernel_rfl))
  f128:=Tryz.func205.trans (congrArg some (by kernel_rfl))
  f129:=Tryz.func206.trans (congrArg some (by kernel_rfl))
  f189:=Tryz.func129.trans (congrArg some (by kernel_rfl))
  f215:=Tryz.func234.trans (congrArg some (by kernel_rfl))
  f216:=Tryz.func202.trans (congrArg some (by kernel_rfl))
  f257:=Tryz.func168.trans (congrArg some (by kernel_rfl))
  f294:=Tryz.func196.trans (congrArg some (by kernel_rfl))
  f295:=Tryz.func197.trans (congrArg some (by kernel_rfl))
  f296:=Tryz.func198.trans (congrArg some (by kernel_rfl))
  f297:=Tryz.func199.trans (congrArg some (by kernel_rfl))
  f298:=Tryz.func200.trans (congrArg some (by kernel_rfl))
  f299:=Tryz.func201.trans (congrArg some (by kernel_rfl))
  f300:=Tryz.func203.trans (congrArg some (by kernel_rfl))
  f301:=Tryz.func204.trans (congrArg some (by kernel_rfl))
  f328:=Tryz.func229.trans (congrArg some (by kernel_rfl))
  f329:=Tryz.func230.trans (congrArg some (by kernel_rfl))
  f330:=Tryz.func231.trans (congrArg some (by kernel_rfl))
  f331:=Tryz.func232.trans (congrArg some (by kernel_rfl))
  f332:=Tryz.func233.trans (congrArg some (by kernel_rfl))
  f343:=Tryz.func248.trans (congrArg some (by kernel_rfl))
  t0:=Tryz.underlying0
  a0:=Tryz.isAgg0
  z0:=Tryz.sizeOf0
  v0:=Tryz.zeroValue0
  t3:=Tryz.underlying3
  a3:=Tryz.isAgg3
  z3:=Tryz.sizeOf3
  v3:=Tryz.zeroValue3
  t4:=Tryz.underlying4
  a4:=Tryz.isAgg4
  z4:=Tryz.sizeOf4
  v4:=Tryz.zeroValue4
  t5:=Tryz.underlying5
  a5:=Tryz.isAgg5
  z5:=Tryz.sizeOf5
  v5:=Tryz.zeroValue5
  t9:=Tryz.underlying9
  a9:=Tryz.isAgg9
  z9:=Tryz.sizeOf9
  v9:=Tryz.zeroValue9
  t28:=Tryz.underlying50
  a28:=Tryz.isAgg50
  z28:=Tryz.sizeOf50
  v28:=Tryz.zeroValue50
  t46:=Tryz.underlying176
  a46:=Tryz.isAgg176
  z46:=Tryz.sizeOf176
  v46:=Tryz.zeroValue176
  t51:=Tryz.underlying203
  a51:=Tryz.isAgg203
  z51:=Tryz.sizeOf203
  v51:=Tryz.zeroValue203
  t53:=Tryz.underlying206
  a53:=Tryz.isAgg206
  z53:=Tryz.sizeOf206
  v53:=Tryz.zeroValue206
  t131:=Tryz.underlying159
  a131:=Tryz.isAgg159
  z131:=Tryz.sizeOf159
  v131:=Tryz.zeroValue159
  t182:=Tryz.underlying233
  a182:=Tryz.isAgg233
  z182:=Tryz.sizeOf233
  v182:=Tryz.zeroValue233
  t183:=Tryz.underlying234
  a183:=Tryz.isAgg234
  z183:=Tryz.sizeOf234
  v183:=Tryz.zeroValue234
  t218:=Tryz.underlying259
  a218:=Tryz.isAgg259
  z218:=Tryz.sizeOf259
  v218:=Tryz.zeroValue259
  t222:=Tryz.underlying263
  a222:=Tryz.isAgg263
  z222:=Tryz.sizeOf263
  v222:=Tryz.zeroValue263
  t228:=Tryz.underlying280
  a228:=Tryz.isAgg280
  z228:=Tryz.sizeOf280
  v228:=Tryz.zeroValue280
  t229:=Tryz.underlying281
  a229:=Tryz.isAgg281
  z229:=Tryz.sizeOf281
  v229:=Tryz.zeroValue281 }
open Go.RowKit Go.Sort in
theorem Tryz.slices_Sort_int_none (p:Option Addr) (cap:Nat) (w:World) :
  Calls Tryz.prog 129 #[.slice p 0 cap] w fun e w'=>e=.returned (.tuple #[])∧w'=w:=Any.slices_Sort_int_none Tryz.lays189 p cap w
def Tryz.laysNm220_ren:Go.Shelf.Ren:=⟨fun | 20=>130 | n=>n,fun | 22=>50 | 3=>3 | 4=>4 | 0=>0 | n=>n,fun | n=>n⟩
theorem Tryz.laysNm220:Go.Proofs.Lays2.n20 Tryz.prog Tryz.laysNm220_ren:={
  mixed:=by kernel_rfl
  f20:=Tryz.func130.trans (congrArg some (by kernel_rfl))
  t0:=Tryz.underlying0
  a0:=Tryz.isAgg0
  z0:=Tryz.sizeOf0
  v0:=Tryz.zeroValue0
  t3:=Tryz.underlying3
  a3:=Tryz.isAgg3
  z3:=Tryz.sizeOf3
  v3:=Tryz.zeroValue3
  t4:=Tryz.underlying4
  a4:=Tryz.isAgg4
  z4:=Tryz.sizeOf4
  v4:=Tryz.zeroValue4
  t22:=Tryz.underlying50
  a22:=Tryz.isAgg50
  z22:=Tryz.sizeOf50
  v22:=Tryz.zeroValue50
  i3:=by kernel_rfl }
open Go.RowKit Go.Lib Go.Sort in
theorem Tryz.slices_Compact_int (blk off cap:Nat) (zs:List Int) (w:World) (hH:Holds (Value.int .i64) w blk off zs.toArray) (hsz:zs.length≤9223372036854775807) (hcap:zs.length≤cap) :
  Calls Tryz.prog 130 #[.slice (some ⟨blk,off,none⟩) zs.length cap] w fun e w'=>e=.returned (.slice (some ⟨blk,off,none⟩) (Lib.compact zs).length cap)∧∃ q,w'=putRow (Value.int .i64) (Sort.ahead w q) blk off (Lib.compact zs++List.replicate (zs.length - (Lib.compact zs).length) 0).toArray:=Any.slices_Compact_int Tryz.laysNm220 blk off cap zs w hH hsz hcap
open Go.RowKit Go.Lib Go.Sort in
theorem Tryz.slices_Compact_int_empty (a:Option Addr) (cap:Nat) (w:World) :
  Calls Tryz.prog 130 #[.slice a 0 cap] w fun e w'=>e=.returned (.slice a 0 cap)∧w'=w:=Any.slices_Compact_int_empty Tryz.laysNm220 a cap w
end Go.Proofs
namespace Go.Proofs.YtnoldakbllfmnaaGreatDoor.Ev
open Go Go.Proofs Go.Proofs.Ev
set_option linter.unusedVariables false
set_option maxRecDepth 100000
def Q3m.F (n:Nat) (c:Int):Option (ByteArray):=bif decide (-9223372036854775808≤c)&&decide (c≤9223372036854775807) then Option.some (⟨(Lib.itoa c).toArray⟩) else none
theorem Q3m.hands (n:Nat) (c:Int) {p:ByteArray} (h:Q3m.F n c=some p):HandsIn Tryz.prog 97 [.v (.int .i64 c)] (.v (.string p)):=by
 unfold Q3m.F at h
 cases hc:(decide (-9223372036854775808≤c)&&decide (c≤9223372036854775807)) with
 | false=>rw [hc] at h; cases h
 | true=>
  rw [hc] at h
  cases h
  refine hands_calls (fn:=Tryz.f97) Tryz.func97 (by kernel_rfl) (by kernel_rfl) fun w F vals hQ hF hl hr=>?_
  obtain ⟨u0,rfl,h0⟩:=vals1 hl hr
  obtain rfl:=rel_v h0
  rw [Bool.and_eq_true] at hc
  refine (Tryz.strconv_Itoa c (of_decide_eq_true hc.1) (of_decide_eq_true hc.2) w (hQ.2.1 _ (List.mem_cons_self ..))).mono ?_
  rintro e w' ⟨rfl,k,os,rfl⟩
  exact ⟨F,fun _=>none,Came.of_below hF (below_grew w k os),.v _ rfl⟩
def Q3m.via {R:Type} (n:Nat) (ys:List AV):(AV→Option R)→Option R:=match ys with | [.v (.int .i64 c)]=>fun K=>(Q3m.F n c).bind fun p=>K (.v (.string p)) | _=>fun _=>none
theorem Q3m.tells1 {R:Type} (n:Nat) (ys:List AV):Tells1 (R:=R) Tryz.prog 97 ys (Q3m.via n ys):=by
 unfold Q3m.via
 split
 ·exact Tells1.of (fun p hp=>(Q3m.hands n _ hp).hands rfl)
 ·exact Tells1.none
end Go.Proofs.YtnoldakbllfmnaaGreatDoor.Ev
namespace Go.Proofs.YtnoldakbllfmnaaGreatDoor.Ev
open Go Go.Proofs Go.Proofs.Ev
set_option linter.unusedVariables false
set_option maxRecDepth 100000
abbrev Q37.A:=Int × Int × Int
abbrev Q37.T:=ByteArray
def Q37.i:Q37.A→List AV:=fun (a0,a1,a2)=>[AV.agg [vi a0,vi a1,vi a2]]
def Q37.o (xs:List AV):Option Q37.A:=match xs with | [.agg [.v (.int .i64 a0),.v (.int .i64 a1),.v (.int .i64 a2)]]=>some (a0,a1,a2) | _=>none
theorem Q37.oi:∀ xs a,Q37.o xs=some a→xs=Q37.i a:=by
 intro xs a h
 unfold Q37.o at h
 split at h
 ·cases h; rfl
 ·cases h
def Q37.p (p:Q37.T):AV:=vs p
def Q37.q (x:AV):Option Q37.T:=match x with | .v (.string p0)=>some p0 | _=>none
theorem Q37.qi:∀ x p,Q37.q x=some p→x=Q37.p p:=by
 intro x p h
 unfold Q37.q at h
 split at h
 ·cases h; rfl
 ·cases h
def Q37.C {R:Type} (n:Nat) (f:FuncId) (xs:List AV):(AV→Option R)→Option R:=
 bif Nat.beq f 97 then Q3m.via n xs else fun _=>none
theorem Q37.tells {R:Type} (n:Nat):Tells (R:=R) Tryz.prog (Q37.C n):=fun _ xs=>tells_at (Q3m.tells1 n xs) (Tells1.none)
def Q37.cut (r:Nat):Option Keep:=match r with  | _=>none
def Q37.e (n:Nat) (a0 a1 a2:Int):Option ByteArray:=
 bif decide ((0:Int)≤a0)&&decide (a0 < ((gr19.length:Nat):Int)) then (withCons ((gr19.getD ((a0).toNat) .undef).cells) fun h1 r2=>
 withStr h1 fun s3=>
 chk (decide (s3.size+1≤9223372036854775807)) ((Q3m.F n a1).bind fun p4=>
 chk (decide ((s3++(⟨#[40]⟩ : ByteArray)).size+p4.size≤9223372036854775807)) (let y5:ByteArray:=(s3++(⟨#[40]⟩ : ByteArray))++p4
 bif a0 != 0 then ((Q3m.F n a2).bind fun p6=>
 chk (decide (1+p6.size≤9223372036854775807)) (chk (decide (y5.size+((⟨#[44]⟩ : ByteArray)++p6).size≤9223372036854775807)) (let y7:ByteArray:=y5++((⟨#[44]⟩ : ByteArray)++p6)
 chk (decide (y7.size+1≤9223372036854775807)) (some (y7++(⟨#[41]⟩ : ByteArray)))))) else (chk (decide (y5.size+1≤9223372036854775807)) (some (y5++(⟨#[41]⟩ : ByteArray))))))) else none
def Q37.E (n:Nat):Q37.A→Option Q37.T:=fun (a0,a1,a2)=>Q37.e n a0 a1 a2
def Q37.F (n:Nat) (a0 a1 a2:Int):Option ByteArray:=Q37.e n a0 a1 a2
def Q37.FA (n:Nat):Q37.A→Option Q37.T:=Q37.E n
theorem Q37.hands (n:Nat):∀ a p,Q37.FA n a=some p→HandsIn Tryz.prog 95 (Q37.i a) (Q37.p p):=
 pf_hands (C:=Q37.C n) (cut:=Q37.cut) (Z:=Empty) (t:=nofun) (s:=nofun) (e:=fun _=>Q37.E n) (r:=fun _ z=>nomatch z) (n:=n) cfg mixed globs rfl Q37.qi (Q37.tells n) Tryz.func95 (by kernel_rfl) (by kernel_rfl) (fun rec a=>by kernel_rfl) (fun rec z=>nomatch z)
def Q37.via {R:Type} (n:Nat):List AV→(AV→Option R)→Option R:=viaK (Q37.FA n) Q37.o Q37.p
theorem Q37.tells1 {R:Type} (n:Nat) (xs:List AV):Tells1 (R:=R) Tryz.prog 95 xs (Q37.via n xs):=tells_via Q37.oi (fun a=>by kernel_rfl) (Q37.hands n) xs
end Go.Proofs.YtnoldakbllfmnaaGreatDoor.Ev
namespace Go.Proofs.YtnoldakbllfmnaaGreatDoor.Ev
open Go Go.Proofs Go.Proofs.Ev
set_option linter.unusedVariables false
set_option maxRecDepth 100000
def Q3t.F (n:Nat) (s:ByteArray) (c:Int):Option (ByteArray):=bif decide (0≤c)&&decide ((s.size:Int)*c≤140737488355328)&&decide (c≤9223372036854775807) then Option.some (⟨(Lib.repeatL s.data.toList c.toNat).toArray⟩) else none
theorem Q3t.hands (n:Nat) (s:ByteArray) (c:Int) {p:ByteArray} (h:Q3t.F n s c=some p):HandsIn Tryz.prog 122 [vs s,vi c] (vs p):=by
 unfold Q3t.F at h
 cases hc:(decide (0≤c)&&decide ((s.size:Int)*c≤140737488355328)&&decide (c≤9223372036854775807)) with
 | false=>rw [hc] at h; cases h
 | true=>
  rw [hc] at h
  cases h
  refine hands_calls (fn:=Tryz.f122) Tryz.func122 (by kernel_rfl) (by kernel_rfl) fun w F vals hQ hF hl hr=>?_
  obtain ⟨u,v,rfl,hu,hv⟩:=vals2 hl hr
  obtain rfl:=rel_v hu
  obtain rfl:=rel_v hv
  rw [Bool.and_eq_true,Bool.and_eq_true] at hc
  have h0:=of_decide_eq_true hc.1.1
  have h1:=of_decide_eq_true hc.1.2
  have h2:=of_decide_eq_true hc.2
  obtain ⟨m,rfl⟩:=Int.eq_ofNat_of_zero_le h0
  refine (Tryz.strings_Repeat s m w (by omega) (by have:=Int.natCast_mul s.size m; omega)).mono ?_
  rintro e w' ⟨rfl,hB⟩
  exact ⟨F,fun _=>none,Came.of_below hF hB,.v _ rfl⟩
def Q3t.via {R:Type} (n:Nat) (ys:List AV):(AV→Option R)→Option R:=match ys with | [.v (.string s),.v (.int .i64 c)]=>fun K=>(Q3t.F n s c).bind fun p=>K (vs p) | _=>fun _=>none
theorem Q3t.tells1 {R:Type} (n:Nat) (ys:List AV):Tells1 (R:=R) Tryz.prog 122 ys (Q3t.via n ys):=by
 unfold Q3t.via
 split
 ·exact Tells1.of (fun p hp=>(Q3t.hands n _ _ hp).hands rfl)
 ·exact Tells1.none
end Go.Proofs.YtnoldakbllfmnaaGreatDoor.Ev
namespace Go.Proofs.YtnoldakbllfmnaaGreatDoor.Ev
open Go Go.Proofs Go.Proofs.Ev
set_option linter.unusedVariables false
set_option maxRecDepth 100000
abbrev Q1o.A:=Int × Int
abbrev Q1o.T:=Int
def Q1o.i:Q1o.A→List AV:=fun (a0,a1)=>[AV.agg [vi a0,vi a1]]
def Q1o.o (xs:List AV):Option Q1o.A:=match xs with | [.agg [.v (.int .i64 a0),.v (.int .i64 a1)]]=>some (a0,a1) | _=>none
theorem Q1o.oi:∀ xs a,Q1o.o xs=some a→xs=Q1o.i a:=by
 intro xs a h
 unfold Q1o.o at h
 split at h
 ·cases h; rfl
 ·cases h
def Q1o.p (p:Q1o.T):AV:=vi p
def Q1o.q (x:AV):Option Q1o.T:=match x with | .v (.int .i64 p0)=>some p0 | _=>none
theorem Q1o.qi:∀ x p,Q1o.q x=some p→x=Q1o.p p:=by
 intro x p h
 unfold Q1o.q at h
 split at h
 ·cases h; rfl
 ·cases h
def Q1o.C {R:Type} (n:Nat) (f:FuncId) (xs:List AV):(AV→Option R)→Option R:=
 bif Nat.beq f 131 then Q1z.via n xs else bif Nat.beq f 133 then Q1v.via n xs else fun _=>none
theorem Q1o.tells {R:Type} (n:Nat):Tells (R:=R) Tryz.prog (Q1o.C n):=fun _ xs=>tells_at (Q1z.tells1 n xs) (tells_at (Q1v.tells1 n xs) (Tells1.none))
def Q1o.cut (r:Nat):Option Keep:=match r with  | _=>none
def Q1o.e (n:Nat) (a0 a1:Int):Option Int:=
 (Q1z.F n a0 (-999999999999999) 999999999999999).bind fun p1=>
 bif !p1 then ((Q1v.F n true 3).bind fun p2=>
 some p2) else ((Q1z.F n a1 0 15).bind fun p3=>
 (Q1v.F n (!p3) 3).bind fun p4=>
 some p4)
def Q1o.E (n:Nat):Q1o.A→Option Q1o.T:=fun (a0,a1)=>Q1o.e n a0 a1
def Q1o.F (n:Nat) (a0 a1:Int):Option Int:=Q1o.e n a0 a1
def Q1o.FA (n:Nat):Q1o.A→Option Q1o.T:=Q1o.E n
theorem Q1o.hands (n:Nat):∀ a p,Q1o.FA n a=some p→HandsIn Tryz.prog 173 (Q1o.i a) (Q1o.p p):=
 pf_hands (C:=Q1o.C n) (cut:=Q1o.cut) (Z:=Empty) (t:=nofun) (s:=nofun) (e:=fun _=>Q1o.E n) (r:=fun _ z=>nomatch z) (n:=n) cfg mixed globs rfl Q1o.qi (Q1o.tells n) Tryz.func173 (by kernel_rfl) (by kernel_rfl) (fun rec a=>by kernel_rfl) (fun rec z=>nomatch z)
def Q1o.via {R:Type} (n:Nat):List AV→(AV→Option R)→Option R:=viaK (Q1o.FA n) Q1o.o Q1o.p
theorem Q1o.tells1 {R:Type} (n:Nat) (xs:List AV):Tells1 (R:=R) Tryz.prog 173 xs (Q1o.via n xs):=tells_via Q1o.oi (fun a=>by kernel_rfl) (Q1o.hands n) xs
end Go.Proofs.YtnoldakbllfmnaaGreatDoor.Ev
namespace Go.Proofs.YtnoldakbllfmnaaGreatDoor.Ev
open Go Go.Proofs Go.Proofs.Ev
set_option linter.unusedVariables false
set_option maxRecDepth 100000
abbrev Q1s.A:=Int × Int
abbrev Q1s.T:=ByteArray × Int
def Q1s.i:Q1s.A→List AV:=fun (a0,a1)=>[AV.agg [vi a0,vi a1]]
def Q1s.o (xs:List AV):Option Q1s.A:=match xs with | [.agg [.v (.int .i64 a0),.v (.int .i64 a1)]]=>some (a0,a1) | _=>none
theorem Q1s.oi:∀ xs a,Q1s.o xs=some a→xs=Q1s.i a:=by
 intro xs a h
 unfold Q1s.o at h
 split at h
 ·cases h; rfl
 ·cases h
def Q1s.p (p:Q1s.T):AV:=.tup [vs p.1,vi p.2]
def Q1s.q (x:AV):Option Q1s.T:=match x with | .tup [.v (.string p0),.v (.int .i64 p1)]=>some (p0,p1) | _=>none
theorem Q1s.qi:∀ x p,Q1s.q x=some p→x=Q1s.p p:=by
 intro x p h
 unfold Q1s.q at h
 split at h
 ·cases h; rfl
 ·cases h
inductive Q1s.Z where
 | z9 (z1:ByteArray) (z2 z3:Int)
def Q1s.C {R:Type} (n:Nat) (f:FuncId) (xs:List AV):(AV→Option R)→Option R:=
 bif Nat.beq f 97 then Q3m.via n xs else bif Nat.beq f 122 then Q3t.via n xs else bif Nat.beq f 173 then Q1o.via n xs else fun _=>none
theorem Q1s.tells {R:Type} (n:Nat):Tells (R:=R) Tryz.prog (Q1s.C n):=fun _ xs=>tells_at (Q3m.tells1 n xs) (tells_at (Q3t.tells1 n xs) (tells_at (Q1o.tells1 n xs) (Tells1.none)))
def Q1s.cut (r:Nat):Option Keep:=match r with | 9=>some ⟨[1,5],[]⟩ | _=>none
def Q1s.t (z:Q1s.Z):List Item:=(todoOf (match z with | .z9 _ _ _=>9) 1000 [.code (Tryz.f142.body.getD .skip)]).getD []
def Q1s.s:Q1s.Z→St
 | .z9 z1 z2 z3=>⟨spr 57 0 [(1,.ptr 0 0),(5,vs z1)],Mem.ofList [.box 183 [vi z2,vi z3]],1⟩
def Q1s.r9 (n:Nat) (c:Q1s.Z→Option (ByteArray × Int)) (z1:ByteArray) (z2 z3:Int):Option (ByteArray × Int):=
 bif decide (z2 < 0) then (chk (decide (1+z1.size≤9223372036854775807)) (some ((⟨#[45]⟩ : ByteArray)++z1,0))) else (some (z1,0))
def Q1s.r (n:Nat) (c:Q1s.Z→Option (ByteArray × Int)):Q1s.Z→Option (ByteArray × Int)
 | .z9 z1 z2 z3=>Q1s.r9 n c z1 z2 z3
def Q1s.e (n:Nat) (c:Q1s.Z→Option (ByteArray × Int)) (a0 a1:Int):Option (ByteArray × Int):=
 (Q1o.F n a0 a1).bind fun p1=>
 bif p1 != 0 then (some ((⟨#[]⟩ : ByteArray),p1)) else (let y2:Int:=if IntKind.i64.wrap (0 - a0) > a0 then IntKind.i64.wrap (0 - a0) else a0
 (Q3m.F n y2).bind fun p3=>
 let y4:Bool:=decide (((p3.size:Nat):Int)≤a1)
 bif y4 then (let y5:Int:=IntKind.i64.wrap ((IntKind.i64.wrap (a1+1)) - ((p3.size:Nat):Int))
 (Q3t.F n (⟨#[48]⟩ : ByteArray) y5).bind fun p6=>
 chk (decide (p6.size+p3.size≤9223372036854775807)) (bif decide (a1 > 0) then (let y7:Int:=IntKind.i64.wrap ((((p6++p3).size:Nat):Int) - a1)
 bif decide ((0:Int)≤y7)&&decide ((y7:Int)≤(((p6++p3).size:Nat):Int)) then (let y8:ByteArray:=(p6++p3).extract 0 (y7).toNat
 chk (decide (y8.size+1≤9223372036854775807)) (let y9:Int:=IntKind.i64.wrap ((((p6++p3).size:Nat):Int) - a1)
 bif decide ((0:Int)≤y9)&&decide ((y9:Int)≤(((p6++p3).size:Nat):Int)) then (let y10:ByteArray:=(p6++p3).extract (y9).toNat (p6++p3).size
 chk (decide ((y8++(⟨#[46]⟩ : ByteArray)).size+y10.size≤9223372036854775807)) (let y11:ByteArray:=(y8++(⟨#[46]⟩ : ByteArray))++y10
 c (.z9 y11 a0 a1))) else none)) else none) else (c (.z9 (p6++p3) a0 a1)))) else (bif decide (a1 > 0) then (let y12:Int:=IntKind.i64.wrap (((p3.size:Nat):Int) - a1)
 bif decide ((0:Int)≤y12)&&decide ((y12:Int)≤((p3.size:Nat):Int)) then (chk (decide ((p3.extract 0 (y12).toNat).size+1≤9223372036854775807)) (let y13:ByteArray:=(p3.extract 0 (y12).toNat)++(⟨#[46]⟩ : ByteArray)
 let y14:Int:=IntKind.i64.wrap (((p3.size:Nat):Int) - a1)
 bif decide ((0:Int)≤y14)&&decide ((y14:Int)≤((p3.size:Nat):Int)) then (let y15:ByteArray:=p3.extract (y14).toNat p3.size
 chk (decide (y13.size+y15.size≤9223372036854775807)) (c (.z9 (y13++y15) a0 a1))) else none)) else none) else (c (.z9 p3 a0 a1))))
def Q1s.E (n:Nat) (c:Q1s.Z→Option (ByteArray × Int)):Q1s.A→Option Q1s.T:=fun (a0,a1)=>Q1s.e n c a0 a1
def Q1s.l (n:Nat):Nat→Q1s.Z→Option (ByteArray × Int):=loopL (Q1s.r n)
def Q1s.F (n:Nat) (a0 a1:Int):Option (ByteArray × Int):=Q1s.e n (Q1s.l n n) a0 a1
def Q1s.FA (n:Nat):Q1s.A→Option Q1s.T:=Q1s.E n (Q1s.l n n)
theorem Q1s.hands (n:Nat):∀ a p,Q1s.FA n a=some p→HandsIn Tryz.prog 142 (Q1s.i a) (Q1s.p p):=
 pf_hands (C:=Q1s.C n) (cut:=Q1s.cut) (t:=Q1s.t) (s:=Q1s.s) (e:=Q1s.E n) (r:=Q1s.r n) (n:=n) cfg mixed globs rfl Q1s.qi (Q1s.tells n) Tryz.func142 (by kernel_rfl) (by kernel_rfl) (fun rec a=>by kernel_rfl) (fun rec z=>by cases z <;> kernel_rfl)
def Q1s.via {R:Type} (n:Nat):List AV→(AV→Option R)→Option R:=viaK (Q1s.FA n) Q1s.o Q1s.p
theorem Q1s.tells1 {R:Type} (n:Nat) (xs:List AV):Tells1 (R:=R) Tryz.prog 142 xs (Q1s.via n xs):=tells_via Q1s.oi (fun a=>by kernel_rfl) (Q1s.hands n) xs
end Go.Proofs.YtnoldakbllfmnaaGreatDoor.Ev
namespace Go.Proofs.YtnoldakbllfmnaaGreatDoor.Ev
open Go Go.Proofs Go.Proofs.Ev
set_option linter.unusedVariables false
set_option maxRecDepth 100000
abbrev Q2r.A:=Int
abbrev Q2r.T:=Bool
def Q2r.i:Q2r.A→List AV:=fun a0=>[vu a0]
def Q2r.o (xs:List AV):Option Q2r.A:=match xs with | [.v (.int .u8 a0)]=>some a0 | _=>none
theorem Q2r.oi:∀ xs a,Q2r.o xs=some a→xs=Q2r.i a:=by
 intro xs a h
 unfold Q2r.o at h
 split at h
 ·cases h; rfl
 ·cases h
def Q2r.p (p:Q2r.T):AV:=vb p
def Q2r.q (x:AV):Option Q2r.T:=match x with | .v (.bool p0)=>some p0 | _=>none
theorem Q2r.qi:∀ x p,Q2r.q x=some p→x=Q2r.p p:=by
 intro x p h
 unfold Q2r.q at h
 split at h
 ·cases h; rfl
 ·cases h
def Q2r.C {R:Type} (n:Nat) (f:FuncId) (xs:List AV):(AV→Option R)→Option R:=
 fun _=>none
theorem Q2r.tells {R:Type} (n:Nat):Tells (R:=R) Tryz.prog (Q2r.C n):=fun _ xs=>Tells1.none
def Q2r.cut (r:Nat):Option Keep:=match r with  | _=>none
def Q2r.e (n:Nat) (a0:Int):Option Bool:=
 bif decide (a0 < 32) then (some true) else (some (decide (a0 > 126)))
def Q2r.E (n:Nat):Q2r.A→Option Q2r.T:=fun a0=>Q2r.e n a0
def Q2r.F (n:Nat) (a0:Int):Option Bool:=Q2r.e n a0
def Q2r.FA (n:Nat):Q2r.A→Option Q2r.T:=Q2r.E n
theorem Q2r.hands (n:Nat):∀ a p,Q2r.FA n a=some p→HandsIn Tryz.prog 175 (Q2r.i a) (Q2r.p p):=
 pf_hands (C:=Q2r.C n) (cut:=Q2r.cut) (Z:=Empty) (t:=nofun) (s:=nofun) (e:=fun _=>Q2r.E n) (r:=fun _ z=>nomatch z) (n:=n) cfg mixed globs rfl Q2r.qi (Q2r.tells n) Tryz.func175 (by kernel_rfl) (by kernel_rfl) (fun rec a=>by kernel_rfl) (fun rec z=>nomatch z)
def Q2r.via {R:Type} (n:Nat):List AV→(AV→Option R)→Option R:=viaK (Q2r.FA n) Q2r.o Q2r.p
theorem Q2r.tells1 {R:Type} (n:Nat) (xs:List AV):Tells1 (R:=R) Tryz.prog 175 xs (Q2r.via n xs):=tells_via Q2r.oi (fun a=>by kernel_rfl) (Q2r.hands n) xs
end Go.Proofs.YtnoldakbllfmnaaGreatDoor.Ev
namespace Go.Proofs.YtnoldakbllfmnaaGreatDoor.Ev
open Go Go.Proofs Go.Proofs.Ev
set_option linter.unusedVariables false
set_option maxRecDepth 100000
abbrev Q3f.A:=List AV
abbrev Q3f.T:=Int
def Q3f.i:Q3f.A→List AV:=fun a0=>[.sl ⟨true,5,false⟩ 1 a0,.fn 175 []]
def Q3f.o (xs:List AV):Option Q3f.A:=match xs with | [.sl ⟨true,5,false⟩ 1 a0,.fn 175 []]=>some a0 | _=>none
theorem Q3f.oi:∀ xs a,Q3f.o xs=some a→xs=Q3f.i a:=by
 intro xs a h
 unfold Q3f.o at h
 split at h
 ·cases h; rfl
 ·cases h
def Q3f.p (p:Q3f.T):AV:=vi p
def Q3f.q (x:AV):Option Q3f.T:=match x with | .v (.int .i64 p0)=>some p0 | _=>none
theorem Q3f.qi:∀ x p,Q3f.q x=some p→x=Q3f.p p:=by
 intro x p h
 unfold Q3f.q at h
 split at h
 ·cases h; rfl
 ·cases h
inductive Q3f.Z where
 | z2 (z1:List AV) (z2 z3:Int)
def Q3f.C {R:Type} (n:Nat) (f:FuncId) (xs:List AV):(AV→Option R)→Option R:=
 bif Nat.beq f 175 then Q2r.via n xs else fun _=>none
theorem Q3f.tells {R:Type} (n:Nat):Tells (R:=R) Tryz.prog (Q3f.C n):=fun _ xs=>tells_at (Q2r.tells1 n xs) (Tells1.none)
def Q3f.cut (r:Nat):Option Keep:=match r with | 2=>some ⟨[0,1,7,8],[]⟩ | _=>none
def Q3f.t (z:Q3f.Z):List Item:=(todoOf (match z with | .z2 _ _ _=>2) 1000 [.code (Tryz.f207.body.getD .skip)]).getD []
def Q3f.s:Q3f.Z→St
 | .z2 z1 z2 z3=>⟨spr 19 0 [(0,.sl ⟨true,5,false⟩ 1 z1),(1,.fn 175 []),(7,vi z2),(8,vi z3)],Mem.ofList [],0⟩
def Q3f.r2 (n:Nat) (c:Q3f.Z→Option Int) (z1:List AV) (z2 z3:Int):Option Int:=
 bif decide (z3 < z2) then (bif decide ((0:Int)≤z3)&&decide (z3 < ((z1.length:Nat):Int)) then (withCons ((z1.getD ((z3).toNat) .undef).cells) fun h1 r2=>
 withInt .u8 h1 fun x3=>
 (Q2r.F n x3).bind fun p4=>
 bif p4 then (some z3) else (c (.z2 z1 z2 (IntKind.i64.wrap (z3+1))))) else none) else (some (-1))
def Q3f.r (n:Nat) (c:Q3f.Z→Option Int):Q3f.Z→Option Int
 | .z2 z1 z2 z3=>Q3f.r2 n c z1 z2 z3
def Q3f.e (n:Nat) (c:Q3f.Z→Option Int) (a0:List AV):Option Int:=
 c (.z2 a0 ((a0.length:Nat):Int) 0)
def Q3f.E (n:Nat) (c:Q3f.Z→Option Int):Q3f.A→Option Q3f.T:=fun a0=>Q3f.e n c a0
def Q3f.l (n:Nat):Nat→Q3f.Z→Option Int:=loopL (Q3f.r n)
def Q3f.F (n:Nat) (a0:List AV):Option Int:=Q3f.e n (Q3f.l n n) a0
def Q3f.FA (n:Nat):Q3f.A→Option Q3f.T:=Q3f.E n (Q3f.l n n)
theorem Q3f.hands (n:Nat):∀ a p,Q3f.FA n a=some p→HandsIn Tryz.prog 207 (Q3f.i a) (Q3f.p p):=
 pf_hands (C:=Q3f.C n) (cut:=Q3f.cut) (t:=Q3f.t) (s:=Q3f.s) (e:=Q3f.E n) (r:=Q3f.r n) (n:=n) cfg mixed globs rfl Q3f.qi (Q3f.tells n) Tryz.func207 (by kernel_rfl) (by kernel_rfl) (fun rec a=>by kernel_rfl) (fun rec z=>by cases z <;> kernel_rfl)
def Q3f.via {R:Type} (n:Nat):List AV→(AV→Option R)→Option R:=viaK (Q3f.FA n) Q3f.o Q3f.p
theorem Q3f.tells1 {R:Type} (n:Nat) (xs:List AV):Tells1 (R:=R) Tryz.prog 207 xs (Q3f.via n xs):=tells_via Q3f.oi (fun a=>by kernel_rfl) (Q3f.hands n) xs
end Go.Proofs.YtnoldakbllfmnaaGreatDoor.Ev
namespace Go.Proofs.YtnoldakbllfmnaaGreatDoor.Ev
open Go Go.Proofs Go.Proofs.Ev
set_option linter.unusedVariables false
set_option maxRecDepth 100000
abbrev Q3c.A:=List AV
abbrev Q3c.T:=Bool
def Q3c.i:Q3c.A→List AV:=fun a0=>[.sl ⟨true,5,false⟩ 1 a0,.fn 175 []]
def Q3c.o (xs:List AV):Option Q3c.A:=match xs with | [.sl ⟨true,5,false⟩ 1 a0,.fn 175 []]=>some a0 | _=>none
theorem Q3c.oi:∀ xs a,Q3c.o xs=some a→xs=Q3c.i a:=by
 intro xs a h
 unfold Q3c.o at h
 split at h
 ·cases h; rfl
 ·cases h
def Q3c.p (p:Q3c.T):AV:=vb p
def Q3c.q (x:AV):Option Q3c.T:=match x with | .v (.bool p0)=>some p0 | _=>none
theorem Q3c.qi:∀ x p,Q3c.q x=some p→x=Q3c.p p:=by
 intro x p h
 unfold Q3c.q at h
 split at h
 ·cases h; rfl
 ·cases h
def Q3c.C {R:Type} (n:Nat) (f:FuncId) (xs:List AV):(AV→Option R)→Option R:=
 bif Nat.beq f 207 then Q3f.via n xs else fun _=>none
theorem Q3c.tells {R:Type} (n:Nat):Tells (R:=R) Tryz.prog (Q3c.C n):=fun _ xs=>tells_at (Q3f.tells1 n xs) (Tells1.none)
def Q3c.cut (r:Nat):Option Keep:=match r with  | _=>none
def Q3c.e (n:Nat) (a0:List AV):Option Bool:=
 (Q3f.F n a0).bind fun p1=>
 some (decide (p1≥0))
def Q3c.E (n:Nat):Q3c.A→Option Q3c.T:=fun a0=>Q3c.e n a0
def Q3c.F (n:Nat) (a0:List AV):Option Bool:=Q3c.e n a0
def Q3c.FA (n:Nat):Q3c.A→Option Q3c.T:=Q3c.E n
theorem Q3c.hands (n:Nat):∀ a p,Q3c.FA n a=some p→HandsIn Tryz.prog 174 (Q3c.i a) (Q3c.p p):=
 pf_hands (C:=Q3c.C n) (cut:=Q3c.cut) (Z:=Empty) (t:=nofun) (s:=nofun) (e:=fun _=>Q3c.E n) (r:=fun _ z=>nomatch z) (n:=n) cfg mixed globs rfl Q3c.qi (Q3c.tells n) Tryz.func174 (by kernel_rfl) (by kernel_rfl) (fun rec a=>by kernel_rfl) (fun rec z=>nomatch z)
def Q3c.via {R:Type} (n:Nat):List AV→(AV→Option R)→Option R:=viaK (Q3c.FA n) Q3c.o Q3c.p
theorem Q3c.tells1 {R:Type} (n:Nat) (xs:List AV):Tells1 (R:=R) Tryz.prog 174 xs (Q3c.via n xs):=tells_via Q3c.oi (fun a=>by kernel_rfl) (Q3c.hands n) xs
end Go.Proofs.YtnoldakbllfmnaaGreatDoor.Ev
namespace Go.Proofs.YtnoldakbllfmnaaGreatDoor.Ev
open Go Go.Proofs Go.Proofs.Ev
set_option linter.unusedVariables false
set_option maxRecDepth 100000
abbrev Q2q.A:=ByteArray
abbrev Q2q.T:=Bool
def Q2q.i:Q2q.A→List AV:=fun a0=>[vs a0]
def Q2q.o (xs:List AV):Option Q2q.A:=match xs with | [.v (.string a0)]=>some a0 | _=>none
theorem Q2q.oi:∀ xs a,Q2q.o xs=some a→xs=Q2q.i a:=by
 intro xs a h
 unfold Q2q.o at h
 split at h
 ·cases h; rfl
 ·cases h
def Q2q.p (p:Q2q.T):AV:=vb p
def Q2q.q (x:AV):Option Q2q.T:=match x with | .v (.bool p0)=>some p0 | _=>none
theorem Q2q.qi:∀ x p,Q2q.q x=some p→x=Q2q.p p:=by
 intro x p h
 unfold Q2q.q at h
 split at h
 ·cases h; rfl
 ·cases h
def Q2q.C {R:Type} (n:Nat) (f:FuncId) (xs:List AV):(AV→Option R)→Option R:=
 bif Nat.beq f 174 then Q3c.via n xs else fun _=>none
theorem Q2q.tells {R:Type} (n:Nat):Tells (R:=R) Tryz.prog (Q2q.C n):=fun _ xs=>tells_at (Q3c.tells1 n xs) (Tells1.none)
def Q2q.cut (r:Nat):Option Keep:=match r with  | _=>none
def Q2q.e (n:Nat) (a0:ByteArray):Option Bool:=
 let y1:List AV:=a0.toList.map fun b=>vu b.toNat
 (Q3c.F n y1).bind fun p2=>
 some (!p2)
def Q2q.E (n:Nat):Q2q.A→Option Q2q.T:=fun a0=>Q2q.e n a0
def Q2q.F (n:Nat) (a0:ByteArray):Option Bool:=Q2q.e n a0
def Q2q.FA (n:Nat):Q2q.A→Option Q2q.T:=Q2q.E n
theorem Q2q.hands (n:Nat):∀ a p,Q2q.FA n a=some p→HandsIn Tryz.prog 143 (Q2q.i a) (Q2q.p p):=
 pf_hands (C:=Q2q.C n) (cut:=Q2q.cut) (Z:=Empty) (t:=nofun) (s:=nofun) (e:=fun _=>Q2q.E n) (r:=fun _ z=>nomatch z) (n:=n) cfg mixed globs rfl Q2q.qi (Q2q.tells n) Tryz.func143 (by kernel_rfl) (by kernel_rfl) (fun rec a=>by kernel_rfl) (fun rec z=>nomatch z)
def Q2q.via {R:Type} (n:Nat):List AV→(AV→Option R)→Option R:=viaK (Q2q.FA n) Q2q.o Q2q.p
theorem Q2q.tells1 {R:Type} (n:Nat) (xs:List AV):Tells1 (R:=R) Tryz.prog 143 xs (Q2q.via n xs):=tells_via Q2q.oi (fun a=>by kernel_rfl) (Q2q.hands n) xs
end Go.Proofs.YtnoldakbllfmnaaGreatDoor.Ev
namespace Go.Proofs.YtnoldakbllfmnaaGreatDoor.Ev
open Go Go.Proofs Go.Proofs.Ev
set_option linter.unusedVariables false
set_option maxRecDepth 100000
def Q3u.F (n:Nat) (s:ByteArray) (t:ByteArray) (u:ByteArray):Option (ByteArray):=bif (decide (s.size < 4294967281)&&decide (1≤t.size))&&decide (s.size+Lib.countB s t*u.size≤140737488355328) then Option.some (⟨(Lib.replaceAll s.data.toList t.data.toList u.data.toList).toArray⟩) else none
theorem Q3u.hands (n:Nat) (s:ByteArray) (t:ByteArray) (u:ByteArray) {p:ByteArray} (h:Q3u.F n s t u=some p):HandsIn Tryz.prog 144 [.v (.string s),.v (.string t),.v (.string u)] (.v (.string p)):=by
 unfold Q3u.F at h
 cases hc:((decide (s.size < 4294967281)&&decide (1≤t.size))&&decide (s.size+Lib.countB s t*u.size≤140737488355328)) with
 | false=>rw [hc] at h; cases h
 | true=>
  rw [hc] at h
  cases h
  refine hands_calls (fn:=Tryz.f144) Tryz.func144 (by kernel_rfl) (by kernel_rfl) fun w F vals hQ hF hl hr=>?_
  obtain ⟨u0,u1,u2,rfl,h0,h1,h2⟩:=vals3 hl hr
  obtain rfl:=rel_v h0
  obtain rfl:=rel_v h1
  obtain rfl:=rel_v h2
  rw [Bool.and_eq_true,Bool.and_eq_true] at hc
  refine (Tryz.strings_ReplaceAll_shaped s t u w (Rooted.opened _ hQ) (of_decide_eq_true hc.1.1) (of_decide_eq_true hc.1.2) (of_decide_eq_true hc.2)).mono ?_
  rintro e w' ⟨rfl,hB⟩
  exact ⟨F,fun _=>none,Came.of_below hF hB,.v _ rfl⟩
def Q3u.via {R:Type} (n:Nat) (ys:List AV):(AV→Option R)→Option R:=match ys with | [.v (.string s),.v (.string t),.v (.string u)]=>fun K=>(Q3u.F n s t u).bind fun p=>K (.v (.string p)) | _=>fun _=>none
theorem Q3u.tells1 {R:Type} (n:Nat) (ys:List AV):Tells1 (R:=R) Tryz.prog 144 ys (Q3u.via n ys):=by
 unfold Q3u.via
 split
 ·exact Tells1.of (fun p hp=>(Q3u.hands n _ _ _ hp).hands rfl)
 ·exact Tells1.none
end Go.Proofs.YtnoldakbllfmnaaGreatDoor.Ev
namespace Go.Proofs.YtnoldakbllfmnaaGreatDoor.Ev
open Go Go.Proofs Go.Proofs.Ev
set_option linter.unusedVariables false
set_option maxRecDepth 100000
abbrev Q39.A:=Int × Int × Int × Int × ByteArray
abbrev Q39.T:=ByteArray
def Q39.i:Q39.A→List AV:=fun (a0,a1,a2,a3,a4)=>[AV.agg [vi a0,vi a1,vi a2],AV.agg [vi a3,vs a4]]
def Q39.o (xs:List AV):Option Q39.A:=match xs with | [.agg [.v (.int .i64 a0),.v (.int .i64 a1),.v (.int .i64 a2)],.agg [.v (.int .i64 a3),.v (.string a4)]]=>some (a0,a1,a2,a3,a4) | _=>none
theorem Q39.oi:∀ xs a,Q39.o xs=some a→xs=Q39.i a:=by
 intro xs a h
 unfold Q39.o at h
 split at h
 ·cases h; rfl
 ·cases h
def Q39.p (p:Q39.T):AV:=vs p
def Q39.q (x:AV):Option Q39.T:=match x with | .v (.string p0)=>some p0 | _=>none
theorem Q39.qi:∀ x p,Q39.q x=some p→x=Q39.p p:=by
 intro x p h
 unfold Q39.q at h
 split at h
 ·cases h; rfl
 ·cases h
inductive Q39.Z where
 | z8 (z1 z2:Int) (z3 z4:List AV)
def Q39.C {R:Type} (n:Nat) (f:FuncId) (xs:List AV):(AV→Option R)→Option R:=
 bif Nat.beq f 142 then Q1s.via n xs else bif Nat.beq f 143 then Q2q.via n xs else bif Nat.beq f 144 then Q3u.via n xs else fun _=>none
theorem Q39.tells {R:Type} (n:Nat):Tells (R:=R) Tryz.prog (Q39.C n):=fun _ xs=>tells_at (Q1s.tells1 n xs) (tells_at (Q2q.tells1 n xs) (tells_at (Q3u.tells1 n xs) (Tells1.none)))
def Q39.cut (r:Nat):Option Keep:=match r with | 8=>some ⟨[7,35,36,37],[]⟩ | _=>none
def Q39.t (z:Q39.Z):List Item:=(todoOf (match z with | .z8 _ _ _ _=>8) 1000 [.code (Tryz.f96.body.getD .skip)]).getD []
def Q39.s:Q39.Z→St
 | .z8 z1 z2 z3 z4=>⟨spr 55 0 [(7,.own 0 0 none),(35,.own 1 0 none),(36,vi z1),(37,vi z2)],Mem.ofList [.row ⟨true,5,false⟩ 1 z3,.row ⟨true,5,false⟩ 1 z4],2⟩
def Q39.r8 (n:Nat) (c:Q39.Z→Option ByteArray) (z1 z2:Int) (z3 z4:List AV):Option ByteArray:=
 bif decide (z2 < z1) then (bif decide ((0:Int)≤z2)&&decide (z2 < ((z4.length:Nat):Int)) then (withCons ((z4.getD ((z2).toNat) .undef).cells) fun h6 r7=>
 withInt .u8 h6 fun x8=>
 let y9:Int:=Int.fdiv x8 (2 ^ min (4:Int).toNat 8)
 bif decide ((0:Int)≤y9)&&decide (y9 < ((16:Nat):Int)) then (let y10:Int:=((((⟨#[48,49,50,51,52,53,54,55,56,57,65,66,67,68,69,70]⟩ : ByteArray).data.getD ((y9).toNat) 0).toNat:Nat):Int)
 let y11:Int:=IntKind.u8.wrap (BitVec.ofInt 8 x8 &&& BitVec.ofInt 8 15).toNat
 bif decide ((0:Int)≤y11)&&decide (y11 < ((16:Nat):Int)) then (let y12:Int:=((((⟨#[48,49,50,51,52,53,54,55,56,57,65,66,67,68,69,70]⟩ : ByteArray).data.getD ((y11).toNat) 0).toNat:Nat):Int)
 bif decide (z3.length+[vu y10,vu y12].length≤most) then (c (.z8 z1 (IntKind.i64.wrap (z2+1)) (z3++[vu y10,vu y12]) z4)) else none) else none) else none) else none) else (bif decide (z3.length+[vu 39].length≤most) then (withSome (strOf (z3++[vu 39])) fun bs13=>
 some (⟨bs13.toArray⟩ : ByteArray)) else none)
def Q39.r (n:Nat) (c:Q39.Z→Option ByteArray):Q39.Z→Option ByteArray
 | .z8 z1 z2 z3 z4=>Q39.r8 n c z1 z2 z3 z4
def Q39.e (n:Nat) (c:Q39.Z→Option ByteArray) (a0 a1 a2 a3:Int) (a4:ByteArray):Option ByteArray:=
 bif a0 != 0 then ((Q1s.F n a3 a2).bind fun p1=>
 some p1.1) else ((Q2q.F n a4).bind fun p2=>
 bif p2 then ((Q3u.F n a4 (⟨#[39]⟩ : ByteArray) (⟨#[39,39]⟩ : ByteArray)).bind fun p3=>
 chk (decide (1+p3.size≤9223372036854775807)) (chk (decide (((⟨#[39]⟩ : ByteArray)++p3).size+1≤9223372036854775807)) (let y4:ByteArray:=((⟨#[39]⟩ : ByteArray)++p3)++(⟨#[39]⟩ : ByteArray)
 some y4))) else (let y5:List AV:=a4.toList.map fun b=>vu b.toNat
 c (.z8 ((y5.length:Nat):Int) 0 [vu 88,vu 39] y5)))
def Q39.E (n:Nat) (c:Q39.Z→Option ByteArray):Q39.A→Option Q39.T:=fun (a0,a1,a2,a3,a4)=>Q39.e n c a0 a1 a2 a3 a4
def Q39.l (n:Nat):Nat→Q39.Z→Option ByteArray:=loopL (Q39.r n)
def Q39.F (n:Nat) (a0 a1 a2 a3:Int) (a4:ByteArray):Option ByteArray:=Q39.e n (Q39.l n n) a0 a1 a2 a3 a4
def Q39.FA (n:Nat):Q39.A→Option Q39.T:=Q39.E n (Q39.l n n)
theorem Q39.hands (n:Nat):∀ a p,Q39.FA n a=some p→HandsIn Tryz.prog 96 (Q39.i a) (Q39.p p):=
 pf_hands (C:=Q39.C n) (cut:=Q39.cut) (t:=Q39.t) (s:=Q39.s) (e:=Q39.E n) (r:=Q39.r n) (n:=n) cfg mixed globs rfl Q39.qi (Q39.tells n) Tryz.func96 (by kernel_rfl) (by kernel_rfl) (fun rec a=>by kernel_rfl) (fun rec z=>by cases z <;> kernel_rfl)
def Q39.via {R:Type} (n:Nat):List AV→(AV→Option R)→Option R:=viaK (Q39.FA n) Q39.o Q39.p
theorem Q39.tells1 {R:Type} (n:Nat) (xs:List AV):Tells1 (R:=R) Tryz.prog 96 xs (Q39.via n xs):=tells_via Q39.oi (fun a=>by kernel_rfl) (Q39.hands n) xs
end Go.Proofs.YtnoldakbllfmnaaGreatDoor.Ev
namespace Go.Proofs.YtnoldakbllfmnaaGreatDoor.Ev
open Go Go.Proofs Go.Proofs.Ev
set_option linter.unusedVariables false
set_option maxRecDepth 100000
abbrev Q30.A:=ByteArray × Int × Int × Int × Int × Int × ByteArray × ByteArray × Int × Int
abbrev Q30.T:=ByteArray
def Q30.i:Q30.A→List AV:=fun (a0,a1,a2,a3,a4,a5,a6,a7,a8,a9)=>[AV.agg [vs a0,vi a1,vi a2,vi a3,vi a4,vi a5,vs a6,vs a7,vi a8,vi a9]]
def Q30.o (xs:List AV):Option Q30.A:=match xs with | [.agg [.v (.string a0),.v (.int .i64 a1),.v (.int .i64 a2),.v (.int .i64 a3),.v (.int .i64 a4),.v (.int .i64 a5),.v (.string a6),.v (.string a7),.v (.int .i64 a8),.v (.int .i64 a9)]]=>some (a0,a1,a2,a3,a4,a5,a6,a7,a8,a9) | _=>none
theorem Q30.oi:∀ xs a,Q30.o xs=some a→xs=Q30.i a:=by
 intro xs a h
 unfold Q30.o at h
 split at h
 ·cases h; rfl
 ·cases h
def Q30.p (p:Q30.T):AV:=vs p
def Q30.q (x:AV):Option Q30.T:=match x with | .v (.string p0)=>some p0 | _=>none
theorem Q30.qi:∀ x p,Q30.q x=some p→x=Q30.p p:=by
 intro x p h
 unfold Q30.q at h
 split at h
 ·cases h; rfl
 ·cases h
def Q30.C {R:Type} (n:Nat) (f:FuncId) (xs:List AV):(AV→Option R)→Option R:=
 bif Nat.beq f 95 then Q37.via n xs else bif Nat.beq f 96 then Q39.via n xs else bif Nat.beq f 97 then Q3m.via n xs else fun _=>none
theorem Q30.tells {R:Type} (n:Nat):Tells (R:=R) Tryz.prog (Q30.C n):=fun _ xs=>tells_at (Q37.tells1 n xs) (tells_at (Q39.tells1 n xs) (tells_at (Q3m.tells1 n xs) (Tells1.none)))
def Q30.cut (r:Nat):Option Keep:=match r with  | _=>none
def Q30.e (n:Nat) (a0:ByteArray) (a1 a2 a3 a4 a5:Int) (a6 a7:ByteArray) (a8 a9:Int):Option ByteArray:=
 bif a1==0 then (chk (decide (7+a0.size≤9223372036854775807)) (let y1:ByteArray:=(⟨#[68,67,76,32,68,68,32]⟩ : ByteArray)++a0
 chk (decide (y1.size+1≤9223372036854775807)) ((Q37.F n a2 a3 a4).bind fun p2=>
 chk (decide ((y1++(⟨#[32]⟩ : ByteArray)).size+p2.size≤9223372036854775807)) (let y3:ByteArray:=(y1++(⟨#[32]⟩ : ByteArray))++p2
 chk (decide (y3.size+6≤9223372036854775807)) (let y4:ByteArray:=y3++(⟨#[32,73,78,73,84,40]⟩ : ByteArray)
 (Q39.F n a2 a3 a4 a5 a6).bind fun p5=>
 chk (decide (y4.size+p5.size≤9223372036854775807)) (chk (decide ((y4++p5).size+1≤9223372036854775807)) (let y6:ByteArray:=(y4++p5)++(⟨#[41]⟩ : ByteArray)
 some y6))))))) else (bif a1==1 then (chk (decide (7+a0.size≤9223372036854775807)) (let y7:ByteArray:=(⟨#[68,67,76,32,68,68,32]⟩ : ByteArray)++a0
 chk (decide (y7.size+1≤9223372036854775807)) ((Q37.F n a2 a3 a4).bind fun p8=>
 chk (decide ((y7++(⟨#[32]⟩ : ByteArray)).size+p8.size≤9223372036854775807)) (let y9:ByteArray:=(y7++(⟨#[32]⟩ : ByteArray))++p8
 chk (decide (y9.size+5≤9223372036854775807)) (let y10:ByteArray:=y9++(⟨#[32,68,69,70,40]⟩ : ByteArray)
 chk (decide (y10.size+a7.size≤9223372036854775807)) (chk (decide ((y10++a7).size+1≤9223372036854775807)) (let y11:ByteArray:=(y10++a7)++(⟨#[44]⟩ : ByteArray)
 (Q3m.F n a8).bind fun p12=>
 chk (decide (y11.size+p12.size≤9223372036854775807)) (chk (decide ((y11++p12).size+1≤9223372036854775807)) (let y13:ByteArray:=(y11++p12)++(⟨#[41]⟩ : ByteArray)
 some y13))))))))) else (bif a1==2 then (chk (decide (7+a0.size≤9223372036854775807)) (let y14:ByteArray:=(⟨#[68,67,76,32,68,68,32]⟩ : ByteArray)++a0
 chk (decide (y14.size+1≤9223372036854775807)) ((Q37.F n a2 a3 a4).bind fun p15=>
 chk (decide ((y14++(⟨#[32]⟩ : ByteArray)).size+p15.size≤9223372036854775807)) (let y16:ByteArray:=(y14++(⟨#[32]⟩ : ByteArray))++p15
 chk (decide (y16.size+5≤9223372036854775807)) (let y17:ByteArray:=y16++(⟨#[32,66,65,83,40]⟩ : ByteArray)
 chk (decide (y17.size+a7.size≤9223372036854775807)) (chk (decide ((y17++a7).size+1≤9223372036854775807)) (let y18:ByteArray:=(y17++a7)++(⟨#[44]⟩ : ByteArray)
 (Q3m.F n a8).bind fun p19=>
 chk (decide (y18.size+p19.size≤9223372036854775807)) (chk (decide ((y18++p19).size+1≤9223372036854775807)) (let y20:ByteArray:=(y18++p19)++(⟨#[41]⟩ : ByteArray)
 some y20))))))))) else (bif a1==3 then (chk (decide (8+a0.size≤9223372036854775807)) (let y21:ByteArray:=(⟨#[68,67,76,32,80,84,82,32]⟩ : ByteArray)++a0
 some y21)) else (bif a1==4 then (chk (decide (8+a0.size≤9223372036854775807)) (let y22:ByteArray:=(⟨#[68,67,76,32,67,79,78,32]⟩ : ByteArray)++a0
 chk (decide (y22.size+1≤9223372036854775807)) ((Q37.F n a2 a3 a4).bind fun p23=>
 chk (decide ((y22++(⟨#[32]⟩ : ByteArray)).size+p23.size≤9223372036854775807)) (let y24:ByteArray:=(y22++(⟨#[32]⟩ : ByteArray))++p23
 chk (decide (y24.size+6≤9223372036854775807)) (let y25:ByteArray:=y24++(⟨#[32,73,78,73,84,40]⟩ : ByteArray)
 (Q39.F n a2 a3 a4 a5 a6).bind fun p26=>
 chk (decide (y25.size+p26.size≤9223372036854775807)) (chk (decide ((y25++p26).size+1≤9223372036854775807)) (let y27:ByteArray:=(y25++p26)++(⟨#[41]⟩ : ByteArray)
 some y27))))))) else (chk (decide (10+a0.size≤9223372036854775807)) (let y28:ByteArray:=(⟨#[68,67,76,32,76,65,66,69,76,32]⟩ : ByteArray)++a0
 chk (decide (y28.size+1≤9223372036854775807)) ((Q3m.F n a9).bind fun p29=>
 chk (decide ((y28++(⟨#[32]⟩ : ByteArray)).size+p29.size≤9223372036854775807)) (let y30:ByteArray:=(y28++(⟨#[32]⟩ : ByteArray))++p29
 some y30))))))))
def Q30.E (n:Nat):Q30.A→Option Q30.T:=fun (a0,a1,a2,a3,a4,a5,a6,a7,a8,a9)=>Q30.e n a0 a1 a2 a3 a4 a5 a6 a7 a8 a9
def Q30.F (n:Nat) (a0:ByteArray) (a1 a2 a3 a4 a5:Int) (a6 a7:ByteArray) (a8 a9:Int):Option ByteArray:=Q30.e n a0 a1 a2 a3 a4 a5 a6 a7 a8 a9
def Q30.FA (n:Nat):Q30.A→Option Q30.T:=Q30.E n
theorem Q30.hands (n:Nat):∀ a p,Q30.FA n a=some p→HandsIn Tryz.prog 53 (Q30.i a) (Q30.p p):=
 pf_hands (C:=Q30.C n) (cut:=Q30.cut) (Z:=Empty) (t:=nofun) (s:=nofun) (e:=fun _=>Q30.E n) (r:=fun _ z=>nomatch z) (n:=n) cfg mixed globs rfl Q30.qi (Q30.tells n) Tryz.func53 (by kernel_rfl) (by kernel_rfl) (fun rec a=>by kernel_rfl) (fun rec z=>nomatch z)
def Q30.via {R:Type} (n:Nat):List AV→(AV→Option R)→Option R:=viaK (Q30.FA n) Q30.o Q30.p
theorem Q30.tells1 {R:Type} (n:Nat) (xs:List AV):Tells1 (R:=R) Tryz.prog 53 xs (Q30.via n xs):=tells_via Q30.oi (fun a=>by kernel_rfl) (Q30.hands n) xs
end Go.Proofs.YtnoldakbllfmnaaGreatDoor.Ev
namespace Go.Proofs.YtnoldakbllfmnaaGreatDoor.Ev
open Go Go.Proofs Go.Proofs.Ev
set_option linter.unusedVariables false
set_option maxRecDepth 100000
def Q3s.F (n:Nat) (l:List AV) (t:ByteArray):Option (ByteArray):=bif joinOk l t then Option.some (joinV l t) else none
theorem Q3s.hands (n:Nat) (l:List AV) (t:ByteArray) {p:ByteArray} (h:Q3s.F n l t=some p):HandsIn Tryz.prog 56 [.sl ⟨true,9,true⟩ 1 l,.v (.string t)] (.v (.string p)):=by
 unfold Q3s.F at h
 cases hc:(joinOk l t) with
 | false=>rw [hc] at h; cases h
 | true=>
  rw [hc] at h
  cases h
  refine hands_calls (fn:=Tryz.f56) Tryz.func56 (by kernel_rfl) (by kernel_rfl) fun w F vals hQ hF hl hr=>?_
  obtain ⟨u0,u1,rfl,h0,h1⟩:=vals2 hl hr
  obtain rfl:=rel_v h1
  exact join_calls (fun a c=>Tryz.strings_Join_none a c t w) (fun bk o c xs h1 h2 h3 h4 h5=>Tryz.strings_Join bk o c xs t w h1 h2 h3 h4 h5) hF h0 hc
def Q3s.via {R:Type} (n:Nat) (ys:List AV):(AV→Option R)→Option R:=match ys with | [.sl ⟨true,9,true⟩ 1 l,.v (.string t)]=>fun K=>(Q3s.F n l t).bind fun p=>K (.v (.string p)) | _=>fun _=>none
theorem Q3s.tells1 {R:Type} (n:Nat) (ys:List AV):Tells1 (R:=R) Tryz.prog 56 ys (Q3s.via n ys):=by
 unfold Q3s.via
 split
 ·exact Tells1.of (fun p hp=>(Q3s.hands n _ _ hp).hands rfl)
 ·exact Tells1.none
end Go.Proofs.YtnoldakbllfmnaaGreatDoor.Ev
namespace Go.Proofs.YtnoldakbllfmnaaGreatDoor.Ev
open Go Go.Proofs Go.Proofs.Ev
set_option linter.unusedVariables false
set_option maxRecDepth 100000
abbrev Q2m.A:=Int × List AV
abbrev Q2m.T:=ByteArray
def Q2m.i:Q2m.A→List AV:=fun (a0,a1)=>[vi a0,.sl ⟨true,9,true⟩ 1 a1]
def Q2m.o (xs:List AV):Option Q2m.A:=match xs with | [.v (.int .i64 a0),.sl ⟨true,9,true⟩ 1 a1]=>some (a0,a1) | _=>none
theorem Q2m.oi:∀ xs a,Q2m.o xs=some a→xs=Q2m.i a:=by
 intro xs a h
 unfold Q2m.o at h
 split at h
 ·cases h; rfl
 ·cases h
def Q2m.p (p:Q2m.T):AV:=vs p
def Q2m.q (x:AV):Option Q2m.T:=match x with | .v (.string p0)=>some p0 | _=>none
theorem Q2m.qi:∀ x p,Q2m.q x=some p→x=Q2m.p p:=by
 intro x p h
 unfold Q2m.q at h
 split at h
 ·cases h; rfl
 ·cases h
def Q2m.C {R:Type} (n:Nat) (f:FuncId) (xs:List AV):(AV→Option R)→Option R:=
 bif Nat.beq f 56 then Q3s.via n xs else fun _=>none
theorem Q2m.tells {R:Type} (n:Nat):Tells (R:=R) Tryz.prog (Q2m.C n):=fun _ xs=>tells_at (Q3s.tells1 n xs) (Tells1.none)
def Q2m.cut (r:Nat):Option Keep:=match r with  | _=>none
def Q2m.e (n:Nat) (a0:Int) (a1:List AV):Option ByteArray:=
 let y1:Bool:=((a1.length:Nat):Int)==0
 bif y1 then (bif decide ((0:Int)≤a0)&&decide (a0 < ((19:Nat):Int)) then (withCons (chop ((a0).toNat*1) [vs (⟨#[77,79,86,69]⟩ : ByteArray),vs (⟨#[77,79,86,69,72]⟩ : ByteArray),vs (⟨#[65,68,68]⟩ : ByteArray),vs (⟨#[83,85,66]⟩ : ByteArray),vs (⟨#[77,85,76]⟩ : ByteArray),vs (⟨#[68,73,86]⟩ : ByteArray),vs (⟨#[82,69,77]⟩ : ByteArray),vs (⟨#[73,70,69,81]⟩ : ByteArray),vs (⟨#[73,70,76,84]⟩ : ByteArray),vs (⟨#[71,79,84,79]⟩ : ByteArray),vs (⟨#[65,68,68,82]⟩ : ByteArray),vs (⟨#[77,79,86,69,80]⟩ : ByteArray),vs (⟨#[65,68,86,65,78,67,69]⟩ : ByteArray),vs (⟨#[67,65,76,76]⟩ : ByteArray),vs (⟨#[82,69,84,85,82,78]⟩ : ByteArray),vs (⟨#[83,73,71,78,65,76]⟩ : ByteArray),vs (⟨#[69,88,67,69,80,84,73,79,78]⟩ : ByteArray),vs (⟨#[80,82,73,78,84]⟩ : ByteArray),vs (⟨#[69,78,68]⟩ : ByteArray)]) fun h2 r3=>
 withStr h2 fun s4=>
 some s4) else none) else (bif decide ((0:Int)≤a0)&&decide (a0 < ((19:Nat):Int)) then (withCons (chop ((a0).toNat*1) [vs (⟨#[77,79,86,69]⟩ : ByteArray),vs (⟨#[77,79,86,69,72]⟩ : ByteArray),vs (⟨#[65,68,68]⟩ : ByteArray),vs (⟨#[83,85,66]⟩ : ByteArray),vs (⟨#[77,85,76]⟩ : ByteArray),vs (⟨#[68,73,86]⟩ : ByteArray),vs (⟨#[82,69,77]⟩ : ByteArray),vs (⟨#[73,70,69,81]⟩ : ByteArray),vs (⟨#[73,70,76,84]⟩ : ByteArray),vs (⟨#[71,79,84,79]⟩ : ByteArray),vs (⟨#[65,68,68,82]⟩ : ByteArray),vs (⟨#[77,79,86,69,80]⟩ : ByteArray),vs (⟨#[65,68,86,65,78,67,69]⟩ : ByteArray),vs (⟨#[67,65,76,76]⟩ : ByteArray),vs (⟨#[82,69,84,85,82,78]⟩ : ByteArray),vs (⟨#[83,73,71,78,65,76]⟩ : ByteArray),vs (⟨#[69,88,67,69,80,84,73,79,78]⟩ : ByteArray),vs (⟨#[80,82,73,78,84]⟩ : ByteArray),vs (⟨#[69,78,68]⟩ : ByteArray)]) fun h5 r6=>
 withStr h5 fun s7=>
 chk (decide (s7.size+1≤9223372036854775807)) ((Q3s.F n a1 (⟨#[44]⟩ : ByteArray)).bind fun p8=>
 chk (decide ((s7++(⟨#[32]⟩ : ByteArray)).size+p8.size≤9223372036854775807)) (let y9:ByteArray:=(s7++(⟨#[32]⟩ : ByteArray))++p8
 some y9))) else none)
def Q2m.E (n:Nat):Q2m.A→Option Q2m.T:=fun (a0,a1)=>Q2m.e n a0 a1
def Q2m.F (n:Nat) (a0:Int) (a1:List AV):Option ByteArray:=Q2m.e n a0 a1
def Q2m.FA (n:Nat):Q2m.A→Option Q2m.T:=Q2m.E n
theorem Q2m.hands (n:Nat):∀ a p,Q2m.FA n a=some p→HandsIn Tryz.prog 54 (Q2m.i a) (Q2m.p p):=
 pf_hands (C:=Q2m.C n) (cut:=Q2m.cut) (Z:=Empty) (t:=nofun) (s:=nofun) (e:=fun _=>Q2m.E n) (r:=fun _ z=>nomatch z) (n:=n) cfg mixed globs rfl Q2m.qi (Q2m.tells n) Tryz.func54 (by kernel_rfl) (by kernel_rfl) (fun rec a=>by kernel_rfl) (fun rec z=>nomatch z)
def Q2m.via {R:Type} (n:Nat):List AV→(AV→Option R)→Option R:=viaK (Q2m.FA n) Q2m.o Q2m.p
theorem Q2m.tells1 {R:Type} (n:Nat) (xs:List AV):Tells1 (R:=R) Tryz.prog 54 xs (Q2m.via n xs):=tells_via Q2m.oi (fun a=>by kernel_rfl) (Q2m.hands n) xs
end Go.Proofs.YtnoldakbllfmnaaGreatDoor.Ev
namespace Go.Proofs.YtnoldakbllfmnaaGreatDoor.Ev
open Go Go.Proofs Go.Proofs.Ev
set_option linter.unusedVariables false
set_option maxRecDepth 100000
abbrev Q2v.A:=Int × Int × Int × Int
abbrev Q2v.T:=ByteArray
def Q2v.i:Q2v.A→List AV:=fun (a0,a1,a2,a3)=>[AV.agg [vi a0,vi a1,vi a2,vi a3]]
def Q2v.o (xs:List AV):Option Q2v.A:=match xs with | [.agg [.v (.int .i64 a0),.v (.int .i64 a1),.v (.int .i64 a2),.v (.int .i64 a3)]]=>some (a0,a1,a2,a3) | _=>none
theorem Q2v.oi:∀ xs a,Q2v.o xs=some a→xs=Q2v.i a:=by
 intro xs a h
 unfold Q2v.o at h
 split at h
 ·cases h; rfl
 ·cases h
def Q2v.p (p:Q2v.T):AV:=vs p
def Q2v.q (x:AV):Option Q2v.T:=match x with | .v (.string p0)=>some p0 | _=>none
theorem Q2v.qi:∀ x p,Q2v.q x=some p→x=Q2v.p p:=by
 intro x p h
 unfold Q2v.q at h
 split at h
 ·cases h; rfl
 ·cases h
inductive Q2v.Z where
 | z3 (z1:ByteArray) (z2 z3:Int) (z4:List AV)
def Q2v.C {R:Type} (n:Nat) (f:FuncId) (xs:List AV):(AV→Option R)→Option R:=
 bif Nat.beq f 97 then Q3m.via n xs else fun _=>none
theorem Q2v.tells {R:Type} (n:Nat):Tells (R:=R) Tryz.prog (Q2v.C n):=fun _ xs=>tells_at (Q3m.tells1 n xs) (Tells1.none)
def Q2v.cut (r:Nat):Option Keep:=match r with | 3=>some ⟨[3,14,15,16],[]⟩ | _=>none
def Q2v.t (z:Q2v.Z):List Item:=(todoOf (match z with | .z3 _ _ _ _=>3) 1000 [.code (Tryz.f55.body.getD .skip)]).getD []
def Q2v.s:Q2v.Z→St
 | .z3 z1 z2 z3 z4=>⟨spr 27 0 [(3,vs z1),(14,.own 0 0 none),(15,vi z2),(16,vi z3)],Mem.ofList [.row ⟨true,3,false⟩ 1 z4],1⟩
def Q2v.r3 (n:Nat) (c:Q2v.Z→Option ByteArray) (z1:ByteArray) (z2 z3:Int) (z4:List AV):Option ByteArray:=
 bif decide (z3 < z2) then (bif decide ((0:Int)≤z3)&&decide (z3 < ((z4.length:Nat):Int)) then (withCons ((z4.getD ((z3).toNat) .undef).cells) fun h1 r2=>
 withInt .i64 h1 fun x3=>
 (Q3m.F n x3).bind fun p4=>
 chk (decide (1+p4.size≤9223372036854775807)) (chk (decide (z1.size+((⟨#[32]⟩ : ByteArray)++p4).size≤9223372036854775807)) (let y5:ByteArray:=z1++((⟨#[32]⟩ : ByteArray)++p4)
 c (.z3 y5 z2 (IntKind.i64.wrap (z3+1)) z4)))) else none) else (some z1)
def Q2v.r (n:Nat) (c:Q2v.Z→Option ByteArray):Q2v.Z→Option ByteArray
 | .z3 z1 z2 z3 z4=>Q2v.r3 n c z1 z2 z3 z4
def Q2v.e (n:Nat) (c:Q2v.Z→Option ByteArray) (a0 a1 a2 a3:Int):Option ByteArray:=
 c (.z3 (⟨#[77,79,78,73,84,79,82]⟩ : ByteArray) (([vi a0,vi a1,vi a2,vi a3].length:Nat):Int) 0 [vi a0,vi a1,vi a2,vi a3])
def Q2v.E (n:Nat) (c:Q2v.Z→Option ByteArray):Q2v.A→Option Q2v.T:=fun (a0,a1,a2,a3)=>Q2v.e n c a0 a1 a2 a3
def Q2v.l (n:Nat):Nat→Q2v.Z→Option ByteArray:=loopL (Q2v.r n)
def Q2v.F (n:Nat) (a0 a1 a2 a3:Int):Option ByteArray:=Q2v.e n (Q2v.l n n) a0 a1 a2 a3
def Q2v.FA (n:Nat):Q2v.A→Option Q2v.T:=Q2v.E n (Q2v.l n n)
theorem Q2v.hands (n:Nat):∀ a p,Q2v.FA n a=some p→HandsIn Tryz.prog 55 (Q2v.i a) (Q2v.p p):=
 pf_hands (C:=Q2v.C n) (cut:=Q2v.cut) (t:=Q2v.t) (s:=Q2v.s) (e:=Q2v.E n) (r:=Q2v.r n) (n:=n) cfg mixed globs rfl Q2v.qi (Q2v.tells n) Tryz.func55 (by kernel_rfl) (by kernel_rfl) (fun rec a=>by kernel_rfl) (fun rec z=>by cases z <;> kernel_rfl)
def Q2v.via {R:Type} (n:Nat):List AV→(AV→Option R)→Option R:=viaK (Q2v.FA n) Q2v.o Q2v.p
theorem Q2v.tells1 {R:Type} (n:Nat) (xs:List AV):Tells1 (R:=R) Tryz.prog 55 xs (Q2v.via n xs):=tells_via Q2v.oi (fun a=>by kernel_rfl) (Q2v.hands n) xs
end Go.Proofs.YtnoldakbllfmnaaGreatDoor.Ev
namespace Go.Proofs.YtnoldakbllfmnaaGreatDoor.Ev
open Go Go.Proofs Go.Proofs.Ev
set_option linter.unusedVariables false
set_option maxRecDepth 100000
abbrev Q27.A:=List AV × List AV × List AV
abbrev Q27.T:=ByteArray × Int
def Q27.i:Q27.A→List AV:=fun (a0,a1,a2)=>[AV.agg [.sl ⟨true,74,false⟩ 10 a0,.sl ⟨false,86,false⟩ 2 a1,.sl ⟨true,82,false⟩ 4 a2]]
def Q27.o (xs:List AV):Option Q27.A:=match xs with | [.agg [.sl ⟨true,74,false⟩ 10 a0,.sl ⟨false,86,false⟩ 2 a1,.sl ⟨true,82,false⟩ 4 a2]]=>some (a0,a1,a2) | _=>none
theorem Q27.oi:∀ xs a,Q27.o xs=some a→xs=Q27.i a:=by
 intro xs a h
 unfold Q27.o at h
 split at h
 ·cases h; rfl
 ·cases h
def Q27.p (p:Q27.T):AV:=.tup [vs p.1,vi p.2]
def Q27.q (x:AV):Option Q27.T:=match x with | .tup [.v (.string p0),.v (.int .i64 p1)]=>some (p0,p1) | _=>none
theorem Q27.qi:∀ x p,Q27.q x=some p→x=Q27.p p:=by
 intro x p h
 unfold Q27.q at h
 split at h
 ·cases h; rfl
 ·cases h
inductive Q27.Z where
 | z6 (z1:List AV) (z2 z3:Int) (z4 z5 z6 z7:List AV)
 | z11 (z1:List AV) (z2 z3:Int) (z4 z5 z6 z7:List AV)
 | z15 (z1:List AV) (z2 z3:Int) (z4:List AV) (z5 z6:Int) (z7 z8 z9 z10:List AV) (z11:Int) (z12 z13:List AV)
 | z22 (z1:List AV) (z2 z3:Int) (z4:List AV)
def Q27.C {R:Type} (n:Nat) (f:FuncId) (xs:List AV):(AV→Option R)→Option R:=
 bif Nat.beq f 52 then Q31.via n xs else bif Nat.beq f 53 then Q30.via n xs else bif Nat.beq f 54 then Q2m.via n xs else bif Nat.beq f 55 then Q2v.via n xs else bif Nat.beq f 56 then Q3s.via n xs else fun _=>none
theorem Q27.tells {R:Type} (n:Nat):Tells (R:=R) Tryz.prog (Q27.C n):=fun _ xs=>tells_at (Q31.tells1 n xs) (tells_at (Q30.tells1 n xs) (tells_at (Q2m.tells1 n xs) (tells_at (Q2v.tells1 n xs) (tells_at (Q3s.tells1 n xs) (Tells1.none)))))
def Q27.cut (r:Nat):Option Keep:=match r with | 6=>some ⟨[1,5,22,23,24],[(5,none,⟨true,9,false⟩,1)]⟩ | 11=>some ⟨[1,5,35,36,37],[]⟩ | 15=>some ⟨[1,5,9,10,35,36,37,42,43,44],[(10,none,⟨true,9,false⟩,1)]⟩ | 22=>some ⟨[5,67,68,69],[]⟩ | _=>none
def Q27.t (z:Q27.Z):List Item:=(todoOf (match z with | .z6 _ _ _ _ _ _ _=>6 | .z11 _ _ _ _ _ _ _=>11 | .z15 _ _ _ _ _ _ _ _ _ _ _ _ _=>15 | .z22 _ _ _ _=>22) 1000 [.code (Tryz.f17.body.getD .skip)]).getD []
def Q27.s:Q27.Z→St
 | .z6 z1 z2 z3 z4 z5 z6 z7=>⟨spr 86 0 [(1,.ptr 0 0),(5,.own 1 0 none),(22,.sl ⟨true,74,false⟩ 10 z1),(23,vi z2),(24,vi z3)],Mem.ofList [.box 26 [.sl ⟨true,74,false⟩ 10 z4,.sl ⟨false,86,false⟩ 2 z5,.sl ⟨true,82,false⟩ 4 z6],.row ⟨true,9,false⟩ 1 z7],2⟩
 | .z11 z1 z2 z3 z4 z5 z6 z7=>⟨spr 86 0 [(1,.ptr 0 0),(5,.own 1 0 none),(35,.sl ⟨false,86,false⟩ 2 z1),(36,vi z2),(37,vi z3)],Mem.ofList [.box 26 [.sl ⟨true,74,false⟩ 10 z4,.sl ⟨false,86,false⟩ 2 z5,.sl ⟨true,82,false⟩ 4 z6],.row ⟨true,9,false⟩ 1 z7],2⟩
 | .z15 z1 z2 z3 z4 z5 z6 z7 z8 z9 z10 z11 z12 z13=>⟨spr 86 0 [(1,.ptr 0 0),(5,.own 1 0 none),(9,.ptr 2 0),(10,.own 3 0 none),(35,.sl ⟨false,86,false⟩ 2 z1),(36,vi z2),(37,vi z3),(42,.sl ⟨true,3,false⟩ 1 z4),(43,vi z5),(44,vi z6)],Mem.ofList [.box 26 [.sl ⟨true,74,false⟩ 10 z7,.sl ⟨false,86,false⟩ 2 z8,.sl ⟨true,82,false⟩ 4 z9],.row ⟨true,9,false⟩ 1 z10,.box 86 [vi z11,.sl ⟨true,3,false⟩ 1 z12],.row ⟨true,9,false⟩ 1 z13],4⟩
 | .z22 z1 z2 z3 z4=>⟨spr 86 0 [(5,.own 0 0 none),(67,.sl ⟨true,82,false⟩ 4 z1),(68,vi z2),(69,vi z3)],Mem.ofList [.row ⟨true,9,false⟩ 1 z4],1⟩
def Q27.r6 (n:Nat) (c:Q27.Z→Option (ByteArray × Int)) (z1:List AV) (z2 z3:Int) (z4 z5 z6 z7:List AV):Option (ByteArray × Int):=
 bif decide (z3 < z2) then (bif decide ((0:Int)≤z3)&&decide (z3 < ((z1.length:Nat):Int)) then (withCons ((z1.getD ((z3).toNat) .undef).cells) fun h2 r3=>
 withStr h2 fun s4=>
 withCons r3 fun h5 r6=>
 withInt .i64 h5 fun x7=>
 withCons r6 fun h8 r9=>
 withInt .i64 h8 fun x10=>
 withCons r9 fun h11 r12=>
 withInt .i64 h11 fun x13=>
 withCons r12 fun h14 r15=>
 withInt .i64 h14 fun x16=>
 withCons r15 fun h17 r18=>
 withInt .i64 h17 fun x19=>
 withCons r18 fun h20 r21=>
 withStr h20 fun s22=>
 withCons r21 fun h23 r24=>
 withStr h23 fun s25=>
 withCons r24 fun h26 r27=>
 withInt .i64 h26 fun x28=>
 withCons r27 fun h29 r30=>
 withInt .i64 h29 fun x31=>
 (Q30.F n s4 x7 x10 x13 x16 x19 s22 s25 x28 x31).bind fun p32=>
 bif decide (z7.length+[vs p32].length≤most) then (c (.z6 z1 z2 (IntKind.i64.wrap (z3+1)) z4 z5 z6 (z7++[vs p32]))) else none) else none) else (c (.z11 z5 ((z5.length:Nat):Int) 0 z4 z5 z6 z7))
def Q27.r11 (n:Nat) (c:Q27.Z→Option (ByteArray × Int)) (z1:List AV) (z2 z3:Int) (z4 z5 z6 z7:List AV):Option (ByteArray × Int):=
 bif decide (z3 < z2) then (bif decide ((0:Int)≤z3)&&decide (z3 < ((z1.length:Nat):Int)) then (withCons ((z1.getD ((z3).toNat) .undef).cells) fun h33 r34=>
 withInt .i64 h33 fun x35=>
 withCons r34 fun h36 r37=>
 withSl ⟨true,3,false⟩ 1 h36 fun xs38=>
 c (.z15 z1 z2 z3 xs38 ((xs38.length:Nat):Int) 0 z4 z5 z6 z7 x35 xs38 [])) else none) else (c (.z22 z6 ((z6.length:Nat):Int) 0 z7))
def Q27.r15 (n:Nat) (c:Q27.Z→Option (ByteArray × Int)) (z1:List AV) (z2 z3:Int) (z4:List AV) (z5 z6:Int) (z7 z8 z9 z10:List AV) (z11:Int) (z12 z13:List AV):Option (ByteArray × Int):=
 bif decide (z6 < z5) then (bif decide ((0:Int)≤z6)&&decide (z6 < ((z4.length:Nat):Int)) then (withCons ((z4.getD ((z6).toNat) .undef).cells) fun h39 r40=>
 withInt .i64 h39 fun x41=>
 bif decide ((0:Int)≤x41)&&decide (x41 < ((z7.length:Nat):Int)) then (withCons ((z7.getD ((x41).toNat) .undef).cells) fun h42 r43=>
 withStr h42 fun s44=>
 bif decide (z13.length+[vs s44].length≤most) then (c (.z15 z1 z2 z3 z4 z5 (IntKind.i64.wrap (z6+1)) z7 z8 z9 z10 z11 z12 (z13++[vs s44]))) else none) else none) else none) else ((Q2m.F n z11 z13).bind fun p45=>
 bif decide (z10.length+[vs p45].length≤most) then (c (.z11 z1 z2 (IntKind.i64.wrap (z3+1)) z7 z8 z9 (z10++[vs p45]))) else none)
def Q27.r22 (n:Nat) (c:Q27.Z→Option (ByteArray × Int)) (z1:List AV) (z2 z3:Int) (z4:List AV):Option (ByteArray × Int):=
 bif decide (z3 < z2) then (bif decide ((0:Int)≤z3)&&decide (z3 < ((z1.length:Nat):Int)) then (withCons ((z1.getD ((z3).toNat) .undef).cells) fun h46 r47=>
 withInt .i64 h46 fun x48=>
 withCons r47 fun h49 r50=>
 withInt .i64 h49 fun x51=>
 withCons r50 fun h52 r53=>
 withInt .i64 h52 fun x54=>
 withCons r53 fun h55 r56=>
 withInt .i64 h55 fun x57=>
 (Q2v.F n x48 x51 x54 x57).bind fun p58=>
 bif decide (z4.length+[vs p58].length≤most) then (c (.z22 z1 z2 (IntKind.i64.wrap (z3+1)) (z4++[vs p58]))) else none) else none) else ((Q3s.F n z4 (⟨#[59,10]⟩ : ByteArray)).bind fun p59=>
 chk (decide (p59.size+2≤9223372036854775807)) (let y60:ByteArray:=p59++(⟨#[59,10]⟩ : ByteArray)
 let y61:Bool:=decide (((y60.size:Nat):Int) > 6000)
 bif y61 then (some ((⟨#[]⟩ : ByteArray),2)) else (some (y60,0))))
def Q27.r (n:Nat) (c:Q27.Z→Option (ByteArray × Int)):Q27.Z→Option (ByteArray × Int)
 | .z6 z1 z2 z3 z4 z5 z6 z7=>Q27.r6 n c z1 z2 z3 z4 z5 z6 z7
 | .z11 z1 z2 z3 z4 z5 z6 z7=>Q27.r11 n c z1 z2 z3 z4 z5 z6 z7
 | .z15 z1 z2 z3 z4 z5 z6 z7 z8 z9 z10 z11 z12 z13=>Q27.r15 n c z1 z2 z3 z4 z5 z6 z7 z8 z9 z10 z11 z12 z13
 | .z22 z1 z2 z3 z4=>Q27.r22 n c z1 z2 z3 z4
def Q27.e (n:Nat) (c:Q27.Z→Option (ByteArray × Int)) (a0 a1 a2:List AV):Option (ByteArray × Int):=
 (Q31.F n a0 a1 a2).bind fun p1=>
 bif p1 != 0 then (some ((⟨#[]⟩ : ByteArray),p1)) else (c (.z6 a0 ((a0.length:Nat):Int) 0 a0 a1 a2 []))
def Q27.E (n:Nat) (c:Q27.Z→Option (ByteArray × Int)):Q27.A→Option Q27.T:=fun (a0,a1,a2)=>Q27.e n c a0 a1 a2
def Q27.l (n:Nat):Nat→Q27.Z→Option (ByteArray × Int):=loopL (Q27.r n)
def Q27.FA (n:Nat):Q27.A→Option Q27.T:=Q27.E n (Q27.l n n)
theorem Q27.hands (n:Nat):∀ a p,Q27.FA n a=some p→HandsIn Tryz.prog 17 (Q27.i a) (Q27.p p):=
 pf_hands (C:=Q27.C n) (cut:=Q27.cut) (t:=Q27.t) (s:=Q27.s) (e:=Q27.E n) (r:=Q27.r n) (n:=n) cfg mixed globs rfl Q27.qi (Q27.tells n) Tryz.func17 (by kernel_rfl) (by kernel_rfl) (fun rec a=>by kernel_rfl) (fun rec z=>by cases z <;> kernel_rfl)
def Q27.via {R:Type} (n:Nat):List AV→(AV→Option R)→Option R:=viaK (Q27.FA n) Q27.o Q27.p
theorem Q27.tells1 {R:Type} (n:Nat) (xs:List AV):Tells1 (R:=R) Tryz.prog 17 xs (Q27.via n xs):=tells_via Q27.oi (fun a=>by kernel_rfl) (Q27.hands n) xs
end Go.Proofs.YtnoldakbllfmnaaGreatDoor.Ev
namespace Go.Proofs.YtnoldakbllfmnaaGreatDoor.Ev
open Go Go.Proofs Go.Proofs.Ev
set_option linter.unusedVariables false
set_option maxRecDepth 100000
abbrev Q09.A:=List AV × List AV
abbrev Q09.T:=Bool
def Q09.i:Q09.A→List AV:=fun (a0,a1)=>[.sl ⟨true,3,false⟩ 1 a0,.sl ⟨true,3,false⟩ 1 a1]
def Q09.o (xs:List AV):Option Q09.A:=match xs with | [.sl ⟨true,3,false⟩ 1 a0,.sl ⟨true,3,false⟩ 1 a1]=>some (a0,a1) | _=>none
theorem Q09.oi:∀ xs a,Q09.o xs=some a→xs=Q09.i a:=by
 intro xs a h
 unfold Q09.o at h
 split at h
 ·cases h; rfl
 ·cases h
def Q09.p (p:Q09.T):AV:=vb p
def Q09.q (x:AV):Option Q09.T:=match x with | .v (.bool p0)=>some p0 | _=>none
theorem Q09.qi:∀ x p,Q09.q x=some p→x=Q09.p p:=by
 intro x p h
 unfold Q09.q at h
 split at h
 ·cases h; rfl
 ·cases h
inductive Q09.Z where
 | z4 (z1 z2:List AV) (z3:Int)
def Q09.C {R:Type} (n:Nat) (f:FuncId) (xs:List AV):(AV→Option R)→Option R:=
 fun _=>none
theorem Q09.tells {R:Type} (n:Nat):Tells (R:=R) Tryz.prog (Q09.C n):=fun _ xs=>Tells1.none
def Q09.cut (r:Nat):Option Keep:=match r with | 4=>some ⟨[0,1,5],[]⟩ | _=>none
def Q09.t (z:Q09.Z):List Item:=(todoOf (match z with | .z4 _ _ _=>4) 1000 [.code (Tryz.f28.body.getD .skip)]).getD []
def Q09.s:Q09.Z→St
 | .z4 z1 z2 z3=>⟨spr 26 0 [(0,.sl ⟨true,3,false⟩ 1 z1),(1,.sl ⟨true,3,false⟩ 1 z2),(5,vi z3)],Mem.ofList [],0⟩
def Q09.r4 (n:Nat) (c:Q09.Z→Option Bool) (z1 z2:List AV) (z3:Int):Option Bool:=
 let y2:Bool:=decide (z3 < ((z1.length:Nat):Int))
 bif y2 then (bif decide ((0:Int)≤z3)&&decide (z3 < ((z1.length:Nat):Int)) then (withCons ((z1.getD ((z3).toNat) .undef).cells) fun h3 r4=>
 withInt .i64 h3 fun x5=>
 bif decide ((0:Int)≤z3)&&decide (z3 < ((z2.length:Nat):Int)) then (withCons ((z2.getD ((z3).toNat) .undef).cells) fun h6 r7=>
 withInt .i64 h6 fun x8=>
 bif x5 != x8 then (some false) else (c (.z4 z1 z2 (IntKind.i64.wrap (z3+1))))) else none) else none) else (some true)
def Q09.r (n:Nat) (c:Q09.Z→Option Bool):Q09.Z→Option Bool
 | .z4 z1 z2 z3=>Q09.r4 n c z1 z2 z3
def Q09.e (n:Nat) (c:Q09.Z→Option Bool) (a0 a1:List AV):Option Bool:=
 let y1:Bool:=((a0.length:Nat):Int) != ((a1.length:Nat):Int)
 bif y1 then (some false) else (c (.z4 a0 a1 0))
def Q09.E (n:Nat) (c:Q09.Z→Option Bool):Q09.A→Option Q09.T:=fun (a0,a1)=>Q09.e n c a0 a1
def Q09.l (n:Nat):Nat→Q09.Z→Option Bool:=loopL (Q09.r n)
def Q09.F (n:Nat) (a0 a1:List AV):Option Bool:=Q09.e n (Q09.l n n) a0 a1
def Q09.FA (n:Nat):Q09.A→Option Q09.T:=Q09.E n (Q09.l n n)
theorem Q09.hands (n:Nat):∀ a p,Q09.FA n a=some p→HandsIn Tryz.prog 28 (Q09.i a) (Q09.p p):=
 pf_hands (C:=Q09.C n) (cut:=Q09.cut) (t:=Q09.t) (s:=Q09.s) (e:=Q09.E n) (r:=Q09.r n) (n:=n) cfg mixed globs rfl Q09.qi (Q09.tells n) Tryz.func28 (by kernel_rfl) (by kernel_rfl) (fun rec a=>by kernel_rfl) (fun rec z=>by cases z <;> kernel_rfl)
def Q09.via {R:Type} (n:Nat):List AV→(AV→Option R)→Option R:=viaK (Q09.FA n) Q09.o Q09.p
theorem Q09.tells1 {R:Type} (n:Nat) (xs:List AV):Tells1 (R:=R) Tryz.prog 28 xs (Q09.via n xs):=tells_via Q09.oi (fun a=>by kernel_rfl) (Q09.hands n) xs
end Go.Proofs.YtnoldakbllfmnaaGreatDoor.Ev
namespace Go.Proofs.YtnoldakbllfmnaaGreatDoor.Ev
open Go Go.Proofs Go.Proofs.Ev
set_option linter.unusedVariables false
set_option maxRecDepth 100000
abbrev Q1a.A:=List AV × List AV × List AV × List AV × List AV × List AV
abbrev Q1a.T:=Bool
def Q1a.i:Q1a.A→List AV:=fun (a0,a1,a2,a3,a4,a5)=>[AV.agg [.sl ⟨true,74,false⟩ 10 a0,.sl ⟨false,86,false⟩ 2 a1,.sl ⟨true,82,false⟩ 4 a2],AV.agg [.sl ⟨true,74,false⟩ 10 a3,.sl ⟨false,86,false⟩ 2 a4,.sl ⟨true,82,false⟩ 4 a5]]
def Q1a.o (xs:List AV):Option Q1a.A:=match xs with | [.agg [.sl ⟨true,74,false⟩ 10 a0,.sl ⟨false,86,false⟩ 2 a1,.sl ⟨true,82,false⟩ 4 a2],.agg [.sl ⟨true,74,false⟩ 10 a3,.sl ⟨false,86,false⟩ 2 a4,.sl ⟨true,82,false⟩ 4 a5]]=>some (a0,a1,a2,a3,a4,a5) | _=>none
theorem Q1a.oi:∀ xs a,Q1a.o xs=some a→xs=Q1a.i a:=by
 intro xs a h
 unfold Q1a.o at h
 split at h
 ·cases h; rfl
 ·cases h
def Q1a.p (p:Q1a.T):AV:=vb p
def Q1a.q (x:AV):Option Q1a.T:=match x with | .v (.bool p0)=>some p0 | _=>none
theorem Q1a.qi:∀ x p,Q1a.q x=some p→x=Q1a.p p:=by
 intro x p h
 unfold Q1a.q at h
 split at h
 ·cases h; rfl
 ·cases h
inductive Q1a.Z where
 | z2
 | z4 (z1:Int) (z2 z3 z4 z5 z6 z7:List AV)
 | z9 (z1:Int) (z2 z3 z4 z5 z6 z7:List AV)
 | z14 (z1:Int) (z2 z3 z4 z5 z6 z7:List AV)
def Q1a.C {R:Type} (n:Nat) (f:FuncId) (xs:List AV):(AV→Option R)→Option R:=
 bif Nat.beq f 28 then Q09.via n xs else fun _=>none
theorem Q1a.tells {R:Type} (n:Nat):Tells (R:=R) Tryz.prog (Q1a.C n):=fun _ xs=>tells_at (Q09.tells1 n xs) (Tells1.none)
def Q1a.cut (r:Nat):Option Keep:=match r with | 2=>some ⟨[],[]⟩ | 4=>some ⟨[2,3,5],[]⟩ | 9=>some ⟨[2,3,6],[]⟩ | 14=>some ⟨[2,3,7],[]⟩ | _=>none
def Q1a.t (z:Q1a.Z):List Item:=(todoOf (match z with | .z2=>2 | .z4 _ _ _ _ _ _ _=>4 | .z9 _ _ _ _ _ _ _=>9 | .z14 _ _ _ _ _ _ _=>14) 1000 [.code (Tryz.f22.body.getD .skip)]).getD []
def Q1a.s:Q1a.Z→St
 | .z2=>⟨spr 105 0 [],Mem.ofList [],0⟩
 | .z4 z1 z2 z3 z4 z5 z6 z7=>⟨spr 105 0 [(2,.ptr 0 0),(3,.ptr 1 0),(5,vi z1)],Mem.ofList [.box 26 [.sl ⟨true,74,false⟩ 10 z2,.sl ⟨false,86,false⟩ 2 z3,.sl ⟨true,82,false⟩ 4 z4],.box 26 [.sl ⟨true,74,false⟩ 10 z5,.sl ⟨false,86,false⟩ 2 z6,.sl ⟨true,82,false⟩ 4 z7]],2⟩
 | .z9 z1 z2 z3 z4 z5 z6 z7=>⟨spr 105 0 [(2,.ptr 0 0),(3,.ptr 1 0),(6,vi z1)],Mem.ofList [.box 26 [.sl ⟨true,74,false⟩ 10 z2,.sl ⟨false,86,false⟩ 2 z3,.sl ⟨true,82,false⟩ 4 z4],.box 26 [.sl ⟨true,74,false⟩ 10 z5,.sl ⟨false,86,false⟩ 2 z6,.sl ⟨true,82,false⟩ 4 z7]],2⟩
 | .z14 z1 z2 z3 z4 z5 z6 z7=>⟨spr 105 0 [(2,.ptr 0 0),(3,.ptr 1 0),(7,vi z1)],Mem.ofList [.box 26 [.sl ⟨true,74,false⟩ 10 z2,.sl ⟨false,86,false⟩ 2 z3,.sl ⟨true,82,false⟩ 4 z4],.box 26 [.sl ⟨true,74,false⟩ 10 z5,.sl ⟨false,86,false⟩ 2 z6,.sl ⟨true,82,false⟩ 4 z7]],2⟩
def Q1a.r2 (n:Nat) (c:Q1a.Z→Option Bool)  : Option Bool:=
 some false
def Q1a.r4 (n:Nat) (c:Q1a.Z→Option Bool) (z1:Int) (z2 z3 z4 z5 z6 z7:List AV):Option Bool:=
 let y4:Bool:=decide (z1 < ((z2.length:Nat):Int))
 bif y4 then (bif decide ((0:Int)≤z1)&&decide (z1 < ((z2.length:Nat):Int)) then (withCons ((z2.getD ((z1).toNat) .undef).cells) fun h5 r6=>
 withStr h5 fun s7=>
 withCons r6 fun h8 r9=>
 withInt .i64 h8 fun x10=>
 withCons r9 fun h11 r12=>
 withInt .i64 h11 fun x13=>
 withCons r12 fun h14 r15=>
 withInt .i64 h14 fun x16=>
 withCons r15 fun h17 r18=>
 withInt .i64 h17 fun x19=>
 withCons r18 fun h20 r21=>
 withInt .i64 h20 fun x22=>
 withCons r21 fun h23 r24=>
 withStr h23 fun s25=>
 withCons r24 fun h26 r27=>
 withStr h26 fun s28=>
 withCons r27 fun h29 r30=>
 withInt .i64 h29 fun x31=>
 withCons r30 fun h32 r33=>
 withInt .i64 h32 fun x34=>
 bif decide ((0:Int)≤z1)&&decide (z1 < ((z5.length:Nat):Int)) then (withCons ((z5.getD ((z1).toNat) .undef).cells) fun h35 r36=>
 withStr h35 fun s37=>
 withCons r36 fun h38 r39=>
 withInt .i64 h38 fun x40=>
 withCons r39 fun h41 r42=>
 withInt .i64 h41 fun x43=>
 withCons r42 fun h44 r45=>
 withInt .i64 h44 fun x46=>
 withCons r45 fun h47 r48=>
 withInt .i64 h47 fun x49=>
 withCons r48 fun h50 r51=>
 withInt .i64 h50 fun x52=>
 withCons r51 fun h53 r54=>
 withStr h53 fun s55=>
 withCons r54 fun h56 r57=>
 withStr h56 fun s58=>
 withCons r57 fun h59 r60=>
 withInt .i64 h59 fun x61=>
 withCons r60 fun h62 r63=>
 withInt .i64 h62 fun x64=>
 let y65:Bool:=!((s7==s37)&&((x10==x40)&&((x13==x43)&&((x16==x46)&&((x19==x49)&&((x22==x52)&&((s25==s55)&&((s28==s58)&&((x31==x61)&&((x34==x64)&&true))))))))))
 bif y65 then (some false) else (c (.z4 (IntKind.i64.wrap (z1+1)) z2 z3 z4 z5 z6 z7))) else none) else none) else (c (.z9 0 z2 z3 z4 z5 z6 z7))
def Q1a.r9 (n:Nat) (c:Q1a.Z→Option Bool) (z1:Int) (z2 z3 z4 z5 z6 z7:List AV):Option Bool:=
 let y66:Bool:=decide (z1 < ((z3.length:Nat):Int))
 bif y66 then (bif decide ((0:Int)≤z1)&&decide (z1 < ((z3.length:Nat):Int)) then (withCons ((z3.getD ((z1).toNat) .undef).cells) fun h67 r68=>
 withInt .i64 h67 fun x69=>
 bif decide ((0:Int)≤z1)&&decide (z1 < ((z6.length:Nat):Int)) then (withCons ((z6.getD ((z1).toNat) .undef).cells) fun h70 r71=>
 withInt .i64 h70 fun x72=>
 bif x69 != x72 then (some false) else (bif decide ((0:Int)≤z1)&&decide (z1 < ((z3.length:Nat):Int)) then (withCons (((z3.getD ((z1).toNat) .undef).cells).drop 1) fun h73 r74=>
 withSl ⟨true,3,false⟩ 1 h73 fun xs75=>
 bif decide ((0:Int)≤z1)&&decide (z1 < ((z6.length:Nat):Int)) then (withCons (((z6.getD ((z1).toNat) .undef).cells).drop 1) fun h76 r77=>
 withSl ⟨true,3,false⟩ 1 h76 fun xs78=>
 (Q09.F n xs75 xs78).bind fun p79=>
 bif !p79 then (some false) else (c (.z9 (IntKind.i64.wrap (z1+1)) z2 z3 z4 z5 z6 z7))) else none) else none)) else none) else none) else (c (.z14 0 z2 z3 z4 z5 z6 z7))
def Q1a.r14 (n:Nat) (c:Q1a.Z→Option Bool) (z1:Int) (z2 z3 z4 z5 z6 z7:List AV):Option Bool:=
 let y80:Bool:=decide (z1 < ((z4.length:Nat):Int))
 bif y80 then (bif decide ((0:Int)≤z1)&&decide (z1 < ((z4.length:Nat):Int)) then (withCons ((z4.getD ((z1).toNat) .undef).cells) fun h81 r82=>
 withInt .i64 h81 fun x83=>
 withCons r82 fun h84 r85=>
 withInt .i64 h84 fun x86=>
 withCons r85 fun h87 r88=>
 withInt .i64 h87 fun x89=>
 withCons r88 fun h90 r91=>
 withInt .i64 h90 fun x92=>
 bif decide ((0:Int)≤z1)&&decide (z1 < ((z7.length:Nat):Int)) then (withCons ((z7.getD ((z1).toNat) .undef).cells) fun h93 r94=>
 withInt .i64 h93 fun x95=>
 withCons r94 fun h96 r97=>
 withInt .i64 h96 fun x98=>
 withCons r97 fun h99 r100=>
 withInt .i64 h99 fun x101=>
 withCons r100 fun h102 r103=>
 withInt .i64 h102 fun x104=>
 let y105:Bool:=!((x83==x95)&&((x86==x98)&&((x89==x101)&&((x92==x104)&&true))))
 bif y105 then (some false) else (c (.z14 (IntKind.i64.wrap (z1+1)) z2 z3 z4 z5 z6 z7))) else none) else none) else (some true)
def Q1a.r (n:Nat) (c:Q1a.Z→Option Bool):Q1a.Z→Option Bool
 | .z2=>Q1a.r2 n c
 | .z4 z1 z2 z3 z4 z5 z6 z7=>Q1a.r4 n c z1 z2 z3 z4 z5 z6 z7
 | .z9 z1 z2 z3 z4 z5 z6 z7=>Q1a.r9 n c z1 z2 z3 z4 z5 z6 z7
 | .z14 z1 z2 z3 z4 z5 z6 z7=>Q1a.r14 n c z1 z2 z3 z4 z5 z6 z7
def Q1a.e (n:Nat) (c:Q1a.Z→Option Bool) (a0 a1 a2 a3 a4 a5:List AV):Option Bool:=
 let y1:Bool:=((a0.length:Nat):Int) != ((a3.length:Nat):Int)
 bif y1 then (c .z2) else (let y2:Bool:=((a1.length:Nat):Int) != ((a4.length:Nat):Int)
 bif y2 then (c .z2) else (let y3:Bool:=((a2.length:Nat):Int) != ((a5.length:Nat):Int)
 bif y3 then (c .z2) else (c (.z4 0 a0 a1 a2 a3 a4 a5))))
def Q1a.E (n:Nat) (c:Q1a.Z→Option Bool):Q1a.A→Option Q1a.T:=fun (a0,a1,a2,a3,a4,a5)=>Q1a.e n c a0 a1 a2 a3 a4 a5
def Q1a.l (n:Nat):Nat→Q1a.Z→Option Bool:=loopL (Q1a.r n)
def Q1a.FA (n:Nat):Q1a.A→Option Q1a.T:=Q1a.E n (Q1a.l n n)
theorem Q1a.hands (n:Nat):∀ a p,Q1a.FA n a=some p→HandsIn Tryz.prog 22 (Q1a.i a) (Q1a.p p):=
 pf_hands (C:=Q1a.C n) (cut:=Q1a.cut) (t:=Q1a.t) (s:=Q1a.s) (e:=Q1a.E n) (r:=Q1a.r n) (n:=n) cfg mixed globs rfl Q1a.qi (Q1a.tells n) Tryz.func22 (by kernel_rfl) (by kernel_rfl) (fun rec a=>by kernel_rfl) (fun rec z=>by cases z <;> kernel_rfl)
def Q1a.via {R:Type} (n:Nat):List AV→(AV→Option R)→Option R:=viaK (Q1a.FA n) Q1a.o Q1a.p
theorem Q1a.tells1 {R:Type} (n:Nat) (xs:List AV):Tells1 (R:=R) Tryz.prog 22 xs (Q1a.via n xs):=tells_via Q1a.oi (fun a=>by kernel_rfl) (Q1a.hands n) xs
end Go.Proofs.YtnoldakbllfmnaaGreatDoor.Ev
namespace Go.Proofs.YtnoldakbllfmnaaGreatDoor.Ev
open Go Go.Proofs Go.Proofs.Ev
set_option linter.unusedVariables false
set_option maxRecDepth 100000
def Q3n.F (n:Nat) (s:ByteArray) (t:ByteArray):Option (ByteArray × ByteArray × Bool):=bif decide (s.size < 4294967281) then Option.some ((⟨(Lib.cut s.data.toList t.data.toList).1.toArray⟩,⟨(Lib.cut s.data.toList t.data.toList).2.1.toArray⟩,(Lib.cut s.data.toList t.data.toList).2.2)) else none
theorem Q3n.hands (n:Nat) (s:ByteArray) (t:ByteArray) {p:ByteArray × ByteArray × Bool} (h:Q3n.F n s t=some p):HandsIn Tryz.prog 60 [.v (.string s),.v (.string t)] (.tup [.v (.string p.1),.v (.string p.2.1),.v (.bool p.2.2)]):=by
 unfold Q3n.F at h
 cases hc:(decide (s.size < 4294967281)) with
 | false=>rw [hc] at h; cases h
 | true=>
  rw [hc] at h
  cases h
  refine hands_calls (fn:=Tryz.f60) Tryz.func60 (by kernel_rfl) (by kernel_rfl) fun w F vals hQ hF hl hr=>?_
  obtain ⟨u0,u1,rfl,h0,h1⟩:=vals2 hl hr
  obtain rfl:=rel_v h0
  obtain rfl:=rel_v h1
  refine (Tryz.strings_Cut_shaped s t w (Rooted.opened _ hQ) (of_decide_eq_true hc)).mono ?_
  rintro e w' ⟨rfl,n,rfl⟩
  exact ⟨F,fun _=>none,Came.of_below hF ⟨rfl,rfl,rfl,Nat.le_refl _,fun _ _=>rfl⟩,#[_,_,_],rfl,rfl,.v _ rfl,.v _ rfl,.v _ rfl,trivial⟩
def Q3n.via {R:Type} (n:Nat) (ys:List AV):(AV→Option R)→Option R:=match ys with | [.v (.string s),.v (.string t)]=>fun K=>(Q3n.F n s t).bind fun p=>K (.tup [.v (.string p.1),.v (.string p.2.1),.v (.bool p.2.2)]) | _=>fun _=>none
theorem Q3n.tells1 {R:Type} (n:Nat) (ys:List AV):Tells1 (R:=R) Tryz.prog 60 ys (Q3n.via n ys):=by
 unfold Q3n.via
 split
 ·exact Tells1.of (fun p hp=>(Q3n.hands n _ _ hp).hands rfl)
 ·exact Tells1.none
end Go.Proofs.YtnoldakbllfmnaaGreatDoor.Ev
namespace Go.Proofs.YtnoldakbllfmnaaGreatDoor.Ev
open Go Go.Proofs Go.Proofs.Ev
set_option linter.unusedVariables false
set_option maxRecDepth 100000
abbrev Q40.A:=ByteArray × ByteArray
abbrev Q40.T:=Bool
def Q40.i:Q40.A→List AV:=fun (a0,a1)=>[vs a0,vs a1]
def Q40.o (xs:List AV):Option Q40.A:=match xs with | [.v (.string a0),.v (.string a1)]=>some (a0,a1) | _=>none
theorem Q40.oi:∀ xs a,Q40.o xs=some a→xs=Q40.i a:=by
 intro xs a h
 unfold Q40.o at h
 split at h
 ·cases h; rfl
 ·cases h
def Q40.p (p:Q40.T):AV:=vb p
def Q40.q (x:AV):Option Q40.T:=match x with | .v (.bool p0)=>some p0 | _=>none
theorem Q40.qi:∀ x p,Q40.q x=some p→x=Q40.p p:=by
 intro x p h
 unfold Q40.q at h
 split at h
 ·cases h; rfl
 ·cases h
def Q40.C {R:Type} (n:Nat) (f:FuncId) (xs:List AV):(AV→Option R)→Option R:=
 fun _=>none
theorem Q40.tells {R:Type} (n:Nat):Tells (R:=R) Tryz.prog (Q40.C n):=fun _ xs=>Tells1.none
def Q40.cut (r:Nat):Option Keep:=match r with  | _=>none
def Q40.e (n:Nat) (a0 a1:ByteArray):Option Bool:=
 let y1:Bool:=decide (((a0.size:Nat):Int)≥((a1.size:Nat):Int))
 bif y1 then (bif decide ((0:Int)≤((a1.size:Nat):Int))&&decide ((((a1.size:Nat):Int):Int)≤((a0.size:Nat):Int)) then (let y2:ByteArray:=a0.extract 0 (((a1.size:Nat):Int)).toNat
 some (y2.toList==a1.toList)) else none) else (some false)
def Q40.E (n:Nat):Q40.A→Option Q40.T:=fun (a0,a1)=>Q40.e n a0 a1
def Q40.F (n:Nat) (a0 a1:ByteArray):Option Bool:=Q40.e n a0 a1
def Q40.FA (n:Nat):Q40.A→Option Q40.T:=Q40.E n
theorem Q40.hands (n:Nat):∀ a p,Q40.FA n a=some p→HandsIn Tryz.prog 104 (Q40.i a) (Q40.p p):=
 pf_hands (C:=Q40.C n) (cut:=Q40.cut) (Z:=Empty) (t:=nofun) (s:=nofun) (e:=fun _=>Q40.E n) (r:=fun _ z=>nomatch z) (n:=n) cfg mixed globs rfl Q40.qi (Q40.tells n) Tryz.func104 (by kernel_rfl) (by kernel_rfl) (fun rec a=>by kernel_rfl) (fun rec z=>nomatch z)
def Q40.via {R:Type} (n:Nat):List AV→(AV→Option R)→Option R:=viaK (Q40.FA n) Q40.o Q40.p
theorem Q40.tells1 {R:Type} (n:Nat) (xs:List AV):Tells1 (R:=R) Tryz.prog 104 xs (Q40.via n xs):=tells_via Q40.oi (fun a=>by kernel_rfl) (Q40.hands n) xs
end Go.Proofs.YtnoldakbllfmnaaGreatDoor.Ev
namespace Go.Proofs.YtnoldakbllfmnaaGreatDoor.Ev
open Go Go.Proofs Go.Proofs.Ev
set_option linter.unusedVariables false
set_option maxRecDepth 100000
abbrev Q3y.A:=ByteArray × ByteArray
abbrev Q3y.T:=ByteArray × Bool
def Q3y.i:Q3y.A→List AV:=fun (a0,a1)=>[vs a0,vs a1]
def Q3y.o (xs:List AV):Option Q3y.A:=match xs with | [.v (.string a0),.v (.string a1)]=>some (a0,a1) | _=>none
theorem Q3y.oi:∀ xs a,Q3y.o xs=some a→xs=Q3y.i a:=by
 intro xs a h
 unfold Q3y.o at h
 split at h
 ·cases h; rfl
 ·cases h
def Q3y.p (p:Q3y.T):AV:=.tup [vs p.1,vb p.2]
def Q3y.q (x:AV):Option Q3y.T:=match x with | .tup [.v (.string p0),.v (.bool p1)]=>some (p0,p1) | _=>none
theorem Q3y.qi:∀ x p,Q3y.q x=some p→x=Q3y.p p:=by
 intro x p h
 unfold Q3y.q at h
 split at h
 ·cases h; rfl
 ·cases h
def Q3y.C {R:Type} (n:Nat) (f:FuncId) (xs:List AV):(AV→Option R)→Option R:=
 bif Nat.beq f 104 then Q40.via n xs else fun _=>none
theorem Q3y.tells {R:Type} (n:Nat):Tells (R:=R) Tryz.prog (Q3y.C n):=fun _ xs=>tells_at (Q40.tells1 n xs) (Tells1.none)
def Q3y.cut (r:Nat):Option Keep:=match r with  | _=>none
def Q3y.e (n:Nat) (a0 a1:ByteArray):Option (ByteArray × Bool):=
 (Q40.F n a0 a1).bind fun p1=>
 bif !p1 then (some (a0,false)) else (bif decide ((0:Int)≤((a1.size:Nat):Int))&&decide ((((a1.size:Nat):Int):Int)≤((a0.size:Nat):Int)) then (let y2:ByteArray:=a0.extract (((a1.size:Nat):Int)).toNat a0.size
 some (y2,true)) else none)
def Q3y.E (n:Nat):Q3y.A→Option Q3y.T:=fun (a0,a1)=>Q3y.e n a0 a1
def Q3y.F (n:Nat) (a0 a1:ByteArray):Option (ByteArray × Bool):=Q3y.e n a0 a1
def Q3y.FA (n:Nat):Q3y.A→Option Q3y.T:=Q3y.E n
theorem Q3y.hands (n:Nat):∀ a p,Q3y.FA n a=some p→HandsIn Tryz.prog 152 (Q3y.i a) (Q3y.p p):=
 pf_hands (C:=Q3y.C n) (cut:=Q3y.cut) (Z:=Empty) (t:=nofun) (s:=nofun) (e:=fun _=>Q3y.E n) (r:=fun _ z=>nomatch z) (n:=n) cfg mixed globs rfl Q3y.qi (Q3y.tells n) Tryz.func152 (by kernel_rfl) (by kernel_rfl) (fun rec a=>by kernel_rfl) (fun rec z=>nomatch z)
def Q3y.via {R:Type} (n:Nat):List AV→(AV→Option R)→Option R:=viaK (Q3y.FA n) Q3y.o Q3y.p
theorem Q3y.tells1 {R:Type} (n:Nat) (xs:List AV):Tells1 (R:=R) Tryz.prog 152 xs (Q3y.via n xs):=tells_via Q3y.oi (fun a=>by kernel_rfl) (Q3y.hands n) xs
end Go.Proofs.YtnoldakbllfmnaaGreatDoor.Ev
namespace Go.Proofs.YtnoldakbllfmnaaGreatDoor.Ev
open Go Go.Proofs Go.Proofs.Ev
set_option linter.unusedVariables false
set_option maxRecDepth 100000
abbrev Q3o.A:=ByteArray × ByteArray
abbrev Q3o.T:=ByteArray × Bool
def Q3o.i:Q3o.A→List AV:=fun (a0,a1)=>[vs a0,vs a1]
def Q3o.o (xs:List AV):Option Q3o.A:=match xs with | [.v (.string a0),.v (.string a1)]=>some (a0,a1) | _=>none
theorem Q3o.oi:∀ xs a,Q3o.o xs=some a→xs=Q3o.i a:=by
 intro xs a h
 unfold Q3o.o at h
 split at h
 ·cases h; rfl
 ·cases h
def Q3o.p (p:Q3o.T):AV:=.tup [vs p.1,vb p.2]
def Q3o.q (x:AV):Option Q3o.T:=match x with | .tup [.v (.string p0),.v (.bool p1)]=>some (p0,p1) | _=>none
theorem Q3o.qi:∀ x p,Q3o.q x=some p→x=Q3o.p p:=by
 intro x p h
 unfold Q3o.q at h
 split at h
 ·cases h; rfl
 ·cases h
def Q3o.C {R:Type} (n:Nat) (f:FuncId) (xs:List AV):(AV→Option R)→Option R:=
 bif Nat.beq f 152 then Q3y.via n xs else fun _=>none
theorem Q3o.tells {R:Type} (n:Nat):Tells (R:=R) Tryz.prog (Q3o.C n):=fun _ xs=>tells_at (Q3y.tells1 n xs) (Tells1.none)
def Q3o.cut (r:Nat):Option Keep:=match r with  | _=>none
def Q3o.e (n:Nat) (a0 a1:ByteArray):Option (ByteArray × Bool):=
 (Q3y.F n a0 a1).bind fun p1=>
 some (p1.1,p1.2)
def Q3o.E (n:Nat):Q3o.A→Option Q3o.T:=fun (a0,a1)=>Q3o.e n a0 a1
def Q3o.F (n:Nat) (a0 a1:ByteArray):Option (ByteArray × Bool):=Q3o.e n a0 a1
def Q3o.FA (n:Nat):Q3o.A→Option Q3o.T:=Q3o.E n
theorem Q3o.hands (n:Nat):∀ a p,Q3o.FA n a=some p→HandsIn Tryz.prog 105 (Q3o.i a) (Q3o.p p):=
 pf_hands (C:=Q3o.C n) (cut:=Q3o.cut) (Z:=Empty) (t:=nofun) (s:=nofun) (e:=fun _=>Q3o.E n) (r:=fun _ z=>nomatch z) (n:=n) cfg mixed globs rfl Q3o.qi (Q3o.tells n) Tryz.func105 (by kernel_rfl) (by kernel_rfl) (fun rec a=>by kernel_rfl) (fun rec z=>nomatch z)
def Q3o.via {R:Type} (n:Nat):List AV→(AV→Option R)→Option R:=viaK (Q3o.FA n) Q3o.o Q3o.p
theorem Q3o.tells1 {R:Type} (n:Nat) (xs:List AV):Tells1 (R:=R) Tryz.prog 105 xs (Q3o.via n xs):=tells_via Q3o.oi (fun a=>by kernel_rfl) (Q3o.hands n) xs
end Go.Proofs.YtnoldakbllfmnaaGreatDoor.Ev
namespace Go.Proofs.YtnoldakbllfmnaaGreatDoor.Ev
open Go Go.Proofs Go.Proofs.Ev
set_option linter.unusedVariables false
set_option maxRecDepth 100000
def Q3l.F (n:Nat) (s:ByteArray):Option (Int × Bool):=bif decide (s.size≤281474976710656) then Option.some (atoiR s.data.toList) else none
theorem Q3l.hands (n:Nat) (s:ByteArray) {p:Int × Bool} (h:Q3l.F n s=some p):HandsIn Tryz.prog 157 [.v (.string s)] (.tup [.v (.int .i64 p.1),.err p.2]):=by
 unfold Q3l.F at h
 cases hc:(decide (s.size≤281474976710656)) with
 | false=>rw [hc] at h; cases h
 | true=>
  rw [hc] at h
  cases h
  refine hands_calls (fn:=Tryz.f157) Tryz.func157 (by kernel_rfl) (by kernel_rfl) fun w F vals hQ hF hl hr=>?_
  obtain ⟨u0,rfl,h0⟩:=vals1 hl hr
  obtain rfl:=rel_v h0
  exact atoi_calls Tryz.laysC172 hF s (of_decide_eq_true hc) (Sents.at hQ.1 rfl) (Sents.at hQ.1 rfl)
def Q3l.via {R:Type} (n:Nat) (ys:List AV):(AV→Option R)→Option R:=match ys with | [.v (.string s)]=>fun K=>(Q3l.F n s).bind fun p=>K (.tup [.v (.int .i64 p.1),.err p.2]) | _=>fun _=>none
theorem Q3l.tells1 {R:Type} (n:Nat) (ys:List AV):Tells1 (R:=R) Tryz.prog 157 ys (Q3l.via n ys):=by
 unfold Q3l.via
 split
 ·exact Tells1.of (fun p hp=>(Q3l.hands n _ hp).hands rfl)
 ·exact Tells1.none
end Go.Proofs.YtnoldakbllfmnaaGreatDoor.Ev
end
