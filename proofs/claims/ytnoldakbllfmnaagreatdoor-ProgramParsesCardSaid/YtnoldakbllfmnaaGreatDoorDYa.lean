import Derived.Test.YtnoldakbllfmnaaGreatDoorDYVc
import Derived.Test.YtnoldakbllfmnaaGreatDoorProg
import Derived.KernelRfl
import Derived.Shelf.Strings.Builder1
import Derived.Shelf.Strings.Builder2
import Derived.Shelf.Strings.OnBuilder
import Derived.Shelf.Strings.Trim
import Derived.Shelf.Small.Utf8
import Derived.Shelf.Small.Strs
import Derived.Shelf.Strings.BuilderF
import Derived.Shelf.Strconv.Atoi
import Derived.Shelf.Strconv.Itoa0
import Derived.Shelf.Strconv.Itoa1
import Derived.Shelf.LaysM
import Derived.Shelf.Strconv.Itoa2
import Derived.Shelf.Strconv.Itoa3
import Derived.Shelf.Strconv.AtoiErrFast
import Derived.Shelf.Strconv.ParseIntEmpty
import Derived.Shelf.Strconv.AtoiFail
import Derived.Shelf.Strconv.Clone
import Derived.Shelf.Strconv.SyntaxError
import Derived.Shelf.LaysC
import Derived.Shelf.Strconv.ToError
import Derived.Shelf.Strconv.Lower
import Derived.Shelf.Strconv.ParseUint10
import Derived.Shelf.Strconv.ParseUint10Empty
import Derived.Shelf.Strconv.ParseUint10Any
import Derived.Shelf.Strconv.ParseInt10
import Derived.Shelf.Strconv.AtoiLong
import Derived.Shelf.Strconv.AtoiInnerAll
import Derived.Shelf.Strconv.RangeError
import Derived.Shelf.Strconv.ToErrorRange
import Derived.Shelf.Strconv.AtoiAll
import Derived.Shelf.Strconv.ErrVarAll
import Derived.Shelf.Strings.Search1
import Derived.Shelf.Strings.Search2
import Derived.Shelf.Strings.Search3
import Derived.Shelf.Strings.Cut
import Derived.Shelf.Strings.Count
import Derived.Shelf.Strings.Shaped
import Derived.Shelf.Strings.Prefix
import Derived.Shelf.Strings.Split
import Derived.Shelf.Strings.Replace
import Derived.Shelf.Strings.SplitShaped
import Derived.Shelf.Strings.Runes
import Derived.Shelf.Strings.AsciiSet
import Derived.Shelf.Bits.Mul64
import Derived.Shelf.Strings.Repeat
import Derived.Shelf.Unicode.DecodeSlow
import Derived.Ground.Names2Prog
import Derived.Shelf.Slices.CompactI
import Derived.Shelf.Slices.In.SortNone
import Derived.Shelf.Strings.SlTrimAscii
set_option linter.all false
set_option maxRecDepth 100000
noncomputable section
namespace Go.Proofs.YtnoldakbllfmnaaGreatDoor.Ev
open Go Go.Proofs Go.Proofs.Ev
def Lv:List (Option TI):=[
 none,
 Option.some ⟨.other,1,8,false,[.any],[.nilFunc],1⟩,
 Option.some ⟨.int .i64,1,8,false,[(.int .i64)],[.int .i64 0],2⟩,
 Option.some ⟨.int .i64,1,8,false,[(.int .i64)],[.int .i64 0],3⟩,
 Option.some ⟨.bool,1,1,false,[.bool],[.bool false],4⟩,
 Option.some ⟨.int .u8,1,1,false,[(.int .u8)],[.int .u8 0],5⟩,
 none,
 none,
 none,
 Option.some ⟨.string,1,16,false,[.str],[.string ⟨#[]⟩],9⟩,
 none,
 none,
 Option.some ⟨.int .u64,1,8,false,[(.int .u64)],[.int .u64 0],12⟩,
 none,
 none,
 Option.some ⟨.ptr 298,1,8,false,[.any],[.pointer none],15⟩,
 Option.some ⟨.ptr 301,1,8,false,[.any],[.pointer none],16⟩,
 Option.some ⟨.ptr 308,1,8,false,[.any],[.pointer none],17⟩,
 none,
 none,
 Option.some ⟨.iface,1,16,false,[.any],[.nilIface],20⟩,
 Option.some ⟨.int .i32,1,4,false,[(.int .i32)],[.int .i32 0],21⟩,
 Option.some ⟨.slice 74,1,24,false,[(.slice ⟨true,74,false⟩ 10)],[.slice none 0 0],22⟩,
 Option.some ⟨.slice 86,1,24,false,[(.slice ⟨false,86,false⟩ 2)],[.slice none 0 0],23⟩,
 Option.some ⟨.slice 82,1,24,false,[(.slice ⟨true,82,false⟩ 4)],[.slice none 0 0],24⟩,
 Option.some ⟨.struct [(22,0),(23,1),(24,2)],3,72,true,[(.slice ⟨true,74,false⟩ 10),(.slice ⟨false,86,false⟩ 2),(.slice ⟨true,82,false⟩ 4)],[.slice none 0 0,.slice none 0 0,.slice none 0 0],25⟩,
 Option.some ⟨.struct [(22,0),(23,1),(24,2)],3,72,true,[(.slice ⟨true,74,false⟩ 10),(.slice ⟨false,86,false⟩ 2),(.slice ⟨true,82,false⟩ 4)],[.slice none 0 0,.slice none 0 0,.slice none 0 0],26⟩,
 Option.some ⟨.other,1,8,false,[.any],[.nilFunc],27⟩,
 Option.some ⟨.other,1,8,false,[.any],[.nilFunc],28⟩,
 Option.some ⟨.struct [(3,0),(3,1)],2,16,true,[(.int .i64),(.int .i64)],[.int .i64 0,.int .i64 0],29⟩,
 Option.some ⟨.struct [(3,0),(3,1)],2,16,true,[(.int .i64),(.int .i64)],[.int .i64 0,.int .i64 0],30⟩,
 Option.some ⟨.int .i64,1,8,false,[(.int .i64)],[.int .i64 0],31⟩,
 none,
 Option.some ⟨.other,1,8,false,[.any],[.nilFunc],33⟩,
 Option.some ⟨.other,1,8,false,[.any],[.nilFunc],34⟩,
 none,
 Option.some ⟨.other,1,8,false,[.any],[.nilFunc],36⟩,
 none,
 Option.some ⟨.other,1,8,false,[.any],[.nilFunc],38⟩,
 Option.some ⟨.other,1,8,false,[.any],[.nilFunc],39⟩,
 Option.some ⟨.other,1,8,false,[.any],[.nilFunc],40⟩,
 none,
 Option.some ⟨.other,1,8,false,[.any],[.nilFunc],42⟩,
 none,
 Option.some ⟨.other,1,8,false,[.any],[.nilFunc],44⟩,
 Option.some ⟨.other,1,8,false,[.any],[.nilFunc],45⟩,
 Option.some ⟨.other,1,8,false,[.any],[.nilFunc],46⟩,
 Option.some ⟨.other,1,8,false,[.any],[.nilFunc],47⟩,
 none,
 Option.some ⟨.other,1,8,false,[.any],[.nilFunc],49⟩,
 Option.some ⟨.slice 3,1,24,false,[(.slice ⟨true,3,false⟩ 1)],[.slice none 0 0],50⟩,
 none,
 Option.some ⟨.other,1,8,false,[.any],[.nilFunc],52⟩,
 Option.some ⟨.other,1,8,false,[.any],[.nilFunc],53⟩,
 Option.some ⟨.other,1,8,false,[.any],[.nilFunc],54⟩,
 Option.some ⟨.other,1,8,false,[.any],[.nilFunc],55⟩,
 Option.some ⟨.other,1,8,false,[.any],[.nilFunc],56⟩,
 Option.some ⟨.other,1,8,false,[.any],[.nilFunc],57⟩,
 none,
 Option.some ⟨.other,1,8,false,[.any],[.nilFunc],59⟩,
 Option.some ⟨.slice 4,1,24,false,[(.slice ⟨true,4,false⟩ 1)],[.slice none 0 0],60⟩,
 Option.some ⟨.struct [(9,0),(60,1)],2,40,true,[.str,(.slice ⟨true,4,false⟩ 1)],[.string ⟨#[]⟩,.slice none 0 0],61⟩,
 Option.some ⟨.struct [(9,0),(60,1)],2,40,true,[.str,(.slice ⟨true,4,false⟩ 1)],[.string ⟨#[]⟩,.slice none 0 0],62⟩,
 none,
 Option.some ⟨.other,1,8,false,[.any],[.nilFunc],64⟩,
 none,
 Option.some ⟨.other,1,8,false,[.any],[.nilFunc],66⟩,
 Option.some ⟨.other,1,8,false,[.any],[.nilFunc],67⟩,
 Option.some ⟨.other,1,8,false,[.any],[.nilFunc],68⟩,
 Option.some ⟨.struct [(3,0),(3,1),(3,2)],3,24,true,[(.int .i64),(.int .i64),(.int .i64)],[.int .i64 0,.int .i64 0,.int .i64 0],69⟩,
 Option.some ⟨.struct [(3,0),(3,1),(3,2)],3,24,true,[(.int .i64),(.int .i64),(.int .i64)],[.int .i64 0,.int .i64 0,.int .i64 0],70⟩,
 Option.some ⟨.struct [(3,0),(9,1)],2,24,true,[(.int .i64),.str],[.int .i64 0,.string ⟨#[]⟩],71⟩,
 Option.some ⟨.struct [(3,0),(9,1)],2,24,true,[(.int .i64),.str],[.int .i64 0,.string ⟨#[]⟩],72⟩,
 Option.some ⟨.struct [(9,0),(3,1),(70,2),(72,5),(9,7),(3,8),(3,9)],10,104,true,[.str,(.int .i64),(.int .i64),(.int .i64),(.int .i64),(.int .i64),.str,.str,(.int .i64),(.int .i64)],[.string ⟨#[]⟩,.int .i64 0,.int .i64 0,.int .i64 0,.int .i64 0,.int .i64 0,.string ⟨#[]⟩,.string ⟨#[]⟩,.int .i64 0,.int .i64 0],73⟩,
 Option.some ⟨.struct [(9,0),(3,1),(70,2),(72,5),(9,7),(3,8),(3,9)],10,104,true,[.str,(.int .i64),(.int .i64),(.int .i64),(.int .i64),(.int .i64),.str,.str,(.int .i64),(.int .i64)],[.string ⟨#[]⟩,.int .i64 0,.int .i64 0,.int .i64 0,.int .i64 0,.int .i64 0,.string ⟨#[]⟩,.string ⟨#[]⟩,.int .i64 0,.int .i64 0],74⟩,
 Option.some ⟨.other,1,8,false,[.any],[.nilFunc],75⟩,
 none,
 Option.some ⟨.other,1,8,false,[.any],[.nilFunc],77⟩,
 Option.some ⟨.other,1,8,false,[.any],[.nilFunc],78⟩,
 Option.some ⟨.other,1,8,false,[.any],[.nilFunc],79⟩,
 Option.some ⟨.other,1,8,false,[.any],[.nilFunc],80⟩,
 Option.some ⟨.struct [(3,0),(3,1),(3,2),(3,3)],4,32,true,[(.int .i64),(.int .i64),(.int .i64),(.int .i64)],[.int .i64 0,.int .i64 0,.int .i64 0,.int .i64 0],81⟩,
 Option.some ⟨.struct [(3,0),(3,1),(3,2),(3,3)],4,32,true,[(.int .i64),(.int .i64),(.int .i64),(.int .i64)],[.int .i64 0,.int .i64 0,.int .i64 0,.int .i64 0],82⟩,
 Option.some ⟨.other,1,8,false,[.any],[.nilFunc],83⟩,
 Option.some ⟨.other,1,8,false,[.any],[.nilFunc],84⟩,
 Option.some ⟨.struct [(3,0),(50,1)],2,32,true,[(.int .i64),(.slice ⟨true,3,false⟩ 1)],[.int .i64 0,.slice none 0 0],85⟩,
 Option.some ⟨.struct [(3,0),(50,1)],2,32,true,[(.int .i64),(.slice ⟨true,3,false⟩ 1)],[.int .i64 0,.slice none 0 0],86⟩,
 Option.some ⟨.other,1,8,false,[.any],[.nilFunc],87⟩,
 Option.some ⟨.other,1,8,false,[.any],[.nilFunc],88⟩,
 Option.some ⟨.other,1,8,false,[.any],[.nilFunc],89⟩,
 Option.some ⟨.other,1,8,false,[.any],[.nilFunc],90⟩,
 Option.some ⟨.other,1,8,false,[.any],[.nilFunc],91⟩,
 Option.some ⟨.other,1,8,false,[.any],[.nilFunc],92⟩,
 Option.some ⟨.other,1,8,false,[.any],[.nilFunc],93⟩,
 Option.some ⟨.other,1,8,false,[.any],[.nilFunc],94⟩,
 Option.some ⟨.other,1,8,false,[.any],[.nilFunc],95⟩,
 Option.some ⟨.other,1,8,false,[.any],[.nilFunc],96⟩,
 Option.some ⟨.slice 9,1,24,false,[(.slice ⟨true,9,false⟩ 1)],[.slice none 0 0],97⟩,
 Option.some ⟨.other,1,8,false,[.any],[.nilFunc],98⟩,
 Option.some ⟨.other,1,8,false,[.any],[.nilFunc],99⟩,
 Option.some ⟨.other,1,8,false,[.any],[.nilFunc],100⟩,
 Option.some ⟨.other,1,8,false,[.any],[.nilFunc],101⟩,
 Option.some ⟨.other,1,8,false,[.any],[.nilFunc],102⟩,
 Option.some ⟨.other,1,8,false,[.any],[.nilFunc],103⟩,
 Option.some ⟨.slice 109,1,24,false,[(.slice ⟨false,109,false⟩ 18)],[.slice none 0 0],104⟩,
 none,
 Option.some ⟨.other,1,8,false,[.any],[.nilFunc],106⟩,
 Option.some ⟨.other,1,8,false,[.any],[.nilFunc],107⟩,
 Option.some ⟨.struct [(3,0),(3,1),(74,2),(3,12),(97,13),(82,14)],18,184,true,[(.int .i64),(.int .i64),.str,(.int .i64),(.int .i64),(.int .i64),(.int .i64),(.int .i64),.str,.str,(.int .i64),(.int .i64),(.int .i64),(.slice ⟨true,9,false⟩ 1),(.int .i64),(.int .i64),(.int .i64),(.int .i64)],[.int .i64 0,.int .i64 0,.string ⟨#[]⟩,.int .i64 0,.int .i64 0,.int .i64 0,.int .i64 0,.int .i64 0,.string ⟨#[]⟩,.string ⟨#[]⟩,.int .i64 0,.int .i64 0,.int .i64 0,.slice none 0 0,.int .i64 0,.int .i64 0,.int .i64 0,.int .i64 0],108⟩,
 Option.some ⟨.struct [(3,0),(3,1),(74,2),(3,12),(97,13),(82,14)],18,184,true,[(.int .i64),(.int .i64),.str,(.int .i64),(.int .i64),(.int .i64),(.int .i64),(.int .i64),.str,.str,(.int .i64),(.int .i64),(.int .i64),(.slice ⟨true,9,false⟩ 1),(.int .i64),(.int .i64),(.int .i64),(.int .i64)],[.int .i64 0,.int .i64 0,.string ⟨#[]⟩,.int .i64 0,.int .i64 0,.int .i64 0,.int .i64 0,.int .i64 0,.string ⟨#[]⟩,.string ⟨#[]⟩,.int .i64 0,.int .i64 0,.int .i64 0,.slice none 0 0,.int .i64 0,.int .i64 0,.int .i64 0,.int .i64 0],109⟩,
 none,
 Option.some ⟨.other,1,8,false,[.any],[.nilFunc],111⟩,
 Option.some ⟨.other,1,8,false,[.any],[.nilFunc],112⟩,
 Option.some ⟨.slice 115,1,24,false,[(.slice ⟨false,115,false⟩ 18)],[.slice none 0 0],113⟩,
 Option.some ⟨.struct [(3,0),(3,1),(74,2),(3,12),(97,13),(82,14)],18,184,true,[(.int .i64),(.int .i64),.str,(.int .i64),(.int .i64),(.int .i64),(.int .i64),(.int .i64),.str,.str,(.int .i64),(.int .i64),(.int .i64),(.slice ⟨true,9,false⟩ 1),(.int .i64),(.int .i64),(.int .i64),(.int .i64)],[.int .i64 0,.int .i64 0,.string ⟨#[]⟩,.int .i64 0,.int .i64 0,.int .i64 0,.int .i64 0,.int .i64 0,.string ⟨#[]⟩,.string ⟨#[]⟩,.int .i64 0,.int .i64 0,.int .i64 0,.slice none 0 0,.int .i64 0,.int .i64 0,.int .i64 0,.int .i64 0],114⟩,
 Option.some ⟨.struct [(3,0),(3,1),(74,2),(3,12),(97,13),(82,14)],18,184,true,[(.int .i64),(.int .i64),.str,(.int .i64),(.int .i64),(.int .i64),(.int .i64),(.int .i64),.str,.str,(.int .i64),(.int .i64),(.int .i64),(.slice ⟨true,9,false⟩ 1),(.int .i64),(.int .i64),(.int .i64),(.int .i64)],[.int .i64 0,.int .i64 0,.string ⟨#[]⟩,.int .i64 0,.int .i64 0,.int .i64 0,.int .i64 0,.int .i64 0,.string ⟨#[]⟩,.string ⟨#[]⟩,.int .i64 0,.int .i64 0,.int .i64 0,.slice none 0 0,.int .i64 0,.int .i64 0,.int .i64 0,.int .i64 0],115⟩,
 none,
 Option.some ⟨.other,1,8,false,[.any],[.nilFunc],117⟩,
 Option.some ⟨.arr 4 50,4,96,true,[(.slice ⟨true,3,false⟩ 1),(.slice ⟨true,3,false⟩ 1),(.slice ⟨true,3,false⟩ 1),(.slice ⟨true,3,false⟩ 1)],[.slice none 0 0,.slice none 0 0,.slice none 0 0,.slice none 0 0],118⟩,
 Option.some ⟨.other,1,8,false,[.any],[.nilFunc],119⟩,
 Option.some ⟨.other,1,8,false,[.any],[.nilFunc],120⟩,
 Option.some ⟨.other,1,8,false,[.any],[.nilFunc],121⟩,
 Option.some ⟨.other,1,8,false,[.any],[.nilFunc],122⟩,
 Option.some ⟨.other,1,8,false,[.any],[.nilFunc],123⟩,
 Option.some ⟨.other,1,8,false,[.any],[.nilFunc],124⟩,
 Option.some ⟨.other,1,8,false,[.any],[.nilFunc],125⟩,
 Option.some ⟨.other,1,8,false,[.any],[.nilFunc],126⟩,
 Option.some ⟨.other,1,8,false,[.any],[.nilFunc],127⟩,
 Option.some ⟨.other,1,8,false,[.any],[.nilFunc],128⟩,
 Option.some ⟨.other,1,8,false,[.any],[.nilFunc],129⟩,
 Option.some ⟨.slice 31,1,24,false,[(.slice ⟨true,31,false⟩ 1)],[.slice none 0 0],130⟩,
 Option.some ⟨.other,1,8,false,[.any],[.nilFunc],131⟩,
 Option.some ⟨.other,1,8,false,[.any],[.nilFunc],132⟩,
 Option.some ⟨.other,1,8,false,[.any],[.nilFunc],133⟩,
 Option.some ⟨.other,1,8,false,[.any],[.nilFunc],134⟩,
 Option.some ⟨.other,1,8,false,[.any],[.nilFunc],135⟩,
 Option.some ⟨.other,1,8,false,[.any],[.nilFunc],136⟩,
 Option.some ⟨.other,1,8,false,[.any],[.nilFunc],137⟩,
 Option.some ⟨.arr 19 50,19,456,true,[(.slice ⟨true,3,false⟩ 1),(.slice ⟨true,3,false⟩ 1),(.slice ⟨true,3,false⟩ 1),(.slice ⟨true,3,false⟩ 1),(.slice ⟨true,3,false⟩ 1),(.slice ⟨true,3,false⟩ 1),(.slice ⟨true,3,false⟩ 1),(.slice ⟨true,3,false⟩ 1),(.slice ⟨true,3,false⟩ 1),(.slice ⟨true,3,false⟩ 1),(.slice ⟨true,3,false⟩ 1),(.slice ⟨true,3,false⟩ 1),(.slice ⟨true,3,false⟩ 1),(.slice ⟨true,3,false⟩ 1),(.slice ⟨true,3,false⟩ 1),(.slice ⟨true,3,false⟩ 1),(.slice ⟨true,3,false⟩ 1),(.slice ⟨true,3,false⟩ 1),(.slice ⟨true,3,false⟩ 1)],[.slice none 0 0,.slice none 0 0,.slice none 0 0,.slice none 0 0,.slice none 0 0,.slice none 0 0,.slice none 0 0,.slice none 0 0,.slice none 0 0,.slice none 0 0,.slice none 0 0,.slice none 0 0,.slice none 0 0,.slice none 0 0,.slice none 0 0,.slice none 0 0,.slice none 0 0,.slice none 0 0,.slice none 0 0],138⟩,
 Option.some ⟨.other,1,8,false,[.any],[.nilFunc],139⟩,
 Option.some ⟨.other,1,8,false,[.any],[.nilFunc],140⟩,
 Option.some ⟨.other,1,8,false,[.any],[.nilFunc],141⟩,
 Option.some ⟨.other,1,8,false,[.any],[.nilFunc],142⟩,
 Option.some ⟨.other,1,8,false,[.any],[.nilFunc],143⟩,
 Option.some ⟨.arr 19 9,19,304,true,[.str,.str,.str,.str,.str,.str,.str,.str,.str,.str,.str,.str,.str,.str,.str,.str,.str,.str,.str],[.string ⟨#[]⟩,.string ⟨#[]⟩,.string ⟨#[]⟩,.string ⟨#[]⟩,.string ⟨#[]⟩,.string ⟨#[]⟩,.string ⟨#[]⟩,.string ⟨#[]⟩,.string ⟨#[]⟩,.string ⟨#[]⟩,.string ⟨#[]⟩,.string ⟨#[]⟩,.string ⟨#[]⟩,.string ⟨#[]⟩,.string ⟨#[]⟩,.string ⟨#[]⟩,.string ⟨#[]⟩,.string ⟨#[]⟩,.string ⟨#[]⟩],144⟩,
 Option.some ⟨.ptr 148,1,8,false,[.any],[.pointer none],145⟩,
 Option.some ⟨.slice 5,1,24,false,[(.slice ⟨true,5,false⟩ 1)],[.slice none 0 0],146⟩,
 Option.some ⟨.struct [(145,0),(146,1)],2,32,true,[.any,(.slice ⟨true,5,false⟩ 1)],[.pointer none,.slice none 0 0],147⟩,
 Option.some ⟨.struct [(145,0),(146,1)],2,32,true,[.any,(.slice ⟨true,5,false⟩ 1)],[.pointer none,.slice none 0 0],148⟩,
 Option.some ⟨.other,1,8,false,[.any],[.nilFunc],149⟩,
 Option.some ⟨.iface,1,16,false,[.any],[.nilIface],150⟩,
 Option.some ⟨.iface,1,16,false,[.any],[.nilIface],151⟩,
 none,
 Option.some ⟨.other,1,8,false,[.any],[.nilFunc],153⟩,
 none,
 Option.some ⟨.other,1,8,false,[.any],[.nilFunc],155⟩,
 none,
 Option.some ⟨.other,1,8,false,[.any],[.nilFunc],157⟩,
 Option.some ⟨.other,1,8,false,[.any],[.nilFunc],158⟩,
 none,
 Option.some ⟨.other,1,8,false,[.any],[.nilFunc],160⟩,
 Option.some ⟨.other,1,8,false,[.any],[.nilFunc],161⟩,
 Option.some ⟨.other,1,8,false,[.any],[.nilFunc],162⟩,
 Option.some ⟨.ptr 165,1,8,false,[.any],[.pointer none],163⟩,
 Option.some ⟨.struct [(9,0),(4,1)],2,24,true,[.str,.bool],[.string ⟨#[]⟩,.bool false],164⟩,
 Option.some ⟨.struct [(9,0),(4,1)],2,24,true,[.str,.bool],[.string ⟨#[]⟩,.bool false],165⟩,
 Option.some ⟨.other,1,8,false,[.any],[.nilFunc],166⟩,
 Option.some ⟨.other,1,8,false,[.any],[.nilFunc],167⟩,
 Option.some ⟨.other,1,8,false,[.any],[.nilFunc],168⟩,
 Option.some ⟨.other,1,8,false,[.any],[.nilFunc],169⟩,
 Option.some ⟨.other,1,8,false,[.any],[.nilFunc],170⟩,
 Option.some ⟨.other,1,8,false,[.any],[.nilFunc],171⟩,
 Option.some ⟨.other,1,8,false,[.any],[.nilFunc],172⟩,
 Option.some ⟨.other,1,8,false,[.any],[.nilFunc],173⟩,
 Option.some ⟨.other,1,8,false,[.any],[.nilFunc],174⟩,
 Option.some ⟨.other,1,8,false,[.any],[.nilFunc],175⟩,
 Option.some ⟨.int .u64,1,8,false,[(.int .u64)],[.int .u64 0],176⟩,
 none,
 Option.some ⟨.other,1,8,false,[.any],[.nilFunc],178⟩,
 Option.some ⟨.other,1,8,false,[.any],[.nilFunc],179⟩,
 Option.some ⟨.other,1,8,false,[.any],[.nilFunc],180⟩,
 Option.some ⟨.other,1,8,false,[.any],[.nilFunc],181⟩,
 Option.some ⟨.struct [(3,0),(3,1)],2,16,true,[(.int .i64),(.int .i64)],[.int .i64 0,.int .i64 0],182⟩,
 Option.some ⟨.struct [(3,0),(3,1)],2,16,true,[(.int .i64),(.int .i64)],[.int .i64 0,.int .i64 0],183⟩,
 Option.some ⟨.other,1,8,false,[.any],[.nilFunc],184⟩,
 Option.some ⟨.ptr 5,1,8,false,[.any],[.pointer none],185⟩,
 Option.some ⟨.other,1,8,false,[.any],[.nilFunc],186⟩,
 Option.some ⟨.other,1,8,false,[.any],[.nilFunc],187⟩,
 none,
 Option.some ⟨.other,1,8,false,[.any],[.nilFunc],189⟩,
 none,
 Option.some ⟨.other,1,8,false,[.any],[.nilFunc],191⟩,
 Option.some ⟨.other,1,8,false,[.any],[.nilFunc],192⟩,
 Option.some ⟨.other,1,8,false,[.any],[.nilFunc],193⟩,
 Option.some ⟨.other,1,8,false,[.any],[.nilFunc],194⟩,
 Option.some ⟨.other,1,8,false,[.any],[.nilFunc],195⟩,
 Option.some ⟨.other,1,8,false,[.any],[.nilFunc],196⟩,
 Option.some ⟨.other,1,8,false,[.any],[.nilFunc],197⟩,
 Option.some ⟨.other,1,8,false,[.any],[.nilFunc],198⟩,
 Option.some ⟨.other,1,8,false,[.any],[.nilFunc],199⟩,
 Option.some ⟨.other,1,8,false,[.any],[.nilFunc],200⟩,
 Option.some ⟨.other,1,8,false,[.any],[.nilFunc],201⟩,
 Option.some ⟨.other,1,8,false,[.any],[.nilFunc],202⟩,
 Option.some ⟨.int .u32,1,4,false,[(.int .u32)],[.int .u32 0],203⟩,
 none,
 Option.some ⟨.other,1,8,false,[.any],[.nilFunc],205⟩,
 Option.some ⟨.int .u64,1,8,false,[(.int .u64)],[.int .u64 0],206⟩,
 none,
 Option.some ⟨.other,1,8,false,[.any],[.nilFunc],208⟩,
 Option.some ⟨.other,1,8,false,[.any],[.nilFunc],209⟩,
 Option.some ⟨.other,1,8,false,[.any],[.nilFunc],210⟩,
 Option.some ⟨.other,1,8,false,[.any],[.nilFunc],211⟩,
 Option.some ⟨.other,1,8,false,[.any],[.nilFunc],212⟩,
 none,
 Option.some ⟨.other,1,8,false,[.any],[.nilFunc],214⟩,
 Option.some ⟨.other,1,8,false,[.any],[.nilFunc],215⟩,
 Option.some ⟨.other,1,8,false,[.any],[.nilFunc],216⟩,
 none,
 Option.some ⟨.other,1,8,false,[.any],[.nilFunc],218⟩,
 Option.some ⟨.other,1,8,false,[.any],[.nilFunc],219⟩,
 Option.some ⟨.other,1,8,false,[.any],[.nilFunc],220⟩,
 Option.some ⟨.other,1,8,false,[.any],[.nilFunc],221⟩,
 Option.some ⟨.other,1,8,false,[.any],[.nilFunc],222⟩,
 Option.some ⟨.struct [(183,0),(3,2),(3,3)],4,32,true,[(.int .i64),(.int .i64),(.int .i64),(.int .i64)],[.int .i64 0,.int .i64 0,.int .i64 0,.int .i64 0],223⟩,
 Option.some ⟨.struct [(183,0),(3,2),(3,3)],4,32,true,[(.int .i64),(.int .i64),(.int .i64),(.int .i64)],[.int .i64 0,.int .i64 0,.int .i64 0,.int .i64 0],224⟩,
 Option.some ⟨.other,1,8,false,[.any],[.nilFunc],225⟩,
 Option.some ⟨.struct [(3,0),(3,1)],2,16,true,[(.int .i64),(.int .i64)],[.int .i64 0,.int .i64 0],226⟩,
 Option.some ⟨.struct [(3,0),(3,1)],2,16,true,[(.int .i64),(.int .i64)],[.int .i64 0,.int .i64 0],227⟩,
 Option.some ⟨.struct [(3,0),(227,1),(3,3)],4,32,true,[(.int .i64),(.int .i64),(.int .i64),(.int .i64)],[.int .i64 0,.int .i64 0,.int .i64 0,.int .i64 0],228⟩,
 Option.some ⟨.struct [(3,0),(227,1),(3,3)],4,32,true,[(.int .i64),(.int .i64),(.int .i64),(.int .i64)],[.int .i64 0,.int .i64 0,.int .i64 0,.int .i64 0],229⟩,
 none,
 Option.some ⟨.other,1,8,false,[.any],[.nilFunc],231⟩,
 Option.some ⟨.other,1,8,false,[.any],[.nilFunc],232⟩,
 Option.some ⟨.int .i64,1,8,false,[(.int .i64)],[.int .i64 0],233⟩,
 none,
 Option.some ⟨.other,1,8,false,[.any],[.nilFunc],235⟩,
 Option.some ⟨.other,1,8,false,[.any],[.nilFunc],236⟩,
 Option.some ⟨.other,1,8,false,[.any],[.nilFunc],237⟩,
 Option.some ⟨.other,1,8,false,[.any],[.nilFunc],238⟩,
 Option.some ⟨.other,1,8,false,[.any],[.nilFunc],239⟩,
 Option.some ⟨.other,1,8,false,[.any],[.nilFunc],240⟩,
 Option.some ⟨.other,1,8,false,[.any],[.nilFunc],241⟩,
 Option.some ⟨.other,1,8,false,[.any],[.nilFunc],242⟩,
 none,
 Option.some ⟨.other,1,8,false,[.any],[.nilFunc],244⟩,
 Option.some ⟨.arr 24 5,24,24,true,[(.int .u8),(.int .u8),(.int .u8),(.int .u8),(.int .u8),(.int .u8),(.int .u8),(.int .u8),(.int .u8),(.int .u8),(.int .u8),(.int .u8),(.int .u8),(.int .u8),(.int .u8),(.int .u8),(.int .u8),(.int .u8),(.int .u8),(.int .u8),(.int .u8),(.int .u8),(.int .u8),(.int .u8)],[.int .u8 0,.int .u8 0,.int .u8 0,.int .u8 0,.int .u8 0,.int .u8 0,.int .u8 0,.int .u8 0,.int .u8 0,.int .u8 0,.int .u8 0,.int .u8 0,.int .u8 0,.int .u8 0,.int .u8 0,.int .u8 0,.int .u8 0,.int .u8 0,.int .u8 0,.int .u8 0,.int .u8 0,.int .u8 0,.int .u8 0,.int .u8 0],245⟩,
 Option.some ⟨.other,1,8,false,[.any],[.nilFunc],246⟩,
 none,
 Option.some ⟨.other,1,8,false,[.any],[.nilFunc],248⟩,
 Option.some ⟨.other,1,8,false,[.any],[.nilFunc],249⟩,
 none,
 Option.some ⟨.other,1,8,false,[.any],[.nilFunc],251⟩,
 none,
 none,
 Option.some ⟨.other,1,8,false,[.any],[.nilFunc],254⟩,
 Option.some ⟨.ptr 278,1,8,false,[.any],[.pointer none],255⟩,
 Option.some ⟨.other,1,8,false,[.any],[.nilFunc],256⟩,
 Option.some ⟨.other,1,8,false,[.any],[.nilFunc],257⟩,
 Option.some ⟨.other,1,8,false,[.any],[.nilFunc],258⟩,
 Option.some ⟨.int .u64,1,8,false,[(.int .u64)],[.int .u64 0],259⟩,
 Option.some ⟨.other,1,8,false,[.any],[.nilFunc],260⟩,
 Option.some ⟨.other,1,8,false,[.any],[.nilFunc],261⟩,
 Option.some ⟨.other,1,8,false,[.any],[.nilFunc],262⟩,
 Option.some ⟨.ptr 3,1,8,false,[.any],[.pointer none],263⟩,
 Option.some ⟨.other,1,8,false,[.any],[.nilFunc],264⟩,
 Option.some ⟨.arr 20 206,20,160,true,[(.int .u64),(.int .u64),(.int .u64),(.int .u64),(.int .u64),(.int .u64),(.int .u64),(.int .u64),(.int .u64),(.int .u64),(.int .u64),(.int .u64),(.int .u64),(.int .u64),(.int .u64),(.int .u64),(.int .u64),(.int .u64),(.int .u64),(.int .u64)],[.int .u64 0,.int .u64 0,.int .u64 0,.int .u64 0,.int .u64 0,.int .u64 0,.int .u64 0,.int .u64 0,.int .u64 0,.int .u64 0,.int .u64 0,.int .u64 0,.int .u64 0,.int .u64 0,.int .u64 0,.int .u64 0,.int .u64 0,.int .u64 0,.int .u64 0,.int .u64 0],265⟩,
 Option.some ⟨.arr 65 5,65,65,true,[(.int .u8),(.int .u8),(.int .u8),(.int .u8),(.int .u8),(.int .u8),(.int .u8),(.int .u8),(.int .u8),(.int .u8),(.int .u8),(.int .u8),(.int .u8),(.int .u8),(.int .u8),(.int .u8),(.int .u8),(.int .u8),(.int .u8),(.int .u8),(.int .u8),(.int .u8),(.int .u8),(.int .u8),(.int .u8),(.int .u8),(.int .u8),(.int .u8),(.int .u8),(.int .u8),(.int .u8),(.int .u8),(.int .u8),(.int .u8),(.int .u8),(.int .u8),(.int .u8),(.int .u8),(.int .u8),(.int .u8),(.int .u8),(.int .u8),(.int .u8),(.int .u8),(.int .u8),(.int .u8),(.int .u8),(.int .u8),(.int .u8),(.int .u8),(.int .u8),(.int .u8),(.int .u8),(.int .u8),(.int .u8),(.int .u8),(.int .u8),(.int .u8),(.int .u8),(.int .u8),(.int .u8),(.int .u8),(.int .u8),(.int .u8),(.int .u8)],[.int .u8 0,.int .u8 0,.int .u8 0,.int .u8 0,.int .u8 0,.int .u8 0,.int .u8 0,.int .u8 0,.int .u8 0,.int .u8 0,.int .u8 0,.int .u8 0,.int .u8 0,.int .u8 0,.int .u8 0,.int .u8 0,.int .u8 0,.int .u8 0,.int .u8 0,.int .u8 0,.int .u8 0,.int .u8 0,.int .u8 0,.int .u8 0,.int .u8 0,.int .u8 0,.int .u8 0,.int .u8 0,.int .u8 0,.int .u8 0,.int .u8 0,.int .u8 0,.int .u8 0,.int .u8 0,.int .u8 0,.int .u8 0,.int .u8 0,.int .u8 0,.int .u8 0,.int .u8 0,.int .u8 0,.int .u8 0,.int .u8 0,.int .u8 0,.int .u8 0,.int .u8 0,.int .u8 0,.int .u8 0,.int .u8 0,.int .u8 0,.int .u8 0,.int .u8 0,.int .u8 0,.int .u8 0,.int .u8 0,.int .u8 0,.int .u8 0,.int .u8 0,.int .u8 0,.int .u8 0,.int .u8 0,.int .u8 0,.int .u8 0,.int .u8 0,.int .u8 0],266⟩,
 Option.some ⟨.other,1,8,false,[.any],[.nilFunc],267⟩,
 Option.some ⟨.other,1,8,false,[.any],[.nilFunc],268⟩,
 Option.some ⟨.arr 256 4,256,256,true,[.bool,.bool,.bool,.bool,.bool,.bool,.bool,.bool,.bool,.bool,.bool,.bool,.bool,.bool,.bool,.bool,.bool,.bool,.bool,.bool,.bool,.bool,.bool,.bool,.bool,.bool,.bool,.bool,.bool,.bool,.bool,.bool,.bool,.bool,.bool,.bool,.bool,.bool,.bool,.bool,.bool,.bool,.bool,.bool,.bool,.bool,.bool,.bool,.bool,.bool,.bool,.bool,.bool,.bool,.bool,.bool,.bool,.bool,.bool,.bool,.bool,.bool,.bool,.bool,.bool,.bool,.bool,.bool,.bool,.bool,.bool,.bool,.bool,.bool,.bool,.bool,.bool,.bool,.bool,.bool,.bool,.bool,.bool,.bool,.bool,.bool,.bool,.bool,.bool,.bool,.bool,.bool,.bool,.bool,.bool,.bool,.bool,.bool,.bool,.bool,.bool,.bool,.bool,.bool,.bool,.bool,.bool,.bool,.bool,.bool,.bool,.bool,.bool,.bool,.bool,.bool,.bool,.bool,.bool,.bool,.bool,.bool,.bool,.bool,.bool,.bool,.bool,.bool,.bool,.bool,.bool,.bool,.bool,.bool,.bool,.bool,.bool,.bool,.bool,.bool,.bool,.bool,.bool,.bool,.bool,.bool,.bool,.bool,.bool,.bool,.bool,.bool,.bool,.bool,.bool,.bool,.bool,.bool,.bool,.bool,.bool,.bool,.bool,.bool,.bool,.bool,.bool,.bool,.bool,.bool,.bool,.bool,.bool,.bool,.bool,.bool,.bool,.bool,.bool,.bool,.bool,.bool,.bool,.bool,.bool,.bool,.bool,.bool,.bool,.bool,.bool,.bool,.bool,.bool,.bool,.bool,.bool,.bool,.bool,.bool,.bool,.bool,.bool,.bool,.bool,.bool,.bool,.bool,.bool,.bool,.bool,.bool,.bool,.bool,.bool,.bool,.bool,.bool,.bool,.bool,.bool,.bool,.bool,.bool,.bool,.bool,.bool,.bool,.bool,.bool,.bool,.bool,.bool,.bool,.bool,.bool,.bool,.bool,.bool,.bool,.bool,.bool,.bool,.bool,.bool,.bool,.bool,.bool,.bool,.bool,.bool,.bool,.bool,.bool,.bool,.bool],[.bool false,.bool false,.bool false,.bool false,.bool false,.bool false,.bool false,.bool false,.bool false,.bool false,.bool false,.bool false,.bool false,.bool false,.bool false,.bool false,.bool false,.bool false,.bool false,.bool false,.bool false,.bool false,.bool false,.bool false,.bool false,.bool false,.bool false,.bool false,.bool false,.bool false,.bool false,.bool false,.bool false,.bool false,.bool false,.bool false,.bool false,.bool false,.bool false,.bool false,.bool false,.bool false,.bool false,.bool false,.bool false,.bool false,.bool false,.bool false,.bool false,.bool false,.bool false,.bool false,.bool false,.bool false,.bool false,.bool false,.bool false,.bool false,.bool false,.bool false,.bool false,.bool false,.bool false,.bool false,.bool false,.bool false,.bool false,.bool false,.bool false,.bool false,.bool false,.bool false,.bool false,.bool false,.bool false,.bool false,.bool false,.bool false,.bool false,.bool false,.bool false,.bool false,.bool false,.bool false,.bool false,.bool false,.bool false,.bool false,.bool false,.bool false,.bool false,.bool false,.bool false,.bool false,.bool false,.bool false,.bool false,.bool false,.bool false,.bool false,.bool false,.bool false,.bool false,.bool false,.bool false,.bool false,.bool false,.bool false,.bool false,.bool false,.bool false,.bool false,.bool false,.bool false,.bool false,.bool false,.bool false,.bool false,.bool false,.bool false,.bool false,.bool false,.bool false,.bool false,.bool false,.bool false,.bool false,.bool false,.bool false,.bool false,.bool false,.bool false,.bool false,.bool false,.bool false,.bool false,.bool false,.bool false,.bool false,.bool false,.bool false,.bool false,.bool false,.bool false,.bool false,.bool false,.bool false,.bool false,.bool false,.bool false,.bool false,.bool false,.bool false,.bool false,.bool false,.bool false,.bool false,.bool false,.bool false,.bool false,.bool false,.bool false,.bool false,.bool false,.bool false,.bool false,.bool false,.bool false,.bool false,.bool false,.bool false,.bool false,.bool false,.bool false,.bool false,.bool false,.bool false,.bool false,.bool false,.bool false,.bool false,.bool false,.bool false,.bool false,.bool false,.bool false,.bool false,.bool false,.bool false,.bool false,.bool false,.bool false,.bool false,.bool false,.bool false,.bool false,.bool false,.bool false,.bool false,.bool false,.bool false,.bool false,.bool false,.bool false,.bool false,.bool false,.bool false,.bool false,.bool false,.bool false,.bool false,.bool false,.bool false,.bool false,.bool false,.bool false,.bool false,.bool false,.bool false,.bool false,.bool false,.bool false,.bool false,.bool false,.bool false,.bool false,.bool false,.bool false,.bool false,.bool false,.bool false,.bool false,.bool false,.bool false,.bool false,.bool false,.bool false,.bool false,.bool false,.bool false,.bool false,.bool false,.bool false,.bool false,.bool false,.bool false,.bool false,.bool false,.bool false,.bool false,.bool false,.bool false,.bool false,.bool false,.bool false,.bool false],269⟩,
 Option.some ⟨.arr 256 4,256,256,true,[.bool,.bool,.bool,.bool,.bool,.bool,.bool,.bool,.bool,.bool,.bool,.bool,.bool,.bool,.bool,.bool,.bool,.bool,.bool,.bool,.bool,.bool,.bool,.bool,.bool,.bool,.bool,.bool,.bool,.bool,.bool,.bool,.bool,.bool,.bool,.bool,.bool,.bool,.bool,.bool,.bool,.bool,.bool,.bool,.bool,.bool,.bool,.bool,.bool,.bool,.bool,.bool,.bool,.bool,.bool,.bool,.bool,.bool,.bool,.bool,.bool,.bool,.bool,.bool,.bool,.bool,.bool,.bool,.bool,.bool,.bool,.bool,.bool,.bool,.bool,.bool,.bool,.bool,.bool,.bool,.bool,.bool,.bool,.bool,.bool,.bool,.bool,.bool,.bool,.bool,.bool,.bool,.bool,.bool,.bool,.bool,.bool,.bool,.bool,.bool,.bool,.bool,.bool,.bool,.bool,.bool,.bool,.bool,.bool,.bool,.bool,.bool,.bool,.bool,.bool,.bool,.bool,.bool,.bool,.bool,.bool,.bool,.bool,.bool,.bool,.bool,.bool,.bool,.bool,.bool,.bool,.bool,.bool,.bool,.bool,.bool,.bool,.bool,.bool,.bool,.bool,.bool,.bool,.bool,.bool,.bool,.bool,.bool,.bool,.bool,.bool,.bool,.bool,.bool,.bool,.bool,.bool,.bool,.bool,.bool,.bool,.bool,.bool,.bool,.bool,.bool,.bool,.bool,.bool,.bool,.bool,.bool,.bool,.bool,.bool,.bool,.bool,.bool,.bool,.bool,.bool,.bool,.bool,.bool,.bool,.bool,.bool,.bool,.bool,.bool,.bool,.bool,.bool,.bool,.bool,.bool,.bool,.bool,.bool,.bool,.bool,.bool,.bool,.bool,.bool,.bool,.bool,.bool,.bool,.bool,.bool,.bool,.bool,.bool,.bool,.bool,.bool,.bool,.bool,.bool,.bool,.bool,.bool,.bool,.bool,.bool,.bool,.bool,.bool,.bool,.bool,.bool,.bool,.bool,.bool,.bool,.bool,.bool,.bool,.bool,.bool,.bool,.bool,.bool,.bool,.bool,.bool,.bool,.bool,.bool,.bool,.bool,.bool,.bool,.bool,.bool],[.bool false,.bool false,.bool false,.bool false,.bool false,.bool false,.bool false,.bool false,.bool false,.bool false,.bool false,.bool false,.bool false,.bool false,.bool false,.bool false,.bool false,.bool false,.bool false,.bool false,.bool false,.bool false,.bool false,.bool false,.bool false,.bool false,.bool false,.bool false,.bool false,.bool false,.bool false,.bool false,.bool false,.bool false,.bool false,.bool false,.bool false,.bool false,.bool false,.bool false,.bool false,.bool false,.bool false,.bool false,.bool false,.bool false,.bool false,.bool false,.bool false,.bool false,.bool false,.bool false,.bool false,.bool false,.bool false,.bool false,.bool false,.bool false,.bool false,.bool false,.bool false,.bool false,.bool false,.bool false,.bool false,.bool false,.bool false,.bool false,.bool false,.bool false,.bool false,.bool false,.bool false,.bool false,.bool false,.bool false,.bool false,.bool false,.bool false,.bool false,.bool false,.bool false,.bool false,.bool false,.bool false,.bool false,.bool false,.bool false,.bool false,.bool false,.bool false,.bool false,.bool false,.bool false,.bool false,.bool false,.bool false,.bool false,.bool false,.bool false,.bool false,.bool false,.bool false,.bool false,.bool false,.bool false,.bool false,.bool false,.bool false,.bool false,.bool false,.bool false,.bool false,.bool false,.bool false,.bool false,.bool false,.bool false,.bool false,.bool false,.bool false,.bool false,.bool false,.bool false,.bool false,.bool false,.bool false,.bool false,.bool false,.bool false,.bool false,.bool false,.bool false,.bool false,.bool false,.bool false,.bool false,.bool false,.bool false,.bool false,.bool false,.bool false,.bool false,.bool false,.bool false,.bool false,.bool false,.bool false,.bool false,.bool false,.bool false,.bool false,.bool false,.bool false,.bool false,.bool false,.bool false,.bool false,.bool false,.bool false,.bool false,.bool false,.bool false,.bool false,.bool false,.bool false,.bool false,.bool false,.bool false,.bool false,.bool false,.bool false,.bool false,.bool false,.bool false,.bool false,.bool false,.bool false,.bool false,.bool false,.bool false,.bool false,.bool false,.bool false,.bool false,.bool false,.bool false,.bool false,.bool false,.bool false,.bool false,.bool false,.bool false,.bool false,.bool false,.bool false,.bool false,.bool false,.bool false,.bool false,.bool false,.bool false,.bool false,.bool false,.bool false,.bool false,.bool false,.bool false,.bool false,.bool false,.bool false,.bool false,.bool false,.bool false,.bool false,.bool false,.bool false,.bool false,.bool false,.bool false,.bool false,.bool false,.bool false,.bool false,.bool false,.bool false,.bool false,.bool false,.bool false,.bool false,.bool false,.bool false,.bool false,.bool false,.bool false,.bool false,.bool false,.bool false,.bool false,.bool false,.bool false,.bool false,.bool false,.bool false,.bool false,.bool false,.bool false,.bool false,.bool false,.bool false,.bool false,.bool false,.bool false,.bool false,.bool false,.bool false],270⟩,
 none,
 Option.some ⟨.other,1,8,false,[.any],[.nilFunc],272⟩,
 Option.some ⟨.other,1,8,false,[.any],[.nilFunc],273⟩,
 Option.some ⟨.ptr 270,1,8,false,[.any],[.pointer none],274⟩,
 none,
 Option.some ⟨.other,1,8,false,[.any],[.nilFunc],276⟩,
 Option.some ⟨.struct [(9,0),(9,1),(151,2)],3,48,true,[.str,.str,.any],[.string ⟨#[]⟩,.string ⟨#[]⟩,.nilIface],277⟩,
 Option.some ⟨.struct [(9,0),(9,1),(151,2)],3,48,true,[.str,.str,.any],[.string ⟨#[]⟩,.string ⟨#[]⟩,.nilIface],278⟩,
 Option.some ⟨.other,1,8,false,[.any],[.nilFunc],279⟩,
 Option.some ⟨.ptr 259,1,8,false,[.any],[.pointer none],280⟩,
 none,
 Option.some ⟨.other,1,8,false,[.any],[.nilFunc],282⟩,
 Option.some ⟨.arr 256 5,256,256,true,[(.int .u8),(.int .u8),(.int .u8),(.int .u8),(.int .u8),(.int .u8),(.int .u8),(.int .u8),(.int .u8),(.int .u8),(.int .u8),(.int .u8),(.int .u8),(.int .u8),(.int .u8),(.int .u8),(.int .u8),(.int .u8),(.int .u8),(.int .u8),(.int .u8),(.int .u8),(.int .u8),(.int .u8),(.int .u8),(.int .u8),(.int .u8),(.int .u8),(.int .u8),(.int .u8),(.int .u8),(.int .u8),(.int .u8),(.int .u8),(.int .u8),(.int .u8),(.int .u8),(.int .u8),(.int .u8),(.int .u8),(.int .u8),(.int .u8),(.int .u8),(.int .u8),(.int .u8),(.int .u8),(.int .u8),(.int .u8),(.int .u8),(.int .u8),(.int .u8),(.int .u8),(.int .u8),(.int .u8),(.int .u8),(.int .u8),(.int .u8),(.int .u8),(.int .u8),(.int .u8),(.int .u8),(.int .u8),(.int .u8),(.int .u8),(.int .u8),(.int .u8),(.int .u8),(.int .u8),(.int .u8),(.int .u8),(.int .u8),(.int .u8),(.int .u8),(.int .u8),(.int .u8),(.int .u8),(.int .u8),(.int .u8),(.int .u8),(.int .u8),(.int .u8),(.int .u8),(.int .u8),(.int .u8),(.int .u8),(.int .u8),(.int .u8),(.int .u8),(.int .u8),(.int .u8),(.int .u8),(.int .u8),(.int .u8),(.int .u8),(.int .u8),(.int .u8),(.int .u8),(.int .u8),(.int .u8),(.int .u8),(.int .u8),(.int .u8),(.int .u8),(.int .u8),(.int .u8),(.int .u8),(.int .u8),(.int .u8),(.int .u8),(.int .u8),(.int .u8),(.int .u8),(.int .u8),(.int .u8),(.int .u8),(.int .u8),(.int .u8),(.int .u8),(.int .u8),(.int .u8),(.int .u8),(.int .u8),(.int .u8),(.int .u8),(.int .u8),(.int .u8),(.int .u8),(.int .u8),(.int .u8),(.int .u8),(.int .u8),(.int .u8),(.int .u8),(.int .u8),(.int .u8),(.int .u8),(.int .u8),(.int .u8),(.int .u8),(.int .u8),(.int .u8),(.int .u8),(.int .u8),(.int .u8),(.int .u8),(.int .u8),(.int .u8),(.int .u8),(.int .u8),(.int .u8),(.int .u8),(.int .u8),(.int .u8),(.int .u8),(.int .u8),(.int .u8),(.int .u8),(.int .u8),(.int .u8),(.int .u8),(.int .u8),(.int .u8),(.int .u8),(.int .u8),(.int .u8),(.int .u8),(.int .u8),(.int .u8),(.int .u8),(.int .u8),(.int .u8),(.int .u8),(.int .u8),(.int .u8),(.int .u8),(.int .u8),(.int .u8),(.int .u8),(.int .u8),(.int .u8),(.int .u8),(.int .u8),(.int .u8),(.int .u8),(.int .u8),(.int .u8),(.int .u8),(.int .u8),(.int .u8),(.int .u8),(.int .u8),(.int .u8),(.int .u8),(.int .u8),(.int .u8),(.int .u8),(.int .u8),(.int .u8),(.int .u8),(.int .u8),(.int .u8),(.int .u8),(.int .u8),(.int .u8),(.int .u8),(.int .u8),(.int .u8),(.int .u8),(.int .u8),(.int .u8),(.int .u8),(.int .u8),(.int .u8),(.int .u8),(.int .u8),(.int .u8),(.int .u8),(.int .u8),(.int .u8),(.int .u8),(.int .u8),(.int .u8),(.int .u8),(.int .u8),(.int .u8),(.int .u8),(.int .u8),(.int .u8),(.int .u8),(.int .u8),(.int .u8),(.int .u8),(.int .u8),(.int .u8),(.int .u8),(.int .u8),(.int .u8),(.int .u8),(.int .u8),(.int .u8),(.int .u8),(.int .u8),(.int .u8),(.int .u8),(.int .u8),(.int .u8),(.int .u8),(.int .u8),(.int .u8),(.int .u8),(.int .u8),(.int .u8),(.int .u8),(.int .u8),(.int .u8),(.int .u8)],[.int .u8 0,.int .u8 0,.int .u8 0,.int .u8 0,.int .u8 0,.int .u8 0,.int .u8 0,.int .u8 0,.int .u8 0,.int .u8 0,.int .u8 0,.int .u8 0,.int .u8 0,.int .u8 0,.int .u8 0,.int .u8 0,.int .u8 0,.int .u8 0,.int .u8 0,.int .u8 0,.int .u8 0,.int .u8 0,.int .u8 0,.int .u8 0,.int .u8 0,.int .u8 0,.int .u8 0,.int .u8 0,.int .u8 0,.int .u8 0,.int .u8 0,.int .u8 0,.int .u8 0,.int .u8 0,.int .u8 0,.int .u8 0,.int .u8 0,.int .u8 0,.int .u8 0,.int .u8 0,.int .u8 0,.int .u8 0,.int .u8 0,.int .u8 0,.int .u8 0,.int .u8 0,.int .u8 0,.int .u8 0,.int .u8 0,.int .u8 0,.int .u8 0,.int .u8 0,.int .u8 0,.int .u8 0,.int .u8 0,.int .u8 0,.int .u8 0,.int .u8 0,.int .u8 0,.int .u8 0,.int .u8 0,.int .u8 0,.int .u8 0,.int .u8 0,.int .u8 0,.int .u8 0,.int .u8 0,.int .u8 0,.int .u8 0,.int .u8 0,.int .u8 0,.int .u8 0,.int .u8 0,.int .u8 0,.int .u8 0,.int .u8 0,.int .u8 0,.int .u8 0,.int .u8 0,.int .u8 0,.int .u8 0,.int .u8 0,.int .u8 0,.int .u8 0,.int .u8 0,.int .u8 0,.int .u8 0,.int .u8 0,.int .u8 0,.int .u8 0,.int .u8 0,.int .u8 0,.int .u8 0,.int .u8 0,.int .u8 0,.int .u8 0,.int .u8 0,.int .u8 0,.int .u8 0,.int .u8 0,.int .u8 0,.int .u8 0,.int .u8 0,.int .u8 0,.int .u8 0,.int .u8 0,.int .u8 0,.int .u8 0,.int .u8 0,.int .u8 0,.int .u8 0,.int .u8 0,.int .u8 0,.int .u8 0,.int .u8 0,.int .u8 0,.int .u8 0,.int .u8 0,.int .u8 0,.int .u8 0,.int .u8 0,.int .u8 0,.int .u8 0,.int .u8 0,.int .u8 0,.int .u8 0,.int .u8 0,.int .u8 0,.int .u8 0,.int .u8 0,.int .u8 0,.int .u8 0,.int .u8 0,.int .u8 0,.int .u8 0,.int .u8 0,.int .u8 0,.int .u8 0,.int .u8 0,.int .u8 0,.int .u8 0,.int .u8 0,.int .u8 0,.int .u8 0,.int .u8 0,.int .u8 0,.int .u8 0,.int .u8 0,.int .u8 0,.int .u8 0,.int .u8 0,.int .u8 0,.int .u8 0,.int .u8 0,.int .u8 0,.int .u8 0,.int .u8 0,.int .u8 0,.int .u8 0,.int .u8 0,.int .u8 0,.int .u8 0,.int .u8 0,.int .u8 0,.int .u8 0,.int .u8 0,.int .u8 0,.int .u8 0,.int .u8 0,.int .u8 0,.int .u8 0,.int .u8 0,.int .u8 0,.int .u8 0,.int .u8 0,.int .u8 0,.int .u8 0,.int .u8 0,.int .u8 0,.int .u8 0,.int .u8 0,.int .u8 0,.int .u8 0,.int .u8 0,.int .u8 0,.int .u8 0,.int .u8 0,.int .u8 0,.int .u8 0,.int .u8 0,.int .u8 0,.int .u8 0,.int .u8 0,.int .u8 0,.int .u8 0,.int .u8 0,.int .u8 0,.int .u8 0,.int .u8 0,.int .u8 0,.int .u8 0,.int .u8 0,.int .u8 0,.int .u8 0,.int .u8 0,.int .u8 0,.int .u8 0,.int .u8 0,.int .u8 0,.int .u8 0,.int .u8 0,.int .u8 0,.int .u8 0,.int .u8 0,.int .u8 0,.int .u8 0,.int .u8 0,.int .u8 0,.int .u8 0,.int .u8 0,.int .u8 0,.int .u8 0,.int .u8 0,.int .u8 0,.int .u8 0,.int .u8 0,.int .u8 0,.int .u8 0,.int .u8 0,.int .u8 0,.int .u8 0,.int .u8 0,.int .u8 0,.int .u8 0,.int .u8 0,.int .u8 0,.int .u8 0,.int .u8 0,.int .u8 0,.int .u8 0,.int .u8 0,.int .u8 0,.int .u8 0,.int .u8 0,.int .u8 0,.int .u8 0,.int .u8 0,.int .u8 0,.int .u8 0,.int .u8 0,.int .u8 0,.int .u8 0,.int .u8 0,.int .u8 0,.int .u8 0,.int .u8 0],283⟩,
 Option.some ⟨.struct [(5,0),(5,1)],2,2,true,[(.int .u8),(.int .u8)],[.int .u8 0,.int .u8 0],284⟩,
 Option.some ⟨.struct [(5,0),(5,1)],2,2,true,[(.int .u8),(.int .u8)],[.int .u8 0,.int .u8 0],285⟩,
 Option.some ⟨.arr 16 285,32,32,true,[(.int .u8),(.int .u8),(.int .u8),(.int .u8),(.int .u8),(.int .u8),(.int .u8),(.int .u8),(.int .u8),(.int .u8),(.int .u8),(.int .u8),(.int .u8),(.int .u8),(.int .u8),(.int .u8),(.int .u8),(.int .u8),(.int .u8),(.int .u8),(.int .u8),(.int .u8),(.int .u8),(.int .u8),(.int .u8),(.int .u8),(.int .u8),(.int .u8),(.int .u8),(.int .u8),(.int .u8),(.int .u8)],[.int .u8 0,.int .u8 0,.int .u8 0,.int .u8 0,.int .u8 0,.int .u8 0,.int .u8 0,.int .u8 0,.int .u8 0,.int .u8 0,.int .u8 0,.int .u8 0,.int .u8 0,.int .u8 0,.int .u8 0,.int .u8 0,.int .u8 0,.int .u8 0,.int .u8 0,.int .u8 0,.int .u8 0,.int .u8 0,.int .u8 0,.int .u8 0,.int .u8 0,.int .u8 0,.int .u8 0,.int .u8 0,.int .u8 0,.int .u8 0,.int .u8 0,.int .u8 0],286⟩,
 Option.some ⟨.other,1,8,false,[.any],[.nilFunc],287⟩,
 Option.some ⟨.other,1,8,false,[.any],[.nilFunc],288⟩,
 Option.some ⟨.other,1,8,false,[.any],[.nilFunc],289⟩,
 Option.some ⟨.ptr 292,1,8,false,[.any],[.pointer none],290⟩,
 Option.some ⟨.struct [(9,0)],1,16,true,[.str],[.string ⟨#[]⟩],291⟩,
 Option.some ⟨.struct [(9,0)],1,16,true,[.str],[.string ⟨#[]⟩],292⟩,
 Option.some ⟨.arr 32 5,32,32,true,[(.int .u8),(.int .u8),(.int .u8),(.int .u8),(.int .u8),(.int .u8),(.int .u8),(.int .u8),(.int .u8),(.int .u8),(.int .u8),(.int .u8),(.int .u8),(.int .u8),(.int .u8),(.int .u8),(.int .u8),(.int .u8),(.int .u8),(.int .u8),(.int .u8),(.int .u8),(.int .u8),(.int .u8),(.int .u8),(.int .u8),(.int .u8),(.int .u8),(.int .u8),(.int .u8),(.int .u8),(.int .u8)],[.int .u8 0,.int .u8 0,.int .u8 0,.int .u8 0,.int .u8 0,.int .u8 0,.int .u8 0,.int .u8 0,.int .u8 0,.int .u8 0,.int .u8 0,.int .u8 0,.int .u8 0,.int .u8 0,.int .u8 0,.int .u8 0,.int .u8 0,.int .u8 0,.int .u8 0,.int .u8 0,.int .u8 0,.int .u8 0,.int .u8 0,.int .u8 0,.int .u8 0,.int .u8 0,.int .u8 0,.int .u8 0,.int .u8 0,.int .u8 0,.int .u8 0,.int .u8 0],293⟩,
 Option.some ⟨.arr 64 5,64,64,true,[(.int .u8),(.int .u8),(.int .u8),(.int .u8),(.int .u8),(.int .u8),(.int .u8),(.int .u8),(.int .u8),(.int .u8),(.int .u8),(.int .u8),(.int .u8),(.int .u8),(.int .u8),(.int .u8),(.int .u8),(.int .u8),(.int .u8),(.int .u8),(.int .u8),(.int .u8),(.int .u8),(.int .u8),(.int .u8),(.int .u8),(.int .u8),(.int .u8),(.int .u8),(.int .u8),(.int .u8),(.int .u8),(.int .u8),(.int .u8),(.int .u8),(.int .u8),(.int .u8),(.int .u8),(.int .u8),(.int .u8),(.int .u8),(.int .u8),(.int .u8),(.int .u8),(.int .u8),(.int .u8),(.int .u8),(.int .u8),(.int .u8),(.int .u8),(.int .u8),(.int .u8),(.int .u8),(.int .u8),(.int .u8),(.int .u8),(.int .u8),(.int .u8),(.int .u8),(.int .u8),(.int .u8),(.int .u8),(.int .u8),(.int .u8)],[.int .u8 0,.int .u8 0,.int .u8 0,.int .u8 0,.int .u8 0,.int .u8 0,.int .u8 0,.int .u8 0,.int .u8 0,.int .u8 0,.int .u8 0,.int .u8 0,.int .u8 0,.int .u8 0,.int .u8 0,.int .u8 0,.int .u8 0,.int .u8 0,.int .u8 0,.int .u8 0,.int .u8 0,.int .u8 0,.int .u8 0,.int .u8 0,.int .u8 0,.int .u8 0,.int .u8 0,.int .u8 0,.int .u8 0,.int .u8 0,.int .u8 0,.int .u8 0,.int .u8 0,.int .u8 0,.int .u8 0,.int .u8 0,.int .u8 0,.int .u8 0,.int .u8 0,.int .u8 0,.int .u8 0,.int .u8 0,.int .u8 0,.int .u8 0,.int .u8 0,.int .u8 0,.int .u8 0,.int .u8 0,.int .u8 0,.int .u8 0,.int .u8 0,.int .u8 0,.int .u8 0,.int .u8 0,.int .u8 0,.int .u8 0,.int .u8 0,.int .u8 0,.int .u8 0,.int .u8 0,.int .u8 0,.int .u8 0,.int .u8 0,.int .u8 0],294⟩,
 Option.some ⟨.other,1,8,false,[.any],[.nilFunc],295⟩,
 Option.some ⟨.other,1,8,false,[.any],[.nilFunc],296⟩,
 none,
 none,
 Option.some ⟨.arr 0 16,0,0,true,[],[],299⟩,
 none,
 none,
 none,
 none,
 Option.some ⟨.other,1,8,false,[.any],[.nilFunc],304⟩,
 none,
 none,
 none,
 none]
def params(f:FuncId):List TypeId:=match f with | 0=>[] | 1=>[] | 2=>[] | 3=>[26] | 4=>[26] | 5=>[9] | 6=>[26,9] | 7=>[26,9,3] | 8=>[26] | 9=>[26] | 10=>[26,3] | 11=>[26] | 12=>[] | 13=>[26] | 14=>[26] | 15=>[26] | 16=>[26] | 17=>[26] | 18=>[26] | 19=>[26] | 20=>[9] | 21=>[9] | 22=>[26,26] | 23=>[26] | 24=>[26,9] | 25=>[26,3] | 26=>[26,9] | 27=>[3,3,3] | 28=>[50,50] | 29=>[26,3] | 30=>[26] | 31=>[26] | 32=>[26] | 33=>[62,62] | 34=>[26] | 35=>[70] | 36=>[26,3] | 37=>[26] | 38=>[60,60] | 39=>[26] | 40=>[26,3] | 41=>[] | 42=>[] | 43=>[130] | 44=>[4,31] | 45=>[26,3] | 46=>[22] | 47=>[26,86] | 48=>[26,82] | 49=>[50] | 50=>[26,3] | 51=>[26,86] | 52=>[26] | 53=>[74] | 54=>[3,97] | 55=>[82] | 56=>[97,9] | 57=>[74] | 58=>[] | 59=>[3] | 60=>[9,9] | 61=>[9,9] | 62=>[9] | 63=>[104] | 64=>[9] | 65=>[3] | 66=>[22,9] | 67=>[3,3,3] | 68=>[50,3] | 69=>[50,3] | 70=>[3] | 71=>[70,72] | 72=>[62,3,9] | 73=>[5,3] | 74=>[9,3,9] | 75=>[70,72] | 76=>[4] | 77=>[26,3] | 78=>[9] | 79=>[74] | 80=>[74] | 81=>[70] | 82=>[70,72] | 83=>[74,22] | 84=>[50,3] | 85=>[74] | 86=>[74,74,3] | 87=>[9] | 88=>[74] | 89=>[3] | 90=>[70] | 91=>[70,72] | 92=>[3] | 93=>[3] | 94=>[74] | 95=>[70] | 96=>[70,72] | 97=>[3] | 98=>[145,3] | 99=>[145,9] | 100=>[145] | 101=>[70] | 102=>[70,72] | 103=>[9,9] | 104=>[9,9] | 105=>[9,9] | 106=>[9] | 107=>[9,9] | 108=>[9] | 109=>[97,9] | 110=>[97,46] | 111=>[9] | 112=>[9] | 113=>[163,9] | 114=>[163,9] | 115=>[163,9] | 116=>[97,9] | 117=>[163,9] | 118=>[22,132] | 119=>[74] | 120=>[50,3] | 121=>[3,3,3] | 122=>[9,3] | 123=>[70,72] | 124=>[62,3,3] | 125=>[62,3,9] | 126=>[3,3] | 127=>[3,3] | 128=>[3] | 129=>[50] | 130=>[50] | 131=>[3,3,3] | 132=>[130] | 133=>[4,31] | 134=>[3] | 135=>[176,176] | 136=>[70] | 137=>[74] | 138=>[5] | 139=>[5] | 140=>[3] | 141=>[70] | 142=>[183] | 143=>[9] | 144=>[9,9,9] | 145=>[3] | 146=>[145] | 147=>[145,3] | 148=>[183] | 149=>[9] | 150=>[9] | 151=>[9,9] | 152=>[9,9] | 153=>[9] | 154=>[9,9] | 155=>[70,9] | 156=>[9,9,3,3] | 157=>[9] | 158=>[97,46] | 159=>[163] | 160=>[163,70] | 161=>[9] | 162=>[145] | 163=>[3,3] | 164=>[146] | 165=>[70] | 166=>[62] | 167=>[60] | 168=>[50,3,3,3] | 169=>[176] | 170=>[203,203] | 171=>[206,206] | 172=>[3] | 173=>[183] | 174=>[146,180] | 175=>[5] | 176=>[9,9,9,3] | 177=>[2,3] | 179=>[3] | 180=>[9,5] | 181=>[9,9] | 182=>[3] | 183=>[9,9] | 184=>[9,9] | 185=>[9] | 186=>[9,9] | 187=>[9] | 188=>[9,3] | 189=>[9,9] | 190=>[9,9] | 191=>[9] | 192=>[9,9,3,3,151] | 193=>[9] | 194=>[9] | 195=>[9] | 196=>[50,3,3] | 197=>[50,3,3] | 198=>[50,3,3] | 199=>[50,3,3] | 200=>[50,3,3] | 201=>[50,3,3] | 202=>[3,3] | 203=>[50,3,3,3] | 204=>[50,3,3,3] | 205=>[203] | 206=>[206] | 207=>[146,180] | 208=>[9] | 209=>[3] | 210=>[206] | 211=>[146,206] | 212=>[146,206,3,4,4] | 213=>[9,5] | 214=>[9] | 215=>[9,9] | 216=>[9] | 217=>[9,9] | 218=>[9,9] | 219=>[9,5] | 220=>[9] | 221=>[9,5] | 222=>[9,3,3] | 223=>[9,9] | 224=>[9,9] | 225=>[9,9,3] | 226=>[9,9,3] | 227=>[9] | 228=>[229] | 229=>[50,3,3,3] | 230=>[3] | 231=>[280] | 232=>[50,3,263] | 233=>[50,3,3,3,263] | 234=>[3] | 235=>[9] | 236=>[3] | 237=>[4] | 238=>[3] | 239=>[176] | 240=>[9,3] | 241=>[9,5] | 242=>[9] | 243=>[9,274] | 244=>[9,9] | 245=>[9,3,3] | 246=>[9] | 247=>[9] | 248=>[50,3,3,263] | 249=>[203] | 250=>[206] | 251=>[9,3] | 252=>[274,5] | 253=>[9,21] | 254=>[5] | 255=>[9] | 256=>[9,21] | 257=>[21] | 258=>[8] | 259=>[8] | 260=>[10] | 261=>[10] | 262=>[11] | 263=>[11] | 264=>[14] | 265=>[14] | 266=>[15] | 267=>[15] | 268=>[16] | 269=>[16] | 270=>[17] | 271=>[19] | 272=>[19] | 273=>[145] | 274=>[252] | 275=>[255] | 276=>[290] | 277=>[303] | 278=>[] | 279=>[] | 280=>[] | 281=>[] | 282=>[] | 283=>[] | 284=>[] | 285=>[] | 286=>[] | 287=>[] | 288=>[] | 289=>[] | 290=>[] | 291=>[] | 292=>[] | _=>[]
def SY:List AV:=[vi 0,vi 4]
def SX:List AV:=[vi 2,vi 3]
def SW:List AV:=[vi 2,vi 3,vi 3]
def SV:List AV:=[vi 2,vi 3,vi 3]
def SU:List AV:=[vi 2,vi 3,vi 3]
def SS:List AV:=[vi 2,vi 3,vi 3]
def SR:List AV:=[vi 2,vi 3,vi 3]
def SQ:List AV:=[vi 1,vi 4,vi 6]
def SP:List AV:=[vi 1,vi 4,vi 6]
def SO:List AV:=[vi 6]
def Kn:List AV:=[vi 5,vi 0]
def Km:List AV:=[vi 5,vi 5]
def Kl:List AV:=[vi 5,vi 3]
def Kk:List AV:=[vi 6]
def Kj:List AV:=[]
def Ki:List AV:=[vi 3]
def Kh:List AV:=[vi 2]
def Kg:List AV:=[vi 1]
def Kf:List AV:=[]
def AF:List AV:=[vs (⟨#[67,72,65,82]⟩:ByteArray),vs (⟨#[80,65,67,75,69,68]⟩:ByteArray),vs (⟨#[90,79,78,69,68]⟩:ByteArray),vs (⟨#[66,73,78,65,82,89]⟩:ByteArray)]
def Ko:List (Nat × List AV):=[(0,[.sl ⟨true,3,false⟩ 1 SY,.sl ⟨true,3,false⟩ 1 SX,.sl ⟨true,3,false⟩ 1 SW,.sl ⟨true,3,false⟩ 1 SV,.sl ⟨true,3,false⟩ 1 SU,.sl ⟨true,3,false⟩ 1 SS,.sl ⟨true,3,false⟩ 1 SR,.sl ⟨true,3,false⟩ 1 SQ,.sl ⟨true,3,false⟩ 1 SP,.sl ⟨true,3,false⟩ 1 SO,.sl ⟨true,3,false⟩ 1 Kn,.sl ⟨true,3,false⟩ 1 Km,.sl ⟨true,3,false⟩ 1 Kl,.sl ⟨true,3,false⟩ 1 Kk,.sl ⟨true,3,false⟩ 1 Kj,.sl ⟨true,3,false⟩ 1 Ki,.sl ⟨true,3,false⟩ 1 Kh,.sl ⟨true,3,false⟩ 1 Kg,.sl ⟨true,3,false⟩ 1 Kf]),(1,[vs (⟨#[77,79,86,69]⟩:ByteArray),vs (⟨#[77,79,86,69,72]⟩:ByteArray),vs (⟨#[65,68,68]⟩:ByteArray),vs (⟨#[83,85,66]⟩:ByteArray),vs (⟨#[77,85,76]⟩:ByteArray),vs (⟨#[68,73,86]⟩:ByteArray),vs (⟨#[82,69,77]⟩:ByteArray),vs (⟨#[73,70,69,81]⟩:ByteArray),vs (⟨#[73,70,76,84]⟩:ByteArray),vs (⟨#[71,79,84,79]⟩:ByteArray),vs (⟨#[65,68,68,82]⟩:ByteArray),vs (⟨#[77,79,86,69,80]⟩:ByteArray),vs (⟨#[65,68,86,65,78,67,69]⟩:ByteArray),vs (⟨#[67,65,76,76]⟩:ByteArray),vs (⟨#[82,69,84,85,82,78]⟩:ByteArray),vs (⟨#[83,73,71,78,65,76]⟩:ByteArray),vs (⟨#[69,88,67,69,80,84,73,79,78]⟩:ByteArray),vs (⟨#[80,82,73,78,84]⟩:ByteArray),vs (⟨#[69,78,68]⟩:ByteArray)]),(2,[.sl ⟨true,9,false⟩ 1 AF])]
def Rc(f:FuncId):Bool:=Nat.beq f 54||Nat.beq f 56
def Re(f:FuncId):Bool:=Nat.beq f 129||Nat.beq f 130
def G:fv:=⟨λt=>(Lv[t]?).join,Cy Ko,params,0,Rc,Re⟩
abbrev Gk(k:Nat):fv:={ G with kb:=k }
theorem mixed:Tryz.prog.follows .mixedOrders=true:=by kernel_rfl
instance Vj : eE Tryz.prog := SZ Tryz.prog ["strconv.ErrSyntax", "strconv.ErrRange"] [("internal/strconv.uint64pow10", .u64, Lib.pow10Tab)] Ko
theorem dB(R0:World)(hQ:eE.Q Tryz.prog R0):mX G R0:=by
 have h:mG Tryz.prog _ R0/\uA Tryz.prog _ R0/\jK Ko R0:=hQ;exact h.2.2.dB rfl
theorem Iv:Lv.length=309:=by kernel_rfl
theorem U7:G.gM=λt=>(Lv[t]?).join:=rfl
theorem cfg:et Tryz.prog G:=by
 refine KH (n:=309) (λt ht=>?_) (by kernel_rfl);have h:Lv[t]?=none:=List.getElem?_eq_none (by rw[Iv];exact ht);rw[U7];simp only[h];rfl
abbrev dU.A:=List AV
abbrev dU.T:=Int
def dU.i:dU.A->List AV:=λa0=>[.sl ⟨true,31,false⟩ 1 a0]
def dU.o(xs:List AV):Option dU.A:=match xs with | [.sl ⟨true,31,false⟩ 1 a0]=>some a0 | _=>none
theorem dU.oi:∀xs a,dU.o xs=some a->xs=dU.i a:=by
 intro xs a h;unfold dU.o at h;split at h
 ·cases h;rfl
 ·cases h
def dU.p(p:dU.T):AV:=vi p
def dU.q(x:AV):Option dU.T:=match x with | .v (.int .i64 p0)=>some p0 | _=>none
theorem dU.qi:∀x p,dU.q x=some p->x=dU.p p:=by
 intro x p h;unfold dU.q at h;split at h
 ·cases h;rfl
 ·cases h
inductive dU.Z where
 | z2 (z1:List AV) (z2 z3:Int)
def dU.C{R:Type}(n:Nat)(f:FuncId)(xs:List AV):(AV->Option R)->Option R:=
 λ_=>none
theorem dU.c8{R:Type}(n:Nat):dt (R:=R) Tryz.prog (dU.C n):=λ_ xs=>cT.none
def dU.cut(r:Nat):Option dP:=match r with | 2=>some ⟨[5,6,7],[]⟩ | _=>none
noncomputable def dU.t (z:dU.Z):List Item:=(dL (match z with | .z2 _ _ _=>2) 1000 [.code (Tryz.f43.body.getD .skip)]).getD []
def dU.s:dU.Z->St
 | .z2 z1 z2 z3=>⟨fx 15 0 [(5,.sl ⟨true,31,false⟩ 1 z1),(6,vi z2),(7,vi z3)],Mem.ofList [],0⟩
def dU.r2(n:Nat)(c:dU.Z->Option Int)(z1:List AV)(z2 z3:Int):Option Int:=
 bif decide (z3<z2)then(bif decide ((0:Int)<=z3)&&decide (z3<((z1.length:Nat):Int))then(cN ((z1.getD ((z3).toNat) .undef).cells) λh1 r2=>
 cQ .i64 h1 λx3=>
 bif x3 != 0 then(some x3)else(c (.z2 z1 z2 (IntKind.i64.wrap (z3+1)))))else none)else(some 0)
def dU.r(n:Nat)(c:dU.Z->Option Int):dU.Z->Option Int
 | .z2 z1 z2 z3=>dU.r2 n c z1 z2 z3
def dU.e(n:Nat)(c:dU.Z->Option Int)(a0:List AV):Option Int:=
 c (.z2 a0 ((a0.length:Nat):Int) 0)
def dU.E(n:Nat)(c:dU.Z->Option Int):dU.A->Option dU.T:=λa0=>dU.e n c a0
def dU.l(n:Nat):Nat->dU.Z->Option Int:=ez (dU.r n)
def dU.F(n:Nat)(a0:List AV):Option Int:=dU.e n (dU.l n n) a0
def dU.FA(n:Nat):dU.A->Option dU.T:=dU.E n (dU.l n n)
theorem dU.cW(n:Nat):∀a p,dU.FA n a=some p->dc Tryz.prog 43 (dU.i a) (dU.p p):=lN dU.cut dU.t dU.s (dU.E n) (dU.r n) cfg mixed dB dU.qi (dU.c8 n) Tryz.func43
def dU.via{R:Type}(n:Nat):List AV->(AV->Option R)->Option R:=d_ (dU.FA n) dU.o dU.p
theorem dU.cO{R:Type}(n:Nat)(xs:List AV):cT (R:=R) Tryz.prog 43 xs (dU.via n xs):=c7 dU.oi (λa=>by kernel_rfl) (dU.cW n) xs
abbrev kx.A:=Bool × Int
def kx.i:kx.A->List AV:=fun(a0,a1)=>[vb a0,vi a1]
def kx.o(xs:List AV):Option kx.A:=match xs with | [.v (.bool a0),.v (.int .i64 a1)]=>some (a0,a1) | _=>none
theorem kx.oi:∀xs a,kx.o xs=some a->xs=kx.i a:=by
 intro xs a h;unfold kx.o at h;split at h
 ·cases h;rfl
 ·cases h
def kx.C{R:Type}(n:Nat)(f:FuncId)(xs:List AV):(AV->Option R)->Option R:=
 λ_=>none
theorem kx.c8{R:Type}(n:Nat):dt (R:=R) Tryz.prog (kx.C n):=λ_ xs=>cT.none
def kx.cut(r:Nat):Option dP:=match r with  | _=>none
def kx.e(n:Nat)(a0:Bool)(a1:Int):Option Int:=
 bif a0 then(some a1)else(some 0)
def kx.E(n:Nat):kx.A->Option dU.T:=fun(a0,a1)=>kx.e n a0 a1
def kx.F(n:Nat)(a0:Bool)(a1:Int):Option Int:=kx.e n a0 a1
def kx.FA(n:Nat):kx.A->Option dU.T:=kx.E n
theorem kx.cW(n:Nat):∀a p,kx.FA n a=some p->dc Tryz.prog 44 (kx.i a) (dU.p p):=gp kx.cut (kx.E n) cfg mixed dB dU.qi (kx.c8 n) Tryz.func44
def kx.via{R:Type}(n:Nat):List AV->(AV->Option R)->Option R:=d_ (kx.FA n) kx.o dU.p
theorem kx.cO{R:Type}(n:Nat)(xs:List AV):cT (R:=R) Tryz.prog 44 xs (kx.via n xs):=c7 kx.oi (λa=>by kernel_rfl) (kx.cW n) xs
abbrev jH.A:=ByteArray × Int × Int × Int × Int × Int × ByteArray × ByteArray × Int × Int × ByteArray
abbrev jH.T:=Bool × ByteArray
def jH.i:jH.A->List AV:=fun(a0,a1,a2,a3,a4,a5,a6,a7,a8,a9,oL)=>[AV.agg [vs a0,vi a1,vi a2,vi a3,vi a4,vi a5,vs a6,vs a7,vi a8,vi a9],.ptr 0 0]
def jH.b:jH.A->List AV:=fun(a0,a1,a2,a3,a4,a5,a6,a7,a8,a9,oL)=>[.fn 9 [vs oL]]
def jH.o(xs:List AV):Option jH.A:=match xs with | [.agg [.v (.string a0),.v (.int .i64 a1),.v (.int .i64 a2),.v (.int .i64 a3),.v (.int .i64 a4),.v (.int .i64 a5),.v (.string a6),.v (.string a7),.v (.int .i64 a8),.v (.int .i64 a9)],.ptr 0 0,.eC [.fn 9 [.v (.string oL)]]]=>some (a0,a1,a2,a3,a4,a5,a6,a7,a8,a9,oL) | _=>none
theorem jH.oi:∀xs a,jH.o xs=some a->xs=jH.i a++[.eC (jH.b a)]:=by
 intro xs a h;unfold jH.o at h;split at h
 ·cases h;rfl
 ·cases h
def jH.y(p:jH.T):AV:=vb p.1
def jH.w(p:jH.T):List AV:=[.fn 9 [vs p.2]]
def jH.p(p:jH.T):AV:=.eC [jH.y p,.eC (jH.w p)]
def jH.q(x:AV):Option jH.T:=match x with | .eC [.v (.bool p0),.eC [.fn 9 [.v (.string p1)]]]=>some (p0,p1) | _=>none
theorem jH.qi:∀x p,jH.q x=some p->x=jH.p p:=by
 intro x p h;unfold jH.q at h;split at h
 ·cases h;rfl
 ·cases h
def jH.C{R:Type}(n:Nat)(f:FuncId)(xs:List AV):(AV->Option R)->Option R:=
 λ_=>none
theorem jH.c8{R:Type}(n:Nat):dt (R:=R) Tryz.prog (jH.C n):=λ_ xs=>cT.none
def jH.cut(r:Nat):Option dP:=match r with  | _=>none
def jH.e(n:Nat)(a0:ByteArray)(a1 a2 a3 a4 a5:Int)(a6 a7:ByteArray)(a8 a9:Int)(oL:ByteArray):Option (Bool × ByteArray):=
 some (a0.toList==oL.toList,oL)
def jH.E(n:Nat):jH.A->Option jH.T:=fun(a0,a1,a2,a3,a4,a5,a6,a7,a8,a9,oL)=>jH.e n a0 a1 a2 a3 a4 a5 a6 a7 a8 a9 oL
def jH.F(n:Nat)(a0:ByteArray)(a1 a2 a3 a4 a5:Int)(a6 a7:ByteArray)(a8 a9:Int)(oL:ByteArray):Option (Bool × ByteArray):=jH.e n a0 a1 a2 a3 a4 a5 a6 a7 a8 a9 oL
def jH.FA(n:Nat):jH.A->Option jH.T:=jH.E n
def jH.fS:List (Nat × Nat × Fl × Nat):=[]
theorem jH.cW(n:Nat):∀a p,jH.FA n a=some p->gT Tryz.prog 119 (jH.i a) (jH.b a) (jH.y p) (jH.w p):=
 kf (G:=Gk 1) (C:=jH.C n) (cut:=jH.cut) (Z:=Empty) (t:=nofun) (s:=nofun) (fS:=jH.fS) (e:=λ_=>jH.E n) (r:=λ_ z=>nomatch z) (n:=n) (cfg.kb 1) mixed dB jH.qi (λa=>by kernel_rfl) (jH.c8 n) Tryz.func119 (by kernel_rfl) (by kernel_rfl) (λrec a=>by kernel_rfl) (λrec z=>nomatch z)
def jH.via{R:Type}(n:Nat):List AV->(AV->Option R)->Option R:=d_ (jH.FA n) jH.o jH.p
theorem jH.cO{R:Type}(n:Nat)(xs:List AV):cT (R:=R) Tryz.prog 119 xs (jH.via n xs):=jk (λ_=>rfl) jH.oi (jH.cW n) xs
abbrev gE.A:=List AV × ByteArray
abbrev gE.T:=Int × ByteArray
def gE.i:gE.A->List AV:=fun(a0,a1)=>[.sl ⟨true,74,false⟩ 10 a0,.fn 119 [.ptr 0 0]]
def gE.b:gE.A->List AV:=fun(a0,a1)=>[.fn 9 [vs a1]]
def gE.o(xs:List AV):Option gE.A:=match xs with | [.sl ⟨true,74,false⟩ 10 a0,.fn 119 [.ptr 0 0],.eC [.fn 9 [.v (.string a1)]]]=>some (a0,a1) | _=>none
theorem gE.oi:∀xs a,gE.o xs=some a->xs=gE.i a++[.eC (gE.b a)]:=by
 intro xs a h;unfold gE.o at h;split at h
 ·cases h;rfl
 ·cases h
def gE.y(p:gE.T):AV:=vi p.1
def gE.w(p:gE.T):List AV:=[.fn 9 [vs p.2]]
def gE.p(p:gE.T):AV:=.eC [gE.y p,.eC (gE.w p)]
def gE.q(x:AV):Option gE.T:=match x with | .eC [.v (.int .i64 p0),.eC [.fn 9 [.v (.string p1)]]]=>some (p0,p1) | _=>none
theorem gE.qi:∀x p,gE.q x=some p->x=gE.p p:=by
 intro x p h;unfold gE.q at h;split at h
 ·cases h;rfl
 ·cases h
inductive gE.Z where
 | z2 (z1:List AV) (z2 z3:Int) (z4:ByteArray)
def gE.C{R:Type}(n:Nat)(f:FuncId)(xs:List AV):(AV->Option R)->Option R:=
 bif Nat.beq f 119 then jH.via n xs else λ_=>none
theorem gE.c8{R:Type}(n:Nat):dt (R:=R) Tryz.prog (gE.C n):=λ_ xs=>cR (jH.cO n xs) (cT.none)
def gE.cut(r:Nat):Option dP:=match r with | 2=>some ⟨[0,1,7,8],[]⟩ | _=>none
noncomputable def gE.t (z:gE.Z):List Item:=(dL (match z with | .z2 _ _ _ _=>2) 1000 [.code (Tryz.f118.body.getD .skip)]).getD []
def gE.s:gE.Z->St
 | .z2 z1 z2 z3 z4=>⟨fx 19 0 [(0,.sl ⟨true,74,false⟩ 10 z1),(1,.fn 119 [.ptr 0 0]),(7,vi z2),(8,vi z3)],Mem.ofList [.box 9 [vs z4]],1⟩
def gE.r2(n:Nat)(c:gE.Z->Option (Int × ByteArray))(z1:List AV)(z2 z3:Int)(z4:ByteArray):Option (Int × ByteArray):=
 bif decide (z3<z2)then(bif decide ((0:Int)<=z3)&&decide (z3<((z1.length:Nat):Int))then(cN ((z1.getD ((z3).toNat) .undef).cells) λh1 r2=>
 df h1 λs3=>
 cN r2 λh4 r5=>
 cQ .i64 h4 λx6=>
 cN r5 λh7 r8=>
 cQ .i64 h7 λx9=>
 cN r8 λxG vN=>
 cQ .i64 xG λpV=>
 cN vN λDg xk=>
 cQ .i64 Dg λsy=>
 cN xk λCx I0=>
 cQ .i64 Cx λoo=>
 cN I0 λEk DF=>
 df Ek λvG=>
 cN DF λGV yk=>
 df GV λsC=>
 cN yk λAE A3=>
 cQ .i64 AE λrf=>
 cN A3 λxm HM=>
 cQ .i64 xm λpU=>
 (jH.F n s3 x6 x9 pV sy oo vG sC rf pU z4).bind λA4=>
 bif A4.1 then(some (z3,A4.2))else(c (.z2 z1 z2 (IntKind.i64.wrap (z3+1)) A4.2)))else none)else(some ((-1),z4))
def gE.r(n:Nat)(c:gE.Z->Option (Int × ByteArray)):gE.Z->Option (Int × ByteArray)
 | .z2 z1 z2 z3 z4=>gE.r2 n c z1 z2 z3 z4
def gE.e(n:Nat)(c:gE.Z->Option (Int × ByteArray))(a0:List AV)(a1:ByteArray):Option (Int × ByteArray):=
 c (.z2 a0 ((a0.length:Nat):Int) 0 a1)
def gE.E(n:Nat)(c:gE.Z->Option (Int × ByteArray)):gE.A->Option gE.T:=fun(a0,a1)=>gE.e n c a0 a1
def gE.l(n:Nat):Nat->gE.Z->Option (Int × ByteArray):=ez (gE.r n)
def gE.F(n:Nat)(a0:List AV)(a1:ByteArray):Option (Int × ByteArray):=gE.e n (gE.l n n) a0 a1
def gE.FA(n:Nat):gE.A->Option gE.T:=gE.E n (gE.l n n)
def gE.fS:List (Nat × Nat × Fl × Nat):=[]
theorem gE.cW(n:Nat):∀a p,gE.FA n a=some p->gT Tryz.prog 118 (gE.i a) (gE.b a) (gE.y p) (gE.w p):=
 kf (G:=Gk 1) (C:=gE.C n) (cut:=gE.cut) (t:=gE.t) (s:=gE.s) (fS:=gE.fS) (e:=gE.E n) (r:=gE.r n) (n:=n) (cfg.kb 1) mixed dB gE.qi (λa=>by kernel_rfl) (gE.c8 n) Tryz.func118 (by kernel_rfl) (by kernel_rfl) (λrec a=>by kernel_rfl) (λrec z=>by cases z<;>kernel_rfl)
def gE.via{R:Type}(n:Nat):List AV->(AV->Option R)->Option R:=d_ (gE.FA n) gE.o gE.p
theorem gE.cO{R:Type}(n:Nat)(xs:List AV):cT (R:=R) Tryz.prog 118 xs (gE.via n xs):=jk (λ_=>rfl) gE.oi (gE.cW n) xs
abbrev mh.A:=List AV × ByteArray
def mh.i:mh.A->List AV:=fun(a0,a1)=>[.sl ⟨true,74,false⟩ 10 a0,vs a1]
def mh.o(xs:List AV):Option mh.A:=match xs with | [.sl ⟨true,74,false⟩ 10 a0,.v (.string a1)]=>some (a0,a1) | _=>none
theorem mh.oi:∀xs a,mh.o xs=some a->xs=mh.i a:=by
 intro xs a h;unfold mh.o at h;split at h
 ·cases h;rfl
 ·cases h
def mh.C{R:Type}(n:Nat)(f:FuncId)(xs:List AV):(AV->Option R)->Option R:=
 bif Nat.beq f 118 then gE.via n xs else λ_=>none
theorem mh.c8{R:Type}(n:Nat):dt (R:=R) Tryz.prog (mh.C n):=λ_ xs=>cR (gE.cO n xs) (cT.none)
def mh.cut(r:Nat):Option dP:=match r with  | _=>none
def mh.e(n:Nat)(a0:List AV)(a1:ByteArray):Option Int:=
 (gE.F n a0 a1).bind λp1=>
 some p1.1
def mh.E(n:Nat):mh.A->Option dU.T:=fun(a0,a1)=>mh.e n a0 a1
def mh.F(n:Nat)(a0:List AV)(a1:ByteArray):Option Int:=mh.e n a0 a1
def mh.FA(n:Nat):mh.A->Option dU.T:=mh.E n
theorem mh.cW(n:Nat):∀a p,mh.FA n a=some p->dc Tryz.prog 66 (mh.i a) (dU.p p):=gp mh.cut (mh.E n) cfg mixed dB dU.qi (mh.c8 n) Tryz.func66
def mh.via{R:Type}(n:Nat):List AV->(AV->Option R)->Option R:=d_ (mh.FA n) mh.o dU.p
theorem mh.cO{R:Type}(n:Nat)(xs:List AV):cT (R:=R) Tryz.prog 66 xs (mh.via n xs):=c7 mh.oi (λa=>by kernel_rfl) (mh.cW n) xs
abbrev ee.A:=Int × Int × Int
abbrev ee.T:=Bool
def ee.i:ee.A->List AV:=fun(a0,a1,a2)=>[vi a0,vi a1,vi a2]
def ee.o(xs:List AV):Option ee.A:=match xs with | [.v (.int .i64 a0),.v (.int .i64 a1),.v (.int .i64 a2)]=>some (a0,a1,a2) | _=>none
theorem ee.oi:∀xs a,ee.o xs=some a->xs=ee.i a:=by
 intro xs a h;unfold ee.o at h;split at h
 ·cases h;rfl
 ·cases h
def ee.p(p:ee.T):AV:=vb p
def ee.q(x:AV):Option ee.T:=match x with | .v (.bool p0)=>some p0 | _=>none
theorem ee.qi:∀x p,ee.q x=some p->x=ee.p p:=by
 intro x p h;unfold ee.q at h;split at h
 ·cases h;rfl
 ·cases h
def ee.C{R:Type}(n:Nat)(f:FuncId)(xs:List AV):(AV->Option R)->Option R:=
 λ_=>none
theorem ee.c8{R:Type}(n:Nat):dt (R:=R) Tryz.prog (ee.C n):=λ_ xs=>cT.none
def ee.cut(r:Nat):Option dP:=match r with  | _=>none
def ee.e(n:Nat)(a0 a1 a2:Int):Option Bool:=
 bif decide (a1<=a0)then(some (decide (a0<=a2)))else(some false)
def ee.E(n:Nat):ee.A->Option ee.T:=fun(a0,a1,a2)=>ee.e n a0 a1 a2
def ee.F(n:Nat)(a0 a1 a2:Int):Option Bool:=ee.e n a0 a1 a2
def ee.FA(n:Nat):ee.A->Option ee.T:=ee.E n
theorem ee.cW(n:Nat):∀a p,ee.FA n a=some p->dc Tryz.prog 67 (ee.i a) (ee.p p):=gp ee.cut (ee.E n) cfg mixed dB ee.qi (ee.c8 n) Tryz.func67
def ee.via{R:Type}(n:Nat):List AV->(AV->Option R)->Option R:=d_ (ee.FA n) ee.o ee.p
theorem ee.cO{R:Type}(n:Nat)(xs:List AV):cT (R:=R) Tryz.prog 67 xs (ee.via n xs):=c7 ee.oi (λa=>by kernel_rfl) (ee.cW n) xs
abbrev er.A:=ByteArray
def er.i:er.A->List AV:=λa0=>[vs a0]
def er.o(xs:List AV):Option er.A:=match xs with | [.v (.string a0)]=>some a0 | _=>none
theorem er.oi:∀xs a,er.o xs=some a->xs=er.i a:=by
 intro xs a h;unfold er.o at h;split at h
 ·cases h;rfl
 ·cases h
inductive er.Z where
 | z4 (z1 z2:Int) (z3:List AV)
 | z7 (z1 z2:Int) (z3:Bool) (z4 z5:Int) (z6:List AV)
 | z8 (z1:Int) (z2 z3:Bool) (z4 z5:Int) (z6:List AV)
def er.C{R:Type}(n:Nat)(f:FuncId)(xs:List AV):(AV->Option R)->Option R:=
 λ_=>none
theorem er.c8{R:Type}(n:Nat):dt (R:=R) Tryz.prog (er.C n):=λ_ xs=>cT.none
def er.cut(r:Nat):Option dP:=match r with | 4=>some ⟨[15,16,17],[]⟩ | 7=>some ⟨[3,4,5,15,16,17],[]⟩ | 8=>some ⟨[3,5,6,15,16,17],[]⟩ | _=>none
noncomputable def er.t (z:er.Z):List Item:=(dL (match z with | .z4 _ _ _=>4 | .z7 _ _ _ _ _ _=>7 | .z8 _ _ _ _ _ _=>8) 1000 [.code (Tryz.f78.body.getD .skip)]).getD []
def er.s:er.Z->St
 | .z4 z1 z2 z3=>⟨fx 65 0 [(15,.own 0 0 none),(16,vi z1),(17,vi z2)],Mem.ofList [.row ⟨true,5,false⟩ 1 z3],1⟩
 | .z7 z1 z2 z3 z4 z5 z6=>⟨fx 65 0 [(3,vi z1),(4,vu z2),(5,vb z3),(15,.own 0 0 none),(16,vi z4),(17,vi z5)],Mem.ofList [.row ⟨true,5,false⟩ 1 z6],1⟩
 | .z8 z1 z2 z3 z4 z5 z6=>⟨fx 65 0 [(3,vi z1),(5,vb z2),(6,vb z3),(15,.own 0 0 none),(16,vi z4),(17,vi z5)],Mem.ofList [.row ⟨true,5,false⟩ 1 z6],1⟩
def er.r4(n:Nat)(c:er.Z->Option Bool)(z1 z2:Int)(z3:List AV):Option Bool:=
 bif decide (z2<z1)then(bif decide ((0:Int)<=z2)&&decide (z2<((z3.length:Nat):Int))then(cN ((z3.getD ((z2).toNat) .undef).cells) λh4 r5=>
 cQ .u8 h4 λx6=>
 bif decide ((65:Int)<=x6)then(bif decide (x6<=90)then(c (.z7 z2 x6 true z1 z2 z3))else(bif x6==35 then(c (.z7 z2 x6 true z1 z2 z3))else(bif x6==36 then(c (.z7 z2 x6 true z1 z2 z3))else(c (.z7 z2 x6 (x6==64) z1 z2 z3)))))else(bif x6==35 then(c (.z7 z2 x6 true z1 z2 z3))else(bif x6==36 then(c (.z7 z2 x6 true z1 z2 z3))else(c (.z7 z2 x6 (x6==64) z1 z2 z3)))))else none)else(some true)
def er.r7(n:Nat)(c:er.Z->Option Bool)(z1 z2:Int)(z3:Bool)(z4 z5:Int)(z6:List AV):Option Bool:=
 bif decide ((48:Int)<=z2)then(bif decide (z2<=57)then(c (.z8 z1 z3 true z4 z5 z6))else(bif z2==95 then(c (.z8 z1 z3 true z4 z5 z6))else(c (.z8 z1 z3 (z2==46) z4 z5 z6))))else(bif z2==95 then(c (.z8 z1 z3 true z4 z5 z6))else(c (.z8 z1 z3 (z2==46) z4 z5 z6)))
def er.r8(n:Nat)(c:er.Z->Option Bool)(z1:Int)(z2 z3:Bool)(z4 z5:Int)(z6:List AV):Option Bool:=
 bif !z2 then(bif z1==0 then(some false)else(bif !z3 then(some false)else(c (.z4 z4 (IntKind.i64.wrap (z5+1)) z6))))else(c (.z4 z4 (IntKind.i64.wrap (z5+1)) z6))
def er.r(n:Nat)(c:er.Z->Option Bool):er.Z->Option Bool
 | .z4 z1 z2 z3=>er.r4 n c z1 z2 z3
 | .z7 z1 z2 z3 z4 z5 z6=>er.r7 n c z1 z2 z3 z4 z5 z6
 | .z8 z1 z2 z3 z4 z5 z6=>er.r8 n c z1 z2 z3 z4 z5 z6
def er.e(n:Nat)(c:er.Z->Option Bool)(a0:ByteArray):Option Bool:=
 let y1:Bool:=a0.toList==(⟨#[]⟩:ByteArray).toList
 bif y1 then(some false)else(let y2:Bool:=decide (((a0.size:Nat):Int)>10)
 bif y2 then(some false)else(let y3:List AV:=a0.toList.map λb=>vu b.toNat
 c (.z4 ((y3.length:Nat):Int) 0 y3)))
def er.E(n:Nat)(c:er.Z->Option Bool):er.A->Option ee.T:=λa0=>er.e n c a0
def er.l(n:Nat):Nat->er.Z->Option Bool:=ez (er.r n)
def er.F(n:Nat)(a0:ByteArray):Option Bool:=er.e n (er.l n n) a0
def er.FA(n:Nat):er.A->Option ee.T:=er.E n (er.l n n)
theorem er.cW(n:Nat):∀a p,er.FA n a=some p->dc Tryz.prog 78 (er.i a) (ee.p p):=lN er.cut er.t er.s (er.E n) (er.r n) cfg mixed dB ee.qi (er.c8 n) Tryz.func78
def er.via{R:Type}(n:Nat):List AV->(AV->Option R)->Option R:=d_ (er.FA n) er.o ee.p
theorem er.cO{R:Type}(n:Nat)(xs:List AV):cT (R:=R) Tryz.prog 78 xs (er.via n xs):=c7 er.oi (λa=>by kernel_rfl) (er.cW n) xs
abbrev iZ.A:=ByteArray × Int × Int × Int × Int × Int × ByteArray × ByteArray × Int × Int
def iZ.i:iZ.A->List AV:=fun(a0,a1,a2,a3,a4,a5,a6,a7,a8,a9)=>[AV.agg [vs a0,vi a1,vi a2,vi a3,vi a4,vi a5,vs a6,vs a7,vi a8,vi a9]]
def iZ.o(xs:List AV):Option iZ.A:=match xs with | [.agg [.v (.string a0),.v (.int .i64 a1),.v (.int .i64 a2),.v (.int .i64 a3),.v (.int .i64 a4),.v (.int .i64 a5),.v (.string a6),.v (.string a7),.v (.int .i64 a8),.v (.int .i64 a9)]]=>some (a0,a1,a2,a3,a4,a5,a6,a7,a8,a9) | _=>none
theorem iZ.oi:∀xs a,iZ.o xs=some a->xs=iZ.i a:=by
 intro xs a h;unfold iZ.o at h;split at h
 ·cases h;rfl
 ·cases h
def iZ.C{R:Type}(n:Nat)(f:FuncId)(xs:List AV):(AV->Option R)->Option R:=
 λ_=>none
theorem iZ.c8{R:Type}(n:Nat):dt (R:=R) Tryz.prog (iZ.C n):=λ_ xs=>cT.none
def iZ.cut(r:Nat):Option dP:=match r with  | _=>none
def iZ.e(n:Nat)(a0:ByteArray)(a1 a2 a3 a4 a5:Int)(a6 a7:ByteArray)(a8 a9:Int):Option Bool:=
 bif a1==0 then(some true)else(bif a1==1 then(some true)else(bif a1==2 then(some true)else(some (a1==4))))
def iZ.E(n:Nat):iZ.A->Option ee.T:=fun(a0,a1,a2,a3,a4,a5,a6,a7,a8,a9)=>iZ.e n a0 a1 a2 a3 a4 a5 a6 a7 a8 a9
def iZ.F(n:Nat)(a0:ByteArray)(a1 a2 a3 a4 a5:Int)(a6 a7:ByteArray)(a8 a9:Int):Option Bool:=iZ.e n a0 a1 a2 a3 a4 a5 a6 a7 a8 a9
def iZ.FA(n:Nat):iZ.A->Option ee.T:=iZ.E n
theorem iZ.cW(n:Nat):∀a p,iZ.FA n a=some p->dc Tryz.prog 80 (iZ.i a) (ee.p p):=gp iZ.cut (iZ.E n) cfg mixed dB ee.qi (iZ.c8 n) Tryz.func80
def iZ.via{R:Type}(n:Nat):List AV->(AV->Option R)->Option R:=d_ (iZ.FA n) iZ.o ee.p
theorem iZ.cO{R:Type}(n:Nat)(xs:List AV):cT (R:=R) Tryz.prog 80 xs (iZ.via n xs):=c7 iZ.oi (λa=>by kernel_rfl) (iZ.cW n) xs
abbrev gn.T:=ByteArray × Int × Int × Int × Int × Int × ByteArray × ByteArray × Int × Int
def gn.p(p:gn.T):AV:=AV.agg [vs p.1,vi p.2.1,vi p.2.2.1,vi p.2.2.2.1,vi p.2.2.2.2.1,vi p.2.2.2.2.2.1,vs p.2.2.2.2.2.2.1,vs p.2.2.2.2.2.2.2.1,vi p.2.2.2.2.2.2.2.2.1,vi p.2.2.2.2.2.2.2.2.2]
def gn.q(x:AV):Option gn.T:=match x with | .agg [.v (.string p0),.v (.int .i64 p1),.v (.int .i64 p2),.v (.int .i64 p3),.v (.int .i64 p4),.v (.int .i64 p5),.v (.string p6),.v (.string p7),.v (.int .i64 p8),.v (.int .i64 p9)]=>some (p0,p1,p2,p3,p4,p5,p6,p7,p8,p9) | _=>none
theorem gn.qi:∀x p,gn.q x=some p->x=gn.p p:=by
 intro x p h;unfold gn.q at h;split at h
 ·cases h;rfl
 ·cases h
inductive gn.Z where
 | z7 (z1:ByteArray) (z2 z3 z4 z5 z6:Int) (z7 z8:ByteArray) (z9 dk:Int) (dp:ByteArray) (z12 dC dG dE dM:Int) (dS dJ:ByteArray) (dO z20:Int) (z21:ByteArray) (z22 z23 z24 z25 z26:Int) (fD z28:ByteArray) (iD jx:Int)
 | dk (z1:ByteArray) (z2 z3 z4 z5 z6:Int) (z7 z8:ByteArray) (z9 dk:Int) (dp:ByteArray) (z12 dC dG dE dM:Int) (dS dJ:ByteArray) (dO z20:Int) (z21:ByteArray) (z22 z23 z24 z25 z26:Int) (fD z28:ByteArray) (iD jx:Int)
 | dC (z1:ByteArray) (z2 z3 z4 z5 z6:Int) (z7 z8:ByteArray) (z9 dk:Int) (dp:ByteArray) (z12 dC dG dE dM:Int) (dS dJ:ByteArray) (dO z20:Int)
def gn.C{R:Type}(n:Nat)(f:FuncId)(xs:List AV):(AV->Option R)->Option R:=
 bif Nat.beq f 80 then iZ.via n xs else λ_=>none
theorem gn.c8{R:Type}(n:Nat):dt (R:=R) Tryz.prog (gn.C n):=λ_ xs=>cR (iZ.cO n xs) (cT.none)
def gn.cut(r:Nat):Option dP:=match r with | 7=>some ⟨[1,2,3],[]⟩ | 10=>some ⟨[1,2,3],[]⟩ | 13=>some ⟨[2,3],[]⟩ | _=>none
noncomputable def gn.t (z:gn.Z):List Item:=(dL (match z with | .z7 _ _ _ _ _ _ _ _ _ _ _ _ _ _ _ _ _ _ _ _ _ _ _ _ _ _ _ _ _ _=>7 | .dk _ _ _ _ _ _ _ _ _ _ _ _ _ _ _ _ _ _ _ _ _ _ _ _ _ _ _ _ _ _=>10 | .dC _ _ _ _ _ _ _ _ _ _ _ _ _ _ _ _ _ _ _ _=>13) 1000 [.code (Tryz.f79.body.getD .skip)]).getD []
def gn.s:gn.Z->St
 | .z7 z1 z2 z3 z4 z5 z6 z7 z8 z9 dk dp z12 dC dG dE dM dS dJ dO z20 z21 z22 z23 z24 z25 z26 fD z28 iD jx=>⟨fx 37 0 [(1,.ptr 0 0),(2,.ptr 1 0),(3,.ptr 2 0)],Mem.ofList [.box 74 [vs z1,vi z2,vi z3,vi z4,vi z5,vi z6,vs z7,vs z8,vi z9,vi dk],.box 74 [vs dp,vi z12,vi dC,vi dG,vi dE,vi dM,vs dS,vs dJ,vi dO,vi z20],.box 74 [vs z21,vi z22,vi z23,vi z24,vi z25,vi z26,vs fD,vs z28,vi iD,vi jx]],3⟩
 | .dk z1 z2 z3 z4 z5 z6 z7 z8 z9 dk dp z12 dC dG dE dM dS dJ dO z20 z21 z22 z23 z24 z25 z26 fD z28 iD jx=>⟨fx 37 0 [(1,.ptr 0 0),(2,.ptr 1 0),(3,.ptr 2 0)],Mem.ofList [.box 74 [vs z1,vi z2,vi z3,vi z4,vi z5,vi z6,vs z7,vs z8,vi z9,vi dk],.box 74 [vs dp,vi z12,vi dC,vi dG,vi dE,vi dM,vs dS,vs dJ,vi dO,vi z20],.box 74 [vs z21,vi z22,vi z23,vi z24,vi z25,vi z26,vs fD,vs z28,vi iD,vi jx]],3⟩
 | .dC z1 z2 z3 z4 z5 z6 z7 z8 z9 dk dp z12 dC dG dE dM dS dJ dO z20=>⟨fx 37 0 [(2,.ptr 0 0),(3,.ptr 1 0)],Mem.ofList [.box 74 [vs z1,vi z2,vi z3,vi z4,vi z5,vi z6,vs z7,vs z8,vi z9,vi dk],.box 74 [vs dp,vi z12,vi dC,vi dG,vi dE,vi dM,vs dS,vs dJ,vi dO,vi z20]],2⟩
def gn.r7(n:Nat)(c:gn.Z->Option gn.T)(z1:ByteArray)(z2 z3 z4 z5 z6:Int)(z7 z8:ByteArray)(z9 dk:Int)(dp:ByteArray)(z12 dC dG dE dM:Int)(dS dJ:ByteArray)(dO z20:Int)(z21:ByteArray)(z22 z23 z24 z25 z26:Int)(fD z28:ByteArray)(iD jx:Int):Option gn.T:=
 c (.dC dp z12 dC dG dE dM dS dJ dO z20 z21 z22 z23 z24 z25 z6 z7 z28 iD jx)
def gn.E4(n:Nat)(c:gn.Z->Option gn.T)(z1:ByteArray)(z2 z3 z4 z5 z6:Int)(z7 z8:ByteArray)(z9 dk:Int)(dp:ByteArray)(z12 dC dG dE dM:Int)(dS dJ:ByteArray)(dO z20:Int)(z21:ByteArray)(z22 z23 z24 z25 z26:Int)(fD z28:ByteArray)(iD jx:Int):Option gn.T:=
 c (.dC dp z12 dC dG dE dM dS dJ dO z20 z21 z22 z23 z24 z25 z26 fD z8 z9 jx)
def gn.uN(n:Nat)(c:gn.Z->Option gn.T)(z1:ByteArray)(z2 z3 z4 z5 z6:Int)(z7 z8:ByteArray)(z9 dk:Int)(dp:ByteArray)(z12 dC dG dE dM:Int)(dS dJ:ByteArray)(dO z20:Int):Option gn.T:=
 some (dp,z12,dC,dG,dE,dM,dS,dJ,dO,z20)
def gn.r(n:Nat)(c:gn.Z->Option gn.T):gn.Z->Option gn.T
 | .z7 z1 z2 z3 z4 z5 z6 z7 z8 z9 dk dp z12 dC dG dE dM dS dJ dO z20 z21 z22 z23 z24 z25 z26 fD z28 iD jx=>gn.r7 n c z1 z2 z3 z4 z5 z6 z7 z8 z9 dk dp z12 dC dG dE dM dS dJ dO z20 z21 z22 z23 z24 z25 z26 fD z28 iD jx
 | .dk z1 z2 z3 z4 z5 z6 z7 z8 z9 dk dp z12 dC dG dE dM dS dJ dO z20 z21 z22 z23 z24 z25 z26 fD z28 iD jx=>gn.E4 n c z1 z2 z3 z4 z5 z6 z7 z8 z9 dk dp z12 dC dG dE dM dS dJ dO z20 z21 z22 z23 z24 z25 z26 fD z28 iD jx
 | .dC z1 z2 z3 z4 z5 z6 z7 z8 z9 dk dp z12 dC dG dE dM dS dJ dO z20=>gn.uN n c z1 z2 z3 z4 z5 z6 z7 z8 z9 dk dp z12 dC dG dE dM dS dJ dO z20
def gn.e(n:Nat)(c:gn.Z->Option gn.T)(a0:ByteArray)(a1 a2 a3 a4 a5:Int)(a6 a7:ByteArray)(a8 a9:Int):Option gn.T:=
 (iZ.F n a0 a1 a2 a3 a4 a5 a6 a7 a8 a9).bind λp1=>
 bif p1 then(bif a1==0 then(c (.z7 a0 a1 a2 a3 a4 a5 a6 a7 a8 a9 (⟨#[]⟩:ByteArray) 0 0 0 0 0 (⟨#[]⟩:ByteArray) (⟨#[]⟩:ByteArray) 0 0 a0 a1 a2 a3 a4 0 (⟨#[]⟩:ByteArray) (⟨#[]⟩:ByteArray) 0 0))else(bif a1==4 then(c (.z7 a0 a1 a2 a3 a4 a5 a6 a7 a8 a9 (⟨#[]⟩:ByteArray) 0 0 0 0 0 (⟨#[]⟩:ByteArray) (⟨#[]⟩:ByteArray) 0 0 a0 a1 a2 a3 a4 0 (⟨#[]⟩:ByteArray) (⟨#[]⟩:ByteArray) 0 0))else(bif a1==1 then(c (.dk a0 a1 a2 a3 a4 a5 a6 a7 a8 a9 (⟨#[]⟩:ByteArray) 0 0 0 0 0 (⟨#[]⟩:ByteArray) (⟨#[]⟩:ByteArray) 0 0 a0 a1 a2 a3 a4 0 (⟨#[]⟩:ByteArray) (⟨#[]⟩:ByteArray) 0 0))else(bif a1==2 then(c (.dk a0 a1 a2 a3 a4 a5 a6 a7 a8 a9 (⟨#[]⟩:ByteArray) 0 0 0 0 0 (⟨#[]⟩:ByteArray) (⟨#[]⟩:ByteArray) 0 0 a0 a1 a2 a3 a4 0 (⟨#[]⟩:ByteArray) (⟨#[]⟩:ByteArray) 0 0))else(bif a1==5 then(c (.dC (⟨#[]⟩:ByteArray) 0 0 0 0 0 (⟨#[]⟩:ByteArray) (⟨#[]⟩:ByteArray) 0 0 a0 a1 a2 a3 a4 0 (⟨#[]⟩:ByteArray) (⟨#[]⟩:ByteArray) 0 a9))else(c (.dC (⟨#[]⟩:ByteArray) 0 0 0 0 0 (⟨#[]⟩:ByteArray) (⟨#[]⟩:ByteArray) 0 0 a0 a1 a2 a3 a4 0 (⟨#[]⟩:ByteArray) (⟨#[]⟩:ByteArray) 0 0)))))))else(bif a1==0 then(c (.z7 a0 a1 a2 a3 a4 a5 a6 a7 a8 a9 (⟨#[]⟩:ByteArray) 0 0 0 0 0 (⟨#[]⟩:ByteArray) (⟨#[]⟩:ByteArray) 0 0 a0 a1 0 0 0 0 (⟨#[]⟩:ByteArray) (⟨#[]⟩:ByteArray) 0 0))else(bif a1==4 then(c (.z7 a0 a1 a2 a3 a4 a5 a6 a7 a8 a9 (⟨#[]⟩:ByteArray) 0 0 0 0 0 (⟨#[]⟩:ByteArray) (⟨#[]⟩:ByteArray) 0 0 a0 a1 0 0 0 0 (⟨#[]⟩:ByteArray) (⟨#[]⟩:ByteArray) 0 0))else(bif a1==1 then(c (.dk a0 a1 a2 a3 a4 a5 a6 a7 a8 a9 (⟨#[]⟩:ByteArray) 0 0 0 0 0 (⟨#[]⟩:ByteArray) (⟨#[]⟩:ByteArray) 0 0 a0 a1 0 0 0 0 (⟨#[]⟩:ByteArray) (⟨#[]⟩:ByteArray) 0 0))else(bif a1==2 then(c (.dk a0 a1 a2 a3 a4 a5 a6 a7 a8 a9 (⟨#[]⟩:ByteArray) 0 0 0 0 0 (⟨#[]⟩:ByteArray) (⟨#[]⟩:ByteArray) 0 0 a0 a1 0 0 0 0 (⟨#[]⟩:ByteArray) (⟨#[]⟩:ByteArray) 0 0))else(bif a1==5 then(c (.dC (⟨#[]⟩:ByteArray) 0 0 0 0 0 (⟨#[]⟩:ByteArray) (⟨#[]⟩:ByteArray) 0 0 a0 a1 0 0 0 0 (⟨#[]⟩:ByteArray) (⟨#[]⟩:ByteArray) 0 a9))else(c (.dC (⟨#[]⟩:ByteArray) 0 0 0 0 0 (⟨#[]⟩:ByteArray) (⟨#[]⟩:ByteArray) 0 0 a0 a1 0 0 0 0 (⟨#[]⟩:ByteArray) (⟨#[]⟩:ByteArray) 0 0)))))))
def gn.E(n:Nat)(c:gn.Z->Option gn.T):iZ.A->Option gn.T:=fun(a0,a1,a2,a3,a4,a5,a6,a7,a8,a9)=>gn.e n c a0 a1 a2 a3 a4 a5 a6 a7 a8 a9
def gn.l(n:Nat):Nat->gn.Z->Option gn.T:=ez (gn.r n)
def gn.F(n:Nat)(a0:ByteArray)(a1 a2 a3 a4 a5:Int)(a6 a7:ByteArray)(a8 a9:Int):Option gn.T:=gn.e n (gn.l n n) a0 a1 a2 a3 a4 a5 a6 a7 a8 a9
def gn.FA(n:Nat):iZ.A->Option gn.T:=gn.E n (gn.l n n)
theorem gn.cW(n:Nat):∀a p,gn.FA n a=some p->dc Tryz.prog 79 (iZ.i a) (gn.p p):=lN gn.cut gn.t gn.s (gn.E n) (gn.r n) cfg mixed dB gn.qi (gn.c8 n) Tryz.func79
def gn.via{R:Type}(n:Nat):List AV->(AV->Option R)->Option R:=d_ (gn.FA n) iZ.o gn.p
theorem gn.cO{R:Type}(n:Nat)(xs:List AV):cT (R:=R) Tryz.prog 79 xs (gn.via n xs):=c7 iZ.oi (λa=>by kernel_rfl) (gn.cW n) xs
def om.C{R:Type}(n:Nat)(f:FuncId)(xs:List AV):(AV->Option R)->Option R:=
 λ_=>none
theorem om.c8{R:Type}(n:Nat):dt (R:=R) Tryz.prog (om.C n):=λ_ xs=>cT.none
def om.cut(r:Nat):Option dP:=match r with  | _=>none
def om.e(n:Nat)(a0 a1 a2:Int):Option Bool:=
 bif decide (a1<=a0)then(some (decide (a0<=a2)))else(some false)
def om.E(n:Nat):ee.A->Option ee.T:=fun(a0,a1,a2)=>om.e n a0 a1 a2
def om.F(n:Nat)(a0 a1 a2:Int):Option Bool:=om.e n a0 a1 a2
def om.FA(n:Nat):ee.A->Option ee.T:=om.E n
theorem om.cW(n:Nat):∀a p,om.FA n a=some p->dc Tryz.prog 131 (ee.i a) (ee.p p):=gp om.cut (om.E n) cfg mixed dB ee.qi (om.c8 n) Tryz.func131
def om.via{R:Type}(n:Nat):List AV->(AV->Option R)->Option R:=d_ (om.FA n) ee.o ee.p
theorem om.cO{R:Type}(n:Nat)(xs:List AV):cT (R:=R) Tryz.prog 131 xs (om.via n xs):=c7 ee.oi (λa=>by kernel_rfl) (om.cW n) xs
inductive j_.Z where
 | z2 (z1:List AV) (z2 z3:Int)
def j_.C{R:Type}(n:Nat)(f:FuncId)(xs:List AV):(AV->Option R)->Option R:=
 λ_=>none
theorem j_.c8{R:Type}(n:Nat):dt (R:=R) Tryz.prog (j_.C n):=λ_ xs=>cT.none
def j_.cut(r:Nat):Option dP:=match r with | 2=>some ⟨[5,6,7],[]⟩ | _=>none
noncomputable def j_.t (z:j_.Z):List Item:=(dL (match z with | .z2 _ _ _=>2) 1000 [.code (Tryz.f132.body.getD .skip)]).getD []
def j_.s:j_.Z->St
 | .z2 z1 z2 z3=>⟨fx 15 0 [(5,.sl ⟨true,31,false⟩ 1 z1),(6,vi z2),(7,vi z3)],Mem.ofList [],0⟩
def j_.r2(n:Nat)(c:j_.Z->Option Int)(z1:List AV)(z2 z3:Int):Option Int:=
 bif decide (z3<z2)then(bif decide ((0:Int)<=z3)&&decide (z3<((z1.length:Nat):Int))then(cN ((z1.getD ((z3).toNat) .undef).cells) λh1 r2=>
 cQ .i64 h1 λx3=>
 bif x3 != 0 then(some x3)else(c (.z2 z1 z2 (IntKind.i64.wrap (z3+1)))))else none)else(some 0)
def j_.r(n:Nat)(c:j_.Z->Option Int):j_.Z->Option Int
 | .z2 z1 z2 z3=>j_.r2 n c z1 z2 z3
def j_.e(n:Nat)(c:j_.Z->Option Int)(a0:List AV):Option Int:=
 c (.z2 a0 ((a0.length:Nat):Int) 0)
def j_.E(n:Nat)(c:j_.Z->Option Int):dU.A->Option dU.T:=λa0=>j_.e n c a0
def j_.l(n:Nat):Nat->j_.Z->Option Int:=ez (j_.r n)
def j_.F(n:Nat)(a0:List AV):Option Int:=j_.e n (j_.l n n) a0
def j_.FA(n:Nat):dU.A->Option dU.T:=j_.E n (j_.l n n)
theorem j_.cW(n:Nat):∀a p,j_.FA n a=some p->dc Tryz.prog 132 (dU.i a) (dU.p p):=lN j_.cut j_.t j_.s (j_.E n) (j_.r n) cfg mixed dB dU.qi (j_.c8 n) Tryz.func132
def j_.via{R:Type}(n:Nat):List AV->(AV->Option R)->Option R:=d_ (j_.FA n) dU.o dU.p
theorem j_.cO{R:Type}(n:Nat)(xs:List AV):cT (R:=R) Tryz.prog 132 xs (j_.via n xs):=c7 dU.oi (λa=>by kernel_rfl) (j_.cW n) xs
def nE.C{R:Type}(n:Nat)(f:FuncId)(xs:List AV):(AV->Option R)->Option R:=
 λ_=>none
theorem nE.c8{R:Type}(n:Nat):dt (R:=R) Tryz.prog (nE.C n):=λ_ xs=>cT.none
def nE.cut(r:Nat):Option dP:=match r with  | _=>none
def nE.e(n:Nat)(a0:Bool)(a1:Int):Option Int:=
 bif a0 then(some a1)else(some 0)
def nE.E(n:Nat):kx.A->Option dU.T:=fun(a0,a1)=>nE.e n a0 a1
def nE.F(n:Nat)(a0:Bool)(a1:Int):Option Int:=nE.e n a0 a1
def nE.FA(n:Nat):kx.A->Option dU.T:=nE.E n
theorem nE.cW(n:Nat):∀a p,nE.FA n a=some p->dc Tryz.prog 133 (kx.i a) (dU.p p):=gp nE.cut (nE.E n) cfg mixed dB dU.qi (nE.c8 n) Tryz.func133
def nE.via{R:Type}(n:Nat):List AV->(AV->Option R)->Option R:=d_ (nE.FA n) kx.o dU.p
theorem nE.cO{R:Type}(n:Nat)(xs:List AV):cT (R:=R) Tryz.prog 133 xs (nE.via n xs):=c7 kx.oi (λa=>by kernel_rfl) (nE.cW n) xs
abbrev gj.A:=Int × Int × Int
def gj.i:gj.A->List AV:=fun(a0,a1,a2)=>[AV.agg [vi a0,vi a1,vi a2]]
def gj.o(xs:List AV):Option gj.A:=match xs with | [.agg [.v (.int .i64 a0),.v (.int .i64 a1),.v (.int .i64 a2)]]=>some (a0,a1,a2) | _=>none
theorem gj.oi:∀xs a,gj.o xs=some a->xs=gj.i a:=by
 intro xs a h;unfold gj.o at h;split at h
 ·cases h;rfl
 ·cases h
inductive gj.Z where
 | dC (z1 z2:Bool)
def gj.C{R:Type}(n:Nat)(f:FuncId)(xs:List AV):(AV->Option R)->Option R:=
 bif Nat.beq f 131 then om.via n xs else bif Nat.beq f 132 then j_.via n xs else bif Nat.beq f 133 then nE.via n xs else λ_=>none
theorem gj.c8{R:Type}(n:Nat):dt (R:=R) Tryz.prog (gj.C n):=λ_ xs=>cR (om.cO n xs) (cR (j_.cO n xs) (cR (nE.cO n xs) (cT.none)))
def gj.cut(r:Nat):Option dP:=match r with | 13=>some ⟨[3,4],[]⟩ | _=>none
noncomputable def gj.t (z:gj.Z):List Item:=(dL (match z with | .dC _ _=>13) 1000 [.code (Tryz.f81.body.getD .skip)]).getD []
def gj.s:gj.Z->St
 | .dC z1 z2=>⟨fx 54 0 [(3,vb z1),(4,vb z2)],Mem.ofList [],0⟩
def gj.uN(n:Nat)(c:gj.Z->Option Int)(z1 z2:Bool):Option Int:=
 (nE.F n (!z1) 18).bind λp8=>
 (nE.F n (!z2) 3).bind λp9=>
 (j_.F n [vi p8,vi p9]).bind λku=>
 some ku
def gj.r(n:Nat)(c:gj.Z->Option Int):gj.Z->Option Int
 | .dC z1 z2=>gj.uN n c z1 z2
def gj.e(n:Nat)(c:gj.Z->Option Int)(a0 a1 a2:Int):Option Int:=
 bif a0==0 then((om.F n a1 1 256).bind λp1=>
 c (.dC p1 (a2==0)))else(bif a0==1 then((om.F n a1 1 15).bind λp2=>
 (om.F n a2 0 a1).bind λp3=>
 c (.dC p2 p3))else(bif a0==2 then((om.F n a1 1 15).bind λp4=>
 (om.F n a2 0 a1).bind λp5=>
 c (.dC p4 p5))else(bif a0==3 then(bif a1==4 then((om.F n a2 0 a1).bind λp6=>
 c (.dC true p6))else((om.F n a2 0 a1).bind λp7=>
 c (.dC (a1==9) p7)))else(bif a0==4 then(c (.dC (a1==0) (a2==0)))else(some 4)))))
def gj.E(n:Nat)(c:gj.Z->Option Int):gj.A->Option dU.T:=fun(a0,a1,a2)=>gj.e n c a0 a1 a2
def gj.l(n:Nat):Nat->gj.Z->Option Int:=ez (gj.r n)
def gj.F(n:Nat)(a0 a1 a2:Int):Option Int:=gj.e n (gj.l n n) a0 a1 a2
def gj.FA(n:Nat):gj.A->Option dU.T:=gj.E n (gj.l n n)
theorem gj.cW(n:Nat):∀a p,gj.FA n a=some p->dc Tryz.prog 81 (gj.i a) (dU.p p):=lN gj.cut gj.t gj.s (gj.E n) (gj.r n) cfg mixed dB dU.qi (gj.c8 n) Tryz.func81
def gj.via{R:Type}(n:Nat):List AV->(AV->Option R)->Option R:=d_ (gj.FA n) gj.o dU.p
theorem gj.cO{R:Type}(n:Nat)(xs:List AV):cT (R:=R) Tryz.prog 81 xs (gj.via n xs):=c7 gj.oi (λa=>by kernel_rfl) (gj.cW n) xs
abbrev fK.A:=Int
def fK.i:fK.A->List AV:=λa0=>[vi a0]
def fK.o(xs:List AV):Option fK.A:=match xs with | [.v (.int .i64 a0)]=>some a0 | _=>none
theorem fK.oi:∀xs a,fK.o xs=some a->xs=fK.i a:=by
 intro xs a h;unfold fK.o at h;split at h
 ·cases h;rfl
 ·cases h
inductive fK.Z where
 | z3 (z1 z2 z3:Int)
def fK.C{R:Type}(n:Nat)(f:FuncId)(xs:List AV):(AV->Option R)->Option R:=
 λ_=>none
theorem fK.c8{R:Type}(n:Nat):dt (R:=R) Tryz.prog (fK.C n):=λ_ xs=>cT.none
def fK.cut(r:Nat):Option dP:=match r with | 3=>some ⟨[3,5,6],[]⟩ | _=>none
noncomputable def fK.t (z:fK.Z):List Item:=(dL (match z with | .z3 _ _ _=>3) 1000 [.code (Tryz.f134.body.getD .skip)]).getD []
def fK.s:fK.Z->St
 | .z3 z1 z2 z3=>⟨fx 12 0 [(3,vi z1),(5,vi z2),(6,vi z3)],Mem.ofList [],0⟩
def fK.r3(n:Nat)(c:fK.Z->Option Int)(z1 z2 z3:Int):Option Int:=
 bif decide (z3<z2)then(c (.z3 (IntKind.i64.wrap (z1*10)) z2 (IntKind.i64.wrap (z3+1))))else(some z1)
def fK.r(n:Nat)(c:fK.Z->Option Int):fK.Z->Option Int
 | .z3 z1 z2 z3=>fK.r3 n c z1 z2 z3
def fK.e(n:Nat)(c:fK.Z->Option Int)(a0:Int):Option Int:=
 c (.z3 1 (if 18<a0 then 18 else a0) 0)
def fK.E(n:Nat)(c:fK.Z->Option Int):fK.A->Option dU.T:=λa0=>fK.e n c a0
def fK.l(n:Nat):Nat->fK.Z->Option Int:=ez (fK.r n)
def fK.F(n:Nat)(a0:Int):Option Int:=fK.e n (fK.l n n) a0
def fK.FA(n:Nat):fK.A->Option dU.T:=fK.E n (fK.l n n)
theorem fK.cW(n:Nat):∀a p,fK.FA n a=some p->dc Tryz.prog 134 (fK.i a) (dU.p p):=lN fK.cut fK.t fK.s (fK.E n) (fK.r n) cfg mixed dB dU.qi (fK.c8 n) Tryz.func134
def fK.via{R:Type}(n:Nat):List AV->(AV->Option R)->Option R:=d_ (fK.FA n) fK.o dU.p
theorem fK.cO{R:Type}(n:Nat)(xs:List AV):cT (R:=R) Tryz.prog 134 xs (fK.via n xs):=c7 fK.oi (λa=>by kernel_rfl) (fK.cW n) xs
abbrev lR.A:=Int × Int × Int × Int × ByteArray
def lR.i:lR.A->List AV:=fun(a0,a1,a2,a3,a4)=>[AV.agg [vi a0,vi a1,vi a2],AV.agg [vi a3,vs a4]]
def lR.o(xs:List AV):Option lR.A:=match xs with | [.agg [.v (.int .i64 a0),.v (.int .i64 a1),.v (.int .i64 a2)],.agg [.v (.int .i64 a3),.v (.string a4)]]=>some (a0,a1,a2,a3,a4) | _=>none
theorem lR.oi:∀xs a,lR.o xs=some a->xs=lR.i a:=by
 intro xs a h;unfold lR.o at h;split at h
 ·cases h;rfl
 ·cases h
def lR.C{R:Type}(n:Nat)(f:FuncId)(xs:List AV):(AV->Option R)->Option R:=
 bif Nat.beq f 81 then gj.via n xs else bif Nat.beq f 131 then om.via n xs else bif Nat.beq f 132 then j_.via n xs else bif Nat.beq f 133 then nE.via n xs else bif Nat.beq f 134 then fK.via n xs else λ_=>none
theorem lR.c8{R:Type}(n:Nat):dt (R:=R) Tryz.prog (lR.C n):=λ_ xs=>cR (gj.cO n xs) (cR (om.cO n xs) (cR (j_.cO n xs) (cR (nE.cO n xs) (cR (fK.cO n xs) (cT.none)))))
def lR.cut(r:Nat):Option dP:=match r with  | _=>none
def lR.e(n:Nat)(a0 a1 a2 a3:Int)(a4:ByteArray):Option Int:=
 (gj.F n a0 a1 a2).bind λp1=>
 (nE.F n (a0==4) 17).bind λp2=>
 (j_.F n [vi p1,vi p2]).bind λp3=>
 bif p3 != 0 then(some p3)else(bif a0==0 then((nE.F n (a3 != 0) 5).bind λp4=>
 let y5:Bool:=((a4.size:Nat):Int) != a1
 (nE.F n y5 18).bind λp6=>
 (j_.F n [vi p4,vi p6]).bind λp7=>
 some p7)else((fK.F n a1).bind λp8=>
 let y9:Bool:=!(a4.toList==(⟨#[]⟩:ByteArray).toList)
 (nE.F n y9 5).bind λku=>
 (om.F n a3 (IntKind.i64.wrap (0 - (IntKind.i64.wrap (p8 - 1)))) (IntKind.i64.wrap (p8 - 1))).bind λln=>
 (nE.F n (!ln) 19).bind λnV=>
 (j_.F n [vi ku,vi nV]).bind λkR=>
 some kR))
def lR.E(n:Nat):lR.A->Option dU.T:=fun(a0,a1,a2,a3,a4)=>lR.e n a0 a1 a2 a3 a4
def lR.F(n:Nat)(a0 a1 a2 a3:Int)(a4:ByteArray):Option Int:=lR.e n a0 a1 a2 a3 a4
def lR.FA(n:Nat):lR.A->Option dU.T:=lR.E n
theorem lR.cW(n:Nat):∀a p,lR.FA n a=some p->dc Tryz.prog 82 (lR.i a) (dU.p p):=gp lR.cut (lR.E n) cfg mixed dB dU.qi (lR.c8 n) Tryz.func82
def lR.via{R:Type}(n:Nat):List AV->(AV->Option R)->Option R:=d_ (lR.FA n) lR.o dU.p
theorem lR.cO{R:Type}(n:Nat)(xs:List AV):cT (R:=R) Tryz.prog 82 xs (lR.via n xs):=c7 lR.oi (λa=>by kernel_rfl) (lR.cW n) xs
def tr.C{R:Type}(n:Nat)(f:FuncId)(xs:List AV):(AV->Option R)->Option R:=
 λ_=>none
theorem tr.c8{R:Type}(n:Nat):dt (R:=R) Tryz.prog (tr.C n):=λ_ xs=>cT.none
def tr.cut(r:Nat):Option dP:=match r with  | _=>none
def tr.e(n:Nat)(a0 a1 a2:Int):Option Int:=
 bif a0==1 then(let y1:Int:=IntKind.i64.wrap (Int.tdiv a1 2)
 some (IntKind.i64.wrap (y1+1)))else(bif a0==3 then(let y2:Int:=IntKind.i64.wrap (Int.tdiv a1 9)
 let y3:Int:=IntKind.i64.wrap ((2:Int)+(IntKind.i64.wrap (y2*2)))
 some y3)else(bif a0==4 then(some 16)else(some a1)))
def tr.E(n:Nat):gj.A->Option dU.T:=fun(a0,a1,a2)=>tr.e n a0 a1 a2
def tr.F(n:Nat)(a0 a1 a2:Int):Option Int:=tr.e n a0 a1 a2
def tr.FA(n:Nat):gj.A->Option dU.T:=tr.E n
theorem tr.cW(n:Nat):∀a p,tr.FA n a=some p->dc Tryz.prog 165 (gj.i a) (dU.p p):=gp tr.cut (tr.E n) cfg mixed dB dU.qi (tr.c8 n) Tryz.func165
def tr.via{R:Type}(n:Nat):List AV->(AV->Option R)->Option R:=d_ (tr.FA n) gj.o dU.p
theorem tr.cO{R:Type}(n:Nat)(xs:List AV):cT (R:=R) Tryz.prog 165 xs (tr.via n xs):=c7 gj.oi (λa=>by kernel_rfl) (tr.cW n) xs
abbrev mN.T:=Int × Int
def mN.p(p:mN.T):AV:=.eC [vi p.1,vi p.2]
def mN.q(x:AV):Option mN.T:=match x with | .eC [.v (.int .i64 p0),.v (.int .i64 p1)]=>some (p0,p1) | _=>none
theorem mN.qi:∀x p,mN.q x=some p->x=mN.p p:=by
 intro x p h;unfold mN.q at h;split at h
 ·cases h;rfl
 ·cases h
def mN.C{R:Type}(n:Nat)(f:FuncId)(xs:List AV):(AV->Option R)->Option R:=
 bif Nat.beq f 81 then gj.via n xs else bif Nat.beq f 165 then tr.via n xs else λ_=>none
theorem mN.c8{R:Type}(n:Nat):dt (R:=R) Tryz.prog (mN.C n):=λ_ xs=>cR (gj.cO n xs) (cR (tr.cO n xs) (cT.none))
def mN.cut(r:Nat):Option dP:=match r with  | _=>none
def mN.e(n:Nat)(a0 a1 a2:Int):Option (Int × Int):=
 (gj.F n a0 a1 a2).bind λp1=>
 bif p1 != 0 then(some (0,p1))else((tr.F n a0 a1 a2).bind λp2=>
 some (p2,0))
def mN.E(n:Nat):gj.A->Option mN.T:=fun(a0,a1,a2)=>mN.e n a0 a1 a2
def mN.F(n:Nat)(a0 a1 a2:Int):Option (Int × Int):=mN.e n a0 a1 a2
def mN.FA(n:Nat):gj.A->Option mN.T:=mN.E n
theorem mN.cW(n:Nat):∀a p,mN.FA n a=some p->dc Tryz.prog 136 (gj.i a) (mN.p p):=gp mN.cut (mN.E n) cfg mixed dB mN.qi (mN.c8 n) Tryz.func136
def mN.via{R:Type}(n:Nat):List AV->(AV->Option R)->Option R:=d_ (mN.FA n) gj.o mN.p
theorem mN.cO{R:Type}(n:Nat)(xs:List AV):cT (R:=R) Tryz.prog 136 xs (mN.via n xs):=c7 gj.oi (λa=>by kernel_rfl) (mN.cW n) xs
def qS.C{R:Type}(n:Nat)(f:FuncId)(xs:List AV):(AV->Option R)->Option R:=
 bif Nat.beq f 136 then mN.via n xs else λ_=>none
theorem qS.c8{R:Type}(n:Nat):dt (R:=R) Tryz.prog (qS.C n):=λ_ xs=>cR (mN.cO n xs) (cT.none)
def qS.cut(r:Nat):Option dP:=match r with  | _=>none
def qS.e(n:Nat)(a0:ByteArray)(a1 a2 a3 a4 a5:Int)(a6 a7:ByteArray)(a8 a9:Int):Option Int:=
 (mN.F n a2 a3 a4).bind λp1=>
 some p1.1
def qS.E(n:Nat):iZ.A->Option dU.T:=fun(a0,a1,a2,a3,a4,a5,a6,a7,a8,a9)=>qS.e n a0 a1 a2 a3 a4 a5 a6 a7 a8 a9
def qS.F(n:Nat)(a0:ByteArray)(a1 a2 a3 a4 a5:Int)(a6 a7:ByteArray)(a8 a9:Int):Option Int:=qS.e n a0 a1 a2 a3 a4 a5 a6 a7 a8 a9
def qS.FA(n:Nat):iZ.A->Option dU.T:=qS.E n
theorem qS.cW(n:Nat):∀a p,qS.FA n a=some p->dc Tryz.prog 85 (iZ.i a) (dU.p p):=gp qS.cut (qS.E n) cfg mixed dB dU.qi (qS.c8 n) Tryz.func85
def qS.via{R:Type}(n:Nat):List AV->(AV->Option R)->Option R:=d_ (qS.FA n) iZ.o dU.p
theorem qS.cO{R:Type}(n:Nat)(xs:List AV):cT (R:=R) Tryz.prog 85 xs (qS.via n xs):=c7 iZ.oi (λa=>by kernel_rfl) (qS.cW n) xs
abbrev nF.A:=ByteArray × Int × Int × Int × Int × Int × ByteArray × ByteArray × Int × Int × List AV
def nF.i:nF.A->List AV:=fun(a0,a1,a2,a3,a4,a5,a6,a7,a8,a9,oL)=>[AV.agg [vs a0,vi a1,vi a2,vi a3,vi a4,vi a5,vs a6,vs a7,vi a8,vi a9],.sl ⟨true,74,false⟩ 10 oL]
def nF.o(xs:List AV):Option nF.A:=match xs with | [.agg [.v (.string a0),.v (.int .i64 a1),.v (.int .i64 a2),.v (.int .i64 a3),.v (.int .i64 a4),.v (.int .i64 a5),.v (.string a6),.v (.string a7),.v (.int .i64 a8),.v (.int .i64 a9)],.sl ⟨true,74,false⟩ 10 oL]=>some (a0,a1,a2,a3,a4,a5,a6,a7,a8,a9,oL) | _=>none
theorem nF.oi:∀xs a,nF.o xs=some a->xs=nF.i a:=by
 intro xs a h;unfold nF.o at h;split at h
 ·cases h;rfl
 ·cases h
def nF.C{R:Type}(n:Nat)(f:FuncId)(xs:List AV):(AV->Option R)->Option R:=
 bif Nat.beq f 43 then dU.via n xs else bif Nat.beq f 44 then kx.via n xs else bif Nat.beq f 66 then mh.via n xs else bif Nat.beq f 67 then ee.via n xs else bif Nat.beq f 85 then qS.via n xs else λ_=>none
theorem nF.c8{R:Type}(n:Nat):dt (R:=R) Tryz.prog (nF.C n):=λ_ xs=>cR (dU.cO n xs) (cR (kx.cO n xs) (cR (mh.cO n xs) (cR (ee.cO n xs) (cR (qS.cO n xs) (cT.none)))))
def nF.cut(r:Nat):Option dP:=match r with  | _=>none
def nF.e(n:Nat)(a0:ByteArray)(a1 a2 a3 a4 a5:Int)(a6 a7:ByteArray)(a8 a9:Int)(oL:List AV):Option Int:=
 (mh.F n oL a7).bind λp1=>
 bif decide (p1<0)then(some 11)else(bif decide ((0:Int)<=p1)&&decide (p1<((oL.length:Nat):Int))then(cN ((oL.getD ((p1).toNat) .undef).cells) λh2 r3=>
 df h2 λs4=>
 cN r3 λh5 r6=>
 cQ .i64 h5 λx7=>
 cN r6 λh8 r9=>
 cQ .i64 h8 λQb=>
 cN r9 λGW ry=>
 cQ .i64 GW λM9=>
 cN ry λEl qX=>
 cQ .i64 El λK6=>
 cN qX λCw sE=>
 cQ .i64 Cw λA9=>
 cN sE λCv qw=>
 df Cv λTJ=>
 cN qw λCu qW=>
 df Cu λQd=>
 cN qW λCt yj=>
 cQ .i64 Ct λHH=>
 cN yj λKe Ns=>
 cQ .i64 Ke λQa=>
 bif a1==2 then((kx.F n (x7 != 3) 17).bind λGi=>
 (ee.F n a8 0 256).bind λHO=>
 (kx.F n (!HO) 3).bind λAc=>
 (dU.F n [vi Gi,vi Ac]).bind λLR=>
 some LR)else(bif x7 != 0 then(some 17)else((qS.F n s4 x7 Qb M9 K6 A9 TJ Qd HH Qa).bind λHN=>
 (qS.F n a0 a1 a2 a3 a4 a5 a6 a7 a8 a9).bind λyp=>
 (ee.F n a8 0 (IntKind.i64.wrap (HN - yp))).bind λVK=>
 (kx.F n (!VK) 3).bind λRy=>
 some Ry)))else none)
def nF.E(n:Nat):nF.A->Option dU.T:=fun(a0,a1,a2,a3,a4,a5,a6,a7,a8,a9,oL)=>nF.e n a0 a1 a2 a3 a4 a5 a6 a7 a8 a9 oL
def nF.F(n:Nat)(a0:ByteArray)(a1 a2 a3 a4 a5:Int)(a6 a7:ByteArray)(a8 a9:Int)(oL:List AV):Option Int:=nF.e n a0 a1 a2 a3 a4 a5 a6 a7 a8 a9 oL
def nF.FA(n:Nat):nF.A->Option dU.T:=nF.E n
theorem nF.cW(n:Nat):∀a p,nF.FA n a=some p->dc Tryz.prog 83 (nF.i a) (dU.p p):=gp nF.cut (nF.E n) cfg mixed dB dU.qi (nF.c8 n) Tryz.func83
def nF.via{R:Type}(n:Nat):List AV->(AV->Option R)->Option R:=d_ (nF.FA n) nF.o dU.p
theorem nF.cO{R:Type}(n:Nat)(xs:List AV):cT (R:=R) Tryz.prog 83 xs (nF.via n xs):=c7 nF.oi (λa=>by kernel_rfl) (nF.cW n) xs
abbrev iB.A:=List AV × List AV × List AV × Int
def iB.i:iB.A->List AV:=fun(a0,a1,a2,a3)=>[AV.agg [.sl ⟨true,74,false⟩ 10 a0,.sl ⟨false,86,false⟩ 2 a1,.sl ⟨true,82,false⟩ 4 a2],vi a3]
def iB.o(xs:List AV):Option iB.A:=match xs with | [.agg [.sl ⟨true,74,false⟩ 10 a0,.sl ⟨false,86,false⟩ 2 a1,.sl ⟨true,82,false⟩ 4 a2],.v (.int .i64 a3)]=>some (a0,a1,a2,a3) | _=>none
theorem iB.oi:∀xs a,iB.o xs=some a->xs=iB.i a:=by
 intro xs a h;unfold iB.o at h;split at h
 ·cases h;rfl
 ·cases h
inductive iB.Z where
 | z12 (z1:ByteArray) (z2 z3 z4 z5 z6:Int) (z7 z8:ByteArray) (z9 dk:Int)
 | dE (z1:List AV) (z2:ByteArray) (z3 z4 z5 z6 z7:Int) (z8 z9:ByteArray) (dk dp:Int)
def iB.C{R:Type}(n:Nat)(f:FuncId)(xs:List AV):(AV->Option R)->Option R:=
 bif Nat.beq f 43 then dU.via n xs else bif Nat.beq f 44 then kx.via n xs else bif Nat.beq f 66 then mh.via n xs else bif Nat.beq f 67 then ee.via n xs else bif Nat.beq f 78 then er.via n xs else bif Nat.beq f 79 then gn.via n xs else bif Nat.beq f 80 then iZ.via n xs else bif Nat.beq f 81 then gj.via n xs else bif Nat.beq f 82 then lR.via n xs else bif Nat.beq f 83 then nF.via n xs else λ_=>none
theorem iB.c8{R:Type}(n:Nat):dt (R:=R) Tryz.prog (iB.C n):=λ_ xs=>cR (dU.cO n xs) (cR (kx.cO n xs) (cR (mh.cO n xs) (cR (ee.cO n xs) (cR (er.cO n xs) (cR (gn.cO n xs) (cR (iZ.cO n xs) (cR (gj.cO n xs) (cR (lR.cO n xs) (cR (nF.cO n xs) (cT.none))))))))))
def iB.cut(r:Nat):Option dP:=match r with | 12=>some ⟨[5],[]⟩ | 15=>some ⟨[5,6],[]⟩ | _=>none
noncomputable def iB.t (z:iB.Z):List Item:=(dL (match z with | .z12 _ _ _ _ _ _ _ _ _ _=>12 | .dE _ _ _ _ _ _ _ _ _ _ _=>15) 1000 [.code (Tryz.f45.body.getD .skip)]).getD []
def iB.s:iB.Z->St
 | .z12 z1 z2 z3 z4 z5 z6 z7 z8 z9 dk=>⟨fx 86 0 [(5,.ptr 0 0)],Mem.ofList [.box 74 [vs z1,vi z2,vi z3,vi z4,vi z5,vi z6,vs z7,vs z8,vi z9,vi dk]],1⟩
 | .dE z1 z2 z3 z4 z5 z6 z7 z8 z9 dk dp=>⟨fx 86 0 [(5,.ptr 0 0),(6,.sl ⟨true,74,false⟩ 10 z1)],Mem.ofList [.box 74 [vs z2,vi z3,vi z4,vi z5,vi z6,vi z7,vs z8,vs z9,vi dk,vi dp]],1⟩
def iB.ry(n:Nat)(c:iB.Z->Option Int)(z1:ByteArray)(z2 z3 z4 z5 z6:Int)(z7 z8:ByteArray)(z9 dk:Int):Option Int:=
 (lR.F n z3 z4 z5 z6 z7).bind λVE=>
 some VE
def iB.qX(n:Nat)(c:iB.Z->Option Int)(z1:List AV)(z2:ByteArray)(z3 z4 z5 z6 z7:Int)(z8 z9:ByteArray)(dk dp:Int):Option Int:=
 (nF.F n z2 z3 z4 z5 z6 z7 z8 z9 dk dp z1).bind λVD=>
 some VD
def iB.r(n:Nat)(c:iB.Z->Option Int):iB.Z->Option Int
 | .z12 z1 z2 z3 z4 z5 z6 z7 z8 z9 dk=>iB.ry n c z1 z2 z3 z4 z5 z6 z7 z8 z9 dk
 | .dE z1 z2 z3 z4 z5 z6 z7 z8 z9 dk dp=>iB.qX n c z1 z2 z3 z4 z5 z6 z7 z8 z9 dk dp
def iB.e(n:Nat)(c:iB.Z->Option Int)(a0 a1 a2:List AV)(a3:Int):Option Int:=
 bif decide ((0:Int)<=a3)&&decide (a3<((a0.length:Nat):Int))then(cN ((a0.getD ((a3).toNat) .undef).cells) λh1 r2=>
 df h1 λs3=>
 cN r2 λh4 r5=>
 cQ .i64 h4 λx6=>
 cN r5 λh7 r8=>
 cQ .i64 h7 λx9=>
 cN r8 λxG vN=>
 cQ .i64 xG λpV=>
 cN vN λDg xk=>
 cQ .i64 Dg λsy=>
 cN xk λCx I0=>
 cQ .i64 Cx λoo=>
 cN I0 λEk DF=>
 df Ek λvG=>
 cN DF λGV yk=>
 df GV λsC=>
 cN yk λAE A3=>
 cQ .i64 AE λrf=>
 cN A3 λxm HM=>
 cQ .i64 xm λpU=>
 bif decide ((0:Int)<=a3)&&decide ((a3:Int)<=((a0.length:Nat):Int))then((er.F n s3).bind λA4=>
 (kx.F n (!A4) 7).bind λGi=>
 (mh.F n ((a0.take (a3).toNat).drop 0) s3).bind λHO=>
 (kx.F n (decide (HO>=0)) 13).bind λAc=>
 (ee.F n x6 0 5).bind λLR=>
 (kx.F n (!LR) 4).bind λHN=>
 (gn.F n s3 x6 x9 pV sy oo vG sC rf pU).bind λyp=>
 let QN:Bool:=!((yp.1==s3)&&((yp.2.1==x6)&&((yp.2.2.1==x9)&&((yp.2.2.2.1==pV)&&((yp.2.2.2.2.1==sy)&&((yp.2.2.2.2.2.1==oo)&&((yp.2.2.2.2.2.2.1==vG)&&((yp.2.2.2.2.2.2.2.1==sC)&&((yp.2.2.2.2.2.2.2.2.1==rf)&&((yp.2.2.2.2.2.2.2.2.2==pU)&&true))))))))))
 (kx.F n QN 5).bind λRy=>
 (dU.F n [vi Gi,vi Ac,vi HN,vi Ry]).bind λRx=>
 bif Rx != 0 then(some Rx)else((iZ.F n s3 x6 x9 pV sy oo vG sC rf pU).bind λp41=>
 bif p41 then((gj.F n x9 pV sy).bind λVJ=>
 (kx.F n (x9==4) 17).bind λVI=>
 (dU.F n [vi VJ,vi VI]).bind λYg=>
 bif Yg != 0 then(some Yg)else(bif x6==0 then(c (.z12 s3 x6 x9 pV sy oo vG sC rf pU))else(bif x6==4 then(c (.z12 s3 x6 x9 pV sy oo vG sC rf pU))else(bif x6==1 then(c (.dE ((a0.take (a3).toNat).drop 0) s3 x6 x9 pV sy oo vG sC rf pU))else(bif x6==2 then(c (.dE ((a0.take (a3).toNat).drop 0) s3 x6 x9 pV sy oo vG sC rf pU))else(bif x6==5 then(let Zf:Int:=IntKind.i64.wrap (((a1.length:Nat):Int) - 1)
 (ee.F n pU 0 Zf).bind λVH=>
 (kx.F n (!VH) 3).bind λRw=>
 some Rw)else(some 0)))))))else(bif x6==0 then(c (.z12 s3 x6 x9 pV sy oo vG sC rf pU))else(bif x6==4 then(c (.z12 s3 x6 x9 pV sy oo vG sC rf pU))else(bif x6==1 then(c (.dE ((a0.take (a3).toNat).drop 0) s3 x6 x9 pV sy oo vG sC rf pU))else(bif x6==2 then(c (.dE ((a0.take (a3).toNat).drop 0) s3 x6 x9 pV sy oo vG sC rf pU))else(bif x6==5 then(let Ze:Int:=IntKind.i64.wrap (((a1.length:Nat):Int) - 1)
 (ee.F n pU 0 Ze).bind λVG=>
 (kx.F n (!VG) 3).bind λVF=>
 some VF)else(some 0))))))))else none)else none
def iB.E(n:Nat)(c:iB.Z->Option Int):iB.A->Option dU.T:=fun(a0,a1,a2,a3)=>iB.e n c a0 a1 a2 a3
def iB.l(n:Nat):Nat->iB.Z->Option Int:=ez (iB.r n)
def iB.F(n:Nat)(a0 a1 a2:List AV)(a3:Int):Option Int:=iB.e n (iB.l n n) a0 a1 a2 a3
def iB.FA(n:Nat):iB.A->Option dU.T:=iB.E n (iB.l n n)
theorem iB.cW(n:Nat):∀a p,iB.FA n a=some p->dc Tryz.prog 45 (iB.i a) (dU.p p):=lN iB.cut iB.t iB.s (iB.E n) (iB.r n) cfg mixed dB dU.qi (iB.c8 n) Tryz.func45
def iB.via{R:Type}(n:Nat):List AV->(AV->Option R)->Option R:=d_ (iB.FA n) iB.o dU.p
theorem iB.cO{R:Type}(n:Nat)(xs:List AV):cT (R:=R) Tryz.prog 45 xs (iB.via n xs):=c7 iB.oi (λa=>by kernel_rfl) (iB.cW n) xs
abbrev ky.A:=Int × Int
abbrev ky.T:=Int × Int
def ky.i:ky.A->List AV:=fun(a0,a1)=>[.v (.int .u64 a0),.v (.int .u64 a1)]
def ky.o(xs:List AV):Option ky.A:=match xs with | [.v (.int .u64 a0),.v (.int .u64 a1)]=>some (a0,a1) | _=>none
theorem ky.oi:∀xs a,ky.o xs=some a->xs=ky.i a:=by
 intro xs a h;unfold ky.o at h;split at h
 ·cases h;rfl
 ·cases h
def ky.p(p:ky.T):AV:=.eC [.v (.int .u64 p.1),.v (.int .u64 p.2)]
def ky.q(x:AV):Option ky.T:=match x with | .eC [.v (.int .u64 p0),.v (.int .u64 p1)]=>some (p0,p1) | _=>none
theorem ky.qi:∀x p,ky.q x=some p->x=ky.p p:=by
 intro x p h;unfold ky.q at h;split at h
 ·cases h;rfl
 ·cases h
def ky.C{R:Type}(n:Nat)(f:FuncId)(xs:List AV):(AV->Option R)->Option R:=
 λ_=>none
theorem ky.c8{R:Type}(n:Nat):dt (R:=R) Tryz.prog (ky.C n):=λ_ xs=>cT.none
def ky.cut(r:Nat):Option dP:=match r with  | _=>none
def ky.e(n:Nat)(a0 a1:Int):Option (Int × Int):=
 let y1:Int:=IntKind.u64.wrap (BitVec.ofInt 64 a0 &&& BitVec.ofInt 64 4294967295).toNat
 let y2:Int:=Int.fdiv a0 (2 ^ min (32:Int).toNat 64)
 let y3:Int:=IntKind.u64.wrap (BitVec.ofInt 64 a1 &&& BitVec.ofInt 64 4294967295).toNat
 let y4:Int:=Int.fdiv a1 (2 ^ min (32:Int).toNat 64)
 let y5:Int:=Int.fdiv (IntKind.u64.wrap (y1*y3)) (2 ^ min (32:Int).toNat 64)
 let y6:Int:=IntKind.u64.wrap ((IntKind.u64.wrap (y2*y3))+y5)
 let y7:Int:=IntKind.u64.wrap (BitVec.ofInt 64 y6 &&& BitVec.ofInt 64 4294967295).toNat
 let y8:Int:=Int.fdiv y6 (2 ^ min (32:Int).toNat 64)
 let y9:Int:=IntKind.u64.wrap (y7+(IntKind.u64.wrap (y1*y4)))
 let nh:Int:=IntKind.u64.wrap ((IntKind.u64.wrap (y2*y4))+y8)
 let pw:Int:=Int.fdiv y9 (2 ^ min (32:Int).toNat 64)
 some (IntKind.u64.wrap (nh+pw),IntKind.u64.wrap (a0*a1))
def ky.E(n:Nat):ky.A->Option ky.T:=fun(a0,a1)=>ky.e n a0 a1
def ky.F(n:Nat)(a0 a1:Int):Option (Int × Int):=ky.e n a0 a1
def ky.FA(n:Nat):ky.A->Option ky.T:=ky.E n
theorem ky.cW(n:Nat):∀a p,ky.FA n a=some p->dc Tryz.prog 171 (ky.i a) (ky.p p):=gp ky.cut (ky.E n) cfg mixed dB ky.qi (ky.c8 n) Tryz.func171
def ky.via{R:Type}(n:Nat):List AV->(AV->Option R)->Option R:=d_ (ky.FA n) ky.o ky.p
theorem ky.cO{R:Type}(n:Nat)(xs:List AV):cT (R:=R) Tryz.prog 171 xs (ky.via n xs):=c7 ky.oi (λa=>by kernel_rfl) (ky.cW n) xs
def xg.C{R:Type}(n:Nat)(f:FuncId)(xs:List AV):(AV->Option R)->Option R:=
 bif Nat.beq f 171 then ky.via n xs else λ_=>none
theorem xg.c8{R:Type}(n:Nat):dt (R:=R) Tryz.prog (xg.C n):=λ_ xs=>cR (ky.cO n xs) (cT.none)
def xg.cut(r:Nat):Option dP:=match r with  | _=>none
def xg.e(n:Nat)(a0 a1:Int):Option (Int × Int):=
 (ky.F n a0 a1).bind λp1=>
 some (p1.1,p1.2)
def xg.E(n:Nat):ky.A->Option ky.T:=fun(a0,a1)=>xg.e n a0 a1
def xg.F(n:Nat)(a0 a1:Int):Option (Int × Int):=xg.e n a0 a1
def xg.FA(n:Nat):ky.A->Option ky.T:=xg.E n
theorem xg.cW(n:Nat):∀a p,xg.FA n a=some p->dc Tryz.prog 135 (ky.i a) (ky.p p):=gp xg.cut (xg.E n) cfg mixed dB ky.qi (xg.c8 n) Tryz.func135
def xg.via{R:Type}(n:Nat):List AV->(AV->Option R)->Option R:=d_ (xg.FA n) ky.o ky.p
theorem xg.cO{R:Type}(n:Nat)(xs:List AV):cT (R:=R) Tryz.prog 135 xs (xg.via n xs):=c7 ky.oi (λa=>by kernel_rfl) (xg.cW n) xs
abbrev iN.A:=List AV × Int
abbrev iN.T:=List AV
def iN.i:iN.A->List AV:=fun(a0,a1)=>[.sl ⟨true,3,false⟩ 1 a0,vi a1]
def iN.o(xs:List AV):Option iN.A:=match xs with | [.sl ⟨true,3,false⟩ 1 a0,.v (.int .i64 a1)]=>some (a0,a1) | _=>none
theorem iN.oi:∀xs a,iN.o xs=some a->xs=iN.i a:=by
 intro xs a h;unfold iN.o at h;split at h
 ·cases h;rfl
 ·cases h
def iN.p(p:iN.T):AV:=.fr ⟨true,3,false⟩ 1 p
def iN.q(x:AV):Option iN.T:=match x with | .fr ⟨true,3,false⟩ 1 p0=>some p0 | _=>none
theorem iN.qi:∀x p,iN.q x=some p->x=iN.p p:=by
 intro x p h;unfold iN.q at h;split at h
 ·cases h;rfl
 ·cases h
inductive iN.Z where
 | z8 (z1:Int) (z2:List AV)
def iN.C{R:Type}(n:Nat)(f:FuncId)(xs:List AV):(AV->Option R)->Option R:=
 bif Nat.beq f 135 then xg.via n xs else λ_=>none
theorem iN.c8{R:Type}(n:Nat):dt (R:=R) Tryz.prog (iN.C n):=λ_ xs=>cR (xg.cO n xs) (cT.none)
def iN.cut(r:Nat):Option dP:=match r with | 8=>some ⟨[7,8],[]⟩ | _=>none
noncomputable def iN.t (z:iN.Z):List Item:=(dL (match z with | .z8 _ _=>8) 1000 [.code (Tryz.f84.body.getD .skip)]).getD []
def iN.s:iN.Z->St
 | .z8 z1 z2=>⟨fx 48 0 [(7,.own 0 0 none),(8,vi z1)],Mem.ofList [.row ⟨true,3,false⟩ 1 z2],1⟩
def iN.r8(n:Nat)(c:iN.Z->Option (List AV))(z1:Int)(z2:List AV):Option (List AV):=
 let y6:Bool:=decide (z1<((z2.length:Nat):Int))
 bif y6 then(bif decide ((0:Int)<=z1)&&decide ((z1:Int)<=((z2.length:Nat):Int))then(bif decide ((0:Int)<=z1)&&decide ((z1:Int)<=((z2.length:Nat):Int))then(let y7:List AV:=(z2.drop 0).take ((z1 - 0).toNat)
 let y8:Nat:=min (z2.length - ((z1).toNat)) y7.length
 let y9:List AV:=z2.take ((z1).toNat)++y7.take y8++z2.drop (y8+((z1).toNat))
 let nh:Int:=IntKind.i64.wrap (z1+((y8:Nat):Int))
 c (.z8 nh y9))else none)else none)else(some z2)
def iN.r(n:Nat)(c:iN.Z->Option (List AV)):iN.Z->Option (List AV)
 | .z8 z1 z2=>iN.r8 n c z1 z2
def iN.e(n:Nat)(c:iN.Z->Option (List AV))(a0:List AV)(a1:Int):Option (List AV):=
 bif decide (a1<0)then(none)else(let y1:Int:=IntKind.u64.wrap ((a0.length:Nat):Int)
 (xg.F n y1 (IntKind.u64.wrap a1)).bind λp2=>
 bif decide (p2.1>0)then(none)else(let y3:Bool:=decide (p2.2>9223372036854775807)
 bif y3 then(none)else(bif(decide ((0:Int)<=IntKind.i64.wrap p2.2)&&decide ((IntKind.i64.wrap p2.2:Int)<=fe))&&decide ((IntKind.i64.wrap p2.2:Int)=IntKind.i64.wrap p2.2)&&true&&true then(let y4:List AV:=List.replicate (IntKind.i64.wrap p2.2).toNat (vi 0)
 let y5:List AV:=y4.take 0++a0.take (min y4.length a0.length)++y4.drop ((min y4.length a0.length)+0)
 c (.z8 ((min y4.length a0.length:Nat):Int) y5))else none)))
def iN.E(n:Nat)(c:iN.Z->Option (List AV)):iN.A->Option iN.T:=fun(a0,a1)=>iN.e n c a0 a1
def iN.l(n:Nat):Nat->iN.Z->Option (List AV):=ez (iN.r n)
def iN.F(n:Nat)(a0:List AV)(a1:Int):Option (List AV):=iN.e n (iN.l n n) a0 a1
def iN.FA(n:Nat):iN.A->Option iN.T:=iN.E n (iN.l n n)
theorem iN.cW(n:Nat):∀a p,iN.FA n a=some p->dc Tryz.prog 84 (iN.i a) (iN.p p):=lN iN.cut iN.t iN.s (iN.E n) (iN.r n) cfg mixed dB iN.qi (iN.c8 n) Tryz.func84
def iN.via{R:Type}(n:Nat):List AV->(AV->Option R)->Option R:=d_ (iN.FA n) iN.o iN.p
theorem iN.cO{R:Type}(n:Nat)(xs:List AV):cT (R:=R) Tryz.prog 84 xs (iN.via n xs):=c7 iN.oi (λa=>by kernel_rfl) (iN.cW n) xs
abbrev fO.A:=List AV
abbrev fO.T:=List AV × Int
def fO.i:fO.A->List AV:=λa0=>[.sl ⟨true,74,false⟩ 10 a0]
def fO.o(xs:List AV):Option fO.A:=match xs with | [.sl ⟨true,74,false⟩ 10 a0]=>some a0 | _=>none
theorem fO.oi:∀xs a,fO.o xs=some a->xs=fO.i a:=by
 intro xs a h;unfold fO.o at h;split at h
 ·cases h;rfl
 ·cases h
def fO.p(p:fO.T):AV:=.eC [.fr ⟨true,3,false⟩ 1 p.1,vi p.2]
def fO.q(x:AV):Option fO.T:=match x with | .eC [.fr ⟨true,3,false⟩ 1 p0,.v (.int .i64 p1)]=>some (p0,p1) | _=>none
theorem fO.qi:∀x p,fO.q x=some p->x=fO.p p:=by
 intro x p h;unfold fO.q at h;split at h
 ·cases h;rfl
 ·cases h
inductive fO.Z where
 | z4 (z1:List AV) (z2:Int) (z3:List AV) (z4 z5:Int) (z6:List AV)
 | dk (z1:List AV) (z2:Int) (z3:List AV) (z4 z5:Int) (z6:List AV)
 | dM (z1:List AV) (z2:Int) (z3:List AV) (z4 z5:Int) (z6:List AV)
def fO.C{R:Type}(n:Nat)(f:FuncId)(xs:List AV):(AV->Option R)->Option R:=
 bif Nat.beq f 66 then mh.via n xs else bif Nat.beq f 84 then iN.via n xs else bif Nat.beq f 85 then qS.via n xs else λ_=>none
theorem fO.c8{R:Type}(n:Nat):dt (R:=R) Tryz.prog (fO.C n):=λ_ xs=>cR (mh.cO n xs) (cR (iN.cO n xs) (cR (qS.cO n xs) (cT.none)))
def fO.cut(r:Nat):Option dP:=match r with | 4=>some ⟨[0,4,5,16,17,18],[]⟩ | 10=>some ⟨[0,4,5,33,34,35],[]⟩ | 16=>some ⟨[0,4,5,52,53,54],[]⟩ | _=>none
noncomputable def fO.t (z:fO.Z):List Item:=(dL (match z with | .z4 _ _ _ _ _ _=>4 | .dk _ _ _ _ _ _=>10 | .dM _ _ _ _ _ _=>16) 1000 [.code (Tryz.f46.body.getD .skip)]).getD []
def fO.s:fO.Z->St
 | .z4 z1 z2 z3 z4 z5 z6=>⟨fx 81 0 [(0,.sl ⟨true,74,false⟩ 10 z1),(4,.own 0 0 none),(5,vi z2),(16,.sl ⟨true,74,false⟩ 10 z3),(17,vi z4),(18,vi z5)],Mem.ofList [.row ⟨true,3,false⟩ 1 z6],1⟩
 | .dk z1 z2 z3 z4 z5 z6=>⟨fx 81 0 [(0,.sl ⟨true,74,false⟩ 10 z1),(4,.own 0 0 none),(5,vi z2),(33,.sl ⟨true,74,false⟩ 10 z3),(34,vi z4),(35,vi z5)],Mem.ofList [.row ⟨true,3,false⟩ 1 z6],1⟩
 | .dM z1 z2 z3 z4 z5 z6=>⟨fx 81 0 [(0,.sl ⟨true,74,false⟩ 10 z1),(4,.own 0 0 none),(5,vi z2),(52,.sl ⟨true,74,false⟩ 10 z3),(53,vi z4),(54,vi z5)],Mem.ofList [.row ⟨true,3,false⟩ 1 z6],1⟩
def fO.r4(n:Nat)(c:fO.Z->Option (List AV × Int))(z1:List AV)(z2:Int)(z3:List AV)(z4 z5:Int)(z6:List AV):Option (List AV × Int):=
 bif decide (z5<z4)then(bif decide ((0:Int)<=z5)&&decide (z5<((z3.length:Nat):Int))then(cN ((z3.getD ((z5).toNat) .undef).cells) λh2 r3=>
 df h2 λs4=>
 cN r3 λh5 r6=>
 cQ .i64 h5 λx7=>
 cN r6 λh8 r9=>
 cQ .i64 h8 λQb=>
 cN r9 λGW ry=>
 cQ .i64 GW λM9=>
 cN ry λEl qX=>
 cQ .i64 El λK6=>
 cN qX λCw sE=>
 cQ .i64 Cw λA9=>
 cN sE λCv qw=>
 df Cv λTJ=>
 cN qw λCu qW=>
 df Cu λQd=>
 cN qW λCt yj=>
 cQ .i64 Ct λHH=>
 cN yj λKe Ns=>
 cQ .i64 Ke λQa=>
 bif x7==3 then(bif decide ((0:Int)<=z5)&&decide (z5<((z6.length:Nat):Int))then(c (.z4 z1 (IntKind.i64.wrap (z2+16)) z3 z4 (IntKind.i64.wrap (z5+1)) (z6.set ((z5).toNat) (vi z2))))else none)else(c (.z4 z1 z2 z3 z4 (IntKind.i64.wrap (z5+1)) z6)))else none)else(c (.dk z1 z2 z1 ((z1.length:Nat):Int) 0 z6))
def fO.E4(n:Nat)(c:fO.Z->Option (List AV × Int))(z1:List AV)(z2:Int)(z3:List AV)(z4 z5:Int)(z6:List AV):Option (List AV × Int):=
 bif decide (z5<z4)then(bif decide ((0:Int)<=z5)&&decide (z5<((z3.length:Nat):Int))then(cN ((z3.getD ((z5).toNat) .undef).cells) λMA Qk=>
 df MA λVd=>
 cN Qk λPF zW=>
 cQ .i64 PF λQ4=>
 cN zW λSI LJ=>
 cQ .i64 SI λQ3=>
 cN LJ λSH TR=>
 cQ .i64 SH λUM=>
 cN TR λMz Nr=>
 cQ .i64 Mz λQ2=>
 cN Nr λPD OJ=>
 cQ .i64 PD λzD=>
 cN OJ λPB OH=>
 df PB λZZ=>
 cN OH λPz OG=>
 df Pz λVb=>
 cN OG λPx OF=>
 cQ .i64 Px λIg=>
 cN OF λMy Qf=>
 cQ .i64 My λFZ=>
 bif Q4==0 then((qS.F n Vd Q4 Q3 UM Q2 zD ZZ Vb Ig FZ).bind λp62=>
 bif decide ((0:Int)<=z5)&&decide (z5<((z6.length:Nat):Int))then(c (.dk z1 (IntKind.i64.wrap (z2+p62)) z3 z4 (IntKind.i64.wrap (z5+1)) (z6.set ((z5).toNat) (vi z2))))else none)else(c (.dk z1 z2 z3 z4 (IntKind.i64.wrap (z5+1)) z6)))else none)else(c (.dM z1 z2 z1 ((z1.length:Nat):Int) 0 z6))
def fO.LM(n:Nat)(c:fO.Z->Option (List AV × Int))(z1:List AV)(z2:Int)(z3:List AV)(z4 z5:Int)(z6:List AV):Option (List AV × Int):=
 bif decide (z5<z4)then(bif decide ((0:Int)<=z5)&&decide (z5<((z3.length:Nat):Int))then(cN ((z3.getD ((z5).toNat) .undef).cells) λSD Rn=>
 df SD λs65=>
 cN Rn λSB Rl=>
 cQ .i64 SB λUJ=>
 cN Rl λSA Rk=>
 cQ .i64 SA λXV=>
 cN Rk λSz Rj=>
 cQ .i64 Sz λTC=>
 cN Rj λSy TN=>
 cQ .i64 Sy λXT=>
 cN TN λWX Vl=>
 cQ .i64 WX λx80=>
 cN Vl λSx Ri=>
 df Sx λs83=>
 cN Ri λSw TM=>
 df Sw λZP=>
 cN TM λWW Vk=>
 cQ .i64 WW λUF=>
 cN Vk λWV r91=>
 cQ .i64 WV λXS=>
 bif UJ==1 then((mh.F n z1 ZP).bind λVB=>
 bif decide ((0:Int)<=VB)&&decide (VB<((z6.length:Nat):Int))then(cN ((z6.getD ((VB).toNat) .undef).cells) λWU X8=>
 cQ .i64 WU λZr=>
 bif decide ((0:Int)<=z5)&&decide (z5<((z6.length:Nat):Int))then(let Y6:List AV:=z6.set ((z5).toNat) (vi (IntKind.i64.wrap (Zr+UF)))
 c (.dM z1 z2 z3 z4 (IntKind.i64.wrap (z5+1)) Y6))else none)else none)else(c (.dM z1 z2 z3 z4 (IntKind.i64.wrap (z5+1)) z6)))else none)else(let Y5:Int:=IntKind.i64.wrap ((IntKind.i64.wrap (z2+16)) - 1)
 let Y4:Int:=IntKind.i64.wrap (Int.tdiv Y5 16)
 some (z6,Y4))
def fO.r(n:Nat)(c:fO.Z->Option (List AV × Int)):fO.Z->Option (List AV × Int)
 | .z4 z1 z2 z3 z4 z5 z6=>fO.r4 n c z1 z2 z3 z4 z5 z6
 | .dk z1 z2 z3 z4 z5 z6=>fO.E4 n c z1 z2 z3 z4 z5 z6
 | .dM z1 z2 z3 z4 z5 z6=>fO.LM n c z1 z2 z3 z4 z5 z6
def fO.e(n:Nat)(c:fO.Z->Option (List AV × Int))(a0:List AV):Option (List AV × Int):=
 (iN.F n [vi (-1)] ((a0.length:Nat):Int)).bind λp1=>
 c (.z4 a0 0 a0 ((a0.length:Nat):Int) 0 p1)
def fO.E(n:Nat)(c:fO.Z->Option (List AV × Int)):fO.A->Option fO.T:=λa0=>fO.e n c a0
def fO.l(n:Nat):Nat->fO.Z->Option (List AV × Int):=ez (fO.r n)
def fO.F(n:Nat)(a0:List AV):Option (List AV × Int):=fO.e n (fO.l n n) a0
def fO.FA(n:Nat):fO.A->Option fO.T:=fO.E n (fO.l n n)
theorem fO.cW(n:Nat):∀a p,fO.FA n a=some p->dc Tryz.prog 46 (fO.i a) (fO.p p):=lN fO.cut fO.t fO.s (fO.E n) (fO.r n) cfg mixed dB fO.qi (fO.c8 n) Tryz.func46
def fO.via{R:Type}(n:Nat):List AV->(AV->Option R)->Option R:=d_ (fO.FA n) fO.o fO.p
theorem fO.cO{R:Type}(n:Nat)(xs:List AV):cT (R:=R) Tryz.prog 46 xs (fO.via n xs):=c7 fO.oi (λa=>by kernel_rfl) (fO.cW n) xs
def qf.C{R:Type}(n:Nat)(f:FuncId)(xs:List AV):(AV->Option R)->Option R:=
 λ_=>none
theorem qf.c8{R:Type}(n:Nat):dt (R:=R) Tryz.prog (qf.C n):=λ_ xs=>cT.none
def qf.cut(r:Nat):Option dP:=match r with  | _=>none
def qf.e(n:Nat)(a0:ByteArray)(a1 a2 a3 a4 a5:Int)(a6 a7:ByteArray)(a8 a9:Int):Option Bool:=
 some (a2 != 0)
def qf.E(n:Nat):iZ.A->Option ee.T:=fun(a0,a1,a2,a3,a4,a5,a6,a7,a8,a9)=>qf.e n a0 a1 a2 a3 a4 a5 a6 a7 a8 a9
def qf.F(n:Nat)(a0:ByteArray)(a1 a2 a3 a4 a5:Int)(a6 a7:ByteArray)(a8 a9:Int):Option Bool:=qf.e n a0 a1 a2 a3 a4 a5 a6 a7 a8 a9
def qf.FA(n:Nat):iZ.A->Option ee.T:=qf.E n
theorem qf.cW(n:Nat):∀a p,qf.FA n a=some p->dc Tryz.prog 137 (iZ.i a) (ee.p p):=gp qf.cut (qf.E n) cfg mixed dB ee.qi (qf.c8 n) Tryz.func137
def qf.via{R:Type}(n:Nat):List AV->(AV->Option R)->Option R:=d_ (qf.FA n) iZ.o ee.p
theorem qf.cO{R:Type}(n:Nat)(xs:List AV):cT (R:=R) Tryz.prog 137 xs (qf.via n xs):=c7 iZ.oi (λa=>by kernel_rfl) (qf.cW n) xs
abbrev jJ.A:=ByteArray × Int × Int × Int × Int × Int × ByteArray × ByteArray × Int × Int × ByteArray × Int × Int × Int × Int × Int × ByteArray × ByteArray × Int × Int × Int
def jJ.i:jJ.A->List AV:=fun(a0,a1,a2,a3,a4,a5,a6,a7,a8,a9,oL,H6,a12,H5,H4,H3,H2,H0,HZ,HY,a20)=>[AV.agg [vs a0,vi a1,vi a2,vi a3,vi a4,vi a5,vs a6,vs a7,vi a8,vi a9],AV.agg [vs oL,vi H6,vi a12,vi H5,vi H4,vi H3,vs H2,vs H0,vi HZ,vi HY],vi a20]
def jJ.o(xs:List AV):Option jJ.A:=match xs with | [.agg [.v (.string a0),.v (.int .i64 a1),.v (.int .i64 a2),.v (.int .i64 a3),.v (.int .i64 a4),.v (.int .i64 a5),.v (.string a6),.v (.string a7),.v (.int .i64 a8),.v (.int .i64 a9)],.agg [.v (.string oL),.v (.int .i64 H6),.v (.int .i64 a12),.v (.int .i64 H5),.v (.int .i64 H4),.v (.int .i64 H3),.v (.string H2),.v (.string H0),.v (.int .i64 HZ),.v (.int .i64 HY)],.v (.int .i64 a20)]=>some (a0,a1,a2,a3,a4,a5,a6,a7,a8,a9,oL,H6,a12,H5,H4,H3,H2,H0,HZ,HY,a20) | _=>none
theorem jJ.oi:∀xs a,jJ.o xs=some a->xs=jJ.i a:=by
 intro xs a h;unfold jJ.o at h;split at h
 ·cases h;rfl
 ·cases h
inductive jJ.Z where
 | z8 (z1:Int) (z2 z3:Bool) (z4:ByteArray) (z5 z6 z7 z8 z9:Int) (dk dp:ByteArray) (z12 dC:Int) (dG:ByteArray) (dE dM dS dJ dO:Int) (z20 z21:ByteArray) (z22 z23:Int)
def jJ.C{R:Type}(n:Nat)(f:FuncId)(xs:List AV):(AV->Option R)->Option R:=
 bif Nat.beq f 80 then iZ.via n xs else bif Nat.beq f 137 then qf.via n xs else λ_=>none
theorem jJ.c8{R:Type}(n:Nat):dt (R:=R) Tryz.prog (jJ.C n):=λ_ xs=>cR (iZ.cO n xs) (cR (qf.cO n xs) (cT.none))
def jJ.cut(r:Nat):Option dP:=match r with | 8=>some ⟨[2,3,4,7,8],[]⟩ | _=>none
noncomputable def jJ.t (z:jJ.Z):List Item:=(dL (match z with | .z8 _ _ _ _ _ _ _ _ _ _ _ _ _ _ _ _ _ _ _ _ _ _ _=>8) 1000 [.code (Tryz.f86.body.getD .skip)]).getD []
def jJ.s:jJ.Z->St
 | .z8 z1 z2 z3 z4 z5 z6 z7 z8 z9 dk dp z12 dC dG dE dM dS dJ dO z20 z21 z22 z23=>⟨fx 64 0 [(2,vi z1),(3,.ptr 0 0),(4,.ptr 1 0),(7,vb z2),(8,vb z3)],Mem.ofList [.box 74 [vs z4,vi z5,vi z6,vi z7,vi z8,vi z9,vs dk,vs dp,vi z12,vi dC],.box 74 [vs dG,vi dE,vi dM,vi dS,vi dJ,vi dO,vs z20,vs z21,vi z22,vi z23]],2⟩
def jJ.r8(n:Nat)(c:jJ.Z->Option Bool)(z1:Int)(z2 z3:Bool)(z4:ByteArray)(z5 z6 z7 z8 z9:Int)(dk dp:ByteArray)(z12 dC:Int)(dG:ByteArray)(dE dM dS dJ dO:Int)(z20 z21:ByteArray)(z22 z23:Int):Option Bool:=
 (iZ.F n z4 z5 z6 z7 z8 z9 dk dp z12 dC).bind λp1=>
 bif p1 then(bif z2 then(bif !(z5==4)then(bif z3 then((qf.F n z4 z5 z6 z7 z8 z9 dk dp z12 dC).bind λp2=>
 bif !(!p2)then(bif z1==4 then((qf.F n z4 z5 z6 z7 z8 z9 dk dp z12 dC).bind λp3=>
 (qf.F n dG dE dM dS dJ dO z20 z21 z22 z23).bind λp4=>
 some (!(!(p3==p4))))else(some true))else(some false))else(bif z1==4 then((qf.F n z4 z5 z6 z7 z8 z9 dk dp z12 dC).bind λp5=>
 (qf.F n dG dE dM dS dJ dO z20 z21 z22 z23).bind λp6=>
 some (!(!(p5==p6))))else(some true)))else(some false))else(bif z3 then((qf.F n z4 z5 z6 z7 z8 z9 dk dp z12 dC).bind λp7=>
 bif !(!p7)then(bif z1==4 then((qf.F n z4 z5 z6 z7 z8 z9 dk dp z12 dC).bind λp8=>
 (qf.F n dG dE dM dS dJ dO z20 z21 z22 z23).bind λp9=>
 some (!(!(p8==p9))))else(some true))else(some false))else(bif z1==4 then((qf.F n z4 z5 z6 z7 z8 z9 dk dp z12 dC).bind λku=>
 (qf.F n dG dE dM dS dJ dO z20 z21 z22 z23).bind λln=>
 some (!(!(ku==ln))))else(some true))))else(some false)
def jJ.r(n:Nat)(c:jJ.Z->Option Bool):jJ.Z->Option Bool
 | .z8 z1 z2 z3 z4 z5 z6 z7 z8 z9 dk dp z12 dC dG dE dM dS dJ dO z20 z21 z22 z23=>jJ.r8 n c z1 z2 z3 z4 z5 z6 z7 z8 z9 dk dp z12 dC dG dE dM dS dJ dO z20 z21 z22 z23
def jJ.e(n:Nat)(c:jJ.Z->Option Bool)(a0:ByteArray)(a1 a2 a3 a4 a5:Int)(a6 a7:ByteArray)(a8 a9:Int)(oL:ByteArray)(H6 a12 H5 H4 H3:Int)(H2 H0:ByteArray)(HZ HY a20:Int):Option Bool:=
 bif a20==5 then(some (a1==3))else(bif a20==6 then(some (a1==5))else(bif a20==0 then(bif a20==2 then(c (.z8 a20 true true a0 a1 a2 a3 a4 a5 a6 a7 a8 a9 oL H6 a12 H5 H4 H3 H2 H0 HZ HY))else(c (.z8 a20 true (a20==3) a0 a1 a2 a3 a4 a5 a6 a7 a8 a9 oL H6 a12 H5 H4 H3 H2 H0 HZ HY)))else(bif a20==2 then(c (.z8 a20 (a20==2) true a0 a1 a2 a3 a4 a5 a6 a7 a8 a9 oL H6 a12 H5 H4 H3 H2 H0 HZ HY))else(c (.z8 a20 (a20==2) (a20==3) a0 a1 a2 a3 a4 a5 a6 a7 a8 a9 oL H6 a12 H5 H4 H3 H2 H0 HZ HY)))))
def jJ.E(n:Nat)(c:jJ.Z->Option Bool):jJ.A->Option ee.T:=fun(a0,a1,a2,a3,a4,a5,a6,a7,a8,a9,oL,H6,a12,H5,H4,H3,H2,H0,HZ,HY,a20)=>jJ.e n c a0 a1 a2 a3 a4 a5 a6 a7 a8 a9 oL H6 a12 H5 H4 H3 H2 H0 HZ HY a20
def jJ.l(n:Nat):Nat->jJ.Z->Option Bool:=ez (jJ.r n)
def jJ.F(n:Nat)(a0:ByteArray)(a1 a2 a3 a4 a5:Int)(a6 a7:ByteArray)(a8 a9:Int)(oL:ByteArray)(H6 a12 H5 H4 H3:Int)(H2 H0:ByteArray)(HZ HY a20:Int):Option Bool:=jJ.e n (jJ.l n n) a0 a1 a2 a3 a4 a5 a6 a7 a8 a9 oL H6 a12 H5 H4 H3 H2 H0 HZ HY a20
def jJ.FA(n:Nat):jJ.A->Option ee.T:=jJ.E n (jJ.l n n)
theorem jJ.cW(n:Nat):∀a p,jJ.FA n a=some p->dc Tryz.prog 86 (jJ.i a) (ee.p p):=lN jJ.cut jJ.t jJ.s (jJ.E n) (jJ.r n) cfg mixed dB ee.qi (jJ.c8 n) Tryz.func86
def jJ.via{R:Type}(n:Nat):List AV->(AV->Option R)->Option R:=d_ (jJ.FA n) jJ.o ee.p
theorem jJ.cO{R:Type}(n:Nat)(xs:List AV):cT (R:=R) Tryz.prog 86 xs (jJ.via n xs):=c7 jJ.oi (λa=>by kernel_rfl) (jJ.cW n) xs
abbrev jc.A:=List AV × List AV × List AV × Int × List AV
def jc.i:jc.A->List AV:=fun(a0,a1,a2,a3,a4)=>[AV.agg [.sl ⟨true,74,false⟩ 10 a0,.sl ⟨false,86,false⟩ 2 a1,.sl ⟨true,82,false⟩ 4 a2],AV.agg [vi a3,.sl ⟨true,3,false⟩ 1 a4]]
def jc.o(xs:List AV):Option jc.A:=match xs with | [.agg [.sl ⟨true,74,false⟩ 10 a0,.sl ⟨false,86,false⟩ 2 a1,.sl ⟨true,82,false⟩ 4 a2],.agg [.v (.int .i64 a3),.sl ⟨true,3,false⟩ 1 a4]]=>some (a0,a1,a2,a3,a4) | _=>none
theorem jc.oi:∀xs a,jc.o xs=some a->xs=jc.i a:=by
 intro xs a h;unfold jc.o at h;split at h
 ·cases h;rfl
 ·cases h
inductive jc.Z where
 | z7 (z1:List AV) (z2 z3:Int) (z4 z5 z6:List AV) (z7:Int) (z8:List AV) (z9:ByteArray) (dk dp z12 dC dG:Int) (dE dM:ByteArray) (dS dJ:Int)
def jc.C{R:Type}(n:Nat)(f:FuncId)(xs:List AV):(AV->Option R)->Option R:=
 bif Nat.beq f 67 then ee.via n xs else bif Nat.beq f 86 then jJ.via n xs else λ_=>none
theorem jc.c8{R:Type}(n:Nat):dt (R:=R) Tryz.prog (jc.C n):=λ_ xs=>cR (ee.cO n xs) (cR (jJ.cO n xs) (cT.none))
def jc.cut(r:Nat):Option dP:=match r with | 7=>some ⟨[2,3,5,22,23,24],[]⟩ | _=>none
noncomputable def jc.t (z:jc.Z):List Item:=(dL (match z with | .z7 _ _ _ _ _ _ _ _ _ _ _ _ _ _ _ _ _ _=>7) 1000 [.code (Tryz.f47.body.getD .skip)]).getD []
def jc.s:jc.Z->St
 | .z7 z1 z2 z3 z4 z5 z6 z7 z8 z9 dk dp z12 dC dG dE dM dS dJ=>⟨fx 57 0 [(2,.ptr 0 0),(3,.ptr 1 0),(5,.ptr 2 0),(22,.sl ⟨true,3,false⟩ 1 z1),(23,vi z2),(24,vi z3)],Mem.ofList [.box 26 [.sl ⟨true,74,false⟩ 10 z4,.sl ⟨false,86,false⟩ 2 z5,.sl ⟨true,82,false⟩ 4 z6],.box 86 [vi z7,.sl ⟨true,3,false⟩ 1 z8],.box 74 [vs z9,vi dk,vi dp,vi z12,vi dC,vi dG,vs dE,vs dM,vi dS,vi dJ]],3⟩
def jc.r7(n:Nat)(c:jc.Z->Option Int)(z1:List AV)(z2 z3:Int)(z4 z5 z6:List AV)(z7:Int)(z8:List AV)(z9:ByteArray)(dk dp z12 dC dG:Int)(dE dM:ByteArray)(dS dJ:Int):Option Int:=
 bif decide (z3<z2)then(bif decide ((0:Int)<=z3)&&decide (z3<((z1.length:Nat):Int))then(cN ((z1.getD ((z3).toNat) .undef).cells) λh6 r7=>
 cQ .i64 h6 λx8=>
 let y9:Int:=IntKind.i64.wrap (((z4.length:Nat):Int) - 1)
 (ee.F n x8 0 y9).bind λku=>
 bif !ku then(some 3)else(bif decide ((0:Int)<=x8)&&decide (x8<((z4.length:Nat):Int))then(cN ((z4.getD ((x8).toNat) .undef).cells) λGW ry=>
 df GW λZ7=>
 cN ry λEl qX=>
 cQ .i64 El λK6=>
 cN qX λCw sE=>
 cQ .i64 Cw λA9=>
 cN sE λCv qw=>
 cQ .i64 Cv λHI=>
 cN qw λCu qW=>
 cQ .i64 Cu λM8=>
 cN qW λCt yj=>
 cQ .i64 Ct λHH=>
 cN yj λKe Ns=>
 df Ke λX6=>
 cN Ns λMA Qk=>
 df MA λVd=>
 cN Qk λPF zW=>
 cQ .i64 PF λQ4=>
 cN zW λSI LJ=>
 cQ .i64 SI λQ3=>
 bif decide ((0:Int)<=z7)&&decide (z7<((19:Nat):Int))then(cN (kO ((z7).toNat*1) [.sl ⟨true,3,false⟩ 1 SY,.sl ⟨true,3,false⟩ 1 SX,.sl ⟨true,3,false⟩ 1 SW,.sl ⟨true,3,false⟩ 1 SV,.sl ⟨true,3,false⟩ 1 SU,.sl ⟨true,3,false⟩ 1 SS,.sl ⟨true,3,false⟩ 1 SR,.sl ⟨true,3,false⟩ 1 SQ,.sl ⟨true,3,false⟩ 1 SP,.sl ⟨true,3,false⟩ 1 SO,.sl ⟨true,3,false⟩ 1 Kn,.sl ⟨true,3,false⟩ 1 Km,.sl ⟨true,3,false⟩ 1 Kl,.sl ⟨true,3,false⟩ 1 Kk,.sl ⟨true,3,false⟩ 1 Kj,.sl ⟨true,3,false⟩ 1 Ki,.sl ⟨true,3,false⟩ 1 Kh,.sl ⟨true,3,false⟩ 1 Kg,.sl ⟨true,3,false⟩ 1 Kf]) λSH TR=>
 gU ⟨true,3,false⟩ 1 SH λQW=>
 bif decide ((0:Int)<=z3)&&decide (z3<((QW.length:Nat):Int))then(cN ((QW.getD ((z3).toNat) .undef).cells) λMz Nr=>
 cQ .i64 Mz λQ2=>
 (jJ.F n Z7 K6 A9 HI M8 HH X6 Vd Q4 Q3 z9 dk dp z12 dC dG dE dM dS dJ Q2).bind λRw=>
 bif !Rw then(some 17)else(bif decide ((0:Int)<=x8)&&decide (x8<((z4.length:Nat):Int))then(cN ((z4.getD ((x8).toNat) .undef).cells) λqb r49=>
 df qb λZ1=>
 cN r49 λh51 r52=>
 cQ .i64 h51 λZF=>
 cN r52 λW6 Yb=>
 cQ .i64 W6 λQ1=>
 cN Yb λW5 Vp=>
 cQ .i64 W5 λZE=>
 cN Vp λW4 Vo=>
 cQ .i64 W4 λUL=>
 cN Vo λSD Rn=>
 cQ .i64 SD λUK=>
 cN Rn λSB Rl=>
 df SB λZW=>
 cN Rl λSA Rk=>
 df SA λZV=>
 cN Rk λSz Rj=>
 cQ .i64 Sz λTC=>
 cN Rj λSy TN=>
 cQ .i64 Sy λXT=>
 c (.z7 z1 z2 (IntKind.i64.wrap (z3+1)) z4 z5 z6 z7 z8 Z1 ZF Q1 ZE UL UK ZW ZV TC XT))else none))else none)else none)else none))else none)else(some 0)
def jc.r(n:Nat)(c:jc.Z->Option Int):jc.Z->Option Int
 | .z7 z1 z2 z3 z4 z5 z6 z7 z8 z9 dk dp z12 dC dG dE dM dS dJ=>jc.r7 n c z1 z2 z3 z4 z5 z6 z7 z8 z9 dk dp z12 dC dG dE dM dS dJ
def jc.e(n:Nat)(c:jc.Z->Option Int)(a0 a1 a2:List AV)(a3:Int)(a4:List AV):Option Int:=
 (ee.F n a3 0 18).bind λp1=>
 bif !p1 then(some 4)else(bif decide ((0:Int)<=a3)&&decide (a3<((19:Nat):Int))then(cN (kO ((a3).toNat*1) [.sl ⟨true,3,false⟩ 1 SY,.sl ⟨true,3,false⟩ 1 SX,.sl ⟨true,3,false⟩ 1 SW,.sl ⟨true,3,false⟩ 1 SV,.sl ⟨true,3,false⟩ 1 SU,.sl ⟨true,3,false⟩ 1 SS,.sl ⟨true,3,false⟩ 1 SR,.sl ⟨true,3,false⟩ 1 SQ,.sl ⟨true,3,false⟩ 1 SP,.sl ⟨true,3,false⟩ 1 SO,.sl ⟨true,3,false⟩ 1 Kn,.sl ⟨true,3,false⟩ 1 Km,.sl ⟨true,3,false⟩ 1 Kl,.sl ⟨true,3,false⟩ 1 Kk,.sl ⟨true,3,false⟩ 1 Kj,.sl ⟨true,3,false⟩ 1 Ki,.sl ⟨true,3,false⟩ 1 Kh,.sl ⟨true,3,false⟩ 1 Kg,.sl ⟨true,3,false⟩ 1 Kf]) λh2 r3=>
 gU ⟨true,3,false⟩ 1 h2 λZo=>
 let y5:Bool:=((a4.length:Nat):Int) != ((Zo.length:Nat):Int)
 bif y5 then(some 37)else(c (.z7 a4 ((a4.length:Nat):Int) 0 a0 a1 a2 a3 a4 (⟨#[]⟩:ByteArray) 0 0 0 0 0 (⟨#[]⟩:ByteArray) (⟨#[]⟩:ByteArray) 0 0)))else none)
def jc.E(n:Nat)(c:jc.Z->Option Int):jc.A->Option dU.T:=fun(a0,a1,a2,a3,a4)=>jc.e n c a0 a1 a2 a3 a4
def jc.l(n:Nat):Nat->jc.Z->Option Int:=ez (jc.r n)
def jc.F(n:Nat)(a0 a1 a2:List AV)(a3:Int)(a4:List AV):Option Int:=jc.e n (jc.l n n) a0 a1 a2 a3 a4
def jc.FA(n:Nat):jc.A->Option dU.T:=jc.E n (jc.l n n)
theorem jc.cW(n:Nat):∀a p,jc.FA n a=some p->dc Tryz.prog 47 (jc.i a) (dU.p p):=lN jc.cut jc.t jc.s (jc.E n) (jc.r n) cfg mixed dB dU.qi (jc.c8 n) Tryz.func47
def jc.via{R:Type}(n:Nat):List AV->(AV->Option R)->Option R:=d_ (jc.FA n) jc.o dU.p
theorem jc.cO{R:Type}(n:Nat)(xs:List AV):cT (R:=R) Tryz.prog 47 xs (jc.via n xs):=c7 jc.oi (λa=>by kernel_rfl) (jc.cW n) xs
abbrev jI.A:=List AV × List AV × List AV × Int × Int × Int × Int
def jI.i:jI.A->List AV:=fun(a0,a1,a2,a3,a4,a5,a6)=>[AV.agg [.sl ⟨true,74,false⟩ 10 a0,.sl ⟨false,86,false⟩ 2 a1,.sl ⟨true,82,false⟩ 4 a2],AV.agg [vi a3,vi a4,vi a5,vi a6]]
def jI.o(xs:List AV):Option jI.A:=match xs with | [.agg [.sl ⟨true,74,false⟩ 10 a0,.sl ⟨false,86,false⟩ 2 a1,.sl ⟨true,82,false⟩ 4 a2],.agg [.v (.int .i64 a3),.v (.int .i64 a4),.v (.int .i64 a5),.v (.int .i64 a6)]]=>some (a0,a1,a2,a3,a4,a5,a6) | _=>none
theorem jI.oi:∀xs a,jI.o xs=some a->xs=jI.i a:=by
 intro xs a h;unfold jI.o at h;split at h
 ·cases h;rfl
 ·cases h
inductive jI.Z where
 | z3 (z1:Bool)
def jI.C{R:Type}(n:Nat)(f:FuncId)(xs:List AV):(AV->Option R)->Option R:=
 bif Nat.beq f 44 then kx.via n xs else bif Nat.beq f 67 then ee.via n xs else λ_=>none
theorem jI.c8{R:Type}(n:Nat):dt (R:=R) Tryz.prog (jI.C n):=λ_ xs=>cR (kx.cO n xs) (cR (ee.cO n xs) (cT.none))
def jI.cut(r:Nat):Option dP:=match r with | 3=>some ⟨[6],[]⟩ | _=>none
noncomputable def jI.t (z:jI.Z):List Item:=(dL (match z with | .z3 _=>3) 1000 [.code (Tryz.f48.body.getD .skip)]).getD []
def jI.s:jI.Z->St
 | .z3 z1=>⟨fx 41 0 [(6,vb z1)],Mem.ofList [],0⟩
def jI.r3(n:Nat)(c:jI.Z->Option Int)(z1:Bool):Option Int:=
 (kx.F n (!z1) 3).bind λp5=>
 some p5
def jI.r(n:Nat)(c:jI.Z->Option Int):jI.Z->Option Int
 | .z3 z1=>jI.r3 n c z1
def jI.e(n:Nat)(c:jI.Z->Option Int)(a0 a1 a2:List AV)(a3 a4 a5 a6:Int):Option Int:=
 bif decide (a3>=0)then(bif decide (a3<a4)then(let y1:Bool:=decide (a4<=((a1.length:Nat):Int))
 bif y1 then((ee.F n a5 0 999).bind λp2=>
 bif p2 then(let y3:Int:=IntKind.i64.wrap (((a1.length:Nat):Int) - 1)
 (ee.F n a6 0 y3).bind λp4=>
 c (.z3 p4))else(c (.z3 false)))else(c (.z3 false)))else(c (.z3 false)))else(c (.z3 false))
def jI.E(n:Nat)(c:jI.Z->Option Int):jI.A->Option dU.T:=fun(a0,a1,a2,a3,a4,a5,a6)=>jI.e n c a0 a1 a2 a3 a4 a5 a6
def jI.l(n:Nat):Nat->jI.Z->Option Int:=ez (jI.r n)
def jI.F(n:Nat)(a0 a1 a2:List AV)(a3 a4 a5 a6:Int):Option Int:=jI.e n (jI.l n n) a0 a1 a2 a3 a4 a5 a6
def jI.FA(n:Nat):jI.A->Option dU.T:=jI.E n (jI.l n n)
theorem jI.cW(n:Nat):∀a p,jI.FA n a=some p->dc Tryz.prog 48 (jI.i a) (dU.p p):=lN jI.cut jI.t jI.s (jI.E n) (jI.r n) cfg mixed dB dU.qi (jI.c8 n) Tryz.func48
def jI.via{R:Type}(n:Nat):List AV->(AV->Option R)->Option R:=d_ (jI.FA n) jI.o dU.p
theorem jI.cO{R:Type}(n:Nat)(xs:List AV):cT (R:=R) Tryz.prog 48 xs (jI.via n xs):=c7 jI.oi (λa=>by kernel_rfl) (jI.cW n) xs
abbrev eP.A:=List AV × List AV × List AV
abbrev eP.T:=Int × Int × Int
def eP.i:eP.A->List AV:=fun(a0,a1,a2)=>[AV.agg [.sl ⟨true,74,false⟩ 10 a0,.sl ⟨false,86,false⟩ 2 a1,.sl ⟨true,82,false⟩ 4 a2]]
def eP.o(xs:List AV):Option eP.A:=match xs with | [.agg [.sl ⟨true,74,false⟩ 10 a0,.sl ⟨false,86,false⟩ 2 a1,.sl ⟨true,82,false⟩ 4 a2]]=>some (a0,a1,a2) | _=>none
theorem eP.oi:∀xs a,eP.o xs=some a->xs=eP.i a:=by
 intro xs a h;unfold eP.o at h;split at h
 ·cases h;rfl
 ·cases h
def eP.p(p:eP.T):AV:=.eC [AV.agg [vi p.1,vi p.2.1],vi p.2.2]
def eP.q(x:AV):Option eP.T:=match x with | .eC [.agg [.v (.int .i64 p0),.v (.int .i64 p1)],.v (.int .i64 p2)]=>some (p0,p1,p2) | _=>none
theorem eP.qi:∀x p,eP.q x=some p->x=eP.p p:=by
 intro x p h;unfold eP.q at h;split at h
 ·cases h;rfl
 ·cases h
inductive eP.Z where
 | z2 (z1:Bool) (z2 z3 z4:List AV) (z5 z6:Int)
 | z6 (z1 z2:Int) (z3 z4 z5:List AV) (z6 z7:Int)
 | dM (z1:List AV) (z2 z3:Int) (z4 z5 z6:List AV) (z7 z8:Int)
 | z23 (z1:List AV) (z2 z3:Int) (z4 z5 z6:List AV) (z7 z8:Int)
def eP.C{R:Type}(n:Nat)(f:FuncId)(xs:List AV):(AV->Option R)->Option R:=
 bif Nat.beq f 43 then dU.via n xs else bif Nat.beq f 44 then kx.via n xs else bif Nat.beq f 45 then iB.via n xs else bif Nat.beq f 46 then fO.via n xs else bif Nat.beq f 47 then jc.via n xs else bif Nat.beq f 48 then jI.via n xs else λ_=>none
theorem eP.c8{R:Type}(n:Nat):dt (R:=R) Tryz.prog (eP.C n):=λ_ xs=>cR (dU.cO n xs) (cR (kx.cO n xs) (cR (iB.cO n xs) (cR (fO.cO n xs) (cR (jc.cO n xs) (cR (jI.cO n xs) (cT.none))))))
def eP.cut(r:Nat):Option dP:=match r with | 2=>some ⟨[1,2,4],[]⟩ | 6=>some ⟨[1,2,47,48],[]⟩ | 16=>some ⟨[1,2,70,71,72],[]⟩ | 23=>some ⟨[1,2,87,88,89],[]⟩ | _=>none
noncomputable def eP.t (z:eP.Z):List Item:=(dL (match z with | .z2 _ _ _ _ _ _=>2 | .z6 _ _ _ _ _ _ _=>6 | .dM _ _ _ _ _ _ _ _=>16 | .z23 _ _ _ _ _ _ _ _=>23) 1000 [.code (Tryz.f14.body.getD .skip)]).getD []
def eP.s:eP.Z->St
 | .z2 z1 z2 z3 z4 z5 z6=>⟨fx 104 0 [(1,.ptr 0 0),(2,.ptr 1 0),(4,vb z1)],Mem.ofList [.box 26 [.sl ⟨true,74,false⟩ 10 z2,.sl ⟨false,86,false⟩ 2 z3,.sl ⟨true,82,false⟩ 4 z4],.box 30 [vi z5,vi z6]],2⟩
 | .z6 z1 z2 z3 z4 z5 z6 z7=>⟨fx 104 0 [(1,.ptr 0 0),(2,.ptr 1 0),(47,vi z1),(48,vi z2)],Mem.ofList [.box 26 [.sl ⟨true,74,false⟩ 10 z3,.sl ⟨false,86,false⟩ 2 z4,.sl ⟨true,82,false⟩ 4 z5],.box 30 [vi z6,vi z7]],2⟩
 | .dM z1 z2 z3 z4 z5 z6 z7 z8=>⟨fx 104 0 [(1,.ptr 0 0),(2,.ptr 1 0),(70,.sl ⟨false,86,false⟩ 2 z1),(71,vi z2),(72,vi z3)],Mem.ofList [.box 26 [.sl ⟨true,74,false⟩ 10 z4,.sl ⟨false,86,false⟩ 2 z5,.sl ⟨true,82,false⟩ 4 z6],.box 30 [vi z7,vi z8]],2⟩
 | .z23 z1 z2 z3 z4 z5 z6 z7 z8=>⟨fx 104 0 [(1,.ptr 0 0),(2,.ptr 1 0),(87,.sl ⟨true,82,false⟩ 4 z1),(88,vi z2),(89,vi z3)],Mem.ofList [.box 26 [.sl ⟨true,74,false⟩ 10 z4,.sl ⟨false,86,false⟩ 2 z5,.sl ⟨true,82,false⟩ 4 z6],.box 30 [vi z7,vi z8]],2⟩
def eP.r2(n:Nat)(c:eP.Z->Option (Int × Int × Int))(z1:Bool)(z2 z3 z4:List AV)(z5 z6:Int):Option (Int × Int × Int):=
 (kx.F n z1 2).bind λp4=>
 let y5:Bool:=((z3.length:Nat):Int)==0
 (kx.F n y5 1).bind λp6=>
 (dU.F n [vi p4,vi p6]).bind λp7=>
 bif p7 != 0 then(some (0,0,p7))else(c (.z6 ((z2.length:Nat):Int) 0 z2 z3 z4 z5 z6))
def eP.r6(n:Nat)(c:eP.Z->Option (Int × Int × Int))(z1 z2:Int)(z3 z4 z5:List AV)(z6 z7:Int):Option (Int × Int × Int):=
 bif decide (z2<z1)then((iB.F n z3 z4 z5 z2).bind λp8=>
 bif p8 != 0 then(some (1,z2,p8))else(c (.z6 z1 (IntKind.i64.wrap (z2+1)) z3 z4 z5 z6 z7)))else((fO.F n z3).bind λp9=>
 bif decide (p9.2>24)then(some (0,0,30))else(c (.dM z4 ((z4.length:Nat):Int) 0 z3 z4 z5 z6 z7)))
def eP.LM(n:Nat)(c:eP.Z->Option (Int × Int × Int))(z1:List AV)(z2 z3:Int)(z4 z5 z6:List AV)(z7 z8:Int):Option (Int × Int × Int):=
 bif decide (z3<z2)then(bif decide ((0:Int)<=z3)&&decide (z3<((z1.length:Nat):Int))then(cN ((z1.getD ((z3).toNat) .undef).cells) λxG vN=>
 cQ .i64 xG λpV=>
 cN vN λDg xk=>
 gU ⟨true,3,false⟩ 1 Dg λUC=>
 (jc.F n z4 z5 z6 pV UC).bind λLU=>
 bif LU != 0 then(some (2,z3,LU))else(c (.dM z1 z2 (IntKind.i64.wrap (z3+1)) z4 z5 z6 z7 z8)))else none)else(c (.z23 z6 ((z6.length:Nat):Int) 0 z4 z5 z6 z7 z8))
def eP.yk(n:Nat)(c:eP.Z->Option (Int × Int × Int))(z1:List AV)(z2 z3:Int)(z4 z5 z6:List AV)(z7 z8:Int):Option (Int × Int × Int):=
 bif decide (z3<z2)then(bif decide ((0:Int)<=z3)&&decide (z3<((z1.length:Nat):Int))then(cN ((z1.getD ((z3).toNat) .undef).cells) λCw sE=>
 cQ .i64 Cw λA9=>
 cN sE λCv qw=>
 cQ .i64 Cv λHI=>
 cN qw λCu qW=>
 cQ .i64 Cu λM8=>
 cN qW λCt yj=>
 cQ .i64 Ct λHH=>
 (jI.F n z4 z5 z6 A9 HI M8 HH).bind λI3=>
 bif I3 != 0 then(some (3,z3,I3))else(c (.z23 z1 z2 (IntKind.i64.wrap (z3+1)) z4 z5 z6 z7 z8)))else none)else(some (0,0,0))
def eP.r(n:Nat)(c:eP.Z->Option (Int × Int × Int)):eP.Z->Option (Int × Int × Int)
 | .z2 z1 z2 z3 z4 z5 z6=>eP.r2 n c z1 z2 z3 z4 z5 z6
 | .z6 z1 z2 z3 z4 z5 z6 z7=>eP.r6 n c z1 z2 z3 z4 z5 z6 z7
 | .dM z1 z2 z3 z4 z5 z6 z7 z8=>eP.LM n c z1 z2 z3 z4 z5 z6 z7 z8
 | .z23 z1 z2 z3 z4 z5 z6 z7 z8=>eP.yk n c z1 z2 z3 z4 z5 z6 z7 z8
def eP.e(n:Nat)(c:eP.Z->Option (Int × Int × Int))(a0 a1 a2:List AV):Option (Int × Int × Int):=
 let y1:Bool:=decide (((a0.length:Nat):Int)>24)
 bif y1 then(c (.z2 true a0 a1 a2 0 0))else(let y2:Bool:=decide (((a1.length:Nat):Int)>40)
 bif y2 then(c (.z2 true a0 a1 a2 0 0))else(let y3:Bool:=decide (((a2.length:Nat):Int)>6)
 c (.z2 y3 a0 a1 a2 0 0)))
def eP.E(n:Nat)(c:eP.Z->Option (Int × Int × Int)):eP.A->Option eP.T:=fun(a0,a1,a2)=>eP.e n c a0 a1 a2
def eP.l(n:Nat):Nat->eP.Z->Option (Int × Int × Int):=ez (eP.r n)
def eP.F(n:Nat)(a0 a1 a2:List AV):Option (Int × Int × Int):=eP.e n (eP.l n n) a0 a1 a2
def eP.FA(n:Nat):eP.A->Option eP.T:=eP.E n (eP.l n n)
theorem eP.cW(n:Nat):∀a p,eP.FA n a=some p->dc Tryz.prog 14 (eP.i a) (eP.p p):=lN eP.cut eP.t eP.s (eP.E n) (eP.r n) cfg mixed dB eP.qi (eP.c8 n) Tryz.func14
def eP.via{R:Type}(n:Nat):List AV->(AV->Option R)->Option R:=d_ (eP.FA n) eP.o eP.p
theorem eP.cO{R:Type}(n:Nat)(xs:List AV):cT (R:=R) Tryz.prog 14 xs (eP.via n xs):=c7 eP.oi (λa=>by kernel_rfl) (eP.cW n) xs
def xf.C{R:Type}(n:Nat)(f:FuncId)(xs:List AV):(AV->Option R)->Option R:=
 bif Nat.beq f 14 then eP.via n xs else λ_=>none
theorem xf.c8{R:Type}(n:Nat):dt (R:=R) Tryz.prog (xf.C n):=λ_ xs=>cR (eP.cO n xs) (cT.none)
def xf.cut(r:Nat):Option dP:=match r with  | _=>none
def xf.e(n:Nat)(a0 a1 a2:List AV):Option Int:=
 (eP.F n a0 a1 a2).bind λp1=>
 some p1.2.2
def xf.E(n:Nat):eP.A->Option dU.T:=fun(a0,a1,a2)=>xf.e n a0 a1 a2
def xf.F(n:Nat)(a0 a1 a2:List AV):Option Int:=xf.e n a0 a1 a2
def xf.FA(n:Nat):eP.A->Option dU.T:=xf.E n
theorem xf.cW(n:Nat):∀a p,xf.FA n a=some p->dc Tryz.prog 52 (eP.i a) (dU.p p):=gp xf.cut (xf.E n) cfg mixed dB dU.qi (xf.c8 n) Tryz.func52
def xf.via{R:Type}(n:Nat):List AV->(AV->Option R)->Option R:=d_ (xf.FA n) eP.o dU.p
theorem xf.cO{R:Type}(n:Nat)(xs:List AV):cT (R:=R) Tryz.prog 52 xs (xf.via n xs):=c7 eP.oi (λa=>by kernel_rfl) (xf.cW n) xs
end Go.Proofs.YtnoldakbllfmnaaGreatDoor.Ev
namespace Go.Proofs
open Go.Shelf
def Tryz.BY:Go.Shelf.Ren:=⟨fun | 137=>219 | 217=>180 | 266=>213 | n=>n,fun | 9=>9 | 5=>5 | 3=>3 | n=>n,fun | n=>n⟩
theorem Tryz.L9:Go.Proofs.Lays.n137 Tryz.prog Tryz.BY:={
 mixed:=by kernel_rfl
 f137:=Tryz.func219.trans (congrArg some (by kernel_rfl))
 f217:=Tryz.func180.trans (congrArg some (by kernel_rfl))
 f266:=Tryz.func213.trans (congrArg some (by kernel_rfl))
 t3:=Tryz.underlying3
 a3:=Tryz.isAgg3
 z3:=Tryz.sizeOf3
 v3:=Tryz.zeroValue3
 t5:=Tryz.underlying5
 a5:=Tryz.isAgg5
 z5:=Tryz.sizeOf5
 v5:=Tryz.zeroValue5
 t9:=Tryz.underlying9
 a9:=Tryz.isAgg9
 z9:=Tryz.sizeOf9
 v9:=Tryz.zeroValue9 }
open Go.RowKit in
theorem Tryz.strings_IndexByte(s:ByteArray)(c:Int)(w:World) :
 Calls Tryz.prog 219 #[.string s,.int .u8 c] w λe w'=>e=.returned (.int .i64 (Lib.indexByte s.data.toList c.toNat.toUInt8))/\w'=w:=Any.strings_IndexByte Tryz.L9 s c w
def Tryz.Am:Go.Shelf.Ren:=⟨fun | 171=>97 | 243=>145 | 246=>177 | 283=>209 | 284=>210 | 285=>211 | 286=>212 | 129=>206 | 317=>236 | 318=>237 | 319=>238 | 320=>239 | 337=>249 | 338=>250 | n=>n,fun | 3=>3 | 9=>9 | 2=>2 | 4=>4 | 171=>245 | 0=>0 | 53=>206 | 37=>146 | 5=>5 | 173=>247 | 212=>265 | 51=>203 | 20=>20 | 213=>266 | 46=>176 | 232=>293 | 233=>294 | n=>n,fun | 17=>4 | 18=>9 | 19=>10 | n=>n⟩
theorem Tryz.Js:Go.Proofs.LaysM.n171 Tryz.prog Tryz.Am:={
 mixed:=by kernel_rfl
 f129:=Tryz.func206.trans (congrArg some (by kernel_rfl))
 f171:=Tryz.func97.trans (congrArg some (by kernel_rfl))
 f243:=Tryz.func145.trans (congrArg some (by kernel_rfl))
 f246:=Tryz.func177.trans (congrArg some (by kernel_rfl))
 f283:=Tryz.func209.trans (congrArg some (by kernel_rfl))
 f284:=Tryz.func210.trans (congrArg some (by kernel_rfl))
 f285:=Tryz.func211.trans (congrArg some (by kernel_rfl))
 f286:=Tryz.func212.trans (congrArg some (by kernel_rfl))
 f317:=Tryz.func236.trans (congrArg some (by kernel_rfl))
 f318:=Tryz.func237.trans (congrArg some (by kernel_rfl))
 f319:=Tryz.func238.trans (congrArg some (by kernel_rfl))
 f320:=Tryz.func239.trans (congrArg some (by kernel_rfl))
 f337:=Tryz.func249.trans (congrArg some (by kernel_rfl))
 f338:=Tryz.func250.trans (congrArg some (by kernel_rfl))
 t0:=Tryz.underlying0
 a0:=Tryz.isAgg0
 z0:=Tryz.sizeOf0
 v0:=Tryz.zeroValue0
 t2:=Tryz.underlying2
 a2:=Tryz.isAgg2
 z2:=Tryz.sizeOf2
 v2:=Tryz.zeroValue2
 t3:=Tryz.underlying3
 a3:=Tryz.isAgg3
 z3:=Tryz.sizeOf3
 v3:=Tryz.zeroValue3
 t4:=Tryz.underlying4
 a4:=Tryz.isAgg4
 z4:=Tryz.sizeOf4
 v4:=Tryz.zeroValue4
 t5:=Tryz.underlying5
 a5:=Tryz.isAgg5
 z5:=Tryz.sizeOf5
 v5:=Tryz.zeroValue5
 t9:=Tryz.underlying9
 a9:=Tryz.isAgg9
 z9:=Tryz.sizeOf9
 v9:=Tryz.zeroValue9
 t20:=Tryz.underlying20
 a20:=Tryz.isAgg20
 z20:=Tryz.sizeOf20
 v20:=Tryz.zeroValue20
 t37:=Tryz.underlying146
 a37:=Tryz.isAgg146
 z37:=Tryz.sizeOf146
 v37:=Tryz.zeroValue146
 t46:=Tryz.underlying176
 a46:=Tryz.isAgg176
 z46:=Tryz.sizeOf176
 v46:=Tryz.zeroValue176
 t51:=Tryz.underlying203
 a51:=Tryz.isAgg203
 z51:=Tryz.sizeOf203
 v51:=Tryz.zeroValue203
 t53:=Tryz.underlying206
 a53:=Tryz.isAgg206
 z53:=Tryz.sizeOf206
 v53:=Tryz.zeroValue206
 t171:=Tryz.underlying245
 a171:=Tryz.isAgg245
 z171:=Tryz.sizeOf245
 v171:=Tryz.zeroValue245
 t173:=Tryz.underlying247
 a173:=Tryz.isAgg247
 z173:=Tryz.sizeOf247
 v173:=Tryz.zeroValue247
 t212:=Tryz.underlying265
 a212:=Tryz.isAgg265
 z212:=Tryz.sizeOf265
 v212:=Tryz.zeroValue265
 t213:=Tryz.underlying266
 a213:=Tryz.isAgg266
 z213:=Tryz.sizeOf266
 t232:=Tryz.underlying293
 a232:=Tryz.isAgg293
 z232:=Tryz.sizeOf293
 v232:=Tryz.zeroValue293
 t233:=Tryz.underlying294
 a233:=Tryz.isAgg294
 z233:=Tryz.sizeOf294
 v233:=Tryz.zeroValue294
 g17:=by kernel_rfl
 g18:=by kernel_rfl
 g19:=by kernel_rfl
 i0:=by kernel_rfl
 i2:=by kernel_rfl
 i3:=by kernel_rfl
 i4:=by kernel_rfl
 i5:=by kernel_rfl
 i9:=by kernel_rfl
 i20:=by kernel_rfl
 i37:=by kernel_rfl
 i46:=by kernel_rfl
 i51:=by kernel_rfl
 i53:=by kernel_rfl
 i171:=by kernel_rfl
 i173:=by kernel_rfl
 i212:=by kernel_rfl
 i232:=by kernel_rfl
 i233:=by kernel_rfl
 m17:=by kernel_rfl
 m18:=by kernel_rfl
 m19:=by kernel_rfl }
open Go.RowKit Go.Sort Go.Lib in
theorem Tryz.strconv_Itoa(n : Int)(h0 : -9223372036854775808 ≤ n)(h1 : n ≤ 9223372036854775807)(w : World)(VX : Lib.TabIs Tryz.prog w "internal/strconv.uint64pow10" .u64 Lib.pow10Tab) :
 Calls Tryz.prog 97 #[.int .i64 n] w λe w'=>e=.returned (.string ⟨(Lib.itoa n).toArray⟩)/\∃k os,w'=grow (w.drewN k) os:=Any.strconv_Itoa Tryz.Js n h0 h1 w VX
def Tryz.Ao:Go.Shelf.Ren:=⟨fun | 145=>60 | 220=>103 | 219=>151 | 217=>180 | 225=>181 | 224=>182 | 267=>183 | 266=>213 | 314=>214 | n=>n,fun | 9=>9 | 4=>4 | 59=>105 | 3=>3 | 5=>5 | 46=>176 | 146=>204 | 51=>203 | n=>n,fun | 1=>3 | n=>n⟩
theorem Tryz.Jv:Go.Proofs.LaysM.n145 Tryz.prog Tryz.Ao:={
 mixed:=by kernel_rfl
 f145:=Tryz.func60.trans (congrArg some (by kernel_rfl))
 f217:=Tryz.func180.trans (congrArg some (by kernel_rfl))
 f219:=Tryz.func151.trans (congrArg some (by kernel_rfl))
 f220:=Tryz.func103.trans (congrArg some (by kernel_rfl))
 f224:=Tryz.func182.trans (congrArg some (by kernel_rfl))
 f225:=Tryz.func181.trans (congrArg some (by kernel_rfl))
 f266:=Tryz.func213.trans (congrArg some (by kernel_rfl))
 f267:=Tryz.func183.trans (congrArg some (by kernel_rfl))
 f314:=Tryz.func214.trans (congrArg some (by kernel_rfl))
 t3:=Tryz.underlying3
 a3:=Tryz.isAgg3
 z3:=Tryz.sizeOf3
 v3:=Tryz.zeroValue3
 t4:=Tryz.underlying4
 a4:=Tryz.isAgg4
 z4:=Tryz.sizeOf4
 v4:=Tryz.zeroValue4
 t5:=Tryz.underlying5
 a5:=Tryz.isAgg5
 z5:=Tryz.sizeOf5
 v5:=Tryz.zeroValue5
 t9:=Tryz.underlying9
 a9:=Tryz.isAgg9
 z9:=Tryz.sizeOf9
 v9:=Tryz.zeroValue9
 t46:=Tryz.underlying176
 a46:=Tryz.isAgg176
 z46:=Tryz.sizeOf176
 v46:=Tryz.zeroValue176
 t51:=Tryz.underlying203
 a51:=Tryz.isAgg203
 z51:=Tryz.sizeOf203
 v51:=Tryz.zeroValue203
 t59:=Tryz.underlying105
 a59:=Tryz.isAgg105
 z59:=Tryz.sizeOf105
 v59:=Tryz.zeroValue105
 t146:=Tryz.underlying204
 a146:=Tryz.isAgg204
 z146:=Tryz.sizeOf204
 v146:=Tryz.zeroValue204
 g1:=by kernel_rfl
 i3:=by kernel_rfl
 i4:=by kernel_rfl
 i5:=by kernel_rfl
 i9:=by kernel_rfl
 i46:=by kernel_rfl
 i51:=by kernel_rfl
 i59:=by kernel_rfl
 i146:=by kernel_rfl
 m1:=by kernel_rfl
 s1_3:=λw h=>Go.Proofs.cell_of_shapedOpen_int (zero:=#[.int .i64 0]) (t:=3) h (bj (by kernel_rfl)) (by kernel_rfl) rfl (by kernel_rfl) (by kernel_rfl) Tryz.underlying3 }
open Go.RowKit Go.Lib in
theorem Tryz.strings_Cut_shaped(s sep:ByteArray)(w:World)(h:w.ShapedOpen Tryz.prog)(hs:s.size<4294967281) :
 Calls Tryz.prog 60 #[.string s,.string sep] w λe w'=>e=.returned (.tuple #[.string ⟨(Lib.cut s.data.toList sep.data.toList).1.toArray⟩,.string ⟨(Lib.cut s.data.toList sep.data.toList).2.1.toArray⟩,.bool (Lib.cut s.data.toList sep.data.toList).2.2])/\∃n,w'=w.drewN n:=Any.strings_Cut_shaped Tryz.Jv s sep w h hs
def Tryz.BX:Go.Shelf.Ren:=⟨fun | 161=>217 | 231=>241 | 227=>242 | 233=>243 | 235=>244 | 228=>252 | 197=>208 | 151=>253 | 260=>235 | 152=>256 | 137=>219 | 119=>257 | 224=>182 | 225=>181 | 217=>180 | 266=>213 | n=>n,fun | 9=>9 | 4=>4 | 3=>3 | 5=>5 | 117=>271 | 116=>270 | 0=>0 | 124=>274 | 105=>243 | 21=>21 | 119=>283 | 46=>176 | 139=>286 | 138=>285 | n=>n,fun | 3=>7 | 4=>8 | n=>n⟩
theorem Tryz.L8:Go.Proofs.Lays.n161 Tryz.prog Tryz.BX:={
 mixed:=by kernel_rfl
 f119:=Tryz.func257.trans (congrArg some (by kernel_rfl))
 f137:=Tryz.func219.trans (congrArg some (by kernel_rfl))
 f151:=Tryz.func253.trans (congrArg some (by kernel_rfl))
 f152:=Tryz.func256.trans (congrArg some (by kernel_rfl))
 f161:=Tryz.func217.trans (congrArg some (by kernel_rfl))
 f197:=Tryz.func208.trans (congrArg some (by kernel_rfl))
 f217:=Tryz.func180.trans (congrArg some (by kernel_rfl))
 f224:=Tryz.func182.trans (congrArg some (by kernel_rfl))
 f225:=Tryz.func181.trans (congrArg some (by kernel_rfl))
 f227:=Tryz.func242.trans (congrArg some (by kernel_rfl))
 f228:=Tryz.func252.trans (congrArg some (by kernel_rfl))
 f231:=Tryz.func241.trans (congrArg some (by kernel_rfl))
 f233:=Tryz.func243.trans (congrArg some (by kernel_rfl))
 f235:=Tryz.func244.trans (congrArg some (by kernel_rfl))
 f260:=Tryz.func235.trans (congrArg some (by kernel_rfl))
 f266:=Tryz.func213.trans (congrArg some (by kernel_rfl))
 t0:=Tryz.underlying0
 a0:=Tryz.isAgg0
 z0:=Tryz.sizeOf0
 v0:=Tryz.zeroValue0
 t3:=Tryz.underlying3
 a3:=Tryz.isAgg3
 z3:=Tryz.sizeOf3
 v3:=Tryz.zeroValue3
 t4:=Tryz.underlying4
 a4:=Tryz.isAgg4
 z4:=Tryz.sizeOf4
 v4:=Tryz.zeroValue4
 t5:=Tryz.underlying5
 a5:=Tryz.isAgg5
 z5:=Tryz.sizeOf5
 v5:=Tryz.zeroValue5
 t9:=Tryz.underlying9
 a9:=Tryz.isAgg9
 z9:=Tryz.sizeOf9
 v9:=Tryz.zeroValue9
 t21:=Tryz.underlying21
 a21:=Tryz.isAgg21
 z21:=Tryz.sizeOf21
 v21:=Tryz.zeroValue21
 t46:=Tryz.underlying176
 a46:=Tryz.isAgg176
 z46:=Tryz.sizeOf176
 v46:=Tryz.zeroValue176
 t105:=Tryz.underlying243
 a105:=Tryz.isAgg243
 z105:=Tryz.sizeOf243
 v105:=Tryz.zeroValue243
 t116:=Tryz.underlying270
 a116:=Tryz.isAgg270
 z116:=Tryz.sizeOf270
 t117:=Tryz.underlying271
 a117:=Tryz.isAgg271
 z117:=Tryz.sizeOf271
 v117:=Tryz.zeroValue271
 t119:=Tryz.underlying283
 a119:=Tryz.isAgg283
 z119:=Tryz.sizeOf283
 t124:=Tryz.underlying274
 a124:=Tryz.isAgg274
 z124:=Tryz.sizeOf274
 v124:=Tryz.zeroValue274
 t138:=Tryz.underlying285
 a138:=Tryz.isAgg285
 z138:=Tryz.sizeOf285
 v138:=Tryz.zeroValue285
 t139:=Tryz.underlying286
 a139:=Tryz.isAgg286
 z139:=Tryz.sizeOf286
 v139:=Tryz.zeroValue286
 g3:=by kernel_rfl
 g4:=by kernel_rfl }
open Go.RowKit in
theorem Tryz.strings_TrimLeft_one(s:ByteArray)(c:UInt8)(hc:c.toNat<128)(w:World) :
 Calls Tryz.prog 217 #[.string s,.string ⟨#[c]⟩] w λe w'=>e=.returned (.string ⟨(Lib.trimLeftB s.data.toList c).toArray⟩)/\w'=w:=Any.strings_TrimLeft_one Tryz.L8 s c hc w
def Tryz.rI:Go.Shelf.Ren:=⟨fun | 155=>144 | 154=>176 | 138=>189 | 165=>98 | 143=>190 | 166=>99 | 197=>208 | 169=>100 | 195=>220 | 218=>221 | 240=>146 | 241=>147 | 219=>151 | 260=>235 | 276=>178 | 277=>179 | 217=>180 | 225=>181 | 224=>182 | 267=>183 | 266=>213 | 314=>214 | n=>n,fun | 9=>9 | 3=>3 | 4=>4 | 72=>148 | 0=>0 | 76=>152 | 105=>243 | 21=>21 | 5=>5 | 70=>145 | 20=>20 | 37=>146 | 75=>151 | 127=>185 | 164=>213 | 46=>176 | 119=>283 | 139=>286 | 138=>285 | 146=>204 | 51=>203 | 80=>84 | n=>n,fun | 1=>3 | 3=>7 | 4=>8 | n=>n⟩
theorem Tryz.Jt:Go.Proofs.LaysM.n155 Tryz.prog Tryz.rI:={
 mixed:=by kernel_rfl
 f138:=Tryz.func189.trans (congrArg some (by kernel_rfl))
 f143:=Tryz.func190.trans (congrArg some (by kernel_rfl))
 f154:=Tryz.func176.trans (congrArg some (by kernel_rfl))
 f155:=Tryz.func144.trans (congrArg some (by kernel_rfl))
 f165:=Tryz.func98.trans (congrArg some (by kernel_rfl))
 f166:=Tryz.func99.trans (congrArg some (by kernel_rfl))
 f169:=Tryz.func100.trans (congrArg some (by kernel_rfl))
 f195:=Tryz.func220.trans (congrArg some (by kernel_rfl))
 f197:=Tryz.func208.trans (congrArg some (by kernel_rfl))
 f217:=Tryz.func180.trans (congrArg some (by kernel_rfl))
 f218:=Tryz.func221.trans (congrArg some (by kernel_rfl))
 f219:=Tryz.func151.trans (congrArg some (by kernel_rfl))
 f224:=Tryz.func182.trans (congrArg some (by kernel_rfl))
 f225:=Tryz.func181.trans (congrArg some (by kernel_rfl))
 f240:=Tryz.func146.trans (congrArg some (by kernel_rfl))
 f241:=Tryz.func147.trans (congrArg some (by kernel_rfl))
 f260:=Tryz.func235.trans (congrArg some (by kernel_rfl))
 f266:=Tryz.func213.trans (congrArg some (by kernel_rfl))
 f267:=Tryz.func183.trans (congrArg some (by kernel_rfl))
 f276:=Tryz.func178.trans (congrArg some (by kernel_rfl))
 f277:=Tryz.func179.trans (congrArg some (by kernel_rfl))
 f314:=Tryz.func214.trans (congrArg some (by kernel_rfl))
 t0:=Tryz.underlying0
 a0:=Tryz.isAgg0
 z0:=Tryz.sizeOf0
 v0:=Tryz.zeroValue0
 t3:=Tryz.underlying3
 a3:=Tryz.isAgg3
 z3:=Tryz.sizeOf3
 v3:=Tryz.zeroValue3
 t4:=Tryz.underlying4
 a4:=Tryz.isAgg4
 z4:=Tryz.sizeOf4
 v4:=Tryz.zeroValue4
 t5:=Tryz.underlying5
 a5:=Tryz.isAgg5
 z5:=Tryz.sizeOf5
 v5:=Tryz.zeroValue5
 t9:=Tryz.underlying9
 a9:=Tryz.isAgg9
 z9:=Tryz.sizeOf9
 v9:=Tryz.zeroValue9
 t20:=Tryz.underlying20
 a20:=Tryz.isAgg20
 z20:=Tryz.sizeOf20
 v20:=Tryz.zeroValue20
 t21:=Tryz.underlying21
 a21:=Tryz.isAgg21
 z21:=Tryz.sizeOf21
 v21:=Tryz.zeroValue21
 t37:=Tryz.underlying146
 a37:=Tryz.isAgg146
 z37:=Tryz.sizeOf146
 v37:=Tryz.zeroValue146
 t46:=Tryz.underlying176
 a46:=Tryz.isAgg176
 z46:=Tryz.sizeOf176
 v46:=Tryz.zeroValue176
 t51:=Tryz.underlying203
 a51:=Tryz.isAgg203
 z51:=Tryz.sizeOf203
 v51:=Tryz.zeroValue203
 t70:=Tryz.underlying145
 a70:=Tryz.isAgg145
 z70:=Tryz.sizeOf145
 v70:=Tryz.zeroValue145
 t72:=Tryz.underlying148
 a72:=Tryz.isAgg148
 z72:=Tryz.sizeOf148
 v72:=Tryz.zeroValue148
 t75:=Tryz.underlying151
 a75:=Tryz.isAgg151
 z75:=Tryz.sizeOf151
 v75:=Tryz.zeroValue151
 t76:=Tryz.underlying152
 a76:=Tryz.isAgg152
 z76:=Tryz.sizeOf152
 v76:=Tryz.zeroValue152
 t105:=Tryz.underlying243
 a105:=Tryz.isAgg243
 z105:=Tryz.sizeOf243
 v105:=Tryz.zeroValue243
 t119:=Tryz.underlying283
 a119:=Tryz.isAgg283
 z119:=Tryz.sizeOf283
 t127:=Tryz.underlying185
 a127:=Tryz.isAgg185
 z127:=Tryz.sizeOf185
 v127:=Tryz.zeroValue185
 t138:=Tryz.underlying285
 a138:=Tryz.isAgg285
 z138:=Tryz.sizeOf285
 v138:=Tryz.zeroValue285
 t139:=Tryz.underlying286
 a139:=Tryz.isAgg286
 z139:=Tryz.sizeOf286
 v139:=Tryz.zeroValue286
 t146:=Tryz.underlying204
 a146:=Tryz.isAgg204
 z146:=Tryz.sizeOf204
 v146:=Tryz.zeroValue204
 t164:=Tryz.underlying213
 a164:=Tryz.isAgg213
 z164:=Tryz.sizeOf213
 v164:=Tryz.zeroValue213
 g1:=by kernel_rfl
 g3:=by kernel_rfl
 g4:=by kernel_rfl
 t80:=Tryz.underlying84
 a80:=Tryz.isAgg84
 z80:=Tryz.sizeOf84
 v80:=Tryz.zeroValue84
 i0:=by kernel_rfl
 i3:=by kernel_rfl
 i4:=by kernel_rfl
 i5:=by kernel_rfl
 i9:=by kernel_rfl
 i20:=by kernel_rfl
 i21:=by kernel_rfl
 i37:=by kernel_rfl
 i46:=by kernel_rfl
 i51:=by kernel_rfl
 i70:=by kernel_rfl
 i72:=by kernel_rfl
 i75:=by kernel_rfl
 i76:=by kernel_rfl
 i80:=by kernel_rfl
 i105:=by kernel_rfl
 i127:=by kernel_rfl
 i138:=by kernel_rfl
 i139:=by kernel_rfl
 i146:=by kernel_rfl
 i164:=by kernel_rfl
 m1:=by kernel_rfl
 s1_3:=λw h=>Go.Proofs.cell_of_shapedOpen_int (zero:=#[.int .i64 0]) (t:=3) h (bj (by kernel_rfl)) (by kernel_rfl) rfl (by kernel_rfl) (by kernel_rfl) Tryz.underlying3
 m3:=by kernel_rfl
 m4:=by kernel_rfl }
theorem Tryz.qU:Builder.Extra Tryz.prog Tryz.rI:={
 sizeBuilder:=by kernel_rfl
 liesBuilder:=by kernel_rfl
 t5:=Tryz.underlying5
 a5:=Tryz.isAgg5
 z5:=Tryz.sizeOf5
 v5:=Tryz.zeroValue5
 infoByte:=by kernel_rfl
 cellsByte:=by kernel_rfl
 sizeByte:=by kernel_rfl
 neB5:=by decide }
open Go.RowKit Go.Lib in
theorem Tryz.strings_ReplaceAll_shaped(s old new:ByteArray)(w:World)(h:w.ShapedOpen Tryz.prog)(hs:s.size<4294967281)(h1:1<=old.size)(hlen:s.size+Lib.countB s old*new.size<=140737488355328) :
 Calls Tryz.prog 144 #[.string s,.string old,.string new] w λe w'=>
  e=.returned (.string ⟨(Lib.replaceAll s.data.toList old.data.toList new.data.toList).toArray⟩)/\Below w.heap.size w w':=Any.strings_ReplaceAll_shaped Tryz.Jt Tryz.qU s old new w h hs h1 hlen
def Tryz.An:Go.Shelf.Ren:=⟨fun | 146=>107 | 221=>156 | 268=>188 | 138=>189 | 143=>190 | 195=>220 | 197=>208 | 218=>221 | 219=>151 | 260=>235 | 217=>180 | 225=>181 | 224=>182 | 267=>183 | 266=>213 | 314=>214 | n=>n,fun | 9=>9 | 31=>97 | 3=>3 | 4=>4 | 0=>0 | 105=>243 | 21=>21 | 5=>5 | 46=>176 | 119=>283 | 139=>286 | 138=>285 | 146=>204 | 51=>203 | n=>n,fun | 1=>3 | 3=>7 | 4=>8 | n=>n⟩
theorem Tryz.Ju:Go.Proofs.LaysM.n146 Tryz.prog Tryz.An:={
 mixed:=by kernel_rfl
 f138:=Tryz.func189.trans (congrArg some (by kernel_rfl))
 f143:=Tryz.func190.trans (congrArg some (by kernel_rfl))
 f146:=Tryz.func107.trans (congrArg some (by kernel_rfl))
 f195:=Tryz.func220.trans (congrArg some (by kernel_rfl))
 f197:=Tryz.func208.trans (congrArg some (by kernel_rfl))
 f217:=Tryz.func180.trans (congrArg some (by kernel_rfl))
 f218:=Tryz.func221.trans (congrArg some (by kernel_rfl))
 f219:=Tryz.func151.trans (congrArg some (by kernel_rfl))
 f221:=Tryz.func156.trans (congrArg some (by kernel_rfl))
 f224:=Tryz.func182.trans (congrArg some (by kernel_rfl))
 f225:=Tryz.func181.trans (congrArg some (by kernel_rfl))
 f260:=Tryz.func235.trans (congrArg some (by kernel_rfl))
 f266:=Tryz.func213.trans (congrArg some (by kernel_rfl))
 f267:=Tryz.func183.trans (congrArg some (by kernel_rfl))
 f268:=Tryz.func188.trans (congrArg some (by kernel_rfl))
 f314:=Tryz.func214.trans (congrArg some (by kernel_rfl))
 t0:=Tryz.underlying0
 a0:=Tryz.isAgg0
 z0:=Tryz.sizeOf0
 v0:=Tryz.zeroValue0
 t3:=Tryz.underlying3
 a3:=Tryz.isAgg3
 z3:=Tryz.sizeOf3
 v3:=Tryz.zeroValue3
 t4:=Tryz.underlying4
 a4:=Tryz.isAgg4
 z4:=Tryz.sizeOf4
 v4:=Tryz.zeroValue4
 t5:=Tryz.underlying5
 a5:=Tryz.isAgg5
 z5:=Tryz.sizeOf5
 v5:=Tryz.zeroValue5
 t9:=Tryz.underlying9
 a9:=Tryz.isAgg9
 z9:=Tryz.sizeOf9
 v9:=Tryz.zeroValue9
 t21:=Tryz.underlying21
 a21:=Tryz.isAgg21
 z21:=Tryz.sizeOf21
 v21:=Tryz.zeroValue21
 t31:=Tryz.underlying97
 a31:=Tryz.isAgg97
 z31:=Tryz.sizeOf97
 v31:=Tryz.zeroValue97
 t46:=Tryz.underlying176
 a46:=Tryz.isAgg176
 z46:=Tryz.sizeOf176
 v46:=Tryz.zeroValue176
 t51:=Tryz.underlying203
 a51:=Tryz.isAgg203
 z51:=Tryz.sizeOf203
 v51:=Tryz.zeroValue203
 t105:=Tryz.underlying243
 a105:=Tryz.isAgg243
 z105:=Tryz.sizeOf243
 v105:=Tryz.zeroValue243
 t119:=Tryz.underlying283
 a119:=Tryz.isAgg283
 z119:=Tryz.sizeOf283
 t138:=Tryz.underlying285
 a138:=Tryz.isAgg285
 z138:=Tryz.sizeOf285
 v138:=Tryz.zeroValue285
 t139:=Tryz.underlying286
 a139:=Tryz.isAgg286
 z139:=Tryz.sizeOf286
 v139:=Tryz.zeroValue286
 t146:=Tryz.underlying204
 a146:=Tryz.isAgg204
 z146:=Tryz.sizeOf204
 v146:=Tryz.zeroValue204
 g1:=by kernel_rfl
 g3:=by kernel_rfl
 g4:=by kernel_rfl
 i0:=by kernel_rfl
 i3:=by kernel_rfl
 i4:=by kernel_rfl
 i5:=by kernel_rfl
 i9:=by kernel_rfl
 i21:=by kernel_rfl
 i31:=by kernel_rfl
 i46:=by kernel_rfl
 i51:=by kernel_rfl
 i105:=by kernel_rfl
 i138:=by kernel_rfl
 i139:=by kernel_rfl
 i146:=by kernel_rfl
 m1:=by kernel_rfl
 s1_3:=λw h=>Go.Proofs.cell_of_shapedOpen_int (zero:=#[.int .i64 0]) (t:=3) h (bj (by kernel_rfl)) (by kernel_rfl) rfl (by kernel_rfl) (by kernel_rfl) Tryz.underlying3
 m3:=by kernel_rfl
 m4:=by kernel_rfl }
open Go.RowKit Go.Lib in
theorem Tryz.strings_Split_shaped(s sep:ByteArray)(w:World)(h:w.ShapedOpen Tryz.prog)(hs:s.size<4294967281)(h1:1<=sep.size) :
 Calls Tryz.prog 107 #[.string s,.string sep] w λe w'=>
  e=.returned (.slice (some ⟨w.heap.size,0,none⟩) (Lib.countB s sep+1) (Lib.countB s sep+1))/\w'=w.alloc (.cells ((Lib.splitB sep 0 (Lib.countB s sep) s).map Value.string).toArray 9):=Any.strings_Split_shaped Tryz.Ju s sep w h hs h1
def Tryz.tN:Go.Shelf.Ren:=⟨fun | 105=>122 | 212=>135 | 99=>61 | 165=>98 | 166=>99 | 170=>162 | 169=>100 | 263=>170 | 264=>171 | 206=>104 | 240=>146 | 241=>147 | 276=>178 | 277=>179 | n=>n,fun | 9=>9 | 3=>3 | 4=>4 | 20=>20 | 0=>0 | 46=>176 | 109=>177 | 5=>5 | 72=>148 | 76=>152 | 51=>203 | 146=>204 | 53=>206 | 148=>207 | 70=>145 | 37=>146 | 75=>151 | 127=>185 | 164=>213 | 80=>84 | n=>n,fun | n=>n⟩
theorem Tryz.L_:Go.Proofs.Lays.n105 Tryz.prog Tryz.tN:={
 mixed:=by kernel_rfl
 f99:=Tryz.func61.trans (congrArg some (by kernel_rfl))
 f105:=Tryz.func122.trans (congrArg some (by kernel_rfl))
 f165:=Tryz.func98.trans (congrArg some (by kernel_rfl))
 f166:=Tryz.func99.trans (congrArg some (by kernel_rfl))
 f169:=Tryz.func100.trans (congrArg some (by kernel_rfl))
 f170:=Tryz.func162.trans (congrArg some (by kernel_rfl))
 f206:=Tryz.func104.trans (congrArg some (by kernel_rfl))
 f212:=Tryz.func135.trans (congrArg some (by kernel_rfl))
 f240:=Tryz.func146.trans (congrArg some (by kernel_rfl))
 f241:=Tryz.func147.trans (congrArg some (by kernel_rfl))
 f263:=Tryz.func170.trans (congrArg some (by kernel_rfl))
 f264:=Tryz.func171.trans (congrArg some (by kernel_rfl))
 f276:=Tryz.func178.trans (congrArg some (by kernel_rfl))
 f277:=Tryz.func179.trans (congrArg some (by kernel_rfl))
 t0:=Tryz.underlying0
 a0:=Tryz.isAgg0
 z0:=Tryz.sizeOf0
 v0:=Tryz.zeroValue0
 t3:=Tryz.underlying3
 a3:=Tryz.isAgg3
 z3:=Tryz.sizeOf3
 v3:=Tryz.zeroValue3
 t4:=Tryz.underlying4
 a4:=Tryz.isAgg4
 z4:=Tryz.sizeOf4
 v4:=Tryz.zeroValue4
 t5:=Tryz.underlying5
 a5:=Tryz.isAgg5
 z5:=Tryz.sizeOf5
 v5:=Tryz.zeroValue5
 t9:=Tryz.underlying9
 a9:=Tryz.isAgg9
 z9:=Tryz.sizeOf9
 v9:=Tryz.zeroValue9
 t20:=Tryz.underlying20
 a20:=Tryz.isAgg20
 z20:=Tryz.sizeOf20
 v20:=Tryz.zeroValue20
 t37:=Tryz.underlying146
 a37:=Tryz.isAgg146
 z37:=Tryz.sizeOf146
 v37:=Tryz.zeroValue146
 t46:=Tryz.underlying176
 a46:=Tryz.isAgg176
 z46:=Tryz.sizeOf176
 v46:=Tryz.zeroValue176
 t51:=Tryz.underlying203
 a51:=Tryz.isAgg203
 z51:=Tryz.sizeOf203
 v51:=Tryz.zeroValue203
 t53:=Tryz.underlying206
 a53:=Tryz.isAgg206
 z53:=Tryz.sizeOf206
 v53:=Tryz.zeroValue206
 t70:=Tryz.underlying145
 a70:=Tryz.isAgg145
 z70:=Tryz.sizeOf145
 v70:=Tryz.zeroValue145
 t72:=Tryz.underlying148
 a72:=Tryz.isAgg148
 z72:=Tryz.sizeOf148
 v72:=Tryz.zeroValue148
 t75:=Tryz.underlying151
 a75:=Tryz.isAgg151
 z75:=Tryz.sizeOf151
 v75:=Tryz.zeroValue151
 t76:=Tryz.underlying152
 a76:=Tryz.isAgg152
 z76:=Tryz.sizeOf152
 v76:=Tryz.zeroValue152
 t109:=Tryz.underlying177
 a109:=Tryz.isAgg177
 z109:=Tryz.sizeOf177
 v109:=Tryz.zeroValue177
 t127:=Tryz.underlying185
 a127:=Tryz.isAgg185
 z127:=Tryz.sizeOf185
 v127:=Tryz.zeroValue185
 t146:=Tryz.underlying204
 a146:=Tryz.isAgg204
 z146:=Tryz.sizeOf204
 v146:=Tryz.zeroValue204
 t148:=Tryz.underlying207
 a148:=Tryz.isAgg207
 z148:=Tryz.sizeOf207
 v148:=Tryz.zeroValue207
 t164:=Tryz.underlying213
 a164:=Tryz.isAgg213
 z164:=Tryz.sizeOf213
 v164:=Tryz.zeroValue213 }
theorem Tryz.su:Builder.Extra Tryz.prog Tryz.tN:={
 sizeBuilder:=by kernel_rfl
 liesBuilder:=by kernel_rfl
 t5:=Tryz.underlying5
 a5:=Tryz.isAgg5
 z5:=Tryz.sizeOf5
 v5:=Tryz.zeroValue5
 infoByte:=by kernel_rfl
 cellsByte:=by kernel_rfl
 sizeByte:=by kernel_rfl
 neB5:=by decide }
open Go.RowKit Go.Lib in
theorem Tryz.strings_Repeat(s:ByteArray)(c:Nat)(w:World)(hc:c<=9223372036854775807)(hlen:s.size*c<=140737488355328) :
 Calls Tryz.prog 122 #[.string s,.int .i64 c] w λe w'=>e=.returned (.string ⟨(Lib.repeatL s.data.toList c).toArray⟩)/\Below w.heap.size w w':=Any.strings_Repeat Tryz.L_ Tryz.su s c w hc hlen
def Tryz.tM:Go.Shelf.Ren:=⟨fun | 156=>56 | 165=>98 | 166=>99 | 169=>100 | 240=>146 | 241=>147 | 276=>178 | 277=>179 | n=>n,fun | 31=>97 | 9=>9 | 3=>3 | 4=>4 | 0=>0 | 20=>20 | 72=>148 | 76=>152 | 70=>145 | 37=>146 | 75=>151 | 127=>185 | 164=>213 | 5=>5 | 80=>84 | n=>n,fun | n=>n⟩
theorem Tryz.Fk:Go.Proofs.Lays.n156 Tryz.prog Tryz.tM:={
 mixed:=by kernel_rfl
 f156:=Tryz.func56.trans (congrArg some (by kernel_rfl))
 f165:=Tryz.func98.trans (congrArg some (by kernel_rfl))
 f166:=Tryz.func99.trans (congrArg some (by kernel_rfl))
 f169:=Tryz.func100.trans (congrArg some (by kernel_rfl))
 f240:=Tryz.func146.trans (congrArg some (by kernel_rfl))
 f241:=Tryz.func147.trans (congrArg some (by kernel_rfl))
 f276:=Tryz.func178.trans (congrArg some (by kernel_rfl))
 f277:=Tryz.func179.trans (congrArg some (by kernel_rfl))
 t0:=Tryz.underlying0
 a0:=Tryz.isAgg0
 z0:=Tryz.sizeOf0
 v0:=Tryz.zeroValue0
 t3:=Tryz.underlying3
 a3:=Tryz.isAgg3
 z3:=Tryz.sizeOf3
 v3:=Tryz.zeroValue3
 t4:=Tryz.underlying4
 a4:=Tryz.isAgg4
 z4:=Tryz.sizeOf4
 v4:=Tryz.zeroValue4
 t9:=Tryz.underlying9
 a9:=Tryz.isAgg9
 z9:=Tryz.sizeOf9
 v9:=Tryz.zeroValue9
 t20:=Tryz.underlying20
 a20:=Tryz.isAgg20
 z20:=Tryz.sizeOf20
 v20:=Tryz.zeroValue20
 t31:=Tryz.underlying97
 a31:=Tryz.isAgg97
 z31:=Tryz.sizeOf97
 v31:=Tryz.zeroValue97
 t37:=Tryz.underlying146
 a37:=Tryz.isAgg146
 z37:=Tryz.sizeOf146
 v37:=Tryz.zeroValue146
 t70:=Tryz.underlying145
 a70:=Tryz.isAgg145
 z70:=Tryz.sizeOf145
 v70:=Tryz.zeroValue145
 t72:=Tryz.underlying148
 a72:=Tryz.isAgg148
 z72:=Tryz.sizeOf148
 v72:=Tryz.zeroValue148
 t75:=Tryz.underlying151
 a75:=Tryz.isAgg151
 z75:=Tryz.sizeOf151
 v75:=Tryz.zeroValue151
 t76:=Tryz.underlying152
 a76:=Tryz.isAgg152
 z76:=Tryz.sizeOf152
 v76:=Tryz.zeroValue152
 t127:=Tryz.underlying185
 a127:=Tryz.isAgg185
 z127:=Tryz.sizeOf185
 v127:=Tryz.zeroValue185
 t164:=Tryz.underlying213
 a164:=Tryz.isAgg213
 z164:=Tryz.sizeOf213
 v164:=Tryz.zeroValue213 }
theorem Tryz.mY:Builder.Extra Tryz.prog Tryz.tM:={
 sizeBuilder:=by kernel_rfl
 liesBuilder:=by kernel_rfl
 t5:=Tryz.underlying5
 a5:=Tryz.isAgg5
 z5:=Tryz.sizeOf5
 v5:=Tryz.zeroValue5
 infoByte:=by kernel_rfl
 cellsByte:=by kernel_rfl
 sizeByte:=by kernel_rfl
 neB5:=by decide }
open Go.RowKit in
theorem Tryz.strings_Join(bk o c:Nat)(xs:List ByteArray)(sep:ByteArray)(w:World)(Pp:∀(j:Nat) x,xs[j]?=some x->w.cell? ⟨bk,o+j,none⟩=some (.string x))(Kd:bk<w.heap.size)(hN:xs.length<=140737488355328)(kM:xs.length<=c)(hlen:(Lib.join (xs.map (·.data.toList)) sep.data.toList).length<=140737488355328) :
 Calls Tryz.prog 56 #[.slice (some ⟨bk,o,none⟩) xs.length c,.string sep] w λe w'=>e=.returned (.string ⟨(Lib.join (xs.map (·.data.toList)) sep.data.toList).toArray⟩)/\Below w.heap.size w w':=Any.strings_Join Tryz.Fk Tryz.mY bk o c xs sep w Pp Kd hN kM hlen
open Go.RowKit in
theorem Tryz.strings_Join_none(a:Option Addr)(c:Nat)(sep:ByteArray)(w:World) :
 Calls Tryz.prog 56 #[.slice a 0 c,.string sep] w λe w'=>e=.returned (.string ⟨#[]⟩)/\w'=w:=Any.strings_Join_none Tryz.Fk Tryz.mY a c sep w
def Tryz.Ap:Go.Shelf.Ren:=⟨fun | 172=>157 | 244=>191 | 245=>192 | 247=>222 | 279=>223 | 280=>224 | 281=>225 | 282=>226 | 287=>245 | 316=>246 | 171=>97 | 205=>247 | 321=>254 | 322=>255 | 243=>145 | 246=>177 | 283=>209 | 284=>210 | 285=>211 | 286=>212 | 129=>206 | 317=>236 | 318=>237 | 319=>238 | 320=>239 | 337=>249 | 338=>250 | n=>n,fun | 9=>9 | 3=>3 | 75=>151 | 76=>152 | 4=>4 | 5=>5 | 167=>252 | 37=>146 | 0=>0 | 85=>253 | 2=>2 | 168=>255 | 53=>206 | 175=>275 | 46=>176 | 210=>278 | 127=>185 | 145=>292 | 143=>290 | 21=>21 | 171=>245 | 173=>247 | 212=>265 | 51=>203 | 20=>20 | 213=>266 | 232=>293 | 233=>294 | 80=>84 | n=>n,fun | 15=>5 | 16=>6 | 17=>4 | 18=>9 | 19=>10 | n=>n⟩
theorem Tryz.Jw:Go.Proofs.LaysC.n172 Tryz.prog Tryz.Ap:={
 mixed:=by kernel_rfl
 f129:=Tryz.func206.trans (congrArg some (by kernel_rfl))
 f171:=Tryz.func97.trans (congrArg some (by kernel_rfl))
 f172:=Tryz.func157.trans (congrArg some (by kernel_rfl))
 f205:=Tryz.func247.trans (congrArg some (by kernel_rfl))
 f243:=Tryz.func145.trans (congrArg some (by kernel_rfl))
 f244:=Tryz.func191.trans (congrArg some (by kernel_rfl))
 f245:=Tryz.func192.trans (congrArg some (by kernel_rfl))
 f246:=Tryz.func177.trans (congrArg some (by kernel_rfl))
 f247:=Tryz.func222.trans (congrArg some (by kernel_rfl))
 f279:=Tryz.func223.trans (congrArg some (by kernel_rfl))
 f280:=Tryz.func224.trans (congrArg some (by kernel_rfl))
 f281:=Tryz.func225.trans (congrArg some (by kernel_rfl))
 f282:=Tryz.func226.trans (congrArg some (by kernel_rfl))
 f283:=Tryz.func209.trans (congrArg some (by kernel_rfl))
 f284:=Tryz.func210.trans (congrArg some (by kernel_rfl))
 f285:=Tryz.func211.trans (congrArg some (by kernel_rfl))
 f286:=Tryz.func212.trans (congrArg some (by kernel_rfl))
 f287:=Tryz.func245.trans (congrArg some (by kernel_rfl))
 f316:=Tryz.func246.trans (congrArg some (by kernel_rfl))
 f317:=Tryz.func236.trans (congrArg some (by kernel_rfl))
 f318:=Tryz.func237.trans (congrArg some (by kernel_rfl))
 f319:=Tryz.func238.trans (congrArg some (by kernel_rfl))
 f320:=Tryz.func239.trans (congrArg some (by kernel_rfl))
 f321:=Tryz.func254.trans (congrArg some (by kernel_rfl))
 f322:=Tryz.func255.trans (congrArg some (by kernel_rfl))
 f337:=Tryz.func249.trans (congrArg some (by kernel_rfl))
 f338:=Tryz.func250.trans (congrArg some (by kernel_rfl))
 t0:=Tryz.underlying0
 a0:=Tryz.isAgg0
 z0:=Tryz.sizeOf0
 v0:=Tryz.zeroValue0
 t2:=Tryz.underlying2
 a2:=Tryz.isAgg2
 z2:=Tryz.sizeOf2
 v2:=Tryz.zeroValue2
 t3:=Tryz.underlying3
 a3:=Tryz.isAgg3
 z3:=Tryz.sizeOf3
 v3:=Tryz.zeroValue3
 t4:=Tryz.underlying4
 a4:=Tryz.isAgg4
 z4:=Tryz.sizeOf4
 v4:=Tryz.zeroValue4
 t5:=Tryz.underlying5
 a5:=Tryz.isAgg5
 z5:=Tryz.sizeOf5
 v5:=Tryz.zeroValue5
 t9:=Tryz.underlying9
 a9:=Tryz.isAgg9
 z9:=Tryz.sizeOf9
 v9:=Tryz.zeroValue9
 t20:=Tryz.underlying20
 a20:=Tryz.isAgg20
 z20:=Tryz.sizeOf20
 v20:=Tryz.zeroValue20
 t21:=Tryz.underlying21
 a21:=Tryz.isAgg21
 z21:=Tryz.sizeOf21
 v21:=Tryz.zeroValue21
 t37:=Tryz.underlying146
 a37:=Tryz.isAgg146
 z37:=Tryz.sizeOf146
 v37:=Tryz.zeroValue146
 t46:=Tryz.underlying176
 a46:=Tryz.isAgg176
 z46:=Tryz.sizeOf176
 v46:=Tryz.zeroValue176
 t51:=Tryz.underlying203
 a51:=Tryz.isAgg203
 z51:=Tryz.sizeOf203
 v51:=Tryz.zeroValue203
 t53:=Tryz.underlying206
 a53:=Tryz.isAgg206
 z53:=Tryz.sizeOf206
 v53:=Tryz.zeroValue206
 t75:=Tryz.underlying151
 a75:=Tryz.isAgg151
 z75:=Tryz.sizeOf151
 v75:=Tryz.zeroValue151
 t76:=Tryz.underlying152
 a76:=Tryz.isAgg152
 z76:=Tryz.sizeOf152
 v76:=Tryz.zeroValue152
 t85:=Tryz.underlying253
 a85:=Tryz.isAgg253
 z85:=Tryz.sizeOf253
 v85:=Tryz.zeroValue253
 t127:=Tryz.underlying185
 a127:=Tryz.isAgg185
 z127:=Tryz.sizeOf185
 v127:=Tryz.zeroValue185
 t143:=Tryz.underlying290
 a143:=Tryz.isAgg290
 z143:=Tryz.sizeOf290
 v143:=Tryz.zeroValue290
 t145:=Tryz.underlying292
 a145:=Tryz.isAgg292
 z145:=Tryz.sizeOf292
 v145:=Tryz.zeroValue292
 t167:=Tryz.underlying252
 a167:=Tryz.isAgg252
 z167:=Tryz.sizeOf252
 v167:=Tryz.zeroValue252
 t168:=Tryz.underlying255
 a168:=Tryz.isAgg255
 z168:=Tryz.sizeOf255
 v168:=Tryz.zeroValue255
 t171:=Tryz.underlying245
 a171:=Tryz.isAgg245
 z171:=Tryz.sizeOf245
 v171:=Tryz.zeroValue245
 t173:=Tryz.underlying247
 a173:=Tryz.isAgg247
 z173:=Tryz.sizeOf247
 v173:=Tryz.zeroValue247
 t175:=Tryz.underlying275
 a175:=Tryz.isAgg275
 z175:=Tryz.sizeOf275
 v175:=Tryz.zeroValue275
 t210:=Tryz.underlying278
 a210:=Tryz.isAgg278
 z210:=Tryz.sizeOf278
 v210:=Tryz.zeroValue278
 t212:=Tryz.underlying265
 a212:=Tryz.isAgg265
 z212:=Tryz.sizeOf265
 v212:=Tryz.zeroValue265
 t213:=Tryz.underlying266
 a213:=Tryz.isAgg266
 z213:=Tryz.sizeOf266
 t232:=Tryz.underlying293
 a232:=Tryz.isAgg293
 z232:=Tryz.sizeOf293
 v232:=Tryz.zeroValue293
 t233:=Tryz.underlying294
 a233:=Tryz.isAgg294
 z233:=Tryz.sizeOf294
 v233:=Tryz.zeroValue294
 g15:=by kernel_rfl
 g16:=by kernel_rfl
 g17:=by kernel_rfl
 g18:=by kernel_rfl
 g19:=by kernel_rfl
 t80:=Tryz.underlying84
 a80:=Tryz.isAgg84
 z80:=Tryz.sizeOf84
 v80:=Tryz.zeroValue84
 i0:=by kernel_rfl
 i2:=by kernel_rfl
 i3:=by kernel_rfl
 i4:=by kernel_rfl
 i5:=by kernel_rfl
 i9:=by kernel_rfl
 i20:=by kernel_rfl
 i21:=by kernel_rfl
 i37:=by kernel_rfl
 i46:=by kernel_rfl
 i51:=by kernel_rfl
 i53:=by kernel_rfl
 i75:=by kernel_rfl
 i76:=by kernel_rfl
 i80:=by kernel_rfl
 i85:=by kernel_rfl
 i127:=by kernel_rfl
 i143:=by kernel_rfl
 i145:=by kernel_rfl
 i167:=by kernel_rfl
 i168:=by kernel_rfl
 i171:=by kernel_rfl
 i173:=by kernel_rfl
 i175:=by kernel_rfl
 i210:=by kernel_rfl
 i212:=by kernel_rfl
 i232:=by kernel_rfl
 i233:=by kernel_rfl
 m15:=by kernel_rfl
 m16:=by kernel_rfl
 m17:=by kernel_rfl
 m18:=by kernel_rfl
 m19:=by kernel_rfl
 c0:=by kernel_rfl
 c2:=by kernel_rfl
 c3:=by kernel_rfl
 c4:=by kernel_rfl
 c5:=by kernel_rfl
 c9:=by kernel_rfl
 c20:=by kernel_rfl
 c21:=by kernel_rfl
 c37:=by kernel_rfl
 c46:=by kernel_rfl
 c51:=by kernel_rfl
 c53:=by kernel_rfl
 c75:=by kernel_rfl
 c76:=by kernel_rfl
 c80:=by kernel_rfl
 c85:=by kernel_rfl
 c127:=by kernel_rfl
 c143:=by kernel_rfl
 c145:=by kernel_rfl
 c167:=by kernel_rfl
 c168:=by kernel_rfl
 c171:=by kernel_rfl
 c173:=by kernel_rfl
 c175:=by kernel_rfl
 c210:=by kernel_rfl
 c212:=by kernel_rfl
 c213:=by kernel_rfl
 c232:=by kernel_rfl
 c233:=by kernel_rfl }
end Go.Proofs
namespace Go.Proofs.YtnoldakbllfmnaaGreatDoor.Ev
open Go Go.Proofs Go.Proofs.Ev
def qR.F(n:Nat)(c:Int):Option (ByteArray):=bif decide (-9223372036854775808<=c)&&decide (c<=9223372036854775807)then Option.some (⟨(Lib.itoa c).toArray⟩)else none
theorem qR.cW(n:Nat)(c:Int){p:ByteArray}(h:qR.F n c=some p):dc Tryz.prog 97 [.v (.int .i64 c)] (.v (.string p)):=by
 unfold qR.F at h;cases hc:(decide (-9223372036854775808<=c)&&decide (c<=9223372036854775807))with
 | false=>rw[hc]at h;cases h
 | true=>
  rw[hc]at h;cases h;refine gR (fn:=Tryz.f97) Tryz.func97 (by kernel_rfl) (by kernel_rfl) λw F vals hQ hF hl hr=>?_;obtain⟨u0,rfl,h0⟩:=M_ hl hr;obtain rfl:=ll h0;rw[ae]at hc;refine(Tryz.strconv_Itoa c (bj hc.1) (bj hc.2) w (hQ.2.1 _ (bZ ..))).mono ?_;rintro e w' ⟨rfl,k,os,rfl⟩;exact⟨F,λ_=>none,Came.lr hF (EC w k os),.v _ rfl⟩
def qR.via{R:Type}(n:Nat)(ys:List AV):(AV->Option R)->Option R:=match ys with | [.v (.int .i64 c)]=>λK=>(qR.F n c).bind λp=>K (.v (.string p)) | _=>λ_=>none
theorem qR.cO{R:Type}(n:Nat)(ys:List AV):cT (R:=R) Tryz.prog 97 ys (qR.via n ys):=by
 unfold qR.via;split
 ·exact cT.of (λp hp=>(qR.cW n _ hp).cW rfl)
 ·exact cT.none
abbrev hH.T:=ByteArray
def hH.p(p:hH.T):AV:=vs p
def hH.q(x:AV):Option hH.T:=match x with | .v (.string p0)=>some p0 | _=>none
theorem hH.qi:∀x p,hH.q x=some p->x=hH.p p:=by
 intro x p h;unfold hH.q at h;split at h
 ·cases h;rfl
 ·cases h
def hH.C{R:Type}(n:Nat)(f:FuncId)(xs:List AV):(AV->Option R)->Option R:=
 bif Nat.beq f 97 then qR.via n xs else λ_=>none
theorem hH.c8{R:Type}(n:Nat):dt (R:=R) Tryz.prog (hH.C n):=λ_ xs=>cR (qR.cO n xs) (cT.none)
def hH.cut(r:Nat):Option dP:=match r with  | _=>none
def hH.e(n:Nat)(a0 a1 a2:Int):Option ByteArray:=
 bif decide ((0:Int)<=a0)&&decide (a0<((AF.length:Nat):Int))then(cN ((AF.getD ((a0).toNat) .undef).cells) λh1 r2=>
 df h1 λs3=>
 js (decide (s3.size+1<=9223372036854775807)) ((qR.F n a1).bind λp4=>
 js (decide ((s3++(⟨#[40]⟩:ByteArray)).size+p4.size<=9223372036854775807)) (let y5:ByteArray:=(s3++(⟨#[40]⟩:ByteArray))++p4
 bif a0 != 0 then((qR.F n a2).bind λp6=>
 js (decide (1+p6.size<=9223372036854775807)) (js (decide (y5.size+((⟨#[44]⟩:ByteArray)++p6).size<=9223372036854775807)) (let y7:ByteArray:=y5++((⟨#[44]⟩:ByteArray)++p6)
 js (decide (y7.size+1<=9223372036854775807)) (some (y7++(⟨#[41]⟩:ByteArray))))))else(js (decide (y5.size+1<=9223372036854775807)) (some (y5++(⟨#[41]⟩:ByteArray)))))))else none
def hH.E(n:Nat):gj.A->Option hH.T:=fun(a0,a1,a2)=>hH.e n a0 a1 a2
def hH.F(n:Nat)(a0 a1 a2:Int):Option ByteArray:=hH.e n a0 a1 a2
def hH.FA(n:Nat):gj.A->Option hH.T:=hH.E n
theorem hH.cW(n:Nat):∀a p,hH.FA n a=some p->dc Tryz.prog 95 (gj.i a) (hH.p p):=gp hH.cut (hH.E n) cfg mixed dB hH.qi (hH.c8 n) Tryz.func95
def hH.via{R:Type}(n:Nat):List AV->(AV->Option R)->Option R:=d_ (hH.FA n) gj.o hH.p
theorem hH.cO{R:Type}(n:Nat)(xs:List AV):cT (R:=R) Tryz.prog 95 xs (hH.via n xs):=c7 gj.oi (λa=>by kernel_rfl) (hH.cW n) xs
def FV.F(n:Nat)(s:ByteArray)(c:Int):Option (ByteArray):=bif decide (0<=c)&&decide ((s.size:Int)*c<=140737488355328)&&decide (c<=9223372036854775807)then Option.some (⟨(Lib.repeatL s.data.toList c.toNat).toArray⟩)else none
theorem FV.cW(n:Nat)(s:ByteArray)(c:Int){p:ByteArray}(h:FV.F n s c=some p):dc Tryz.prog 122 [vs s,vi c] (vs p):=by
 unfold FV.F at h;cases hc:(decide (0<=c)&&decide ((s.size:Int)*c<=140737488355328)&&decide (c<=9223372036854775807))with
 | false=>rw[hc]at h;cases h
 | true=>
  rw[hc]at h;cases h;refine gR (fn:=Tryz.f122) Tryz.func122 (by kernel_rfl) (by kernel_rfl) λw F vals hQ hF hl hr=>?_;obtain⟨u,v,rfl,hu,hv⟩:=xU hl hr;obtain rfl:=ll hu;obtain rfl:=ll hv;rw[ae,ae]at hc;have h0:=bj hc.1.1;have h1:=bj hc.1.2;have h2:=bj hc.2;obtain⟨m,rfl⟩:=Int.eq_ofNat_of_zero_le h0;refine(Tryz.strings_Repeat s m w (by omega) (by have:=Int.natCast_mul s.size m;omega)).mono ?_;rintro e w' ⟨rfl,hB⟩;exact⟨F,λ_=>none,Came.lr hF hB,.v _ rfl⟩
def FV.via{R:Type}(n:Nat)(ys:List AV):(AV->Option R)->Option R:=match ys with | [.v (.string s),.v (.int .i64 c)]=>λK=>(FV.F n s c).bind λp=>K (vs p) | _=>λ_=>none
theorem FV.cO{R:Type}(n:Nat)(ys:List AV):cT (R:=R) Tryz.prog 122 ys (FV.via n ys):=by
 unfold FV.via;split
 ·exact cT.of (λp hp=>(FV.cW n _ _ hp).cW rfl)
 ·exact cT.none
abbrev lS.A:=Int × Int
def lS.i:lS.A->List AV:=fun(a0,a1)=>[AV.agg [vi a0,vi a1]]
def lS.o(xs:List AV):Option lS.A:=match xs with | [.agg [.v (.int .i64 a0),.v (.int .i64 a1)]]=>some (a0,a1) | _=>none
theorem lS.oi:∀xs a,lS.o xs=some a->xs=lS.i a:=by
 intro xs a h;unfold lS.o at h;split at h
 ·cases h;rfl
 ·cases h
def lS.C{R:Type}(n:Nat)(f:FuncId)(xs:List AV):(AV->Option R)->Option R:=
 bif Nat.beq f 131 then om.via n xs else bif Nat.beq f 133 then nE.via n xs else λ_=>none
theorem lS.c8{R:Type}(n:Nat):dt (R:=R) Tryz.prog (lS.C n):=λ_ xs=>cR (om.cO n xs) (cR (nE.cO n xs) (cT.none))
def lS.cut(r:Nat):Option dP:=match r with  | _=>none
def lS.e(n:Nat)(a0 a1:Int):Option Int:=
 (om.F n a0 (-999999999999999) 999999999999999).bind λp1=>
 bif !p1 then((nE.F n true 3).bind λp2=>
 some p2)else((om.F n a1 0 15).bind λp3=>
 (nE.F n (!p3) 3).bind λp4=>
 some p4)
def lS.E(n:Nat):lS.A->Option dU.T:=fun(a0,a1)=>lS.e n a0 a1
def lS.F(n:Nat)(a0 a1:Int):Option Int:=lS.e n a0 a1
def lS.FA(n:Nat):lS.A->Option dU.T:=lS.E n
theorem lS.cW(n:Nat):∀a p,lS.FA n a=some p->dc Tryz.prog 173 (lS.i a) (dU.p p):=gp lS.cut (lS.E n) cfg mixed dB dU.qi (lS.c8 n) Tryz.func173
def lS.via{R:Type}(n:Nat):List AV->(AV->Option R)->Option R:=d_ (lS.FA n) lS.o dU.p
theorem lS.cO{R:Type}(n:Nat)(xs:List AV):cT (R:=R) Tryz.prog 173 xs (lS.via n xs):=c7 lS.oi (λa=>by kernel_rfl) (lS.cW n) xs
abbrev jd.T:=ByteArray × Int
def jd.p(p:jd.T):AV:=.eC [vs p.1,vi p.2]
def jd.q(x:AV):Option jd.T:=match x with | .eC [.v (.string p0),.v (.int .i64 p1)]=>some (p0,p1) | _=>none
theorem jd.qi:∀x p,jd.q x=some p->x=jd.p p:=by
 intro x p h;unfold jd.q at h;split at h
 ·cases h;rfl
 ·cases h
inductive jd.Z where
 | z9 (z1:ByteArray) (z2 z3:Int)
def jd.C{R:Type}(n:Nat)(f:FuncId)(xs:List AV):(AV->Option R)->Option R:=
 bif Nat.beq f 97 then qR.via n xs else bif Nat.beq f 122 then FV.via n xs else bif Nat.beq f 173 then lS.via n xs else λ_=>none
theorem jd.c8{R:Type}(n:Nat):dt (R:=R) Tryz.prog (jd.C n):=λ_ xs=>cR (qR.cO n xs) (cR (FV.cO n xs) (cR (lS.cO n xs) (cT.none)))
def jd.cut(r:Nat):Option dP:=match r with | 9=>some ⟨[1,5],[]⟩ | _=>none
noncomputable def jd.t (z:jd.Z):List Item:=(dL (match z with | .z9 _ _ _=>9) 1000 [.code (Tryz.f142.body.getD .skip)]).getD []
def jd.s:jd.Z->St
 | .z9 z1 z2 z3=>⟨fx 57 0 [(1,.ptr 0 0),(5,vs z1)],Mem.ofList [.box 183 [vi z2,vi z3]],1⟩
def jd.r9(n:Nat)(c:jd.Z->Option (ByteArray × Int))(z1:ByteArray)(z2 z3:Int):Option (ByteArray × Int):=
 bif decide (z2<0)then(js (decide (1+z1.size<=9223372036854775807)) (some ((⟨#[45]⟩:ByteArray)++z1,0)))else(some (z1,0))
def jd.r(n:Nat)(c:jd.Z->Option (ByteArray × Int)):jd.Z->Option (ByteArray × Int)
 | .z9 z1 z2 z3=>jd.r9 n c z1 z2 z3
def jd.e(n:Nat)(c:jd.Z->Option (ByteArray × Int))(a0 a1:Int):Option (ByteArray × Int):=
 (lS.F n a0 a1).bind λp1=>
 bif p1 != 0 then(some ((⟨#[]⟩:ByteArray),p1))else(let y2:Int:=if IntKind.i64.wrap (0 - a0)>a0 then IntKind.i64.wrap (0 - a0)else a0
 (qR.F n y2).bind λp3=>
 let y4:Bool:=decide (((p3.size:Nat):Int)<=a1)
 bif y4 then(let y5:Int:=IntKind.i64.wrap ((IntKind.i64.wrap (a1+1)) - ((p3.size:Nat):Int))
 (FV.F n (⟨#[48]⟩:ByteArray) y5).bind λp6=>
 js (decide (p6.size+p3.size<=9223372036854775807)) (bif decide (a1>0)then(let y7:Int:=IntKind.i64.wrap ((((p6++p3).size:Nat):Int) - a1)
 bif decide ((0:Int)<=y7)&&decide ((y7:Int)<=(((p6++p3).size:Nat):Int))then(let y8:ByteArray:=(p6++p3).extract 0 (y7).toNat
 js (decide (y8.size+1<=9223372036854775807)) (let y9:Int:=IntKind.i64.wrap ((((p6++p3).size:Nat):Int) - a1)
 bif decide ((0:Int)<=y9)&&decide ((y9:Int)<=(((p6++p3).size:Nat):Int))then(let nh:ByteArray:=(p6++p3).extract (y9).toNat (p6++p3).size
 js (decide ((y8++(⟨#[46]⟩:ByteArray)).size+nh.size<=9223372036854775807)) (let pw:ByteArray:=(y8++(⟨#[46]⟩:ByteArray))++nh
 c (.z9 pw a0 a1)))else none))else none)else(c (.z9 (p6++p3) a0 a1))))else(bif decide (a1>0)then(let zC:Int:=IntKind.i64.wrap (((p3.size:Nat):Int) - a1)
 bif decide ((0:Int)<=zC)&&decide ((zC:Int)<=((p3.size:Nat):Int))then(js (decide ((p3.extract 0 (zC).toNat).size+1<=9223372036854775807)) (let HG:ByteArray:=(p3.extract 0 (zC).toNat)++(⟨#[46]⟩:ByteArray)
 let xS:Int:=IntKind.i64.wrap (((p3.size:Nat):Int) - a1)
 bif decide ((0:Int)<=xS)&&decide ((xS:Int)<=((p3.size:Nat):Int))then(let K5:ByteArray:=p3.extract (xS).toNat p3.size
 js (decide (HG.size+K5.size<=9223372036854775807)) (c (.z9 (HG++K5) a0 a1)))else none))else none)else(c (.z9 p3 a0 a1))))
def jd.E(n:Nat)(c:jd.Z->Option (ByteArray × Int)):lS.A->Option jd.T:=fun(a0,a1)=>jd.e n c a0 a1
def jd.l(n:Nat):Nat->jd.Z->Option (ByteArray × Int):=ez (jd.r n)
def jd.F(n:Nat)(a0 a1:Int):Option (ByteArray × Int):=jd.e n (jd.l n n) a0 a1
def jd.FA(n:Nat):lS.A->Option jd.T:=jd.E n (jd.l n n)
theorem jd.cW(n:Nat):∀a p,jd.FA n a=some p->dc Tryz.prog 142 (lS.i a) (jd.p p):=lN jd.cut jd.t jd.s (jd.E n) (jd.r n) cfg mixed dB jd.qi (jd.c8 n) Tryz.func142
def jd.via{R:Type}(n:Nat):List AV->(AV->Option R)->Option R:=d_ (jd.FA n) lS.o jd.p
theorem jd.cO{R:Type}(n:Nat)(xs:List AV):cT (R:=R) Tryz.prog 142 xs (jd.via n xs):=c7 lS.oi (λa=>by kernel_rfl) (jd.cW n) xs
abbrev mi.A:=Int
def mi.i:mi.A->List AV:=λa0=>[vu a0]
def mi.o(xs:List AV):Option mi.A:=match xs with | [.v (.int .u8 a0)]=>some a0 | _=>none
theorem mi.oi:∀xs a,mi.o xs=some a->xs=mi.i a:=by
 intro xs a h;unfold mi.o at h;split at h
 ·cases h;rfl
 ·cases h
def mi.C{R:Type}(n:Nat)(f:FuncId)(xs:List AV):(AV->Option R)->Option R:=
 λ_=>none
theorem mi.c8{R:Type}(n:Nat):dt (R:=R) Tryz.prog (mi.C n):=λ_ xs=>cT.none
def mi.cut(r:Nat):Option dP:=match r with  | _=>none
def mi.e(n:Nat)(a0:Int):Option Bool:=
 bif decide (a0<32)then(some true)else(some (decide (a0>126)))
def mi.E(n:Nat):mi.A->Option ee.T:=λa0=>mi.e n a0
def mi.F(n:Nat)(a0:Int):Option Bool:=mi.e n a0
def mi.FA(n:Nat):mi.A->Option ee.T:=mi.E n
theorem mi.cW(n:Nat):∀a p,mi.FA n a=some p->dc Tryz.prog 175 (mi.i a) (ee.p p):=gp mi.cut (mi.E n) cfg mixed dB ee.qi (mi.c8 n) Tryz.func175
def mi.via{R:Type}(n:Nat):List AV->(AV->Option R)->Option R:=d_ (mi.FA n) mi.o ee.p
theorem mi.cO{R:Type}(n:Nat)(xs:List AV):cT (R:=R) Tryz.prog 175 xs (mi.via n xs):=c7 mi.oi (λa=>by kernel_rfl) (mi.cW n) xs
abbrev jb.A:=List AV
def jb.i:jb.A->List AV:=λa0=>[.sl ⟨true,5,false⟩ 1 a0,.fn 175 []]
def jb.o(xs:List AV):Option jb.A:=match xs with | [.sl ⟨true,5,false⟩ 1 a0,.fn 175 []]=>some a0 | _=>none
theorem jb.oi:∀xs a,jb.o xs=some a->xs=jb.i a:=by
 intro xs a h;unfold jb.o at h;split at h
 ·cases h;rfl
 ·cases h
inductive jb.Z where
 | z2 (z1:List AV) (z2 z3:Int)
def jb.C{R:Type}(n:Nat)(f:FuncId)(xs:List AV):(AV->Option R)->Option R:=
 bif Nat.beq f 175 then mi.via n xs else λ_=>none
theorem jb.c8{R:Type}(n:Nat):dt (R:=R) Tryz.prog (jb.C n):=λ_ xs=>cR (mi.cO n xs) (cT.none)
def jb.cut(r:Nat):Option dP:=match r with | 2=>some ⟨[0,1,7,8],[]⟩ | _=>none
noncomputable def jb.t (z:jb.Z):List Item:=(dL (match z with | .z2 _ _ _=>2) 1000 [.code (Tryz.f207.body.getD .skip)]).getD []
def jb.s:jb.Z->St
 | .z2 z1 z2 z3=>⟨fx 19 0 [(0,.sl ⟨true,5,false⟩ 1 z1),(1,.fn 175 []),(7,vi z2),(8,vi z3)],Mem.ofList [],0⟩
def jb.r2(n:Nat)(c:jb.Z->Option Int)(z1:List AV)(z2 z3:Int):Option Int:=
 bif decide (z3<z2)then(bif decide ((0:Int)<=z3)&&decide (z3<((z1.length:Nat):Int))then(cN ((z1.getD ((z3).toNat) .undef).cells) λh1 r2=>
 cQ .u8 h1 λx3=>
 (mi.F n x3).bind λp4=>
 bif p4 then(some z3)else(c (.z2 z1 z2 (IntKind.i64.wrap (z3+1)))))else none)else(some (-1))
def jb.r(n:Nat)(c:jb.Z->Option Int):jb.Z->Option Int
 | .z2 z1 z2 z3=>jb.r2 n c z1 z2 z3
def jb.e(n:Nat)(c:jb.Z->Option Int)(a0:List AV):Option Int:=
 c (.z2 a0 ((a0.length:Nat):Int) 0)
def jb.E(n:Nat)(c:jb.Z->Option Int):jb.A->Option dU.T:=λa0=>jb.e n c a0
def jb.l(n:Nat):Nat->jb.Z->Option Int:=ez (jb.r n)
def jb.F(n:Nat)(a0:List AV):Option Int:=jb.e n (jb.l n n) a0
def jb.FA(n:Nat):jb.A->Option dU.T:=jb.E n (jb.l n n)
theorem jb.cW(n:Nat):∀a p,jb.FA n a=some p->dc Tryz.prog 207 (jb.i a) (dU.p p):=lN jb.cut jb.t jb.s (jb.E n) (jb.r n) cfg mixed dB dU.qi (jb.c8 n) Tryz.func207
def jb.via{R:Type}(n:Nat):List AV->(AV->Option R)->Option R:=d_ (jb.FA n) jb.o dU.p
theorem jb.cO{R:Type}(n:Nat)(xs:List AV):cT (R:=R) Tryz.prog 207 xs (jb.via n xs):=c7 jb.oi (λa=>by kernel_rfl) (jb.cW n) xs
def uF.C{R:Type}(n:Nat)(f:FuncId)(xs:List AV):(AV->Option R)->Option R:=
 bif Nat.beq f 207 then jb.via n xs else λ_=>none
theorem uF.c8{R:Type}(n:Nat):dt (R:=R) Tryz.prog (uF.C n):=λ_ xs=>cR (jb.cO n xs) (cT.none)
def uF.cut(r:Nat):Option dP:=match r with  | _=>none
def uF.e(n:Nat)(a0:List AV):Option Bool:=
 (jb.F n a0).bind λp1=>
 some (decide (p1>=0))
def uF.E(n:Nat):jb.A->Option ee.T:=λa0=>uF.e n a0
def uF.F(n:Nat)(a0:List AV):Option Bool:=uF.e n a0
def uF.FA(n:Nat):jb.A->Option ee.T:=uF.E n
theorem uF.cW(n:Nat):∀a p,uF.FA n a=some p->dc Tryz.prog 174 (jb.i a) (ee.p p):=gp uF.cut (uF.E n) cfg mixed dB ee.qi (uF.c8 n) Tryz.func174
def uF.via{R:Type}(n:Nat):List AV->(AV->Option R)->Option R:=d_ (uF.FA n) jb.o ee.p
theorem uF.cO{R:Type}(n:Nat)(xs:List AV):cT (R:=R) Tryz.prog 174 xs (uF.via n xs):=c7 jb.oi (λa=>by kernel_rfl) (uF.cW n) xs
def ue.C{R:Type}(n:Nat)(f:FuncId)(xs:List AV):(AV->Option R)->Option R:=
 bif Nat.beq f 174 then uF.via n xs else λ_=>none
theorem ue.c8{R:Type}(n:Nat):dt (R:=R) Tryz.prog (ue.C n):=λ_ xs=>cR (uF.cO n xs) (cT.none)
def ue.cut(r:Nat):Option dP:=match r with  | _=>none
def ue.e(n:Nat)(a0:ByteArray):Option Bool:=
 let y1:List AV:=a0.toList.map λb=>vu b.toNat
 (uF.F n y1).bind λp2=>
 some (!p2)
def ue.E(n:Nat):er.A->Option ee.T:=λa0=>ue.e n a0
def ue.F(n:Nat)(a0:ByteArray):Option Bool:=ue.e n a0
def ue.FA(n:Nat):er.A->Option ee.T:=ue.E n
theorem ue.cW(n:Nat):∀a p,ue.FA n a=some p->dc Tryz.prog 143 (er.i a) (ee.p p):=gp ue.cut (ue.E n) cfg mixed dB ee.qi (ue.c8 n) Tryz.func143
def ue.via{R:Type}(n:Nat):List AV->(AV->Option R)->Option R:=d_ (ue.FA n) er.o ee.p
theorem ue.cO{R:Type}(n:Nat)(xs:List AV):cT (R:=R) Tryz.prog 143 xs (ue.via n xs):=c7 er.oi (λa=>by kernel_rfl) (ue.cW n) xs
def zu.F(n:Nat)(s:ByteArray)(t:ByteArray)(u:ByteArray):Option (ByteArray):=bif(decide (s.size<4294967281)&&decide (1<=t.size))&&decide (s.size+Lib.countB s t*u.size<=140737488355328)then Option.some (⟨(Lib.replaceAll s.data.toList t.data.toList u.data.toList).toArray⟩)else none
theorem zu.cW(n:Nat)(s:ByteArray)(t:ByteArray)(u:ByteArray){p:ByteArray}(h:zu.F n s t u=some p):dc Tryz.prog 144 [.v (.string s),.v (.string t),.v (.string u)] (.v (.string p)):=by
 unfold zu.F at h;cases hc:((decide (s.size<4294967281)&&decide (1<=t.size))&&decide (s.size+Lib.countB s t*u.size<=140737488355328))with
 | false=>rw[hc]at h;cases h
 | true=>
  rw[hc]at h;cases h;refine gR (fn:=Tryz.f144) Tryz.func144 (by kernel_rfl) (by kernel_rfl) λw F vals hQ hF hl hr=>?_;obtain⟨u0,u1,u2,rfl,h0,h1,h2⟩:=Q7 hl hr;obtain rfl:=ll h0;obtain rfl:=ll h1;obtain rfl:=ll h2;rw[ae,ae]at hc;refine(Tryz.strings_ReplaceAll_shaped s t u w (eE.opened _ hQ) (bj hc.1.1) (bj hc.1.2) (bj hc.2)).mono ?_;rintro e w' ⟨rfl,hB⟩;exact⟨F,λ_=>none,Came.lr hF hB,.v _ rfl⟩
def zu.via{R:Type}(n:Nat)(ys:List AV):(AV->Option R)->Option R:=match ys with | [.v (.string s),.v (.string t),.v (.string u)]=>λK=>(zu.F n s t u).bind λp=>K (.v (.string p)) | _=>λ_=>none
theorem zu.cO{R:Type}(n:Nat)(ys:List AV):cT (R:=R) Tryz.prog 144 ys (zu.via n ys):=by
 unfold zu.via;split
 ·exact cT.of (λp hp=>(zu.cW n _ _ _ hp).cW rfl)
 ·exact cT.none
inductive kJ.Z where
 | z8 (z1 z2:Int) (z3 z4:List AV)
def kJ.C{R:Type}(n:Nat)(f:FuncId)(xs:List AV):(AV->Option R)->Option R:=
 bif Nat.beq f 142 then jd.via n xs else bif Nat.beq f 143 then ue.via n xs else bif Nat.beq f 144 then zu.via n xs else λ_=>none
theorem kJ.c8{R:Type}(n:Nat):dt (R:=R) Tryz.prog (kJ.C n):=λ_ xs=>cR (jd.cO n xs) (cR (ue.cO n xs) (cR (zu.cO n xs) (cT.none)))
def kJ.cut(r:Nat):Option dP:=match r with | 8=>some ⟨[7,35,36,37],[]⟩ | _=>none
noncomputable def kJ.t (z:kJ.Z):List Item:=(dL (match z with | .z8 _ _ _ _=>8) 1000 [.code (Tryz.f96.body.getD .skip)]).getD []
def kJ.s:kJ.Z->St
 | .z8 z1 z2 z3 z4=>⟨fx 55 0 [(7,.own 0 0 none),(35,.own 1 0 none),(36,vi z1),(37,vi z2)],Mem.ofList [.row ⟨true,5,false⟩ 1 z3,.row ⟨true,5,false⟩ 1 z4],2⟩
def kJ.r8(n:Nat)(c:kJ.Z->Option ByteArray)(z1 z2:Int)(z3 z4:List AV):Option ByteArray:=
 bif decide (z2<z1)then(bif decide ((0:Int)<=z2)&&decide (z2<((z4.length:Nat):Int))then(cN ((z4.getD ((z2).toNat) .undef).cells) λh6 r7=>
 cQ .u8 h6 λx8=>
 let y9:Int:=Int.fdiv x8 (2 ^ min (4:Int).toNat 8)
 bif decide ((0:Int)<=y9)&&decide (y9<((16:Nat):Int))then(let nh:Int:=((((⟨#[48,49,50,51,52,53,54,55,56,57,65,66,67,68,69,70]⟩:ByteArray).data.getD ((y9).toNat) 0).toNat:Nat):Int)
 let pw:Int:=IntKind.u8.wrap (BitVec.ofInt 8 x8 &&& BitVec.ofInt 8 15).toNat
 bif decide ((0:Int)<=pw)&&decide (pw<((16:Nat):Int))then(let zC:Int:=((((⟨#[48,49,50,51,52,53,54,55,56,57,65,66,67,68,69,70]⟩:ByteArray).data.getD ((pw).toNat) 0).toNat:Nat):Int)
 bif decide (z3.length+[vu nh,vu zC].length<=fe)then(c (.z8 z1 (IntKind.i64.wrap (z2+1)) (z3++[vu nh,vu zC]) z4))else none)else none)else none)else none)else(bif decide (z3.length+[vu 39].length<=fe)then(cX (strOf (z3++[vu 39])) λXJ=>
 some (⟨XJ.toArray⟩:ByteArray))else none)
def kJ.r(n:Nat)(c:kJ.Z->Option ByteArray):kJ.Z->Option ByteArray
 | .z8 z1 z2 z3 z4=>kJ.r8 n c z1 z2 z3 z4
def kJ.e(n:Nat)(c:kJ.Z->Option ByteArray)(a0 a1 a2 a3:Int)(a4:ByteArray):Option ByteArray:=
 bif a0 != 0 then((jd.F n a3 a2).bind λp1=>
 some p1.1)else((ue.F n a4).bind λp2=>
 bif p2 then((zu.F n a4 (⟨#[39]⟩:ByteArray) (⟨#[39,39]⟩:ByteArray)).bind λp3=>
 js (decide (1+p3.size<=9223372036854775807)) (js (decide (((⟨#[39]⟩:ByteArray)++p3).size+1<=9223372036854775807)) (let y4:ByteArray:=((⟨#[39]⟩:ByteArray)++p3)++(⟨#[39]⟩:ByteArray)
 some y4)))else(let y5:List AV:=a4.toList.map λb=>vu b.toNat
 c (.z8 ((y5.length:Nat):Int) 0 [vu 88,vu 39] y5)))
def kJ.E(n:Nat)(c:kJ.Z->Option ByteArray):lR.A->Option hH.T:=fun(a0,a1,a2,a3,a4)=>kJ.e n c a0 a1 a2 a3 a4
def kJ.l(n:Nat):Nat->kJ.Z->Option ByteArray:=ez (kJ.r n)
def kJ.F(n:Nat)(a0 a1 a2 a3:Int)(a4:ByteArray):Option ByteArray:=kJ.e n (kJ.l n n) a0 a1 a2 a3 a4
def kJ.FA(n:Nat):lR.A->Option hH.T:=kJ.E n (kJ.l n n)
theorem kJ.cW(n:Nat):∀a p,kJ.FA n a=some p->dc Tryz.prog 96 (lR.i a) (hH.p p):=lN kJ.cut kJ.t kJ.s (kJ.E n) (kJ.r n) cfg mixed dB hH.qi (kJ.c8 n) Tryz.func96
def kJ.via{R:Type}(n:Nat):List AV->(AV->Option R)->Option R:=d_ (kJ.FA n) lR.o hH.p
theorem kJ.cO{R:Type}(n:Nat)(xs:List AV):cT (R:=R) Tryz.prog 96 xs (kJ.via n xs):=c7 lR.oi (λa=>by kernel_rfl) (kJ.cW n) xs
def sr.C{R:Type}(n:Nat)(f:FuncId)(xs:List AV):(AV->Option R)->Option R:=
 bif Nat.beq f 95 then hH.via n xs else bif Nat.beq f 96 then kJ.via n xs else bif Nat.beq f 97 then qR.via n xs else λ_=>none
theorem sr.c8{R:Type}(n:Nat):dt (R:=R) Tryz.prog (sr.C n):=λ_ xs=>cR (hH.cO n xs) (cR (kJ.cO n xs) (cR (qR.cO n xs) (cT.none)))
def sr.cut(r:Nat):Option dP:=match r with  | _=>none
def sr.e(n:Nat)(a0:ByteArray)(a1 a2 a3 a4 a5:Int)(a6 a7:ByteArray)(a8 a9:Int):Option ByteArray:=
 bif a1==0 then(js (decide (7+a0.size<=9223372036854775807)) (let y1:ByteArray:=(⟨#[68,67,76,32,68,68,32]⟩:ByteArray)++a0
 js (decide (y1.size+1<=9223372036854775807)) ((hH.F n a2 a3 a4).bind λp2=>
 js (decide ((y1++(⟨#[32]⟩:ByteArray)).size+p2.size<=9223372036854775807)) (let y3:ByteArray:=(y1++(⟨#[32]⟩:ByteArray))++p2
 js (decide (y3.size+6<=9223372036854775807)) (let y4:ByteArray:=y3++(⟨#[32,73,78,73,84,40]⟩:ByteArray)
 (kJ.F n a2 a3 a4 a5 a6).bind λp5=>
 js (decide (y4.size+p5.size<=9223372036854775807)) (js (decide ((y4++p5).size+1<=9223372036854775807)) (let y6:ByteArray:=(y4++p5)++(⟨#[41]⟩:ByteArray)
 some y6)))))))else(bif a1==1 then(js (decide (7+a0.size<=9223372036854775807)) (let y7:ByteArray:=(⟨#[68,67,76,32,68,68,32]⟩:ByteArray)++a0
 js (decide (y7.size+1<=9223372036854775807)) ((hH.F n a2 a3 a4).bind λp8=>
 js (decide ((y7++(⟨#[32]⟩:ByteArray)).size+p8.size<=9223372036854775807)) (let y9:ByteArray:=(y7++(⟨#[32]⟩:ByteArray))++p8
 js (decide (y9.size+5<=9223372036854775807)) (let nh:ByteArray:=y9++(⟨#[32,68,69,70,40]⟩:ByteArray)
 js (decide (nh.size+a7.size<=9223372036854775807)) (js (decide ((nh++a7).size+1<=9223372036854775807)) (let pw:ByteArray:=(nh++a7)++(⟨#[44]⟩:ByteArray)
 (qR.F n a8).bind λnV=>
 js (decide (pw.size+nV.size<=9223372036854775807)) (js (decide ((pw++nV).size+1<=9223372036854775807)) (let HG:ByteArray:=(pw++nV)++(⟨#[41]⟩:ByteArray)
 some HG)))))))))else(bif a1==2 then(js (decide (7+a0.size<=9223372036854775807)) (let xS:ByteArray:=(⟨#[68,67,76,32,68,68,32]⟩:ByteArray)++a0
 js (decide (xS.size+1<=9223372036854775807)) ((hH.F n a2 a3 a4).bind λyq=>
 js (decide ((xS++(⟨#[32]⟩:ByteArray)).size+yq.size<=9223372036854775807)) (let C9:ByteArray:=(xS++(⟨#[32]⟩:ByteArray))++yq
 js (decide (C9.size+5<=9223372036854775807)) (let If:ByteArray:=C9++(⟨#[32,66,65,83,40]⟩:ByteArray)
 js (decide (If.size+a7.size<=9223372036854775807)) (js (decide ((If++a7).size+1<=9223372036854775807)) (let Od:ByteArray:=(If++a7)++(⟨#[44]⟩:ByteArray)
 (qR.F n a8).bind λlZ=>
 js (decide (Od.size+lZ.size<=9223372036854775807)) (js (decide ((Od++lZ).size+1<=9223372036854775807)) (let QP:ByteArray:=(Od++lZ)++(⟨#[41]⟩:ByteArray)
 some QP)))))))))else(bif a1==3 then(js (decide (8+a0.size<=9223372036854775807)) (let Zn:ByteArray:=(⟨#[68,67,76,32,80,84,82,32]⟩:ByteArray)++a0
 some Zn))else(bif a1==4 then(js (decide (8+a0.size<=9223372036854775807)) (let Oc:ByteArray:=(⟨#[68,67,76,32,67,79,78,32]⟩:ByteArray)++a0
 js (decide (Oc.size+1<=9223372036854775807)) ((hH.F n a2 a3 a4).bind λLS=>
 js (decide ((Oc++(⟨#[32]⟩:ByteArray)).size+LS.size<=9223372036854775807)) (let XR:ByteArray:=(Oc++(⟨#[32]⟩:ByteArray))++LS
 js (decide (XR.size+6<=9223372036854775807)) (let Ut:ByteArray:=XR++(⟨#[32,73,78,73,84,40]⟩:ByteArray)
 (kJ.F n a2 a3 a4 a5 a6).bind λNw=>
 js (decide (Ut.size+Nw.size<=9223372036854775807)) (js (decide ((Ut++Nw).size+1<=9223372036854775807)) (let Ur:ByteArray:=(Ut++Nw)++(⟨#[41]⟩:ByteArray)
 some Ur)))))))else(js (decide (10+a0.size<=9223372036854775807)) (let Uq:ByteArray:=(⟨#[68,67,76,32,76,65,66,69,76,32]⟩:ByteArray)++a0
 js (decide (Uq.size+1<=9223372036854775807)) ((qR.F n a9).bind λI3=>
 js (decide ((Uq++(⟨#[32]⟩:ByteArray)).size+I3.size<=9223372036854775807)) (let Zl:ByteArray:=(Uq++(⟨#[32]⟩:ByteArray))++I3
 some Zl))))))))
def sr.E(n:Nat):iZ.A->Option hH.T:=fun(a0,a1,a2,a3,a4,a5,a6,a7,a8,a9)=>sr.e n a0 a1 a2 a3 a4 a5 a6 a7 a8 a9
def sr.F(n:Nat)(a0:ByteArray)(a1 a2 a3 a4 a5:Int)(a6 a7:ByteArray)(a8 a9:Int):Option ByteArray:=sr.e n a0 a1 a2 a3 a4 a5 a6 a7 a8 a9
def sr.FA(n:Nat):iZ.A->Option hH.T:=sr.E n
theorem sr.cW(n:Nat):∀a p,sr.FA n a=some p->dc Tryz.prog 53 (iZ.i a) (hH.p p):=gp sr.cut (sr.E n) cfg mixed dB hH.qi (sr.c8 n) Tryz.func53
def sr.via{R:Type}(n:Nat):List AV->(AV->Option R)->Option R:=d_ (sr.FA n) iZ.o hH.p
theorem sr.cO{R:Type}(n:Nat)(xs:List AV):cT (R:=R) Tryz.prog 53 xs (sr.via n xs):=c7 iZ.oi (λa=>by kernel_rfl) (sr.cW n) xs
def EJ.F(n:Nat)(l:List AV)(t:ByteArray):Option (ByteArray):=bif Aq l t then Option.some (JB l t)else none
theorem EJ.cW(n:Nat)(l:List AV)(t:ByteArray){p:ByteArray}(h:EJ.F n l t=some p):dc Tryz.prog 56 [.sl ⟨true,9,true⟩ 1 l,.v (.string t)] (.v (.string p)):=by
 unfold EJ.F at h;cases hc:(Aq l t)with
 | false=>rw[hc]at h;cases h
 | true=>
  rw[hc]at h;cases h;refine gR (fn:=Tryz.f56) Tryz.func56 (by kernel_rfl) (by kernel_rfl) λw F vals hQ hF hl hr=>?_;obtain⟨u0,u1,rfl,h0,h1⟩:=xU hl hr;obtain rfl:=ll h1;exact D4 (λa c=>Tryz.strings_Join_none a c t w) (λbk o c xs h1 h2 h3 h4 h5=>Tryz.strings_Join bk o c xs t w h1 h2 h3 h4 h5) hF h0 hc
def EJ.via{R:Type}(n:Nat)(ys:List AV):(AV->Option R)->Option R:=match ys with | [.sl ⟨true,9,true⟩ 1 l,.v (.string t)]=>λK=>(EJ.F n l t).bind λp=>K (.v (.string p)) | _=>λ_=>none
theorem EJ.cO{R:Type}(n:Nat)(ys:List AV):cT (R:=R) Tryz.prog 56 ys (EJ.via n ys):=by
 unfold EJ.via;split
 ·exact cT.of (λp hp=>(EJ.cW n _ _ hp).cW rfl)
 ·exact cT.none
abbrev oF.A:=Int × List AV
def oF.i:oF.A->List AV:=fun(a0,a1)=>[vi a0,.sl ⟨true,9,true⟩ 1 a1]
def oF.o(xs:List AV):Option oF.A:=match xs with | [.v (.int .i64 a0),.sl ⟨true,9,true⟩ 1 a1]=>some (a0,a1) | _=>none
theorem oF.oi:∀xs a,oF.o xs=some a->xs=oF.i a:=by
 intro xs a h;unfold oF.o at h;split at h
 ·cases h;rfl
 ·cases h
def oF.C{R:Type}(n:Nat)(f:FuncId)(xs:List AV):(AV->Option R)->Option R:=
 bif Nat.beq f 56 then EJ.via n xs else λ_=>none
theorem oF.c8{R:Type}(n:Nat):dt (R:=R) Tryz.prog (oF.C n):=λ_ xs=>cR (EJ.cO n xs) (cT.none)
def oF.cut(r:Nat):Option dP:=match r with  | _=>none
def oF.e(n:Nat)(a0:Int)(a1:List AV):Option ByteArray:=
 let y1:Bool:=((a1.length:Nat):Int)==0
 bif y1 then(bif decide ((0:Int)<=a0)&&decide (a0<((19:Nat):Int))then(cN (kO ((a0).toNat*1) [vs (⟨#[77,79,86,69]⟩:ByteArray),vs (⟨#[77,79,86,69,72]⟩:ByteArray),vs (⟨#[65,68,68]⟩:ByteArray),vs (⟨#[83,85,66]⟩:ByteArray),vs (⟨#[77,85,76]⟩:ByteArray),vs (⟨#[68,73,86]⟩:ByteArray),vs (⟨#[82,69,77]⟩:ByteArray),vs (⟨#[73,70,69,81]⟩:ByteArray),vs (⟨#[73,70,76,84]⟩:ByteArray),vs (⟨#[71,79,84,79]⟩:ByteArray),vs (⟨#[65,68,68,82]⟩:ByteArray),vs (⟨#[77,79,86,69,80]⟩:ByteArray),vs (⟨#[65,68,86,65,78,67,69]⟩:ByteArray),vs (⟨#[67,65,76,76]⟩:ByteArray),vs (⟨#[82,69,84,85,82,78]⟩:ByteArray),vs (⟨#[83,73,71,78,65,76]⟩:ByteArray),vs (⟨#[69,88,67,69,80,84,73,79,78]⟩:ByteArray),vs (⟨#[80,82,73,78,84]⟩:ByteArray),vs (⟨#[69,78,68]⟩:ByteArray)]) λh2 r3=>
 df h2 λs4=>
 some s4)else none)else(bif decide ((0:Int)<=a0)&&decide (a0<((19:Nat):Int))then(cN (kO ((a0).toNat*1) [vs (⟨#[77,79,86,69]⟩:ByteArray),vs (⟨#[77,79,86,69,72]⟩:ByteArray),vs (⟨#[65,68,68]⟩:ByteArray),vs (⟨#[83,85,66]⟩:ByteArray),vs (⟨#[77,85,76]⟩:ByteArray),vs (⟨#[68,73,86]⟩:ByteArray),vs (⟨#[82,69,77]⟩:ByteArray),vs (⟨#[73,70,69,81]⟩:ByteArray),vs (⟨#[73,70,76,84]⟩:ByteArray),vs (⟨#[71,79,84,79]⟩:ByteArray),vs (⟨#[65,68,68,82]⟩:ByteArray),vs (⟨#[77,79,86,69,80]⟩:ByteArray),vs (⟨#[65,68,86,65,78,67,69]⟩:ByteArray),vs (⟨#[67,65,76,76]⟩:ByteArray),vs (⟨#[82,69,84,85,82,78]⟩:ByteArray),vs (⟨#[83,73,71,78,65,76]⟩:ByteArray),vs (⟨#[69,88,67,69,80,84,73,79,78]⟩:ByteArray),vs (⟨#[80,82,73,78,84]⟩:ByteArray),vs (⟨#[69,78,68]⟩:ByteArray)]) λh5 r6=>
 df h5 λs7=>
 js (decide (s7.size+1<=9223372036854775807)) ((EJ.F n a1 (⟨#[44]⟩:ByteArray)).bind λp8=>
 js (decide ((s7++(⟨#[32]⟩:ByteArray)).size+p8.size<=9223372036854775807)) (let y9:ByteArray:=(s7++(⟨#[32]⟩:ByteArray))++p8
 some y9)))else none)
def oF.E(n:Nat):oF.A->Option hH.T:=fun(a0,a1)=>oF.e n a0 a1
def oF.F(n:Nat)(a0:Int)(a1:List AV):Option ByteArray:=oF.e n a0 a1
def oF.FA(n:Nat):oF.A->Option hH.T:=oF.E n
theorem oF.cW(n:Nat):∀a p,oF.FA n a=some p->dc Tryz.prog 54 (oF.i a) (hH.p p):=gp oF.cut (oF.E n) cfg mixed dB hH.qi (oF.c8 n) Tryz.func54
def oF.via{R:Type}(n:Nat):List AV->(AV->Option R)->Option R:=d_ (oF.FA n) oF.o hH.p
theorem oF.cO{R:Type}(n:Nat)(xs:List AV):cT (R:=R) Tryz.prog 54 xs (oF.via n xs):=c7 oF.oi (λa=>by kernel_rfl) (oF.cW n) xs
abbrev kK.A:=Int × Int × Int × Int
def kK.i:kK.A->List AV:=fun(a0,a1,a2,a3)=>[AV.agg [vi a0,vi a1,vi a2,vi a3]]
def kK.o(xs:List AV):Option kK.A:=match xs with | [.agg [.v (.int .i64 a0),.v (.int .i64 a1),.v (.int .i64 a2),.v (.int .i64 a3)]]=>some (a0,a1,a2,a3) | _=>none
theorem kK.oi:∀xs a,kK.o xs=some a->xs=kK.i a:=by
 intro xs a h;unfold kK.o at h;split at h
 ·cases h;rfl
 ·cases h
inductive kK.Z where
 | z3 (z1:ByteArray) (z2 z3:Int) (z4:List AV)
def kK.C{R:Type}(n:Nat)(f:FuncId)(xs:List AV):(AV->Option R)->Option R:=
 bif Nat.beq f 97 then qR.via n xs else λ_=>none
theorem kK.c8{R:Type}(n:Nat):dt (R:=R) Tryz.prog (kK.C n):=λ_ xs=>cR (qR.cO n xs) (cT.none)
def kK.cut(r:Nat):Option dP:=match r with | 3=>some ⟨[3,14,15,16],[]⟩ | _=>none
noncomputable def kK.t (z:kK.Z):List Item:=(dL (match z with | .z3 _ _ _ _=>3) 1000 [.code (Tryz.f55.body.getD .skip)]).getD []
def kK.s:kK.Z->St
 | .z3 z1 z2 z3 z4=>⟨fx 27 0 [(3,vs z1),(14,.own 0 0 none),(15,vi z2),(16,vi z3)],Mem.ofList [.row ⟨true,3,false⟩ 1 z4],1⟩
def kK.r3(n:Nat)(c:kK.Z->Option ByteArray)(z1:ByteArray)(z2 z3:Int)(z4:List AV):Option ByteArray:=
 bif decide (z3<z2)then(bif decide ((0:Int)<=z3)&&decide (z3<((z4.length:Nat):Int))then(cN ((z4.getD ((z3).toNat) .undef).cells) λh1 r2=>
 cQ .i64 h1 λx3=>
 (qR.F n x3).bind λp4=>
 js (decide (1+p4.size<=9223372036854775807)) (js (decide (z1.size+((⟨#[32]⟩:ByteArray)++p4).size<=9223372036854775807)) (let y5:ByteArray:=z1++((⟨#[32]⟩:ByteArray)++p4)
 c (.z3 y5 z2 (IntKind.i64.wrap (z3+1)) z4))))else none)else(some z1)
def kK.r(n:Nat)(c:kK.Z->Option ByteArray):kK.Z->Option ByteArray
 | .z3 z1 z2 z3 z4=>kK.r3 n c z1 z2 z3 z4
def kK.e(n:Nat)(c:kK.Z->Option ByteArray)(a0 a1 a2 a3:Int):Option ByteArray:=
 c (.z3 (⟨#[77,79,78,73,84,79,82]⟩:ByteArray) (([vi a0,vi a1,vi a2,vi a3].length:Nat):Int) 0 [vi a0,vi a1,vi a2,vi a3])
def kK.E(n:Nat)(c:kK.Z->Option ByteArray):kK.A->Option hH.T:=fun(a0,a1,a2,a3)=>kK.e n c a0 a1 a2 a3
def kK.l(n:Nat):Nat->kK.Z->Option ByteArray:=ez (kK.r n)
def kK.F(n:Nat)(a0 a1 a2 a3:Int):Option ByteArray:=kK.e n (kK.l n n) a0 a1 a2 a3
def kK.FA(n:Nat):kK.A->Option hH.T:=kK.E n (kK.l n n)
theorem kK.cW(n:Nat):∀a p,kK.FA n a=some p->dc Tryz.prog 55 (kK.i a) (hH.p p):=lN kK.cut kK.t kK.s (kK.E n) (kK.r n) cfg mixed dB hH.qi (kK.c8 n) Tryz.func55
def kK.via{R:Type}(n:Nat):List AV->(AV->Option R)->Option R:=d_ (kK.FA n) kK.o hH.p
theorem kK.cO{R:Type}(n:Nat)(xs:List AV):cT (R:=R) Tryz.prog 55 xs (kK.via n xs):=c7 kK.oi (λa=>by kernel_rfl) (kK.cW n) xs
inductive mj.Z where
 | z6 (z1:List AV) (z2 z3:Int) (z4 z5 z6 z7:List AV)
 | dp (z1:List AV) (z2 z3:Int) (z4 z5 z6 z7:List AV)
 | dE (z1:List AV) (z2 z3:Int) (z4:List AV) (z5 z6:Int) (z7 z8 z9 dk:List AV) (dp:Int) (z12 dC:List AV)
 | z22 (z1:List AV) (z2 z3:Int) (z4:List AV)
def mj.C{R:Type}(n:Nat)(f:FuncId)(xs:List AV):(AV->Option R)->Option R:=
 bif Nat.beq f 52 then xf.via n xs else bif Nat.beq f 53 then sr.via n xs else bif Nat.beq f 54 then oF.via n xs else bif Nat.beq f 55 then kK.via n xs else bif Nat.beq f 56 then EJ.via n xs else λ_=>none
theorem mj.c8{R:Type}(n:Nat):dt (R:=R) Tryz.prog (mj.C n):=λ_ xs=>cR (xf.cO n xs) (cR (sr.cO n xs) (cR (oF.cO n xs) (cR (kK.cO n xs) (cR (EJ.cO n xs) (cT.none)))))
def mj.cut(r:Nat):Option dP:=match r with | 6=>some ⟨[1,5,22,23,24],[(5,none,⟨true,9,false⟩,1)]⟩ | 11=>some ⟨[1,5,35,36,37],[]⟩ | 15=>some ⟨[1,5,9,10,35,36,37,42,43,44],[(10,none,⟨true,9,false⟩,1)]⟩ | 22=>some ⟨[5,67,68,69],[]⟩ | _=>none
noncomputable def mj.t (z:mj.Z):List Item:=(dL (match z with | .z6 _ _ _ _ _ _ _=>6 | .dp _ _ _ _ _ _ _=>11 | .dE _ _ _ _ _ _ _ _ _ _ _ _ _=>15 | .z22 _ _ _ _=>22) 1000 [.code (Tryz.f17.body.getD .skip)]).getD []
def mj.s:mj.Z->St
 | .z6 z1 z2 z3 z4 z5 z6 z7=>⟨fx 86 0 [(1,.ptr 0 0),(5,.own 1 0 none),(22,.sl ⟨true,74,false⟩ 10 z1),(23,vi z2),(24,vi z3)],Mem.ofList [.box 26 [.sl ⟨true,74,false⟩ 10 z4,.sl ⟨false,86,false⟩ 2 z5,.sl ⟨true,82,false⟩ 4 z6],.row ⟨true,9,false⟩ 1 z7],2⟩
 | .dp z1 z2 z3 z4 z5 z6 z7=>⟨fx 86 0 [(1,.ptr 0 0),(5,.own 1 0 none),(35,.sl ⟨false,86,false⟩ 2 z1),(36,vi z2),(37,vi z3)],Mem.ofList [.box 26 [.sl ⟨true,74,false⟩ 10 z4,.sl ⟨false,86,false⟩ 2 z5,.sl ⟨true,82,false⟩ 4 z6],.row ⟨true,9,false⟩ 1 z7],2⟩
 | .dE z1 z2 z3 z4 z5 z6 z7 z8 z9 dk dp z12 dC=>⟨fx 86 0 [(1,.ptr 0 0),(5,.own 1 0 none),(9,.ptr 2 0),(10,.own 3 0 none),(35,.sl ⟨false,86,false⟩ 2 z1),(36,vi z2),(37,vi z3),(42,.sl ⟨true,3,false⟩ 1 z4),(43,vi z5),(44,vi z6)],Mem.ofList [.box 26 [.sl ⟨true,74,false⟩ 10 z7,.sl ⟨false,86,false⟩ 2 z8,.sl ⟨true,82,false⟩ 4 z9],.row ⟨true,9,false⟩ 1 dk,.box 86 [vi dp,.sl ⟨true,3,false⟩ 1 z12],.row ⟨true,9,false⟩ 1 dC],4⟩
 | .z22 z1 z2 z3 z4=>⟨fx 86 0 [(5,.own 0 0 none),(67,.sl ⟨true,82,false⟩ 4 z1),(68,vi z2),(69,vi z3)],Mem.ofList [.row ⟨true,9,false⟩ 1 z4],1⟩
def mj.r6(n:Nat)(c:mj.Z->Option (ByteArray × Int))(z1:List AV)(z2 z3:Int)(z4 z5 z6 z7:List AV):Option (ByteArray × Int):=
 bif decide (z3<z2)then(bif decide ((0:Int)<=z3)&&decide (z3<((z1.length:Nat):Int))then(cN ((z1.getD ((z3).toNat) .undef).cells) λh2 r3=>
 df h2 λs4=>
 cN r3 λh5 r6=>
 cQ .i64 h5 λx7=>
 cN r6 λh8 r9=>
 cQ .i64 h8 λQb=>
 cN r9 λGW ry=>
 cQ .i64 GW λM9=>
 cN ry λEl qX=>
 cQ .i64 El λK6=>
 cN qX λCw sE=>
 cQ .i64 Cw λA9=>
 cN sE λCv qw=>
 df Cv λTJ=>
 cN qw λCu qW=>
 df Cu λQd=>
 cN qW λCt yj=>
 cQ .i64 Ct λHH=>
 cN yj λKe Ns=>
 cQ .i64 Ke λQa=>
 (sr.F n s4 x7 Qb M9 K6 A9 TJ Qd HH Qa).bind λGi=>
 bif decide (z7.length+[vs Gi].length<=fe)then(c (.z6 z1 z2 (IntKind.i64.wrap (z3+1)) z4 z5 z6 (z7++[vs Gi])))else none)else none)else(c (.dp z5 ((z5.length:Nat):Int) 0 z4 z5 z6 z7))
def mj.vN(n:Nat)(c:mj.Z->Option (ByteArray × Int))(z1:List AV)(z2 z3:Int)(z4 z5 z6 z7:List AV):Option (ByteArray × Int):=
 bif decide (z3<z2)then(bif decide ((0:Int)<=z3)&&decide (z3<((z1.length:Nat):Int))then(cN ((z1.getD ((z3).toNat) .undef).cells) λh33 r34=>
 cQ .i64 h33 λZG=>
 cN r34 λUd r37=>
 gU ⟨true,3,false⟩ 1 Ud λOe=>
 c (.dE z1 z2 z3 Oe ((Oe.length:Nat):Int) 0 z4 z5 z6 z7 ZG Oe []))else none)else(c (.z22 z6 ((z6.length:Nat):Int) 0 z7))
def mj.qX(n:Nat)(c:mj.Z->Option (ByteArray × Int))(z1:List AV)(z2 z3:Int)(z4:List AV)(z5 z6:Int)(z7 z8 z9 dk:List AV)(dp:Int)(z12 dC:List AV):Option (ByteArray × Int):=
 bif decide (z6<z5)then(bif decide ((0:Int)<=z6)&&decide (z6<((z4.length:Nat):Int))then(cN ((z4.getD ((z6).toNat) .undef).cells) λW9 r40=>
 cQ .i64 W9 λUO=>
 bif decide ((0:Int)<=UO)&&decide (UO<((z7.length:Nat):Int))then(cN ((z7.getD ((UO).toNat) .undef).cells) λh42 r43=>
 df h42 λX4=>
 bif decide (dC.length+[vs X4].length<=fe)then(c (.dE z1 z2 z3 z4 z5 (IntKind.i64.wrap (z6+1)) z7 z8 z9 dk dp z12 (dC++[vs X4])))else none)else none)else none)else((oF.F n dp dC).bind λYf=>
 bif decide (dk.length+[vs Yf].length<=fe)then(c (.dp z1 z2 (IntKind.i64.wrap (z3+1)) z7 z8 z9 (dk++[vs Yf])))else none)
def mj.LL(n:Nat)(c:mj.Z->Option (ByteArray × Int))(z1:List AV)(z2 z3:Int)(z4:List AV):Option (ByteArray × Int):=
 bif decide (z3<z2)then(bif decide ((0:Int)<=z3)&&decide (z3<((z1.length:Nat):Int))then(cN ((z1.getD ((z3).toNat) .undef).cells) λoD OK=>
 cQ .i64 oD λP_=>
 cN OK λPC OI=>
 cQ .i64 PC λP9=>
 cN OI λPA Qh=>
 cQ .i64 PA λP8=>
 cN Qh λPy Qg=>
 cQ .i64 Py λQ0=>
 (kK.F n P_ P9 P8 Q0).bind λYe=>
 bif decide (z4.length+[vs Ye].length<=fe)then(c (.z22 z1 z2 (IntKind.i64.wrap (z3+1)) (z4++[vs Ye])))else none)else none)else((EJ.F n z4 (⟨#[59,10]⟩:ByteArray)).bind λYd=>
 js (decide (Yd.size+2<=9223372036854775807)) (let XQ:ByteArray:=Yd++(⟨#[59,10]⟩:ByteArray)
 let Zd:Bool:=decide (((XQ.size:Nat):Int)>6000)
 bif Zd then(some ((⟨#[]⟩:ByteArray),2))else(some (XQ,0))))
def mj.r(n:Nat)(c:mj.Z->Option (ByteArray × Int)):mj.Z->Option (ByteArray × Int)
 | .z6 z1 z2 z3 z4 z5 z6 z7=>mj.r6 n c z1 z2 z3 z4 z5 z6 z7
 | .dp z1 z2 z3 z4 z5 z6 z7=>mj.vN n c z1 z2 z3 z4 z5 z6 z7
 | .dE z1 z2 z3 z4 z5 z6 z7 z8 z9 dk dp z12 dC=>mj.qX n c z1 z2 z3 z4 z5 z6 z7 z8 z9 dk dp z12 dC
 | .z22 z1 z2 z3 z4=>mj.LL n c z1 z2 z3 z4
def mj.e(n:Nat)(c:mj.Z->Option (ByteArray × Int))(a0 a1 a2:List AV):Option (ByteArray × Int):=
 (xf.F n a0 a1 a2).bind λp1=>
 bif p1 != 0 then(some ((⟨#[]⟩:ByteArray),p1))else(c (.z6 a0 ((a0.length:Nat):Int) 0 a0 a1 a2 []))
def mj.E(n:Nat)(c:mj.Z->Option (ByteArray × Int)):eP.A->Option jd.T:=fun(a0,a1,a2)=>mj.e n c a0 a1 a2
def mj.l(n:Nat):Nat->mj.Z->Option (ByteArray × Int):=ez (mj.r n)
def mj.FA(n:Nat):eP.A->Option jd.T:=mj.E n (mj.l n n)
theorem mj.cW(n:Nat):∀a p,mj.FA n a=some p->dc Tryz.prog 17 (eP.i a) (jd.p p):=lN mj.cut mj.t mj.s (mj.E n) (mj.r n) cfg mixed dB jd.qi (mj.c8 n) Tryz.func17
def mj.via{R:Type}(n:Nat):List AV->(AV->Option R)->Option R:=d_ (mj.FA n) eP.o jd.p
theorem mj.cO{R:Type}(n:Nat)(xs:List AV):cT (R:=R) Tryz.prog 17 xs (mj.via n xs):=c7 eP.oi (λa=>by kernel_rfl) (mj.cW n) xs
abbrev ju.A:=List AV × List AV
def ju.i:ju.A->List AV:=fun(a0,a1)=>[.sl ⟨true,3,false⟩ 1 a0,.sl ⟨true,3,false⟩ 1 a1]
def ju.o(xs:List AV):Option ju.A:=match xs with | [.sl ⟨true,3,false⟩ 1 a0,.sl ⟨true,3,false⟩ 1 a1]=>some (a0,a1) | _=>none
theorem ju.oi:∀xs a,ju.o xs=some a->xs=ju.i a:=by
 intro xs a h;unfold ju.o at h;split at h
 ·cases h;rfl
 ·cases h
inductive ju.Z where
 | z4 (z1 z2:List AV) (z3:Int)
def ju.C{R:Type}(n:Nat)(f:FuncId)(xs:List AV):(AV->Option R)->Option R:=
 λ_=>none
theorem ju.c8{R:Type}(n:Nat):dt (R:=R) Tryz.prog (ju.C n):=λ_ xs=>cT.none
def ju.cut(r:Nat):Option dP:=match r with | 4=>some ⟨[0,1,5],[]⟩ | _=>none
noncomputable def ju.t (z:ju.Z):List Item:=(dL (match z with | .z4 _ _ _=>4) 1000 [.code (Tryz.f28.body.getD .skip)]).getD []
def ju.s:ju.Z->St
 | .z4 z1 z2 z3=>⟨fx 26 0 [(0,.sl ⟨true,3,false⟩ 1 z1),(1,.sl ⟨true,3,false⟩ 1 z2),(5,vi z3)],Mem.ofList [],0⟩
def ju.r4(n:Nat)(c:ju.Z->Option Bool)(z1 z2:List AV)(z3:Int):Option Bool:=
 let y2:Bool:=decide (z3<((z1.length:Nat):Int))
 bif y2 then(bif decide ((0:Int)<=z3)&&decide (z3<((z1.length:Nat):Int))then(cN ((z1.getD ((z3).toNat) .undef).cells) λh3 r4=>
 cQ .i64 h3 λx5=>
 bif decide ((0:Int)<=z3)&&decide (z3<((z2.length:Nat):Int))then(cN ((z2.getD ((z3).toNat) .undef).cells) λh6 r7=>
 cQ .i64 h6 λx8=>
 bif x5 != x8 then(some false)else(c (.z4 z1 z2 (IntKind.i64.wrap (z3+1)))))else none)else none)else(some true)
def ju.r(n:Nat)(c:ju.Z->Option Bool):ju.Z->Option Bool
 | .z4 z1 z2 z3=>ju.r4 n c z1 z2 z3
def ju.e(n:Nat)(c:ju.Z->Option Bool)(a0 a1:List AV):Option Bool:=
 let y1:Bool:=((a0.length:Nat):Int) != ((a1.length:Nat):Int)
 bif y1 then(some false)else(c (.z4 a0 a1 0))
def ju.E(n:Nat)(c:ju.Z->Option Bool):ju.A->Option ee.T:=fun(a0,a1)=>ju.e n c a0 a1
def ju.l(n:Nat):Nat->ju.Z->Option Bool:=ez (ju.r n)
def ju.F(n:Nat)(a0 a1:List AV):Option Bool:=ju.e n (ju.l n n) a0 a1
def ju.FA(n:Nat):ju.A->Option ee.T:=ju.E n (ju.l n n)
theorem ju.cW(n:Nat):∀a p,ju.FA n a=some p->dc Tryz.prog 28 (ju.i a) (ee.p p):=lN ju.cut ju.t ju.s (ju.E n) (ju.r n) cfg mixed dB ee.qi (ju.c8 n) Tryz.func28
def ju.via{R:Type}(n:Nat):List AV->(AV->Option R)->Option R:=d_ (ju.FA n) ju.o ee.p
theorem ju.cO{R:Type}(n:Nat)(xs:List AV):cT (R:=R) Tryz.prog 28 xs (ju.via n xs):=c7 ju.oi (λa=>by kernel_rfl) (ju.cW n) xs
abbrev gg.A:=List AV × List AV × List AV × List AV × List AV × List AV
def gg.i:gg.A->List AV:=fun(a0,a1,a2,a3,a4,a5)=>[AV.agg [.sl ⟨true,74,false⟩ 10 a0,.sl ⟨false,86,false⟩ 2 a1,.sl ⟨true,82,false⟩ 4 a2],AV.agg [.sl ⟨true,74,false⟩ 10 a3,.sl ⟨false,86,false⟩ 2 a4,.sl ⟨true,82,false⟩ 4 a5]]
def gg.o(xs:List AV):Option gg.A:=match xs with | [.agg [.sl ⟨true,74,false⟩ 10 a0,.sl ⟨false,86,false⟩ 2 a1,.sl ⟨true,82,false⟩ 4 a2],.agg [.sl ⟨true,74,false⟩ 10 a3,.sl ⟨false,86,false⟩ 2 a4,.sl ⟨true,82,false⟩ 4 a5]]=>some (a0,a1,a2,a3,a4,a5) | _=>none
theorem gg.oi:∀xs a,gg.o xs=some a->xs=gg.i a:=by
 intro xs a h;unfold gg.o at h;split at h
 ·cases h;rfl
 ·cases h
inductive gg.Z where
 | z2
 | z4 (z1:Int) (z2 z3 z4 z5 z6 z7:List AV)
 | z9 (z1:Int) (z2 z3 z4 z5 z6 z7:List AV)
 | dG (z1:Int) (z2 z3 z4 z5 z6 z7:List AV)
def gg.C{R:Type}(n:Nat)(f:FuncId)(xs:List AV):(AV->Option R)->Option R:=
 bif Nat.beq f 28 then ju.via n xs else λ_=>none
theorem gg.c8{R:Type}(n:Nat):dt (R:=R) Tryz.prog (gg.C n):=λ_ xs=>cR (ju.cO n xs) (cT.none)
def gg.cut(r:Nat):Option dP:=match r with | 2=>some ⟨[],[]⟩ | 4=>some ⟨[2,3,5],[]⟩ | 9=>some ⟨[2,3,6],[]⟩ | 14=>some ⟨[2,3,7],[]⟩ | _=>none
noncomputable def gg.t (z:gg.Z):List Item:=(dL (match z with | .z2=>2 | .z4 _ _ _ _ _ _ _=>4 | .z9 _ _ _ _ _ _ _=>9 | .dG _ _ _ _ _ _ _=>14) 1000 [.code (Tryz.f22.body.getD .skip)]).getD []
def gg.s:gg.Z->St
 | .z2=>⟨fx 105 0 [],Mem.ofList [],0⟩
 | .z4 z1 z2 z3 z4 z5 z6 z7=>⟨fx 105 0 [(2,.ptr 0 0),(3,.ptr 1 0),(5,vi z1)],Mem.ofList [.box 26 [.sl ⟨true,74,false⟩ 10 z2,.sl ⟨false,86,false⟩ 2 z3,.sl ⟨true,82,false⟩ 4 z4],.box 26 [.sl ⟨true,74,false⟩ 10 z5,.sl ⟨false,86,false⟩ 2 z6,.sl ⟨true,82,false⟩ 4 z7]],2⟩
 | .z9 z1 z2 z3 z4 z5 z6 z7=>⟨fx 105 0 [(2,.ptr 0 0),(3,.ptr 1 0),(6,vi z1)],Mem.ofList [.box 26 [.sl ⟨true,74,false⟩ 10 z2,.sl ⟨false,86,false⟩ 2 z3,.sl ⟨true,82,false⟩ 4 z4],.box 26 [.sl ⟨true,74,false⟩ 10 z5,.sl ⟨false,86,false⟩ 2 z6,.sl ⟨true,82,false⟩ 4 z7]],2⟩
 | .dG z1 z2 z3 z4 z5 z6 z7=>⟨fx 105 0 [(2,.ptr 0 0),(3,.ptr 1 0),(7,vi z1)],Mem.ofList [.box 26 [.sl ⟨true,74,false⟩ 10 z2,.sl ⟨false,86,false⟩ 2 z3,.sl ⟨true,82,false⟩ 4 z4],.box 26 [.sl ⟨true,74,false⟩ 10 z5,.sl ⟨false,86,false⟩ 2 z6,.sl ⟨true,82,false⟩ 4 z7]],2⟩
def gg.r2(n:Nat)(c:gg.Z->Option Bool)  : Option Bool:=
 some false
def gg.r4(n:Nat)(c:gg.Z->Option Bool)(z1:Int)(z2 z3 z4 z5 z6 z7:List AV):Option Bool:=
 let y4:Bool:=decide (z1<((z2.length:Nat):Int))
 bif y4 then(bif decide ((0:Int)<=z1)&&decide (z1<((z2.length:Nat):Int))then(cN ((z2.getD ((z1).toNat) .undef).cells) λh5 r6=>
 df h5 λs7=>
 cN r6 λh8 r9=>
 cQ .i64 h8 λQb=>
 cN r9 λGW ry=>
 cQ .i64 GW λM9=>
 cN ry λEl qX=>
 cQ .i64 El λK6=>
 cN qX λCw sE=>
 cQ .i64 Cw λA9=>
 cN sE λCv qw=>
 cQ .i64 Cv λHI=>
 cN qw λCu qW=>
 df Cu λQd=>
 cN qW λCt yj=>
 df Ct λX7=>
 cN yj λKe Ns=>
 cQ .i64 Ke λQa=>
 cN Ns λMA Qk=>
 cQ .i64 MA λXW=>
 bif decide ((0:Int)<=z1)&&decide (z1<((z5.length:Nat):Int))then(cN ((z5.getD ((z1).toNat) .undef).cells) λPF zW=>
 df PF λZ3=>
 cN zW λSI LJ=>
 cQ .i64 SI λQ3=>
 cN LJ λSH TR=>
 cQ .i64 SH λUM=>
 cN TR λMz Nr=>
 cQ .i64 Mz λQ2=>
 cN Nr λPD OJ=>
 cQ .i64 PD λzD=>
 cN OJ λPB OH=>
 cQ .i64 PB λIh=>
 cN OH λPz OG=>
 df Pz λVb=>
 cN OG λPx OF=>
 df Px λZY=>
 cN OF λMy Qf=>
 cQ .i64 My λFZ=>
 cN Qf λSE TQ=>
 cQ .i64 SE λZC=>
 let Zc:Bool:=!((s7==Z3)&&((Qb==Q3)&&((M9==UM)&&((K6==Q2)&&((A9==zD)&&((HI==Ih)&&((Qd==Vb)&&((X7==ZY)&&((Qa==FZ)&&((XW==ZC)&&true))))))))))
 bif Zc then(some false)else(c (.z4 (IntKind.i64.wrap (z1+1)) z2 z3 z4 z5 z6 z7)))else none)else none)else(c (.z9 0 z2 z3 z4 z5 z6 z7))
def gg.r9(n:Nat)(c:gg.Z->Option Bool)(z1:Int)(z2 z3 z4 z5 z6 z7:List AV):Option Bool:=
 let Zb:Bool:=decide (z1<((z3.length:Nat):Int))
 bif Zb then(bif decide ((0:Int)<=z1)&&decide (z1<((z3.length:Nat):Int))then(cN ((z3.getD ((z1).toNat) .undef).cells) λPw TP=>
 cQ .i64 Pw λP7=>
 bif decide ((0:Int)<=z1)&&decide (z1<((z6.length:Nat):Int))then(cN ((z6.getD ((z1).toNat) .undef).cells) λW1 Ya=>
 cQ .i64 W1 λUI=>
 bif P7 != UI then(some false)else(bif decide ((0:Int)<=z1)&&decide (z1<((z3.length:Nat):Int))then(cN (((z3.getD ((z1).toNat) .undef).cells).drop 1) λWZ X_=>
 gU ⟨true,3,false⟩ 1 WZ λUz=>
 bif decide ((0:Int)<=z1)&&decide (z1<((z6.length:Nat):Int))then(cN (((z6.getD ((z1).toNat) .undef).cells).drop 1) λWY X9=>
 gU ⟨true,3,false⟩ 1 WY λUy=>
 (ju.F n Uz Uy).bind λp79=>
 bif !p79 then(some false)else(c (.z9 (IntKind.i64.wrap (z1+1)) z2 z3 z4 z5 z6 z7)))else none)else none))else none)else none)else(c (.dG 0 z2 z3 z4 z5 z6 z7))
def gg.xk(n:Nat)(c:gg.Z->Option Bool)(z1:Int)(z2 z3 z4 z5 z6 z7:List AV):Option Bool:=
 let Y7:Bool:=decide (z1<((z4.length:Nat):Int))
 bif Y7 then(bif decide ((0:Int)<=z1)&&decide (z1<((z4.length:Nat):Int))then(cN ((z4.getD ((z1).toNat) .undef).cells) λSx Ri=>
 cQ .i64 Sx λUH=>
 cN Ri λSw TM=>
 cQ .i64 Sw λUG=>
 cN TM λWW Vk=>
 cQ .i64 WW λUF=>
 cN Vk λWV r91=>
 cQ .i64 WV λXS=>
 bif decide ((0:Int)<=z1)&&decide (z1<((z7.length:Nat):Int))then(cN ((z7.getD ((z1).toNat) .undef).cells) λh93 r94=>
 cQ .i64 h93 λZs=>
 cN r94 λh96 Z_=>
 cQ .i64 h96 λZq=>
 cN Z_ λh99 Vy=>
 cQ .i64 h99 λU5=>
 cN Vy λXt aai=>
 cQ .i64 Xt λU2=>
 let Ux:Bool:=!((UH==Zs)&&((UG==Zq)&&((UF==U5)&&((XS==U2)&&true))))
 bif Ux then(some false)else(c (.dG (IntKind.i64.wrap (z1+1)) z2 z3 z4 z5 z6 z7)))else none)else none)else(some true)
def gg.r(n:Nat)(c:gg.Z->Option Bool):gg.Z->Option Bool
 | .z2=>gg.r2 n c
 | .z4 z1 z2 z3 z4 z5 z6 z7=>gg.r4 n c z1 z2 z3 z4 z5 z6 z7
 | .z9 z1 z2 z3 z4 z5 z6 z7=>gg.r9 n c z1 z2 z3 z4 z5 z6 z7
 | .dG z1 z2 z3 z4 z5 z6 z7=>gg.xk n c z1 z2 z3 z4 z5 z6 z7
def gg.e(n:Nat)(c:gg.Z->Option Bool)(a0 a1 a2 a3 a4 a5:List AV):Option Bool:=
 let y1:Bool:=((a0.length:Nat):Int) != ((a3.length:Nat):Int)
 bif y1 then(c .z2)else(let y2:Bool:=((a1.length:Nat):Int) != ((a4.length:Nat):Int)
 bif y2 then(c .z2)else(let y3:Bool:=((a2.length:Nat):Int) != ((a5.length:Nat):Int)
 bif y3 then(c .z2)else(c (.z4 0 a0 a1 a2 a3 a4 a5))))
def gg.E(n:Nat)(c:gg.Z->Option Bool):gg.A->Option ee.T:=fun(a0,a1,a2,a3,a4,a5)=>gg.e n c a0 a1 a2 a3 a4 a5
def gg.l(n:Nat):Nat->gg.Z->Option Bool:=ez (gg.r n)
def gg.F(n:Nat)(a0 a1 a2 a3 a4 a5:List AV):Option Bool:=gg.e n (gg.l n n) a0 a1 a2 a3 a4 a5
def gg.FA(n:Nat):gg.A->Option ee.T:=gg.E n (gg.l n n)
theorem gg.cW(n:Nat):∀a p,gg.FA n a=some p->dc Tryz.prog 22 (gg.i a) (ee.p p):=lN gg.cut gg.t gg.s (gg.E n) (gg.r n) cfg mixed dB ee.qi (gg.c8 n) Tryz.func22
def gg.via{R:Type}(n:Nat):List AV->(AV->Option R)->Option R:=d_ (gg.FA n) gg.o ee.p
theorem gg.cO{R:Type}(n:Nat)(xs:List AV):cT (R:=R) Tryz.prog 22 xs (gg.via n xs):=c7 gg.oi (λa=>by kernel_rfl) (gg.cW n) xs
def ow.F(n:Nat)(s:ByteArray)(t:ByteArray):Option (ByteArray × ByteArray × Bool):=bif decide (s.size<4294967281)then Option.some ((⟨(Lib.cut s.data.toList t.data.toList).1.toArray⟩,⟨(Lib.cut s.data.toList t.data.toList).2.1.toArray⟩,(Lib.cut s.data.toList t.data.toList).2.2))else none
theorem ow.cW(n:Nat)(s:ByteArray)(t:ByteArray){p:ByteArray × ByteArray × Bool}(h:ow.F n s t=some p):dc Tryz.prog 60 [.v (.string s),.v (.string t)] (.eC [.v (.string p.1),.v (.string p.2.1),.v (.bool p.2.2)]):=by
 unfold ow.F at h;cases hc:(decide (s.size<4294967281))with
 | false=>rw[hc]at h;cases h
 | true=>
  rw[hc]at h;cases h;refine gR (fn:=Tryz.f60) Tryz.func60 (by kernel_rfl) (by kernel_rfl) λw F vals hQ hF hl hr=>?_;obtain⟨u0,u1,rfl,h0,h1⟩:=xU hl hr;obtain rfl:=ll h0;obtain rfl:=ll h1;refine(Tryz.strings_Cut_shaped s t w (eE.opened _ hQ) (bj hc)).mono ?_;rintro e w' ⟨rfl,n,rfl⟩;exact⟨F,λ_=>none,Came.lr hF ⟨rfl,rfl,rfl,aH _,λ_ _=>rfl⟩,#[_,_,_],rfl,rfl,.v _ rfl,.v _ rfl,.v _ rfl,trivial⟩
def ow.via{R:Type}(n:Nat)(ys:List AV):(AV->Option R)->Option R:=match ys with | [.v (.string s),.v (.string t)]=>λK=>(ow.F n s t).bind λp=>K (.eC [.v (.string p.1),.v (.string p.2.1),.v (.bool p.2.2)]) | _=>λ_=>none
theorem ow.cO{R:Type}(n:Nat)(ys:List AV):cT (R:=R) Tryz.prog 60 ys (ow.via n ys):=by
 unfold ow.via;split
 ·exact cT.of (λp hp=>(ow.cW n _ _ hp).cW rfl)
 ·exact cT.none
abbrev g_.A:=ByteArray × ByteArray
def g_.i:g_.A->List AV:=fun(a0,a1)=>[vs a0,vs a1]
def g_.o(xs:List AV):Option g_.A:=match xs with | [.v (.string a0),.v (.string a1)]=>some (a0,a1) | _=>none
theorem g_.oi:∀xs a,g_.o xs=some a->xs=g_.i a:=by
 intro xs a h;unfold g_.o at h;split at h
 ·cases h;rfl
 ·cases h
def g_.C{R:Type}(n:Nat)(f:FuncId)(xs:List AV):(AV->Option R)->Option R:=
 λ_=>none
theorem g_.c8{R:Type}(n:Nat):dt (R:=R) Tryz.prog (g_.C n):=λ_ xs=>cT.none
def g_.cut(r:Nat):Option dP:=match r with  | _=>none
def g_.e(n:Nat)(a0 a1:ByteArray):Option Bool:=
 let y1:Bool:=decide (((a0.size:Nat):Int)>=((a1.size:Nat):Int))
 bif y1 then(bif decide ((0:Int)<=((a1.size:Nat):Int))&&decide ((((a1.size:Nat):Int):Int)<=((a0.size:Nat):Int))then(let y2:ByteArray:=a0.extract 0 (((a1.size:Nat):Int)).toNat
 some (y2.toList==a1.toList))else none)else(some false)
def g_.E(n:Nat):g_.A->Option ee.T:=fun(a0,a1)=>g_.e n a0 a1
def g_.F(n:Nat)(a0 a1:ByteArray):Option Bool:=g_.e n a0 a1
def g_.FA(n:Nat):g_.A->Option ee.T:=g_.E n
theorem g_.cW(n:Nat):∀a p,g_.FA n a=some p->dc Tryz.prog 104 (g_.i a) (ee.p p):=gp g_.cut (g_.E n) cfg mixed dB ee.qi (g_.c8 n) Tryz.func104
def g_.via{R:Type}(n:Nat):List AV->(AV->Option R)->Option R:=d_ (g_.FA n) g_.o ee.p
theorem g_.cO{R:Type}(n:Nat)(xs:List AV):cT (R:=R) Tryz.prog 104 xs (g_.via n xs):=c7 g_.oi (λa=>by kernel_rfl) (g_.cW n) xs
abbrev jY.T:=ByteArray × Bool
def jY.p(p:jY.T):AV:=.eC [vs p.1,vb p.2]
def jY.q(x:AV):Option jY.T:=match x with | .eC [.v (.string p0),.v (.bool p1)]=>some (p0,p1) | _=>none
theorem jY.qi:∀x p,jY.q x=some p->x=jY.p p:=by
 intro x p h;unfold jY.q at h;split at h
 ·cases h;rfl
 ·cases h
def jY.C{R:Type}(n:Nat)(f:FuncId)(xs:List AV):(AV->Option R)->Option R:=
 bif Nat.beq f 104 then g_.via n xs else λ_=>none
theorem jY.c8{R:Type}(n:Nat):dt (R:=R) Tryz.prog (jY.C n):=λ_ xs=>cR (g_.cO n xs) (cT.none)
def jY.cut(r:Nat):Option dP:=match r with  | _=>none
def jY.e(n:Nat)(a0 a1:ByteArray):Option (ByteArray × Bool):=
 (g_.F n a0 a1).bind λp1=>
 bif !p1 then(some (a0,false))else(bif decide ((0:Int)<=((a1.size:Nat):Int))&&decide ((((a1.size:Nat):Int):Int)<=((a0.size:Nat):Int))then(let y2:ByteArray:=a0.extract (((a1.size:Nat):Int)).toNat a0.size
 some (y2,true))else none)
def jY.E(n:Nat):g_.A->Option jY.T:=fun(a0,a1)=>jY.e n a0 a1
def jY.F(n:Nat)(a0 a1:ByteArray):Option (ByteArray × Bool):=jY.e n a0 a1
def jY.FA(n:Nat):g_.A->Option jY.T:=jY.E n
theorem jY.cW(n:Nat):∀a p,jY.FA n a=some p->dc Tryz.prog 152 (g_.i a) (jY.p p):=gp jY.cut (jY.E n) cfg mixed dB jY.qi (jY.c8 n) Tryz.func152
def jY.via{R:Type}(n:Nat):List AV->(AV->Option R)->Option R:=d_ (jY.FA n) g_.o jY.p
theorem jY.cO{R:Type}(n:Nat)(xs:List AV):cT (R:=R) Tryz.prog 152 xs (jY.via n xs):=c7 g_.oi (λa=>by kernel_rfl) (jY.cW n) xs
def uc.C{R:Type}(n:Nat)(f:FuncId)(xs:List AV):(AV->Option R)->Option R:=
 bif Nat.beq f 152 then jY.via n xs else λ_=>none
theorem uc.c8{R:Type}(n:Nat):dt (R:=R) Tryz.prog (uc.C n):=λ_ xs=>cR (jY.cO n xs) (cT.none)
def uc.cut(r:Nat):Option dP:=match r with  | _=>none
def uc.e(n:Nat)(a0 a1:ByteArray):Option (ByteArray × Bool):=
 (jY.F n a0 a1).bind λp1=>
 some (p1.1,p1.2)
def uc.E(n:Nat):g_.A->Option jY.T:=fun(a0,a1)=>uc.e n a0 a1
def uc.F(n:Nat)(a0 a1:ByteArray):Option (ByteArray × Bool):=uc.e n a0 a1
def uc.FA(n:Nat):g_.A->Option jY.T:=uc.E n
theorem uc.cW(n:Nat):∀a p,uc.FA n a=some p->dc Tryz.prog 105 (g_.i a) (jY.p p):=gp uc.cut (uc.E n) cfg mixed dB jY.qi (uc.c8 n) Tryz.func105
def uc.via{R:Type}(n:Nat):List AV->(AV->Option R)->Option R:=d_ (uc.FA n) g_.o jY.p
theorem uc.cO{R:Type}(n:Nat)(xs:List AV):cT (R:=R) Tryz.prog 105 xs (uc.via n xs):=c7 g_.oi (λa=>by kernel_rfl) (uc.cW n) xs
def HD.F(n:Nat)(s:ByteArray):Option (Int × Bool):=bif decide (s.size<=281474976710656)then Option.some (kT s.data.toList)else none
theorem HD.cW(n:Nat)(s:ByteArray){p:Int × Bool}(h:HD.F n s=some p):dc Tryz.prog 157 [.v (.string s)] (.eC [.v (.int .i64 p.1),.err p.2]):=by
 unfold HD.F at h;cases hc:(decide (s.size<=281474976710656))with
 | false=>rw[hc]at h;cases h
 | true=>
  rw[hc]at h;cases h;refine gR (fn:=Tryz.f157) Tryz.func157 (by kernel_rfl) (by kernel_rfl) λw F vals hQ hF hl hr=>?_;obtain⟨u0,rfl,h0⟩:=M_ hl hr;obtain rfl:=ll h0;exact ED Tryz.Jw hF s (bj hc) (mG.at hQ.1 rfl) (mG.at hQ.1 rfl)
def HD.via{R:Type}(n:Nat)(ys:List AV):(AV->Option R)->Option R:=match ys with | [.v (.string s)]=>λK=>(HD.F n s).bind λp=>K (.eC [.v (.int .i64 p.1),.err p.2]) | _=>λ_=>none
theorem HD.cO{R:Type}(n:Nat)(ys:List AV):cT (R:=R) Tryz.prog 157 ys (HD.via n ys):=by
 unfold HD.via;split
 ·exact cT.of (λp hp=>(HD.cW n _ hp).cW rfl)
 ·exact cT.none
abbrev kU.T:=Int × Bool
def kU.p(p:kU.T):AV:=.eC [vi p.1,vb p.2]
def kU.q(x:AV):Option kU.T:=match x with | .eC [.v (.int .i64 p0),.v (.bool p1)]=>some (p0,p1) | _=>none
theorem kU.qi:∀x p,kU.q x=some p->x=kU.p p:=by
 intro x p h;unfold kU.q at h;split at h
 ·cases h;rfl
 ·cases h
def kU.C{R:Type}(n:Nat)(f:FuncId)(xs:List AV):(AV->Option R)->Option R:=
 bif Nat.beq f 97 then qR.via n xs else bif Nat.beq f 157 then HD.via n xs else λ_=>none
theorem kU.c8{R:Type}(n:Nat):dt (R:=R) Tryz.prog (kU.C n):=λ_ xs=>cR (qR.cO n xs) (cR (HD.cO n xs) (cT.none))
def kU.cut(r:Nat):Option dP:=match r with  | _=>none
def kU.e(n:Nat)(a0:ByteArray):Option (Int × Bool):=
 (HD.F n a0).bind λp1=>
 bif !p1.2 then(let y2:Bool:=decide (((a0.size:Nat):Int)<=15)
 bif y2 then((qR.F n p1.1).bind λp3=>
 bif p3.toList==a0.toList then(some (p1.1,decide (p1.1>=0)))else(some (p1.1,false)))else(some (p1.1,false)))else(some (p1.1,false))
def kU.E(n:Nat):er.A->Option kU.T:=λa0=>kU.e n a0
def kU.F(n:Nat)(a0:ByteArray):Option (Int × Bool):=kU.e n a0
def kU.FA(n:Nat):er.A->Option kU.T:=kU.E n
theorem kU.cW(n:Nat):∀a p,kU.FA n a=some p->dc Tryz.prog 108 (er.i a) (kU.p p):=gp kU.cut (kU.E n) cfg mixed dB kU.qi (kU.c8 n) Tryz.func108
def kU.via{R:Type}(n:Nat):List AV->(AV->Option R)->Option R:=d_ (kU.FA n) er.o kU.p
theorem kU.cO{R:Type}(n:Nat)(xs:List AV):cT (R:=R) Tryz.prog 108 xs (kU.via n xs):=c7 er.oi (λa=>by kernel_rfl) (kU.cW n) xs
abbrev iM.A:=List AV × ByteArray
def iM.i:iM.A->List AV:=fun(a0,a1)=>[.sl ⟨true,9,false⟩ 1 a0,vs a1]
def iM.o(xs:List AV):Option iM.A:=match xs with | [.sl ⟨true,9,false⟩ 1 a0,.v (.string a1)]=>some (a0,a1) | _=>none
theorem iM.oi:∀xs a,iM.o xs=some a->xs=iM.i a:=by
 intro xs a h;unfold iM.o at h;split at h
 ·cases h;rfl
 ·cases h
inductive iM.Z where
 | z2 (z1:List AV) (z2:ByteArray) (z3 z4:Int)
def iM.C{R:Type}(n:Nat)(f:FuncId)(xs:List AV):(AV->Option R)->Option R:=
 λ_=>none
theorem iM.c8{R:Type}(n:Nat):dt (R:=R) Tryz.prog (iM.C n):=λ_ xs=>cT.none
def iM.cut(r:Nat):Option dP:=match r with | 2=>some ⟨[0,1,7,8],[]⟩ | _=>none
noncomputable def iM.t (z:iM.Z):List Item:=(dL (match z with | .z2 _ _ _ _=>2) 1000 [.code (Tryz.f109.body.getD .skip)]).getD []
def iM.s:iM.Z->St
 | .z2 z1 z2 z3 z4=>⟨fx 19 0 [(0,.sl ⟨true,9,false⟩ 1 z1),(1,vs z2),(7,vi z3),(8,vi z4)],Mem.ofList [],0⟩
def iM.r2(n:Nat)(c:iM.Z->Option Int)(z1:List AV)(z2:ByteArray)(z3 z4:Int):Option Int:=
 bif decide (z4<z3)then(bif decide ((0:Int)<=z4)&&decide (z4<((z1.length:Nat):Int))then(cN ((z1.getD ((z4).toNat) .undef).cells) λh1 r2=>
 df h1 λs3=>
 bif z2.toList==s3.toList then(some z4)else(c (.z2 z1 z2 z3 (IntKind.i64.wrap (z4+1)))))else none)else(some (-1))
def iM.r(n:Nat)(c:iM.Z->Option Int):iM.Z->Option Int
 | .z2 z1 z2 z3 z4=>iM.r2 n c z1 z2 z3 z4
def iM.e(n:Nat)(c:iM.Z->Option Int)(a0:List AV)(a1:ByteArray):Option Int:=
 c (.z2 a0 a1 ((a0.length:Nat):Int) 0)
def iM.E(n:Nat)(c:iM.Z->Option Int):iM.A->Option dU.T:=fun(a0,a1)=>iM.e n c a0 a1
def iM.l(n:Nat):Nat->iM.Z->Option Int:=ez (iM.r n)
def iM.F(n:Nat)(a0:List AV)(a1:ByteArray):Option Int:=iM.e n (iM.l n n) a0 a1
def iM.FA(n:Nat):iM.A->Option dU.T:=iM.E n (iM.l n n)
theorem iM.cW(n:Nat):∀a p,iM.FA n a=some p->dc Tryz.prog 109 (iM.i a) (dU.p p):=lN iM.cut iM.t iM.s (iM.E n) (iM.r n) cfg mixed dB dU.qi (iM.c8 n) Tryz.func109
def iM.via{R:Type}(n:Nat):List AV->(AV->Option R)->Option R:=d_ (iM.FA n) iM.o dU.p
theorem iM.cO{R:Type}(n:Nat)(xs:List AV):cT (R:=R) Tryz.prog 109 xs (iM.via n xs):=c7 iM.oi (λa=>by kernel_rfl) (iM.cW n) xs
def uD.C{R:Type}(n:Nat)(f:FuncId)(xs:List AV):(AV->Option R)->Option R:=
 λ_=>none
theorem uD.c8{R:Type}(n:Nat):dt (R:=R) Tryz.prog (uD.C n):=λ_ xs=>cT.none
def uD.cut(r:Nat):Option dP:=match r with  | _=>none
def uD.e(n:Nat)(a0 a1:ByteArray):Option Bool:=
 let y1:Bool:=decide (((a0.size:Nat):Int)>=((a1.size:Nat):Int))
 bif y1 then(let y2:Int:=IntKind.i64.wrap (((a0.size:Nat):Int) - ((a1.size:Nat):Int))
 bif decide ((0:Int)<=y2)&&decide ((y2:Int)<=((a0.size:Nat):Int))then(let y3:ByteArray:=a0.extract (y2).toNat a0.size
 some (y3.toList==a1.toList))else none)else(some false)
def uD.E(n:Nat):g_.A->Option ee.T:=fun(a0,a1)=>uD.e n a0 a1
def uD.F(n:Nat)(a0 a1:ByteArray):Option Bool:=uD.e n a0 a1
def uD.FA(n:Nat):g_.A->Option ee.T:=uD.E n
theorem uD.cW(n:Nat):∀a p,uD.FA n a=some p->dc Tryz.prog 215 (g_.i a) (ee.p p):=gp uD.cut (uD.E n) cfg mixed dB ee.qi (uD.c8 n) Tryz.func215
def uD.via{R:Type}(n:Nat):List AV->(AV->Option R)->Option R:=d_ (uD.FA n) g_.o ee.p
theorem uD.cO{R:Type}(n:Nat)(xs:List AV):cT (R:=R) Tryz.prog 215 xs (uD.via n xs):=c7 g_.oi (λa=>by kernel_rfl) (uD.cW n) xs
end Go.Proofs.YtnoldakbllfmnaaGreatDoor.Ev
end