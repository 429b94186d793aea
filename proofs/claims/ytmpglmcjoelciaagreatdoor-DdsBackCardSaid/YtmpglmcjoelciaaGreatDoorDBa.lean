import Derived.Test.YtmpglmcjoelciaaGreatDoorDBVc
import Derived.Test.YtmpglmcjoelciaaGreatDoorProg
import Derived.KernelRfl
import Derived.Shelf.Strings.Builder1
import Derived.Shelf.Strings.Builder2
import Derived.Shelf.Strings.Trim
import Derived.Shelf.Small.Utf8
import Derived.Shelf.Small.Strs
import Derived.Shelf.Strings.BuilderF
import Derived.Shelf.Strconv.Atoi
import Derived.Shelf.Strconv.Itoa0
import Derived.Shelf.Strconv.Itoa1
import Derived.Shelf.LaysM
import Derived.Shelf.Strconv.Itoa2
import Derived.Shelf.Strconv.Itoa3
import Derived.Shelf.Strconv.AtoiErrFast
import Derived.Shelf.Strconv.ParseIntEmpty
import Derived.Shelf.Strconv.AtoiFail
import Derived.Shelf.Strconv.Clone
import Derived.Shelf.Strconv.SyntaxError
import Derived.Shelf.LaysC
import Derived.Shelf.Strconv.ToError
import Derived.Shelf.Strconv.Lower
import Derived.Shelf.Strconv.ParseUint10
import Derived.Shelf.Strconv.ParseUint10Empty
import Derived.Shelf.Strconv.ParseUint10Any
import Derived.Shelf.Strconv.ParseInt10
import Derived.Shelf.Strconv.AtoiLong
import Derived.Shelf.Strconv.AtoiInnerAll
import Derived.Shelf.Strconv.RangeError
import Derived.Shelf.Strconv.ToErrorRange
import Derived.Shelf.Strconv.AtoiAll
import Derived.Shelf.Strconv.ErrVarAll
import Derived.Shelf.Strings.Search1
import Derived.Shelf.Strings.Search2
import Derived.Shelf.Strings.Search3
import Derived.Shelf.Strings.Cut
import Derived.Shelf.Strings.Count
import Derived.Shelf.Strings.Shaped
import Derived.Shelf.Strings.Split
import Derived.Shelf.Strings.Replace
import Derived.Shelf.Strings.SplitShaped
import Derived.Shelf.Strings.Runes
import Derived.Shelf.Strings.AsciiSet
import Derived.Shelf.Unicode.DecodeSlow
import Derived.Shelf.Strings.SlTrimAscii
import Derived.PlainAid
import Derived.IntWalk
import Derived.Laws.Strings
import Derived.Lib.AtoiTie
import Derived.Lib.IndexBytes
noncomputable section
namespace Go.Proofs.YtmpglmcjoelciaaGreatDoor.Ev
open Go Go.Proofs Go.Proofs.Ev
set_option linter.unusedVariables false
set_option maxRecDepth 100000
def tabL:List (Option TI):=[
 none,
 Option.some ⟨.other,1,8,false,[.any],[.nilFunc],1⟩,
 Option.some ⟨.int .i64,1,8,false,[(.int .i64)],[.int .i64 0],2⟩,
 Option.some ⟨.int .i64,1,8,false,[(.int .i64)],[.int .i64 0],3⟩,
 Option.some ⟨.bool,1,1,false,[.bool],[.bool false],4⟩,
 Option.some ⟨.int .u8,1,1,false,[(.int .u8)],[.int .u8 0],5⟩,
 none,
 none,
 none,
 Option.some ⟨.string,1,16,false,[.str],[.string ⟨#[]⟩],9⟩,
 none,
 none,
 Option.some ⟨.int .u64,1,8,false,[(.int .u64)],[.int .u64 0],12⟩,
 none,
 none,
 Option.some ⟨.ptr 258,1,8,false,[.any],[.pointer none],15⟩,
 Option.some ⟨.ptr 261,1,8,false,[.any],[.pointer none],16⟩,
 Option.some ⟨.ptr 269,1,8,false,[.any],[.pointer none],17⟩,
 none,
 none,
 Option.some ⟨.iface,1,16,false,[.any],[.nilIface],20⟩,
 Option.some ⟨.int .i32,1,4,false,[(.int .i32)],[.int .i32 0],21⟩,
 Option.some ⟨.other,1,8,false,[.any],[.nilFunc],22⟩,
 Option.some ⟨.slice 9,1,24,false,[(.slice ⟨true,9⟩ 1)],[.slice none 0 0],23⟩,
 Option.some ⟨.int .i64,1,8,false,[(.int .i64)],[.int .i64 0],24⟩,
 none,
 Option.some ⟨.other,1,8,false,[.any],[.nilFunc],26⟩,
 none,
 Option.some ⟨.other,1,8,false,[.any],[.nilFunc],28⟩,
 Option.some ⟨.other,1,8,false,[.any],[.nilFunc],29⟩,
 Option.some ⟨.other,1,8,false,[.any],[.nilFunc],30⟩,
 Option.some ⟨.slice 95,1,24,false,[(.slice ⟨true,95⟩ 3)],[.slice none 0 0],31⟩,
 Option.some ⟨.slice 97,1,24,false,[(.slice ⟨true,97⟩ 4)],[.slice none 0 0],32⟩,
 Option.some ⟨.slice 111,1,24,false,[(.slice ⟨true,111⟩ 2)],[.slice none 0 0],33⟩,
 Option.some ⟨.slice 100,1,24,false,[(.slice ⟨false,100⟩ 2)],[.slice none 0 0],34⟩,
 Option.some ⟨.struct [(9,0),(9,1),(23,2),(31,3),(32,4),(33,5),(4,6),(34,7)],8,160,true,[.str,.str,(.slice ⟨true,9⟩ 1),(.slice ⟨true,95⟩ 3),(.slice ⟨true,97⟩ 4),(.slice ⟨true,111⟩ 2),.bool,(.slice ⟨false,100⟩ 2)],[.string ⟨#[]⟩,.string ⟨#[]⟩,.slice none 0 0,.slice none 0 0,.slice none 0 0,.slice none 0 0,.bool false,.slice none 0 0],35⟩,
 Option.some ⟨.struct [(9,0),(9,1),(23,2),(31,3),(32,4),(33,5),(4,6),(34,7)],8,160,true,[.str,.str,(.slice ⟨true,9⟩ 1),(.slice ⟨true,95⟩ 3),(.slice ⟨true,97⟩ 4),(.slice ⟨true,111⟩ 2),.bool,(.slice ⟨false,100⟩ 2)],[.string ⟨#[]⟩,.string ⟨#[]⟩,.slice none 0 0,.slice none 0 0,.slice none 0 0,.slice none 0 0,.bool false,.slice none 0 0],36⟩,
 Option.some ⟨.other,1,8,false,[.any],[.nilFunc],37⟩,
 none,
 Option.some ⟨.other,1,8,false,[.any],[.nilFunc],39⟩,
 Option.some ⟨.other,1,8,false,[.any],[.nilFunc],40⟩,
 none,
 Option.some ⟨.other,1,8,false,[.any],[.nilFunc],42⟩,
 Option.some ⟨.other,1,8,false,[.any],[.nilFunc],43⟩,
 Option.some ⟨.slice 125,1,24,false,[(.slice ⟨true,125⟩ 4)],[.slice none 0 0],44⟩,
 Option.some ⟨.struct [(9,0),(44,1)],2,40,true,[.str,(.slice ⟨true,125⟩ 4)],[.string ⟨#[]⟩,.slice none 0 0],45⟩,
 Option.some ⟨.struct [(9,0),(44,1)],2,40,true,[.str,(.slice ⟨true,125⟩ 4)],[.string ⟨#[]⟩,.slice none 0 0],46⟩,
 Option.some ⟨.struct [(9,0),(46,1),(33,3),(4,4)],5,88,true,[.str,.str,(.slice ⟨true,125⟩ 4),(.slice ⟨true,111⟩ 2),.bool],[.string ⟨#[]⟩,.string ⟨#[]⟩,.slice none 0 0,.slice none 0 0,.bool false],47⟩,
 Option.some ⟨.struct [(9,0),(46,1),(33,3),(4,4)],5,88,true,[.str,.str,(.slice ⟨true,125⟩ 4),(.slice ⟨true,111⟩ 2),.bool],[.string ⟨#[]⟩,.string ⟨#[]⟩,.slice none 0 0,.slice none 0 0,.bool false],48⟩,
 Option.some ⟨.struct [(4,0),(48,1),(36,6)],14,256,true,[.bool,.str,.str,(.slice ⟨true,125⟩ 4),(.slice ⟨true,111⟩ 2),.bool,.str,.str,(.slice ⟨true,9⟩ 1),(.slice ⟨true,95⟩ 3),(.slice ⟨true,97⟩ 4),(.slice ⟨true,111⟩ 2),.bool,(.slice ⟨false,100⟩ 2)],[.bool false,.string ⟨#[]⟩,.string ⟨#[]⟩,.slice none 0 0,.slice none 0 0,.bool false,.string ⟨#[]⟩,.string ⟨#[]⟩,.slice none 0 0,.slice none 0 0,.slice none 0 0,.slice none 0 0,.bool false,.slice none 0 0],49⟩,
 Option.some ⟨.struct [(4,0),(48,1),(36,6)],14,256,true,[.bool,.str,.str,(.slice ⟨true,125⟩ 4),(.slice ⟨true,111⟩ 2),.bool,.str,.str,(.slice ⟨true,9⟩ 1),(.slice ⟨true,95⟩ 3),(.slice ⟨true,97⟩ 4),(.slice ⟨true,111⟩ 2),.bool,(.slice ⟨false,100⟩ 2)],[.bool false,.string ⟨#[]⟩,.string ⟨#[]⟩,.slice none 0 0,.slice none 0 0,.bool false,.string ⟨#[]⟩,.string ⟨#[]⟩,.slice none 0 0,.slice none 0 0,.slice none 0 0,.slice none 0 0,.bool false,.slice none 0 0],50⟩,
 none,
 Option.some ⟨.other,1,8,false,[.any],[.nilFunc],52⟩,
 Option.some ⟨.other,1,8,false,[.any],[.nilFunc],53⟩,
 none,
 Option.some ⟨.other,1,8,false,[.any],[.nilFunc],55⟩,
 Option.some ⟨.other,1,8,false,[.any],[.nilFunc],56⟩,
 Option.some ⟨.other,1,8,false,[.any],[.nilFunc],57⟩,
 Option.some ⟨.other,1,8,false,[.any],[.nilFunc],58⟩,
 Option.some ⟨.other,1,8,false,[.any],[.nilFunc],59⟩,
 Option.some ⟨.other,1,8,false,[.any],[.nilFunc],60⟩,
 Option.some ⟨.other,1,8,false,[.any],[.nilFunc],61⟩,
 Option.some ⟨.struct [(3,0),(3,1),(3,2)],3,24,true,[(.int .i64),(.int .i64),(.int .i64)],[.int .i64 0,.int .i64 0,.int .i64 0],62⟩,
 Option.some ⟨.struct [(3,0),(3,1),(3,2)],3,24,true,[(.int .i64),(.int .i64),(.int .i64)],[.int .i64 0,.int .i64 0,.int .i64 0],63⟩,
 none,
 Option.some ⟨.other,1,8,false,[.any],[.nilFunc],65⟩,
 none,
 Option.some ⟨.other,1,8,false,[.any],[.nilFunc],67⟩,
 Option.some ⟨.other,1,8,false,[.any],[.nilFunc],68⟩,
 none,
 Option.some ⟨.other,1,8,false,[.any],[.nilFunc],70⟩,
 Option.some ⟨.other,1,8,false,[.any],[.nilFunc],71⟩,
 Option.some ⟨.other,1,8,false,[.any],[.nilFunc],72⟩,
 Option.some ⟨.other,1,8,false,[.any],[.nilFunc],73⟩,
 Option.some ⟨.slice 48,1,24,false,[(.slice ⟨false,48⟩ 5)],[.slice none 0 0],74⟩,
 Option.some ⟨.other,1,8,false,[.any],[.nilFunc],75⟩,
 none,
 Option.some ⟨.other,1,8,false,[.any],[.nilFunc],77⟩,
 Option.some ⟨.other,1,8,false,[.any],[.nilFunc],78⟩,
 Option.some ⟨.other,1,8,false,[.any],[.nilFunc],79⟩,
 Option.some ⟨.other,1,8,false,[.any],[.nilFunc],80⟩,
 Option.some ⟨.other,1,8,false,[.any],[.nilFunc],81⟩,
 Option.some ⟨.other,1,8,false,[.any],[.nilFunc],82⟩,
 Option.some ⟨.other,1,8,false,[.any],[.nilFunc],83⟩,
 Option.some ⟨.other,1,8,false,[.any],[.nilFunc],84⟩,
 Option.some ⟨.other,1,8,false,[.any],[.nilFunc],85⟩,
 Option.some ⟨.other,1,8,false,[.any],[.nilFunc],86⟩,
 Option.some ⟨.other,1,8,false,[.any],[.nilFunc],87⟩,
 Option.some ⟨.other,1,8,false,[.any],[.nilFunc],88⟩,
 Option.some ⟨.other,1,8,false,[.any],[.nilFunc],89⟩,
 Option.some ⟨.other,1,8,false,[.any],[.nilFunc],90⟩,
 none,
 Option.some ⟨.other,1,8,false,[.any],[.nilFunc],92⟩,
 Option.some ⟨.other,1,8,false,[.any],[.nilFunc],93⟩,
 Option.some ⟨.struct [(9,0),(3,1),(9,2)],3,40,true,[.str,(.int .i64),.str],[.string ⟨#[]⟩,.int .i64 0,.string ⟨#[]⟩],94⟩,
 Option.some ⟨.struct [(9,0),(3,1),(9,2)],3,40,true,[.str,(.int .i64),.str],[.string ⟨#[]⟩,.int .i64 0,.string ⟨#[]⟩],95⟩,
 Option.some ⟨.struct [(3,0),(9,1),(3,2),(9,3)],4,48,true,[(.int .i64),.str,(.int .i64),.str],[.int .i64 0,.string ⟨#[]⟩,.int .i64 0,.string ⟨#[]⟩],96⟩,
 Option.some ⟨.struct [(3,0),(9,1),(3,2),(9,3)],4,48,true,[(.int .i64),.str,(.int .i64),.str],[.int .i64 0,.string ⟨#[]⟩,.int .i64 0,.string ⟨#[]⟩],97⟩,
 Option.some ⟨.slice 104,1,24,false,[(.slice ⟨true,104⟩ 4)],[.slice none 0 0],98⟩,
 Option.some ⟨.struct [(4,0),(98,1)],2,32,true,[.bool,(.slice ⟨true,104⟩ 4)],[.bool false,.slice none 0 0],99⟩,
 Option.some ⟨.struct [(4,0),(98,1)],2,32,true,[.bool,(.slice ⟨true,104⟩ 4)],[.bool false,.slice none 0 0],100⟩,
 Option.some ⟨.struct [(3,0),(9,1)],2,24,true,[(.int .i64),.str],[.int .i64 0,.string ⟨#[]⟩],101⟩,
 Option.some ⟨.struct [(3,0),(9,1)],2,24,true,[(.int .i64),.str],[.int .i64 0,.string ⟨#[]⟩],102⟩,
 Option.some ⟨.struct [(9,0),(3,1),(102,2)],4,48,true,[.str,(.int .i64),(.int .i64),.str],[.string ⟨#[]⟩,.int .i64 0,.int .i64 0,.string ⟨#[]⟩],103⟩,
 Option.some ⟨.struct [(9,0),(3,1),(102,2)],4,48,true,[.str,(.int .i64),(.int .i64),.str],[.string ⟨#[]⟩,.int .i64 0,.int .i64 0,.string ⟨#[]⟩],104⟩,
 Option.some ⟨.other,1,8,false,[.any],[.nilFunc],105⟩,
 Option.some ⟨.other,1,8,false,[.any],[.nilFunc],106⟩,
 Option.some ⟨.slice 39,1,24,false,[(.slice ⟨false,39⟩ 1)],[.slice none 0 0],107⟩,
 Option.some ⟨.other,1,8,false,[.any],[.nilFunc],108⟩,
 Option.some ⟨.other,1,8,false,[.any],[.nilFunc],109⟩,
 Option.some ⟨.struct [(9,0),(4,1)],2,24,true,[.str,.bool],[.string ⟨#[]⟩,.bool false],110⟩,
 Option.some ⟨.struct [(9,0),(4,1)],2,24,true,[.str,.bool],[.string ⟨#[]⟩,.bool false],111⟩,
 Option.some ⟨.other,1,8,false,[.any],[.nilFunc],112⟩,
 Option.some ⟨.ptr 115,1,8,false,[.any],[.pointer none],113⟩,
 Option.some ⟨.struct [(50,0),(3,14)],15,264,true,[.bool,.str,.str,(.slice ⟨true,125⟩ 4),(.slice ⟨true,111⟩ 2),.bool,.str,.str,(.slice ⟨true,9⟩ 1),(.slice ⟨true,95⟩ 3),(.slice ⟨true,97⟩ 4),(.slice ⟨true,111⟩ 2),.bool,(.slice ⟨false,100⟩ 2),(.int .i64)],[.bool false,.string ⟨#[]⟩,.string ⟨#[]⟩,.slice none 0 0,.slice none 0 0,.bool false,.string ⟨#[]⟩,.string ⟨#[]⟩,.slice none 0 0,.slice none 0 0,.slice none 0 0,.slice none 0 0,.bool false,.slice none 0 0,.int .i64 0],114⟩,
 Option.some ⟨.struct [(50,0),(3,14)],15,264,true,[.bool,.str,.str,(.slice ⟨true,125⟩ 4),(.slice ⟨true,111⟩ 2),.bool,.str,.str,(.slice ⟨true,9⟩ 1),(.slice ⟨true,95⟩ 3),(.slice ⟨true,97⟩ 4),(.slice ⟨true,111⟩ 2),.bool,(.slice ⟨false,100⟩ 2),(.int .i64)],[.bool false,.string ⟨#[]⟩,.string ⟨#[]⟩,.slice none 0 0,.slice none 0 0,.bool false,.string ⟨#[]⟩,.string ⟨#[]⟩,.slice none 0 0,.slice none 0 0,.slice none 0 0,.slice none 0 0,.bool false,.slice none 0 0,.int .i64 0],115⟩,
 Option.some ⟨.other,1,8,false,[.any],[.nilFunc],116⟩,
 Option.some ⟨.other,1,8,false,[.any],[.nilFunc],117⟩,
 Option.some ⟨.ptr 50,1,8,false,[.any],[.pointer none],118⟩,
 Option.some ⟨.other,1,8,false,[.any],[.nilFunc],119⟩,
 Option.some ⟨.other,1,8,false,[.any],[.nilFunc],120⟩,
 Option.some ⟨.other,1,8,false,[.any],[.nilFunc],121⟩,
 Option.some ⟨.other,1,8,false,[.any],[.nilFunc],122⟩,
 Option.some ⟨.other,1,8,false,[.any],[.nilFunc],123⟩,
 Option.some ⟨.struct [(9,0),(63,1)],4,40,true,[.str,(.int .i64),(.int .i64),(.int .i64)],[.string ⟨#[]⟩,.int .i64 0,.int .i64 0,.int .i64 0],124⟩,
 Option.some ⟨.struct [(9,0),(63,1)],4,40,true,[.str,(.int .i64),(.int .i64),(.int .i64)],[.string ⟨#[]⟩,.int .i64 0,.int .i64 0,.int .i64 0],125⟩,
 Option.some ⟨.other,1,8,false,[.any],[.nilFunc],126⟩,
 Option.some ⟨.other,1,8,false,[.any],[.nilFunc],127⟩,
 none,
 Option.some ⟨.other,1,8,false,[.any],[.nilFunc],129⟩,
 Option.some ⟨.other,1,8,false,[.any],[.nilFunc],130⟩,
 Option.some ⟨.other,1,8,false,[.any],[.nilFunc],131⟩,
 Option.some ⟨.other,1,8,false,[.any],[.nilFunc],132⟩,
 Option.some ⟨.slice 3,1,24,false,[(.slice ⟨true,3⟩ 1)],[.slice none 0 0],133⟩,
 Option.some ⟨.other,1,8,false,[.any],[.nilFunc],134⟩,
 Option.some ⟨.other,1,8,false,[.any],[.nilFunc],135⟩,
 Option.some ⟨.other,1,8,false,[.any],[.nilFunc],136⟩,
 none,
 Option.some ⟨.other,1,8,false,[.any],[.nilFunc],138⟩,
 Option.some ⟨.other,1,8,false,[.any],[.nilFunc],139⟩,
 Option.some ⟨.other,1,8,false,[.any],[.nilFunc],140⟩,
 Option.some ⟨.other,1,8,false,[.any],[.nilFunc],141⟩,
 Option.some ⟨.other,1,8,false,[.any],[.nilFunc],142⟩,
 Option.some ⟨.other,1,8,false,[.any],[.nilFunc],143⟩,
 Option.some ⟨.slice 24,1,24,false,[(.slice ⟨true,24⟩ 1)],[.slice none 0 0],144⟩,
 Option.some ⟨.slice 5,1,24,false,[(.slice ⟨true,5⟩ 1)],[.slice none 0 0],145⟩,
 Option.some ⟨.other,1,8,false,[.any],[.nilFunc],146⟩,
 Option.some ⟨.other,1,8,false,[.any],[.nilFunc],147⟩,
 Option.some ⟨.other,1,8,false,[.any],[.nilFunc],148⟩,
 Option.some ⟨.slice 4,1,24,false,[(.slice ⟨true,4⟩ 1)],[.slice none 0 0],149⟩,
 Option.some ⟨.other,1,8,false,[.any],[.nilFunc],150⟩,
 Option.some ⟨.other,1,8,false,[.any],[.nilFunc],151⟩,
 Option.some ⟨.other,1,8,false,[.any],[.nilFunc],152⟩,
 Option.some ⟨.other,1,8,false,[.any],[.nilFunc],153⟩,
 Option.some ⟨.other,1,8,false,[.any],[.nilFunc],154⟩,
 Option.some ⟨.slice 43,1,24,false,[(.slice ⟨false,43⟩ 1)],[.slice none 0 0],155⟩,
 Option.some ⟨.other,1,8,false,[.any],[.nilFunc],156⟩,
 Option.some ⟨.other,1,8,false,[.any],[.nilFunc],157⟩,
 Option.some ⟨.other,1,8,false,[.any],[.nilFunc],158⟩,
 Option.some ⟨.other,1,8,false,[.any],[.nilFunc],159⟩,
 Option.some ⟨.other,1,8,false,[.any],[.nilFunc],160⟩,
 Option.some ⟨.other,1,8,false,[.any],[.nilFunc],161⟩,
 Option.some ⟨.other,1,8,false,[.any],[.nilFunc],162⟩,
 Option.some ⟨.other,1,8,false,[.any],[.nilFunc],163⟩,
 none,
 Option.some ⟨.other,1,8,false,[.any],[.nilFunc],165⟩,
 Option.some ⟨.other,1,8,false,[.any],[.nilFunc],166⟩,
 Option.some ⟨.other,1,8,false,[.any],[.nilFunc],167⟩,
 Option.some ⟨.other,1,8,false,[.any],[.nilFunc],168⟩,
 Option.some ⟨.other,1,8,false,[.any],[.nilFunc],169⟩,
 Option.some ⟨.other,1,8,false,[.any],[.nilFunc],170⟩,
 Option.some ⟨.other,1,8,false,[.any],[.nilFunc],171⟩,
 Option.some ⟨.other,1,8,false,[.any],[.nilFunc],172⟩,
 Option.some ⟨.other,1,8,false,[.any],[.nilFunc],173⟩,
 Option.some ⟨.other,1,8,false,[.any],[.nilFunc],174⟩,
 none,
 Option.some ⟨.other,1,8,false,[.any],[.nilFunc],176⟩,
 Option.some ⟨.other,1,8,false,[.any],[.nilFunc],177⟩,
 Option.some ⟨.other,1,8,false,[.any],[.nilFunc],178⟩,
 Option.some ⟨.iface,1,16,false,[.any],[.nilIface],179⟩,
 Option.some ⟨.iface,1,16,false,[.any],[.nilIface],180⟩,
 none,
 Option.some ⟨.other,1,8,false,[.any],[.nilFunc],182⟩,
 Option.some ⟨.other,1,8,false,[.any],[.nilFunc],183⟩,
 Option.some ⟨.other,1,8,false,[.any],[.nilFunc],184⟩,
 Option.some ⟨.other,1,8,false,[.any],[.nilFunc],185⟩,
 Option.some ⟨.other,1,8,false,[.any],[.nilFunc],186⟩,
 Option.some ⟨.other,1,8,false,[.any],[.nilFunc],187⟩,
 Option.some ⟨.other,1,8,false,[.any],[.nilFunc],188⟩,
 Option.some ⟨.int .u64,1,8,false,[(.int .u64)],[.int .u64 0],189⟩,
 Option.some ⟨.struct [(3,0),(3,1)],2,16,true,[(.int .i64),(.int .i64)],[.int .i64 0,.int .i64 0],190⟩,
 Option.some ⟨.struct [(3,0),(3,1)],2,16,true,[(.int .i64),(.int .i64)],[.int .i64 0,.int .i64 0],191⟩,
 none,
 Option.some ⟨.other,1,8,false,[.any],[.nilFunc],193⟩,
 Option.some ⟨.arr 24 5,24,24,true,[(.int .u8),(.int .u8),(.int .u8),(.int .u8),(.int .u8),(.int .u8),(.int .u8),(.int .u8),(.int .u8),(.int .u8),(.int .u8),(.int .u8),(.int .u8),(.int .u8),(.int .u8),(.int .u8),(.int .u8),(.int .u8),(.int .u8),(.int .u8),(.int .u8),(.int .u8),(.int .u8),(.int .u8)],[.int .u8 0,.int .u8 0,.int .u8 0,.int .u8 0,.int .u8 0,.int .u8 0,.int .u8 0,.int .u8 0,.int .u8 0,.int .u8 0,.int .u8 0,.int .u8 0,.int .u8 0,.int .u8 0,.int .u8 0,.int .u8 0,.int .u8 0,.int .u8 0,.int .u8 0,.int .u8 0,.int .u8 0,.int .u8 0,.int .u8 0,.int .u8 0],194⟩,
 Option.some ⟨.int .u64,1,8,false,[(.int .u64)],[.int .u64 0],195⟩,
 Option.some ⟨.other,1,8,false,[.any],[.nilFunc],196⟩,
 Option.some ⟨.other,1,8,false,[.any],[.nilFunc],197⟩,
 none,
 Option.some ⟨.other,1,8,false,[.any],[.nilFunc],199⟩,
 Option.some ⟨.ptr 202,1,8,false,[.any],[.pointer none],200⟩,
 Option.some ⟨.struct [(200,0),(145,1)],2,32,true,[.any,(.slice ⟨true,5⟩ 1)],[.pointer none,.slice none 0 0],201⟩,
 Option.some ⟨.struct [(200,0),(145,1)],2,32,true,[.any,(.slice ⟨true,5⟩ 1)],[.pointer none,.slice none 0 0],202⟩,
 Option.some ⟨.other,1,8,false,[.any],[.nilFunc],203⟩,
 none,
 Option.some ⟨.other,1,8,false,[.any],[.nilFunc],205⟩,
 Option.some ⟨.other,1,8,false,[.any],[.nilFunc],206⟩,
 Option.some ⟨.other,1,8,false,[.any],[.nilFunc],207⟩,
 Option.some ⟨.int .u32,1,4,false,[(.int .u32)],[.int .u32 0],208⟩,
 none,
 Option.some ⟨.other,1,8,false,[.any],[.nilFunc],210⟩,
 none,
 Option.some ⟨.other,1,8,false,[.any],[.nilFunc],212⟩,
 none,
 Option.some ⟨.other,1,8,false,[.any],[.nilFunc],214⟩,
 Option.some ⟨.other,1,8,false,[.any],[.nilFunc],215⟩,
 Option.some ⟨.arr 20 195,20,160,true,[(.int .u64),(.int .u64),(.int .u64),(.int .u64),(.int .u64),(.int .u64),(.int .u64),(.int .u64),(.int .u64),(.int .u64),(.int .u64),(.int .u64),(.int .u64),(.int .u64),(.int .u64),(.int .u64),(.int .u64),(.int .u64),(.int .u64),(.int .u64)],[.int .u64 0,.int .u64 0,.int .u64 0,.int .u64 0,.int .u64 0,.int .u64 0,.int .u64 0,.int .u64 0,.int .u64 0,.int .u64 0,.int .u64 0,.int .u64 0,.int .u64 0,.int .u64 0,.int .u64 0,.int .u64 0,.int .u64 0,.int .u64 0,.int .u64 0,.int .u64 0],216⟩,
 Option.some ⟨.arr 65 5,65,65,true,[(.int .u8),(.int .u8),(.int .u8),(.int .u8),(.int .u8),(.int .u8),(.int .u8),(.int .u8),(.int .u8),(.int .u8),(.int .u8),(.int .u8),(.int .u8),(.int .u8),(.int .u8),(.int .u8),(.int .u8),(.int .u8),(.int .u8),(.int .u8),(.int .u8),(.int .u8),(.int .u8),(.int .u8),(.int .u8),(.int .u8),(.int .u8),(.int .u8),(.int .u8),(.int .u8),(.int .u8),(.int .u8),(.int .u8),(.int .u8),(.int .u8),(.int .u8),(.int .u8),(.int .u8),(.int .u8),(.int .u8),(.int .u8),(.int .u8),(.int .u8),(.int .u8),(.int .u8),(.int .u8),(.int .u8),(.int .u8),(.int .u8),(.int .u8),(.int .u8),(.int .u8),(.int .u8),(.int .u8),(.int .u8),(.int .u8),(.int .u8),(.int .u8),(.int .u8),(.int .u8),(.int .u8),(.int .u8),(.int .u8),(.int .u8),(.int .u8)],[.int .u8 0,.int .u8 0,.int .u8 0,.int .u8 0,.int .u8 0,.int .u8 0,.int .u8 0,.int .u8 0,.int .u8 0,.int .u8 0,.int .u8 0,.int .u8 0,.int .u8 0,.int .u8 0,.int .u8 0,.int .u8 0,.int .u8 0,.int .u8 0,.int .u8 0,.int .u8 0,.int .u8 0,.int .u8 0,.int .u8 0,.int .u8 0,.int .u8 0,.int .u8 0,.int .u8 0,.int .u8 0,.int .u8 0,.int .u8 0,.int .u8 0,.int .u8 0,.int .u8 0,.int .u8 0,.int .u8 0,.int .u8 0,.int .u8 0,.int .u8 0,.int .u8 0,.int .u8 0,.int .u8 0,.int .u8 0,.int .u8 0,.int .u8 0,.int .u8 0,.int .u8 0,.int .u8 0,.int .u8 0,.int .u8 0,.int .u8 0,.int .u8 0,.int .u8 0,.int .u8 0,.int .u8 0,.int .u8 0,.int .u8 0,.int .u8 0,.int .u8 0,.int .u8 0,.int .u8 0,.int .u8 0,.int .u8 0,.int .u8 0,.int .u8 0,.int .u8 0],217⟩,
 Option.some ⟨.other,1,8,false,[.any],[.nilFunc],218⟩,
 Option.some ⟨.ptr 5,1,8,false,[.any],[.pointer none],219⟩,
 none,
 none,
 Option.some ⟨.other,1,8,false,[.any],[.nilFunc],222⟩,
 Option.some ⟨.ptr 245,1,8,false,[.any],[.pointer none],223⟩,
 Option.some ⟨.other,1,8,false,[.any],[.nilFunc],224⟩,
 Option.some ⟨.other,1,8,false,[.any],[.nilFunc],225⟩,
 Option.some ⟨.other,1,8,false,[.any],[.nilFunc],226⟩,
 Option.some ⟨.other,1,8,false,[.any],[.nilFunc],227⟩,
 Option.some ⟨.arr 256 4,256,256,true,[.bool,.bool,.bool,.bool,.bool,.bool,.bool,.bool,.bool,.bool,.bool,.bool,.bool,.bool,.bool,.bool,.bool,.bool,.bool,.bool,.bool,.bool,.bool,.bool,.bool,.bool,.bool,.bool,.bool,.bool,.bool,.bool,.bool,.bool,.bool,.bool,.bool,.bool,.bool,.bool,.bool,.bool,.bool,.bool,.bool,.bool,.bool,.bool,.bool,.bool,.bool,.bool,.bool,.bool,.bool,.bool,.bool,.bool,.bool,.bool,.bool,.bool,.bool,.bool,.bool,.bool,.bool,.bool,.bool,.bool,.bool,.bool,.bool,.bool,.bool,.bool,.bool,.bool,.bool,.bool,.bool,.bool,.bool,.bool,.bool,.bool,.bool,.bool,.bool,.bool,.bool,.bool,.bool,.bool,.bool,.bool,.bool,.bool,.bool,.bool,.bool,.bool,.bool,.bool,.bool,.bool,.bool,.bool,.bool,.bool,.bool,.bool,.bool,.bool,.bool,.bool,.bool,.bool,.bool,.bool,.bool,.bool,.bool,.bool,.bool,.bool,.bool,.bool,.bool,.bool,.bool,.bool,.bool,.bool,.bool,.bool,.bool,.bool,.bool,.bool,.bool,.bool,.bool,.bool,.bool,.bool,.bool,.bool,.bool,.bool,.bool,.bool,.bool,.bool,.bool,.bool,.bool,.bool,.bool,.bool,.bool,.bool,.bool,.bool,.bool,.bool,.bool,.bool,.bool,.bool,.bool,.bool,.bool,.bool,.bool,.bool,.bool,.bool,.bool,.bool,.bool,.bool,.bool,.bool,.bool,.bool,.bool,.bool,.bool,.bool,.bool,.bool,.bool,.bool,.bool,.bool,.bool,.bool,.bool,.bool,.bool,.bool,.bool,.bool,.bool,.bool,.bool,.bool,.bool,.bool,.bool,.bool,.bool,.bool,.bool,.bool,.bool,.bool,.bool,.bool,.bool,.bool,.bool,.bool,.bool,.bool,.bool,.bool,.bool,.bool,.bool,.bool,.bool,.bool,.bool,.bool,.bool,.bool,.bool,.bool,.bool,.bool,.bool,.bool,.bool,.bool,.bool,.bool,.bool,.bool,.bool,.bool,.bool,.bool,.bool,.bool],[.bool false,.bool false,.bool false,.bool false,.bool false,.bool false,.bool false,.bool false,.bool false,.bool false,.bool false,.bool false,.bool false,.bool false,.bool false,.bool false,.bool false,.bool false,.bool false,.bool false,.bool false,.bool false,.bool false,.bool false,.bool false,.bool false,.bool false,.bool false,.bool false,.bool false,.bool false,.bool false,.bool false,.bool false,.bool false,.bool false,.bool false,.bool false,.bool false,.bool false,.bool false,.bool false,.bool false,.bool false,.bool false,.bool false,.bool false,.bool false,.bool false,.bool false,.bool false,.bool false,.bool false,.bool false,.bool false,.bool false,.bool false,.bool false,.bool false,.bool false,.bool false,.bool false,.bool false,.bool false,.bool false,.bool false,.bool false,.bool false,.bool false,.bool false,.bool false,.bool false,.bool false,.bool false,.bool false,.bool false,.bool false,.bool false,.bool false,.bool false,.bool false,.bool false,.bool false,.bool false,.bool false,.bool false,.bool false,.bool false,.bool false,.bool false,.bool false,.bool false,.bool false,.bool false,.bool false,.bool false,.bool false,.bool false,.bool false,.bool false,.bool false,.bool false,.bool false,.bool false,.bool false,.bool false,.bool false,.bool false,.bool false,.bool false,.bool false,.bool false,.bool false,.bool false,.bool false,.bool false,.bool false,.bool false,.bool false,.bool false,.bool false,.bool false,.bool false,.bool false,.bool false,.bool false,.bool false,.bool false,.bool false,.bool false,.bool false,.bool false,.bool false,.bool false,.bool false,.bool false,.bool false,.bool false,.bool false,.bool false,.bool false,.bool false,.bool false,.bool false,.bool false,.bool false,.bool false,.bool false,.bool false,.bool false,.bool false,.bool false,.bool false,.bool false,.bool false,.bool false,.bool false,.bool false,.bool false,.bool false,.bool false,.bool false,.bool false,.bool false,.bool false,.bool false,.bool false,.bool false,.bool false,.bool false,.bool false,.bool false,.bool false,.bool false,.bool false,.bool false,.bool false,.bool false,.bool false,.bool false,.bool false,.bool false,.bool false,.bool false,.bool false,.bool false,.bool false,.bool false,.bool false,.bool false,.bool false,.bool false,.bool false,.bool false,.bool false,.bool false,.bool false,.bool false,.bool false,.bool false,.bool false,.bool false,.bool false,.bool false,.bool false,.bool false,.bool false,.bool false,.bool false,.bool false,.bool false,.bool false,.bool false,.bool false,.bool false,.bool false,.bool false,.bool false,.bool false,.bool false,.bool false,.bool false,.bool false,.bool false,.bool false,.bool false,.bool false,.bool false,.bool false,.bool false,.bool false,.bool false,.bool false,.bool false,.bool false,.bool false,.bool false,.bool false,.bool false,.bool false,.bool false,.bool false,.bool false,.bool false,.bool false,.bool false,.bool false,.bool false,.bool false,.bool false,.bool false,.bool false,.bool false,.bool false,.bool false,.bool false],228⟩,
 Option.some ⟨.arr 256 4,256,256,true,[.bool,.bool,.bool,.bool,.bool,.bool,.bool,.bool,.bool,.bool,.bool,.bool,.bool,.bool,.bool,.bool,.bool,.bool,.bool,.bool,.bool,.bool,.bool,.bool,.bool,.bool,.bool,.bool,.bool,.bool,.bool,.bool,.bool,.bool,.bool,.bool,.bool,.bool,.bool,.bool,.bool,.bool,.bool,.bool,.bool,.bool,.bool,.bool,.bool,.bool,.bool,.bool,.bool,.bool,.bool,.bool,.bool,.bool,.bool,.bool,.bool,.bool,.bool,.bool,.bool,.bool,.bool,.bool,.bool,.bool,.bool,.bool,.bool,.bool,.bool,.bool,.bool,.bool,.bool,.bool,.bool,.bool,.bool,.bool,.bool,.bool,.bool,.bool,.bool,.bool,.bool,.bool,.bool,.bool,.bool,.bool,.bool,.bool,.bool,.bool,.bool,.bool,.bool,.bool,.bool,.bool,.bool,.bool,.bool,.bool,.bool,.bool,.bool,.bool,.bool,.bool,.bool,.bool,.bool,.bool,.bool,.bool,.bool,.bool,.bool,.bool,.bool,.bool,.bool,.bool,.bool,.bool,.bool,.bool,.bool,.bool,.bool,.bool,.bool,.bool,.bool,.bool,.bool,.bool,.bool,.bool,.bool,.bool,.bool,.bool,.bool,.bool,.bool,.bool,.bool,.bool,.bool,.bool,.bool,.bool,.bool,.bool,.bool,.bool,.bool,.bool,.bool,.bool,.bool,.bool,.bool,.bool,.bool,.bool,.bool,.bool,.bool,.bool,.bool,.bool,.bool,.bool,.bool,.bool,.bool,.bool,.bool,.bool,.bool,.bool,.bool,.bool,.bool,.bool,.bool,.bool,.bool,.bool,.bool,.bool,.bool,.bool,.bool,.bool,.bool,.bool,.bool,.bool,.bool,.bool,.bool,.bool,.bool,.bool,.bool,.bool,.bool,.bool,.bool,.bool,.bool,.bool,.bool,.bool,.bool,.bool,.bool,.bool,.bool,.bool,.bool,.bool,.bool,.bool,.bool,.bool,.bool,.bool,.bool,.bool,.bool,.bool,.bool,.bool,.bool,.bool,.bool,.bool,.bool,.bool,.bool,.bool,.bool,.bool,.bool,.bool],[.bool false,.bool false,.bool false,.bool false,.bool false,.bool false,.bool false,.bool false,.bool false,.bool false,.bool false,.bool false,.bool false,.bool false,.bool false,.bool false,.bool false,.bool false,.bool false,.bool false,.bool false,.bool false,.bool false,.bool false,.bool false,.bool false,.bool false,.bool false,.bool false,.bool false,.bool false,.bool false,.bool false,.bool false,.bool false,.bool false,.bool false,.bool false,.bool false,.bool false,.bool false,.bool false,.bool false,.bool false,.bool false,.bool false,.bool false,.bool false,.bool false,.bool false,.bool false,.bool false,.bool false,.bool false,.bool false,.bool false,.bool false,.bool false,.bool false,.bool false,.bool false,.bool false,.bool false,.bool false,.bool false,.bool false,.bool false,.bool false,.bool false,.bool false,.bool false,.bool false,.bool false,.bool false,.bool false,.bool false,.bool false,.bool false,.bool false,.bool false,.bool false,.bool false,.bool false,.bool false,.bool false,.bool false,.bool false,.bool false,.bool false,.bool false,.bool false,.bool false,.bool false,.bool false,.bool false,.bool false,.bool false,.bool false,.bool false,.bool false,.bool false,.bool false,.bool false,.bool false,.bool false,.bool false,.bool false,.bool false,.bool false,.bool false,.bool false,.bool false,.bool false,.bool false,.bool false,.bool false,.bool false,.bool false,.bool false,.bool false,.bool false,.bool false,.bool false,.bool false,.bool false,.bool false,.bool false,.bool false,.bool false,.bool false,.bool false,.bool false,.bool false,.bool false,.bool false,.bool false,.bool false,.bool false,.bool false,.bool false,.bool false,.bool false,.bool false,.bool false,.bool false,.bool false,.bool false,.bool false,.bool false,.bool false,.bool false,.bool false,.bool false,.bool false,.bool false,.bool false,.bool false,.bool false,.bool false,.bool false,.bool false,.bool false,.bool false,.bool false,.bool false,.bool false,.bool false,.bool false,.bool false,.bool false,.bool false,.bool false,.bool false,.bool false,.bool false,.bool false,.bool false,.bool false,.bool false,.bool false,.bool false,.bool false,.bool false,.bool false,.bool false,.bool false,.bool false,.bool false,.bool false,.bool false,.bool false,.bool false,.bool false,.bool false,.bool false,.bool false,.bool false,.bool false,.bool false,.bool false,.bool false,.bool false,.bool false,.bool false,.bool false,.bool false,.bool false,.bool false,.bool false,.bool false,.bool false,.bool false,.bool false,.bool false,.bool false,.bool false,.bool false,.bool false,.bool false,.bool false,.bool false,.bool false,.bool false,.bool false,.bool false,.bool false,.bool false,.bool false,.bool false,.bool false,.bool false,.bool false,.bool false,.bool false,.bool false,.bool false,.bool false,.bool false,.bool false,.bool false,.bool false,.bool false,.bool false,.bool false,.bool false,.bool false,.bool false,.bool false,.bool false,.bool false,.bool false,.bool false,.bool false,.bool false,.bool false,.bool false],229⟩,
 none,
 Option.some ⟨.other,1,8,false,[.any],[.nilFunc],231⟩,
 Option.some ⟨.other,1,8,false,[.any],[.nilFunc],232⟩,
 Option.some ⟨.ptr 229,1,8,false,[.any],[.pointer none],233⟩,
 Option.some ⟨.other,1,8,false,[.any],[.nilFunc],234⟩,
 none,
 Option.some ⟨.other,1,8,false,[.any],[.nilFunc],236⟩,
 Option.some ⟨.other,1,8,false,[.any],[.nilFunc],237⟩,
 Option.some ⟨.arr 256 5,256,256,true,[(.int .u8),(.int .u8),(.int .u8),(.int .u8),(.int .u8),(.int .u8),(.int .u8),(.int .u8),(.int .u8),(.int .u8),(.int .u8),(.int .u8),(.int .u8),(.int .u8),(.int .u8),(.int .u8),(.int .u8),(.int .u8),(.int .u8),(.int .u8),(.int .u8),(.int .u8),(.int .u8),(.int .u8),(.int .u8),(.int .u8),(.int .u8),(.int .u8),(.int .u8),(.int .u8),(.int .u8),(.int .u8),(.int .u8),(.int .u8),(.int .u8),(.int .u8),(.int .u8),(.int .u8),(.int .u8),(.int .u8),(.int .u8),(.int .u8),(.int .u8),(.int .u8),(.int .u8),(.int .u8),(.int .u8),(.int .u8),(.int .u8),(.int .u8),(.int .u8),(.int .u8),(.int .u8),(.int .u8),(.int .u8),(.int .u8),(.int .u8),(.int .u8),(.int .u8),(.int .u8),(.int .u8),(.int .u8),(.int .u8),(.int .u8),(.int .u8),(.int .u8),(.int .u8),(.int .u8),(.int .u8),(.int .u8),(.int .u8),(.int .u8),(.int .u8),(.int .u8),(.int .u8),(.int .u8),(.int .u8),(.int .u8),(.int .u8),(.int .u8),(.int .u8),(.int .u8),(.int .u8),(.int .u8),(.int .u8),(.int .u8),(.int .u8),(.int .u8),(.int .u8),(.int .u8),(.int .u8),(.int .u8),(.int .u8),(.int .u8),(.int .u8),(.int .u8),(.int .u8),(.int .u8),(.int .u8),(.int .u8),(.int .u8),(.int .u8),(.int .u8),(.int .u8),(.int .u8),(.int .u8),(.int .u8),(.int .u8),(.int .u8),(.int .u8),(.int .u8),(.int .u8),(.int .u8),(.int .u8),(.int .u8),(.int .u8),(.int .u8),(.int .u8),(.int .u8),(.int .u8),(.int .u8),(.int .u8),(.int .u8),(.int .u8),(.int .u8),(.int .u8),(.int .u8),(.int .u8),(.int .u8),(.int .u8),(.int .u8),(.int .u8),(.int .u8),(.int .u8),(.int .u8),(.int .u8),(.int .u8),(.int .u8),(.int .u8),(.int .u8),(.int .u8),(.int .u8),(.int .u8),(.int .u8),(.int .u8),(.int .u8),(.int .u8),(.int .u8),(.int .u8),(.int .u8),(.int .u8),(.int .u8),(.int .u8),(.int .u8),(.int .u8),(.int .u8),(.int .u8),(.int .u8),(.int .u8),(.int .u8),(.int .u8),(.int .u8),(.int .u8),(.int .u8),(.int .u8),(.int .u8),(.int .u8),(.int .u8),(.int .u8),(.int .u8),(.int .u8),(.int .u8),(.int .u8),(.int .u8),(.int .u8),(.int .u8),(.int .u8),(.int .u8),(.int .u8),(.int .u8),(.int .u8),(.int .u8),(.int .u8),(.int .u8),(.int .u8),(.int .u8),(.int .u8),(.int .u8),(.int .u8),(.int .u8),(.int .u8),(.int .u8),(.int .u8),(.int .u8),(.int .u8),(.int .u8),(.int .u8),(.int .u8),(.int .u8),(.int .u8),(.int .u8),(.int .u8),(.int .u8),(.int .u8),(.int .u8),(.int .u8),(.int .u8),(.int .u8),(.int .u8),(.int .u8),(.int .u8),(.int .u8),(.int .u8),(.int .u8),(.int .u8),(.int .u8),(.int .u8),(.int .u8),(.int .u8),(.int .u8),(.int .u8),(.int .u8),(.int .u8),(.int .u8),(.int .u8),(.int .u8),(.int .u8),(.int .u8),(.int .u8),(.int .u8),(.int .u8),(.int .u8),(.int .u8),(.int .u8),(.int .u8),(.int .u8),(.int .u8),(.int .u8),(.int .u8),(.int .u8),(.int .u8),(.int .u8),(.int .u8),(.int .u8),(.int .u8),(.int .u8),(.int .u8),(.int .u8),(.int .u8),(.int .u8),(.int .u8),(.int .u8),(.int .u8),(.int .u8),(.int .u8),(.int .u8)],[.int .u8 0,.int .u8 0,.int .u8 0,.int .u8 0,.int .u8 0,.int .u8 0,.int .u8 0,.int .u8 0,.int .u8 0,.int .u8 0,.int .u8 0,.int .u8 0,.int .u8 0,.int .u8 0,.int .u8 0,.int .u8 0,.int .u8 0,.int .u8 0,.int .u8 0,.int .u8 0,.int .u8 0,.int .u8 0,.int .u8 0,.int .u8 0,.int .u8 0,.int .u8 0,.int .u8 0,.int .u8 0,.int .u8 0,.int .u8 0,.int .u8 0,.int .u8 0,.int .u8 0,.int .u8 0,.int .u8 0,.int .u8 0,.int .u8 0,.int .u8 0,.int .u8 0,.int .u8 0,.int .u8 0,.int .u8 0,.int .u8 0,.int .u8 0,.int .u8 0,.int .u8 0,.int .u8 0,.int .u8 0,.int .u8 0,.int .u8 0,.int .u8 0,.int .u8 0,.int .u8 0,.int .u8 0,.int .u8 0,.int .u8 0,.int .u8 0,.int .u8 0,.int .u8 0,.int .u8 0,.int .u8 0,.int .u8 0,.int .u8 0,.int .u8 0,.int .u8 0,.int .u8 0,.int .u8 0,.int .u8 0,.int .u8 0,.int .u8 0,.int .u8 0,.int .u8 0,.int .u8 0,.int .u8 0,.int .u8 0,.int .u8 0,.int .u8 0,.int .u8 0,.int .u8 0,.int .u8 0,.int .u8 0,.int .u8 0,.int .u8 0,.int .u8 0,.int .u8 0,.int .u8 0,.int .u8 0,.int .u8 0,.int .u8 0,.int .u8 0,.int .u8 0,.int .u8 0,.int .u8 0,.int .u8 0,.int .u8 0,.int .u8 0,.int .u8 0,.int .u8 0,.int .u8 0,.int .u8 0,.int .u8 0,.int .u8 0,.int .u8 0,.int .u8 0,.int .u8 0,.int .u8 0,.int .u8 0,.int .u8 0,.int .u8 0,.int .u8 0,.int .u8 0,.int .u8 0,.int .u8 0,.int .u8 0,.int .u8 0,.int .u8 0,.int .u8 0,.int .u8 0,.int .u8 0,.int .u8 0,.int .u8 0,.int .u8 0,.int .u8 0,.int .u8 0,.int .u8 0,.int .u8 0,.int .u8 0,.int .u8 0,.int .u8 0,.int .u8 0,.int .u8 0,.int .u8 0,.int .u8 0,.int .u8 0,.int .u8 0,.int .u8 0,.int .u8 0,.int .u8 0,.int .u8 0,.int .u8 0,.int .u8 0,.int .u8 0,.int .u8 0,.int .u8 0,.int .u8 0,.int .u8 0,.int .u8 0,.int .u8 0,.int .u8 0,.int .u8 0,.int .u8 0,.int .u8 0,.int .u8 0,.int .u8 0,.int .u8 0,.int .u8 0,.int .u8 0,.int .u8 0,.int .u8 0,.int .u8 0,.int .u8 0,.int .u8 0,.int .u8 0,.int .u8 0,.int .u8 0,.int .u8 0,.int .u8 0,.int .u8 0,.int .u8 0,.int .u8 0,.int .u8 0,.int .u8 0,.int .u8 0,.int .u8 0,.int .u8 0,.int .u8 0,.int .u8 0,.int .u8 0,.int .u8 0,.int .u8 0,.int .u8 0,.int .u8 0,.int .u8 0,.int .u8 0,.int .u8 0,.int .u8 0,.int .u8 0,.int .u8 0,.int .u8 0,.int .u8 0,.int .u8 0,.int .u8 0,.int .u8 0,.int .u8 0,.int .u8 0,.int .u8 0,.int .u8 0,.int .u8 0,.int .u8 0,.int .u8 0,.int .u8 0,.int .u8 0,.int .u8 0,.int .u8 0,.int .u8 0,.int .u8 0,.int .u8 0,.int .u8 0,.int .u8 0,.int .u8 0,.int .u8 0,.int .u8 0,.int .u8 0,.int .u8 0,.int .u8 0,.int .u8 0,.int .u8 0,.int .u8 0,.int .u8 0,.int .u8 0,.int .u8 0,.int .u8 0,.int .u8 0,.int .u8 0,.int .u8 0,.int .u8 0,.int .u8 0,.int .u8 0,.int .u8 0,.int .u8 0,.int .u8 0,.int .u8 0,.int .u8 0,.int .u8 0,.int .u8 0,.int .u8 0,.int .u8 0,.int .u8 0,.int .u8 0,.int .u8 0,.int .u8 0,.int .u8 0,.int .u8 0,.int .u8 0,.int .u8 0,.int .u8 0,.int .u8 0,.int .u8 0,.int .u8 0,.int .u8 0,.int .u8 0,.int .u8 0,.int .u8 0,.int .u8 0,.int .u8 0,.int .u8 0],238⟩,
 Option.some ⟨.struct [(5,0),(5,1)],2,2,true,[(.int .u8),(.int .u8)],[.int .u8 0,.int .u8 0],239⟩,
 Option.some ⟨.struct [(5,0),(5,1)],2,2,true,[(.int .u8),(.int .u8)],[.int .u8 0,.int .u8 0],240⟩,
 Option.some ⟨.arr 16 240,32,32,true,[(.int .u8),(.int .u8),(.int .u8),(.int .u8),(.int .u8),(.int .u8),(.int .u8),(.int .u8),(.int .u8),(.int .u8),(.int .u8),(.int .u8),(.int .u8),(.int .u8),(.int .u8),(.int .u8),(.int .u8),(.int .u8),(.int .u8),(.int .u8),(.int .u8),(.int .u8),(.int .u8),(.int .u8),(.int .u8),(.int .u8),(.int .u8),(.int .u8),(.int .u8),(.int .u8),(.int .u8),(.int .u8)],[.int .u8 0,.int .u8 0,.int .u8 0,.int .u8 0,.int .u8 0,.int .u8 0,.int .u8 0,.int .u8 0,.int .u8 0,.int .u8 0,.int .u8 0,.int .u8 0,.int .u8 0,.int .u8 0,.int .u8 0,.int .u8 0,.int .u8 0,.int .u8 0,.int .u8 0,.int .u8 0,.int .u8 0,.int .u8 0,.int .u8 0,.int .u8 0,.int .u8 0,.int .u8 0,.int .u8 0,.int .u8 0,.int .u8 0,.int .u8 0,.int .u8 0,.int .u8 0],241⟩,
 none,
 Option.some ⟨.other,1,8,false,[.any],[.nilFunc],243⟩,
 Option.some ⟨.struct [(9,0),(9,1),(180,2)],3,48,true,[.str,.str,.any],[.string ⟨#[]⟩,.string ⟨#[]⟩,.nilIface],244⟩,
 Option.some ⟨.struct [(9,0),(9,1),(180,2)],3,48,true,[.str,.str,.any],[.string ⟨#[]⟩,.string ⟨#[]⟩,.nilIface],245⟩,
 Option.some ⟨.other,1,8,false,[.any],[.nilFunc],246⟩,
 Option.some ⟨.other,1,8,false,[.any],[.nilFunc],247⟩,
 Option.some ⟨.other,1,8,false,[.any],[.nilFunc],248⟩,
 Option.some ⟨.arr 32 5,32,32,true,[(.int .u8),(.int .u8),(.int .u8),(.int .u8),(.int .u8),(.int .u8),(.int .u8),(.int .u8),(.int .u8),(.int .u8),(.int .u8),(.int .u8),(.int .u8),(.int .u8),(.int .u8),(.int .u8),(.int .u8),(.int .u8),(.int .u8),(.int .u8),(.int .u8),(.int .u8),(.int .u8),(.int .u8),(.int .u8),(.int .u8),(.int .u8),(.int .u8),(.int .u8),(.int .u8),(.int .u8),(.int .u8)],[.int .u8 0,.int .u8 0,.int .u8 0,.int .u8 0,.int .u8 0,.int .u8 0,.int .u8 0,.int .u8 0,.int .u8 0,.int .u8 0,.int .u8 0,.int .u8 0,.int .u8 0,.int .u8 0,.int .u8 0,.int .u8 0,.int .u8 0,.int .u8 0,.int .u8 0,.int .u8 0,.int .u8 0,.int .u8 0,.int .u8 0,.int .u8 0,.int .u8 0,.int .u8 0,.int .u8 0,.int .u8 0,.int .u8 0,.int .u8 0,.int .u8 0,.int .u8 0],249⟩,
 Option.some ⟨.arr 64 5,64,64,true,[(.int .u8),(.int .u8),(.int .u8),(.int .u8),(.int .u8),(.int .u8),(.int .u8),(.int .u8),(.int .u8),(.int .u8),(.int .u8),(.int .u8),(.int .u8),(.int .u8),(.int .u8),(.int .u8),(.int .u8),(.int .u8),(.int .u8),(.int .u8),(.int .u8),(.int .u8),(.int .u8),(.int .u8),(.int .u8),(.int .u8),(.int .u8),(.int .u8),(.int .u8),(.int .u8),(.int .u8),(.int .u8),(.int .u8),(.int .u8),(.int .u8),(.int .u8),(.int .u8),(.int .u8),(.int .u8),(.int .u8),(.int .u8),(.int .u8),(.int .u8),(.int .u8),(.int .u8),(.int .u8),(.int .u8),(.int .u8),(.int .u8),(.int .u8),(.int .u8),(.int .u8),(.int .u8),(.int .u8),(.int .u8),(.int .u8),(.int .u8),(.int .u8),(.int .u8),(.int .u8),(.int .u8),(.int .u8),(.int .u8),(.int .u8)],[.int .u8 0,.int .u8 0,.int .u8 0,.int .u8 0,.int .u8 0,.int .u8 0,.int .u8 0,.int .u8 0,.int .u8 0,.int .u8 0,.int .u8 0,.int .u8 0,.int .u8 0,.int .u8 0,.int .u8 0,.int .u8 0,.int .u8 0,.int .u8 0,.int .u8 0,.int .u8 0,.int .u8 0,.int .u8 0,.int .u8 0,.int .u8 0,.int .u8 0,.int .u8 0,.int .u8 0,.int .u8 0,.int .u8 0,.int .u8 0,.int .u8 0,.int .u8 0,.int .u8 0,.int .u8 0,.int .u8 0,.int .u8 0,.int .u8 0,.int .u8 0,.int .u8 0,.int .u8 0,.int .u8 0,.int .u8 0,.int .u8 0,.int .u8 0,.int .u8 0,.int .u8 0,.int .u8 0,.int .u8 0,.int .u8 0,.int .u8 0,.int .u8 0,.int .u8 0,.int .u8 0,.int .u8 0,.int .u8 0,.int .u8 0,.int .u8 0,.int .u8 0,.int .u8 0,.int .u8 0,.int .u8 0,.int .u8 0,.int .u8 0,.int .u8 0],250⟩,
 Option.some ⟨.other,1,8,false,[.any],[.nilFunc],251⟩,
 Option.some ⟨.ptr 254,1,8,false,[.any],[.pointer none],252⟩,
 Option.some ⟨.struct [(9,0)],1,16,true,[.str],[.string ⟨#[]⟩],253⟩,
 Option.some ⟨.struct [(9,0)],1,16,true,[.str],[.string ⟨#[]⟩],254⟩,
 Option.some ⟨.other,1,8,false,[.any],[.nilFunc],255⟩,
 Option.some ⟨.other,1,8,false,[.any],[.nilFunc],256⟩,
 none,
 none,
 Option.some ⟨.arr 0 16,0,0,true,[],[],259⟩,
 none,
 none,
 Option.some ⟨.other,1,8,false,[.any],[.nilFunc],262⟩,
 none,
 none,
 Option.some ⟨.other,1,8,false,[.any],[.nilFunc],265⟩,
 none,
 none,
 none,
 none]
def params (f:FuncId):List TypeId:=match f with | 0=>[] | 1=>[] | 2=>[] | 3=>[9] | 4=>[36] | 5=>[23] | 6=>[50] | 7=>[50,23] | 8=>[9,63] | 9=>[63,63,9] | 10=>[36,74,23] | 11=>[36,74] | 12=>[] | 13=>[9] | 14=>[9] | 15=>[23,23] | 16=>[36] | 17=>[36] | 18=>[36] | 19=>[36] | 20=>[23] | 21=>[23] | 22=>[23] | 23=>[23] | 24=>[50,50] | 25=>[50] | 26=>[50] | 27=>[50] | 28=>[50] | 29=>[50] | 30=>[9] | 31=>[9] | 32=>[63] | 33=>[63] | 34=>[63] | 35=>[74] | 36=>[36,74] | 37=>[74] | 38=>[48] | 39=>[36,74] | 40=>[36,74] | 41=>[46,46] | 42=>[36,74] | 43=>[] | 44=>[144] | 45=>[4,24] | 46=>[9] | 47=>[9] | 48=>[3,3,3] | 49=>[9] | 50=>[33] | 51=>[9] | 52=>[36] | 53=>[36] | 54=>[36] | 55=>[36] | 56=>[33,23] | 57=>[36] | 58=>[36] | 59=>[9] | 60=>[23,9] | 61=>[36,9] | 62=>[36] | 63=>[36,100] | 64=>[113,23] | 65=>[113,23] | 66=>[50] | 67=>[118,23,3] | 68=>[50] | 69=>[48,48] | 70=>[36,36] | 71=>[48] | 72=>[50] | 73=>[9,9,9,4] | 74=>[63] | 75=>[33] | 76=>[3] | 77=>[100] | 78=>[23,30] | 79=>[9] | 80=>[48] | 81=>[3] | 82=>[100] | 83=>[9] | 84=>[63] | 85=>[] | 86=>[9] | 87=>[3] | 88=>[4] | 89=>[36,74] | 90=>[48] | 91=>[48] | 92=>[74,9] | 93=>[36,74,3,9] | 94=>[63,102] | 95=>[46] | 96=>[9,5] | 97=>[9] | 98=>[9,9] | 99=>[9,23] | 100=>[3,3,3] | 101=>[149,4] | 102=>[23,9] | 103=>[104,23] | 104=>[5] | 105=>[5] | 106=>[9,9] | 107=>[113,23] | 108=>[113,23] | 109=>[113,23] | 110=>[113,23] | 111=>[113,23] | 112=>[113,23] | 113=>[23] | 114=>[36] | 115=>[48] | 116=>[9] | 117=>[9] | 118=>[118,23] | 119=>[118,23] | 120=>[33,33] | 121=>[3] | 122=>[9,9,9] | 123=>[23,30] | 124=>[] | 125=>[9] | 126=>[9] | 127=>[3,3,3] | 128=>[144] | 129=>[4,24] | 130=>[9] | 131=>[74] | 132=>[74,122] | 133=>[48] | 134=>[48,9] | 135=>[97,74] | 136=>[102,63] | 137=>[44] | 138=>[46] | 139=>[48] | 140=>[46,9] | 141=>[63,102] | 142=>[63] | 143=>[9,5] | 144=>[149,4] | 145=>[23,9] | 146=>[9,9] | 147=>[9] | 148=>[9] | 149=>[9] | 150=>[9] | 151=>[2,3] | 152=>[9,9,9,3] | 153=>[9] | 154=>[74,122] | 155=>[48] | 156=>[44,185] | 157=>[125] | 158=>[63,102] | 159=>[63] | 160=>[46] | 161=>[63] | 162=>[9,5] | 163=>[9,9] | 164=>[3] | 165=>[9,9] | 166=>[9] | 167=>[9] | 168=>[3] | 169=>[195] | 170=>[145,195] | 171=>[145,195,3,4,4] | 172=>[9,9] | 173=>[200,3] | 174=>[200,9] | 175=>[9] | 176=>[200] | 177=>[9] | 178=>[9,9,3,3,180] | 179=>[3] | 180=>[63] | 181=>[3] | 182=>[9] | 183=>[9] | 184=>[9,9] | 185=>[9,9] | 186=>[3] | 187=>[195] | 188=>[4] | 189=>[3] | 190=>[189] | 191=>[9] | 192=>[9,5] | 193=>[200] | 194=>[200,3] | 195=>[9] | 196=>[9,3,3] | 197=>[9,9] | 198=>[9,9] | 199=>[9,9,3] | 200=>[9,9,3] | 201=>[9,3] | 202=>[9,9] | 203=>[9,5] | 204=>[9] | 205=>[9,233] | 206=>[9,9] | 207=>[208] | 208=>[195] | 210=>[3] | 211=>[9,3,3] | 212=>[9] | 213=>[9] | 214=>[9,3] | 215=>[233,5] | 216=>[9,21] | 217=>[5] | 218=>[9] | 219=>[9,21] | 220=>[21] | 221=>[8] | 222=>[8] | 223=>[10] | 224=>[10] | 225=>[11] | 226=>[11] | 227=>[14] | 228=>[14] | 229=>[15] | 230=>[15] | 231=>[16] | 232=>[16] | 233=>[17] | 234=>[19] | 235=>[19] | 236=>[200] | 237=>[220] | 238=>[223] | 239=>[252] | 240=>[264] | 241=>[] | 242=>[] | 243=>[] | 244=>[] | 245=>[] | 246=>[] | 247=>[] | 248=>[] | 249=>[] | 250=>[] | 251=>[] | 252=>[] | _=>[]
def gr0:List AV:=[vs (⟨#[69,81]⟩ : ByteArray),vs (⟨#[78,69]⟩ : ByteArray),vs (⟨#[76,84]⟩ : ByteArray),vs (⟨#[76,69]⟩ : ByteArray),vs (⟨#[71,84]⟩ : ByteArray),vs (⟨#[71,69]⟩ : ByteArray)]
def glist:List (Nat × List AV):=[(0,[.sl ⟨true,9⟩ 1 gr0])]
def G:Cfg:=⟨fun t=>(tabL[t]?).join,globL glist,params,0⟩
abbrev Gk (k:Nat):Cfg:={ G with kb:=k }
theorem mixed:Tryz.prog.follows .mixedOrders=true:=by kernel_rfl
instance rooted : Rooted Tryz.prog := gents Tryz.prog ["strconv.ErrSyntax", "strconv.ErrRange"] [("internal/strconv.uint64pow10", .u64, Lib.pow10Tab)] glist
theorem globs (R0:World) (hQ:Rooted.Q Tryz.prog R0):Globs G R0:=by
 have h:Sents Tryz.prog _ R0∧Tabs Tryz.prog _ R0∧GlobsL glist R0:=hQ
 exact h.2.2.globs rfl
theorem tabL_len:tabL.length=270:=by kernel_rfl
theorem tabG:G.tab=fun t=>(tabL[t]?).join:=rfl
theorem cfg:CfgOk Tryz.prog G:=by
 refine cfgOk_of (n:=270) (fun t ht=>?_) (by kernel_rfl)
 have h:tabL[t]?=none:=List.getElem?_eq_none (by rw [tabL_len]; exact ht)
 rw [tabG]
 simp only [h]
 rfl
end Go.Proofs.YtmpglmcjoelciaaGreatDoor.Ev
namespace Go.Proofs
open Go.Shelf
def Tryz.lays137_ren:Go.Shelf.Ren:=⟨fun | 137=>96 | 217=>143 | 266=>162 | n=>n,fun | 9=>9 | 5=>5 | 3=>3 | n=>n,fun | n=>n⟩
theorem Tryz.lays137:Go.Proofs.Lays.n137 Tryz.prog Tryz.lays137_ren:={
  mixed:=by kernel_rfl
  f137:=Tryz.func96.trans (congrArg some (by kernel_rfl))
  f217:=Tryz.func143.trans (congrArg some (by kernel_rfl))
  f266:=Tryz.func162.trans (congrArg some (by kernel_rfl))
  t3:=Tryz.underlying3
  a3:=Tryz.isAgg3
  z3:=Tryz.sizeOf3
  v3:=Tryz.zeroValue3
  t5:=Tryz.underlying5
  a5:=Tryz.isAgg5
  z5:=Tryz.sizeOf5
  v5:=Tryz.zeroValue5
  t9:=Tryz.underlying9
  a9:=Tryz.isAgg9
  z9:=Tryz.sizeOf9
  v9:=Tryz.zeroValue9 }
open Go.RowKit in
theorem Tryz.strings_IndexByte (s:ByteArray) (c:Int) (w:World) :
  Calls Tryz.prog 96 #[.string s,.int .u8 c] w fun e w'=>e=.returned (.int .i64 (Lib.indexByte s.data.toList c.toNat.toUInt8))∧w'=w:=Any.strings_IndexByte Tryz.lays137 s c w
def Tryz.laysM171_ren:Go.Shelf.Ren:=⟨fun | 171=>76 | 243=>121 | 246=>151 | 283=>168 | 284=>169 | 285=>170 | 286=>171 | 129=>187 | 317=>186 | 318=>188 | 319=>189 | 320=>190 | 337=>207 | 338=>208 | n=>n,fun | 3=>3 | 9=>9 | 2=>2 | 4=>4 | 171=>194 | 0=>0 | 53=>195 | 37=>145 | 5=>5 | 173=>198 | 212=>216 | 51=>208 | 20=>20 | 213=>217 | 46=>189 | 232=>249 | 233=>250 | n=>n,fun | 17=>2 | 18=>7 | 19=>8 | n=>n⟩
theorem Tryz.laysM171:Go.Proofs.LaysM.n171 Tryz.prog Tryz.laysM171_ren:={
  mixed:=by kernel_rfl
  f129:=Tryz.func187.trans (congrArg some (by kernel_rfl))
  f171:=Tryz.func76.trans (congrArg some (by kernel_rfl))
  f243:=Tryz.func121.trans (congrArg some (by kernel_rfl))
  f246:=Tryz.func151.trans (congrArg some (by kernel_rfl))
  f283:=Tryz.func168.trans (congrArg some (by kernel_rfl))
  f284:=Tryz.func169.trans (congrArg some (by kernel_rfl))
  f285:=Tryz.func170.trans (congrArg some (by kernel_rfl))
  f286:=Tryz.func171.trans (congrArg some (by kernel_rfl))
  f317:=Tryz.func186.trans (congrArg some (by kernel_rfl))
  f318:=Tryz.func188.trans (congrArg some (by kernel_rfl))
  f319:=Tryz.func189.trans (congrArg some (by kernel_rfl))
  f320:=Tryz.func190.trans (congrArg some (by kernel_rfl))
  f337:=Tryz.func207.trans (congrArg some (by kernel_rfl))
  f338:=Tryz.func208.trans (congrArg some (by kernel_rfl))
  t0:=Tryz.underlying0
  a0:=Tryz.isAgg0
  z0:=Tryz.sizeOf0
  v0:=Tryz.zeroValue0
  t2:=Tryz.underlying2
  a2:=Tryz.isAgg2
  z2:=Tryz.sizeOf2
  v2:=Tryz.zeroValue2
  t3:=Tryz.underlying3
  a3:=Tryz.isAgg3
  z3:=Tryz.sizeOf3
  v3:=Tryz.zeroValue3
  t4:=Tryz.underlying4
  a4:=Tryz.isAgg4
  z4:=Tryz.sizeOf4
  v4:=Tryz.zeroValue4
  t5:=Tryz.underlying5
  a5:=Tryz.isAgg5
  z5:=Tryz.sizeOf5
  v5:=Tryz.zeroValue5
  t9:=Tryz.underlying9
  a9:=Tryz.isAgg9
  z9:=Tryz.sizeOf9
  v9:=Tryz.zeroValue9
  t20:=Tryz.underlying20
  a20:=Tryz.isAgg20
  z20:=Tryz.sizeOf20
  v20:=Tryz.zeroValue20
  t37:=Tryz.underlying145
  a37:=Tryz.isAgg145
  z37:=Tryz.sizeOf145
  v37:=Tryz.zeroValue145
  t46:=Tryz.underlying189
  a46:=Tryz.isAgg189
  z46:=Tryz.sizeOf189
  v46:=Tryz.zeroValue189
  t51:=Tryz.underlying208
  a51:=Tryz.isAgg208
  z51:=Tryz.sizeOf208
  v51:=Tryz.zeroValue208
  t53:=Tryz.underlying195
  a53:=Tryz.isAgg195
  z53:=Tryz.sizeOf195
  v53:=Tryz.zeroValue195
  t171:=Tryz.underlying194
  a171:=Tryz.isAgg194
  z171:=Tryz.sizeOf194
  v171:=Tryz.zeroValue194
  t173:=Tryz.underlying198
  a173:=Tryz.isAgg198
  z173:=Tryz.sizeOf198
  v173:=Tryz.zeroValue198
  t212:=Tryz.underlying216
  a212:=Tryz.isAgg216
  z212:=Tryz.sizeOf216
  v212:=Tryz.zeroValue216
  t213:=Tryz.underlying217
  a213:=Tryz.isAgg217
  z213:=Tryz.sizeOf217
  t232:=Tryz.underlying249
  a232:=Tryz.isAgg249
  z232:=Tryz.sizeOf249
  v232:=Tryz.zeroValue249
  t233:=Tryz.underlying250
  a233:=Tryz.isAgg250
  z233:=Tryz.sizeOf250
  v233:=Tryz.zeroValue250
  g17:=by kernel_rfl
  g18:=by kernel_rfl
  g19:=by kernel_rfl
  i0:=by kernel_rfl
  i2:=by kernel_rfl
  i3:=by kernel_rfl
  i4:=by kernel_rfl
  i5:=by kernel_rfl
  i9:=by kernel_rfl
  i20:=by kernel_rfl
  i37:=by kernel_rfl
  i46:=by kernel_rfl
  i51:=by kernel_rfl
  i53:=by kernel_rfl
  i171:=by kernel_rfl
  i173:=by kernel_rfl
  i212:=by kernel_rfl
  i232:=by kernel_rfl
  i233:=by kernel_rfl
  m17:=by kernel_rfl
  m18:=by kernel_rfl
  m19:=by kernel_rfl }
open Go.RowKit Go.Sort Go.Lib in
theorem Tryz.strconv_Itoa (n : Int) (h0 : -9223372036854775808 ≤ n) (h1 : n ≤ 9223372036854775807) (w : World) (htab : Lib.TabIs Tryz.prog w "internal/strconv.uint64pow10" .u64 Lib.pow10Tab) :
  Calls Tryz.prog 76 #[.int .i64 n] w fun e w'=>e=.returned (.string ⟨(Lib.itoa n).toArray⟩)∧∃ k os,w'=grow (w.drewN k) os:=Any.strconv_Itoa Tryz.laysM171 n h0 h1 w htab
def Tryz.laysM145_ren:Go.Shelf.Ren:=⟨fun | 145=>184 | 220=>202 | 219=>146 | 217=>143 | 225=>163 | 224=>164 | 267=>165 | 266=>162 | 314=>182 | n=>n,fun | 9=>9 | 4=>4 | 59=>213 | 3=>3 | 5=>5 | 46=>189 | 146=>209 | 51=>208 | n=>n,fun | 1=>1 | n=>n⟩
theorem Tryz.laysM145:Go.Proofs.LaysM.n145 Tryz.prog Tryz.laysM145_ren:={
  mixed:=by kernel_rfl
  f145:=Tryz.func184.trans (congrArg some (by kernel_rfl))
  f217:=Tryz.func143.trans (congrArg some (by kernel_rfl))
  f219:=Tryz.func146.trans (congrArg some (by kernel_rfl))
  f220:=Tryz.func202.trans (congrArg some (by kernel_rfl))
  f224:=Tryz.func164.trans (congrArg some (by kernel_rfl))
  f225:=Tryz.func163.trans (congrArg some (by kernel_rfl))
  f266:=Tryz.func162.trans (congrArg some (by kernel_rfl))
  f267:=Tryz.func165.trans (congrArg some (by kernel_rfl))
  f314:=Tryz.func182.trans (congrArg some (by kernel_rfl))
  t3:=Tryz.underlying3
  a3:=Tryz.isAgg3
  z3:=Tryz.sizeOf3
  v3:=Tryz.zeroValue3
  t4:=Tryz.underlying4
  a4:=Tryz.isAgg4
  z4:=Tryz.sizeOf4
  v4:=Tryz.zeroValue4
  t5:=Tryz.underlying5
  a5:=Tryz.isAgg5
  z5:=Tryz.sizeOf5
  v5:=Tryz.zeroValue5
  t9:=Tryz.underlying9
  a9:=Tryz.isAgg9
  z9:=Tryz.sizeOf9
  v9:=Tryz.zeroValue9
  t46:=Tryz.underlying189
  a46:=Tryz.isAgg189
  z46:=Tryz.sizeOf189
  v46:=Tryz.zeroValue189
  t51:=Tryz.underlying208
  a51:=Tryz.isAgg208
  z51:=Tryz.sizeOf208
  v51:=Tryz.zeroValue208
  t59:=Tryz.underlying213
  a59:=Tryz.isAgg213
  z59:=Tryz.sizeOf213
  v59:=Tryz.zeroValue213
  t146:=Tryz.underlying209
  a146:=Tryz.isAgg209
  z146:=Tryz.sizeOf209
  v146:=Tryz.zeroValue209
  g1:=by kernel_rfl
  i3:=by kernel_rfl
  i4:=by kernel_rfl
  i5:=by kernel_rfl
  i9:=by kernel_rfl
  i46:=by kernel_rfl
  i51:=by kernel_rfl
  i59:=by kernel_rfl
  i146:=by kernel_rfl
  m1:=by kernel_rfl
  s1_3:=fun w h=>Go.Proofs.cell_of_shapedOpen_int (zero:=#[.int .i64 0]) (t:=3) h (of_decide_eq_true (by kernel_rfl)) (by kernel_rfl) rfl (by kernel_rfl) (by kernel_rfl) Tryz.underlying3 }
open Go.RowKit Go.Lib in
theorem Tryz.strings_Cut_shaped (s sep:ByteArray) (w:World) (h:w.ShapedOpen Tryz.prog) (hs:s.size < 4294967281) :
  Calls Tryz.prog 184 #[.string s,.string sep] w fun e w'=>e=.returned (.tuple #[.string ⟨(Lib.cut s.data.toList sep.data.toList).1.toArray⟩,.string ⟨(Lib.cut s.data.toList sep.data.toList).2.1.toArray⟩,.bool (Lib.cut s.data.toList sep.data.toList).2.2])∧∃ n,w'=w.drewN n:=Any.strings_Cut_shaped Tryz.laysM145 s sep w h hs
def Tryz.laysM143_ren:Go.Shelf.Ren:=⟨fun | 143=>106 | 219=>146 | 217=>143 | 225=>163 | 224=>164 | 267=>165 | 266=>162 | 314=>182 | n=>n,fun | 9=>9 | 3=>3 | 4=>4 | 5=>5 | 46=>189 | 146=>209 | 51=>208 | n=>n,fun | 1=>1 | n=>n⟩
theorem Tryz.laysM143:Go.Proofs.LaysM.n143 Tryz.prog Tryz.laysM143_ren:={
  mixed:=by kernel_rfl
  f143:=Tryz.func106.trans (congrArg some (by kernel_rfl))
  f217:=Tryz.func143.trans (congrArg some (by kernel_rfl))
  f219:=Tryz.func146.trans (congrArg some (by kernel_rfl))
  f224:=Tryz.func164.trans (congrArg some (by kernel_rfl))
  f225:=Tryz.func163.trans (congrArg some (by kernel_rfl))
  f266:=Tryz.func162.trans (congrArg some (by kernel_rfl))
  f267:=Tryz.func165.trans (congrArg some (by kernel_rfl))
  f314:=Tryz.func182.trans (congrArg some (by kernel_rfl))
  t3:=Tryz.underlying3
  a3:=Tryz.isAgg3
  z3:=Tryz.sizeOf3
  v3:=Tryz.zeroValue3
  t4:=Tryz.underlying4
  a4:=Tryz.isAgg4
  z4:=Tryz.sizeOf4
  v4:=Tryz.zeroValue4
  t5:=Tryz.underlying5
  a5:=Tryz.isAgg5
  z5:=Tryz.sizeOf5
  v5:=Tryz.zeroValue5
  t9:=Tryz.underlying9
  a9:=Tryz.isAgg9
  z9:=Tryz.sizeOf9
  v9:=Tryz.zeroValue9
  t46:=Tryz.underlying189
  a46:=Tryz.isAgg189
  z46:=Tryz.sizeOf189
  v46:=Tryz.zeroValue189
  t51:=Tryz.underlying208
  a51:=Tryz.isAgg208
  z51:=Tryz.sizeOf208
  v51:=Tryz.zeroValue208
  t146:=Tryz.underlying209
  a146:=Tryz.isAgg209
  z146:=Tryz.sizeOf209
  v146:=Tryz.zeroValue209
  g1:=by kernel_rfl
  i3:=by kernel_rfl
  i4:=by kernel_rfl
  i5:=by kernel_rfl
  i9:=by kernel_rfl
  i46:=by kernel_rfl
  i51:=by kernel_rfl
  i146:=by kernel_rfl
  m1:=by kernel_rfl
  s1_3:=fun w h=>Go.Proofs.cell_of_shapedOpen_int (zero:=#[.int .i64 0]) (t:=3) h (of_decide_eq_true (by kernel_rfl)) (by kernel_rfl) rfl (by kernel_rfl) (by kernel_rfl) Tryz.underlying3 }
open Go.RowKit Go.Lib in
theorem Tryz.strings_Index_shaped (s sub:ByteArray) (w:World) (h:w.ShapedOpen Tryz.prog) (hs:s.size < 4294967281) :
  Calls Tryz.prog 106 #[.string s,.string sub] w fun e w'=>e=.returned (.int .i64 (Lib.index s.data.toList sub.data.toList))∧w'=w:=Any.strings_Index_shaped Tryz.laysM143 s sub w h hs
def Tryz.lays161_ren:Go.Shelf.Ren:=⟨fun | 161=>185 | 231=>203 | 227=>204 | 233=>205 | 235=>206 | 228=>215 | 197=>175 | 151=>216 | 260=>195 | 152=>219 | 137=>96 | 119=>220 | 224=>164 | 225=>163 | 217=>143 | 266=>162 | n=>n,fun | 9=>9 | 4=>4 | 3=>3 | 5=>5 | 117=>230 | 116=>229 | 0=>0 | 124=>233 | 105=>204 | 21=>21 | 119=>238 | 46=>189 | 139=>241 | 138=>240 | n=>n,fun | 3=>3 | 4=>4 | n=>n⟩
theorem Tryz.lays161:Go.Proofs.Lays.n161 Tryz.prog Tryz.lays161_ren:={
  mixed:=by kernel_rfl
  f119:=Tryz.func220.trans (congrArg some (by kernel_rfl))
  f137:=Tryz.func96.trans (congrArg some (by kernel_rfl))
  f151:=Tryz.func216.trans (congrArg some (by kernel_rfl))
  f152:=Tryz.func219.trans (congrArg some (by kernel_rfl))
  f161:=Tryz.func185.trans (congrArg some (by kernel_rfl))
  f197:=Tryz.func175.trans (congrArg some (by kernel_rfl))
  f217:=Tryz.func143.trans (congrArg some (by kernel_rfl))
  f224:=Tryz.func164.trans (congrArg some (by kernel_rfl))
  f225:=Tryz.func163.trans (congrArg some (by kernel_rfl))
  f227:=Tryz.func204.trans (congrArg some (by kernel_rfl))
  f228:=Tryz.func215.trans (congrArg some (by kernel_rfl))
  f231:=Tryz.func203.trans (congrArg some (by kernel_rfl))
  f233:=Tryz.func205.trans (congrArg some (by kernel_rfl))
  f235:=Tryz.func206.trans (congrArg some (by kernel_rfl))
  f260:=Tryz.func195.trans (congrArg some (by kernel_rfl))
  f266:=Tryz.func162.trans (congrArg some (by kernel_rfl))
  t0:=Tryz.underlying0
  a0:=Tryz.isAgg0
  z0:=Tryz.sizeOf0
  v0:=Tryz.zeroValue0
  t3:=Tryz.underlying3
  a3:=Tryz.isAgg3
  z3:=Tryz.sizeOf3
  v3:=Tryz.zeroValue3
  t4:=Tryz.underlying4
  a4:=Tryz.isAgg4
  z4:=Tryz.sizeOf4
  v4:=Tryz.zeroValue4
  t5:=Tryz.underlying5
  a5:=Tryz.isAgg5
  z5:=Tryz.sizeOf5
  v5:=Tryz.zeroValue5
  t9:=Tryz.underlying9
  a9:=Tryz.isAgg9
  z9:=Tryz.sizeOf9
  v9:=Tryz.zeroValue9
  t21:=Tryz.underlying21
  a21:=Tryz.isAgg21
  z21:=Tryz.sizeOf21
  v21:=Tryz.zeroValue21
  t46:=Tryz.underlying189
  a46:=Tryz.isAgg189
  z46:=Tryz.sizeOf189
  v46:=Tryz.zeroValue189
  t105:=Tryz.underlying204
  a105:=Tryz.isAgg204
  z105:=Tryz.sizeOf204
  v105:=Tryz.zeroValue204
  t116:=Tryz.underlying229
  a116:=Tryz.isAgg229
  z116:=Tryz.sizeOf229
  t117:=Tryz.underlying230
  a117:=Tryz.isAgg230
  z117:=Tryz.sizeOf230
  v117:=Tryz.zeroValue230
  t119:=Tryz.underlying238
  a119:=Tryz.isAgg238
  z119:=Tryz.sizeOf238
  t124:=Tryz.underlying233
  a124:=Tryz.isAgg233
  z124:=Tryz.sizeOf233
  v124:=Tryz.zeroValue233
  t138:=Tryz.underlying240
  a138:=Tryz.isAgg240
  z138:=Tryz.sizeOf240
  v138:=Tryz.zeroValue240
  t139:=Tryz.underlying241
  a139:=Tryz.isAgg241
  z139:=Tryz.sizeOf241
  v139:=Tryz.zeroValue241
  g3:=by kernel_rfl
  g4:=by kernel_rfl }
open Go.RowKit in
theorem Tryz.strings_TrimLeft_one (s:ByteArray) (c:UInt8) (hc:c.toNat < 128) (w:World) :
  Calls Tryz.prog 185 #[.string s,.string ⟨#[c]⟩] w fun e w'=>e=.returned (.string ⟨(Lib.trimLeftB s.data.toList c).toArray⟩)∧w'=w:=Any.strings_TrimLeft_one Tryz.lays161 s c hc w
def Tryz.laysM155_ren:Go.Shelf.Ren:=⟨fun | 155=>122 | 154=>152 | 138=>172 | 165=>173 | 143=>106 | 166=>174 | 197=>175 | 169=>176 | 195=>191 | 218=>192 | 240=>193 | 241=>194 | 219=>146 | 260=>195 | 276=>209 | 277=>210 | 217=>143 | 225=>163 | 224=>164 | 267=>165 | 266=>162 | 314=>182 | n=>n,fun | 9=>9 | 3=>3 | 4=>4 | 72=>202 | 0=>0 | 76=>181 | 105=>204 | 21=>21 | 5=>5 | 70=>200 | 20=>20 | 37=>145 | 75=>180 | 127=>219 | 164=>235 | 46=>189 | 119=>238 | 139=>241 | 138=>240 | 146=>209 | 51=>208 | 80=>206 | n=>n,fun | 1=>1 | 3=>3 | 4=>4 | n=>n⟩
theorem Tryz.laysM155:Go.Proofs.LaysM.n155 Tryz.prog Tryz.laysM155_ren:={
  mixed:=by kernel_rfl
  f138:=Tryz.func172.trans (congrArg some (by kernel_rfl))
  f143:=Tryz.func106.trans (congrArg some (by kernel_rfl))
  f154:=Tryz.func152.trans (congrArg some (by kernel_rfl))
  f155:=Tryz.func122.trans (congrArg some (by kernel_rfl))
  f165:=Tryz.func173.trans (congrArg some (by kernel_rfl))
  f166:=Tryz.func174.trans (congrArg some (by kernel_rfl))
  f169:=Tryz.func176.trans (congrArg some (by kernel_rfl))
  f195:=Tryz.func191.trans (congrArg some (by kernel_rfl))
  f197:=Tryz.func175.trans (congrArg some (by kernel_rfl))
  f217:=Tryz.func143.trans (congrArg some (by kernel_rfl))
  f218:=Tryz.func192.trans (congrArg some (by kernel_rfl))
  f219:=Tryz.func146.trans (congrArg some (by kernel_rfl))
  f224:=Tryz.func164.trans (congrArg some (by kernel_rfl))
  f225:=Tryz.func163.trans (congrArg some (by kernel_rfl))
  f240:=Tryz.func193.trans (congrArg some (by kernel_rfl))
  f241:=Tryz.func194.trans (congrArg some (by kernel_rfl))
  f260:=Tryz.func195.trans (congrArg some (by kernel_rfl))
  f266:=Tryz.func162.trans (congrArg some (by kernel_rfl))
  f267:=Tryz.func165.trans (congrArg some (by kernel_rfl))
  f276:=Tryz.func209.trans (congrArg some (by kernel_rfl))
  f277:=Tryz.func210.trans (congrArg some (by kernel_rfl))
  f314:=Tryz.func182.trans (congrArg some (by kernel_rfl))
  t0:=Tryz.underlying0
  a0:=Tryz.isAgg0
  z0:=Tryz.sizeOf0
  v0:=Tryz.zeroValue0
  t3:=Tryz.underlying3
  a3:=Tryz.isAgg3
  z3:=Tryz.sizeOf3
  v3:=Tryz.zeroValue3
  t4:=Tryz.underlying4
  a4:=Tryz.isAgg4
  z4:=Tryz.sizeOf4
  v4:=Tryz.zeroValue4
  t5:=Tryz.underlying5
  a5:=Tryz.isAgg5
  z5:=Tryz.sizeOf5
  v5:=Tryz.zeroValue5
  t9:=Tryz.underlying9
  a9:=Tryz.isAgg9
  z9:=Tryz.sizeOf9
  v9:=Tryz.zeroValue9
  t20:=Tryz.underlying20
  a20:=Tryz.isAgg20
  z20:=Tryz.sizeOf20
  v20:=Tryz.zeroValue20
  t21:=Tryz.underlying21
  a21:=Tryz.isAgg21
  z21:=Tryz.sizeOf21
  v21:=Tryz.zeroValue21
  t37:=Tryz.underlying145
  a37:=Tryz.isAgg145
  z37:=Tryz.sizeOf145
  v37:=Tryz.zeroValue145
  t46:=Tryz.underlying189
  a46:=Tryz.isAgg189
  z46:=Tryz.sizeOf189
  v46:=Tryz.zeroValue189
  t51:=Tryz.underlying208
  a51:=Tryz.isAgg208
  z51:=Tryz.sizeOf208
  v51:=Tryz.zeroValue208
  t70:=Tryz.underlying200
  a70:=Tryz.isAgg200
  z70:=Tryz.sizeOf200
  v70:=Tryz.zeroValue200
  t72:=Tryz.underlying202
  a72:=Tryz.isAgg202
  z72:=Tryz.sizeOf202
  v72:=Tryz.zeroValue202
  t75:=Tryz.underlying180
  a75:=Tryz.isAgg180
  z75:=Tryz.sizeOf180
  v75:=Tryz.zeroValue180
  t76:=Tryz.underlying181
  a76:=Tryz.isAgg181
  z76:=Tryz.sizeOf181
  v76:=Tryz.zeroValue181
  t105:=Tryz.underlying204
  a105:=Tryz.isAgg204
  z105:=Tryz.sizeOf204
  v105:=Tryz.zeroValue204
  t119:=Tryz.underlying238
  a119:=Tryz.isAgg238
  z119:=Tryz.sizeOf238
  t127:=Tryz.underlying219
  a127:=Tryz.isAgg219
  z127:=Tryz.sizeOf219
  v127:=Tryz.zeroValue219
  t138:=Tryz.underlying240
  a138:=Tryz.isAgg240
  z138:=Tryz.sizeOf240
  v138:=Tryz.zeroValue240
  t139:=Tryz.underlying241
  a139:=Tryz.isAgg241
  z139:=Tryz.sizeOf241
  v139:=Tryz.zeroValue241
  t146:=Tryz.underlying209
  a146:=Tryz.isAgg209
  z146:=Tryz.sizeOf209
  v146:=Tryz.zeroValue209
  t164:=Tryz.underlying235
  a164:=Tryz.isAgg235
  z164:=Tryz.sizeOf235
  v164:=Tryz.zeroValue235
  g1:=by kernel_rfl
  g3:=by kernel_rfl
  g4:=by kernel_rfl
  t80:=Tryz.underlying206
  a80:=Tryz.isAgg206
  z80:=Tryz.sizeOf206
  v80:=Tryz.zeroValue206
  i0:=by kernel_rfl
  i3:=by kernel_rfl
  i4:=by kernel_rfl
  i5:=by kernel_rfl
  i9:=by kernel_rfl
  i20:=by kernel_rfl
  i21:=by kernel_rfl
  i37:=by kernel_rfl
  i46:=by kernel_rfl
  i51:=by kernel_rfl
  i70:=by kernel_rfl
  i72:=by kernel_rfl
  i75:=by kernel_rfl
  i76:=by kernel_rfl
  i80:=by kernel_rfl
  i105:=by kernel_rfl
  i127:=by kernel_rfl
  i138:=by kernel_rfl
  i139:=by kernel_rfl
  i146:=by kernel_rfl
  i164:=by kernel_rfl
  m1:=by kernel_rfl
  s1_3:=fun w h=>Go.Proofs.cell_of_shapedOpen_int (zero:=#[.int .i64 0]) (t:=3) h (of_decide_eq_true (by kernel_rfl)) (by kernel_rfl) rfl (by kernel_rfl) (by kernel_rfl) Tryz.underlying3
  m3:=by kernel_rfl
  m4:=by kernel_rfl }
theorem Tryz.Builder_Extra_M155:Builder.Extra Tryz.prog Tryz.laysM155_ren:={
  sizeBuilder:=by kernel_rfl
  liesBuilder:=by kernel_rfl
  t5:=Tryz.underlying5
  a5:=Tryz.isAgg5
  z5:=Tryz.sizeOf5
  v5:=Tryz.zeroValue5
  infoByte:=by kernel_rfl
  cellsByte:=by kernel_rfl
  sizeByte:=by kernel_rfl
  neB5:=by decide }
open Go.RowKit Go.Lib in
theorem Tryz.strings_ReplaceAll_shaped (s old new:ByteArray) (w:World) (h:w.ShapedOpen Tryz.prog) (hs:s.size < 4294967281) (h1:1≤old.size) (hlen:s.size+Lib.countB s old*new.size≤140737488355328) :
  Calls Tryz.prog 122 #[.string s,.string old,.string new] w fun e w'=>
   e=.returned (.string ⟨(Lib.replaceAll s.data.toList old.data.toList new.data.toList).toArray⟩)∧Below w.heap.size w w':=Any.strings_ReplaceAll_shaped Tryz.laysM155 Tryz.Builder_Extra_M155 s old new w h hs h1 hlen
def Tryz.laysC172_ren:Go.Shelf.Ren:=⟨fun | 172=>153 | 244=>177 | 245=>178 | 247=>196 | 279=>197 | 280=>198 | 281=>199 | 282=>200 | 287=>211 | 316=>212 | 171=>76 | 205=>213 | 321=>217 | 322=>218 | 243=>121 | 246=>151 | 283=>168 | 284=>169 | 285=>170 | 286=>171 | 129=>187 | 317=>186 | 318=>188 | 319=>189 | 320=>190 | 337=>207 | 338=>208 | n=>n,fun | 9=>9 | 3=>3 | 75=>180 | 76=>181 | 4=>4 | 5=>5 | 167=>220 | 37=>145 | 0=>0 | 85=>221 | 2=>2 | 168=>223 | 53=>195 | 175=>242 | 46=>189 | 210=>245 | 127=>219 | 145=>254 | 143=>252 | 21=>21 | 171=>194 | 173=>198 | 212=>216 | 51=>208 | 20=>20 | 213=>217 | 232=>249 | 233=>250 | 80=>206 | n=>n,fun | 15=>5 | 16=>6 | 17=>2 | 18=>7 | 19=>8 | n=>n⟩
theorem Tryz.laysC172:Go.Proofs.LaysC.n172 Tryz.prog Tryz.laysC172_ren:={
  mixed:=by kernel_rfl
  f129:=Tryz.func187.trans (congrArg some (by kernel_rfl))
  f171:=Tryz.func76.trans (congrArg some (by kernel_rfl))
  f172:=Tryz.func153.trans (congrArg some (by kernel_rfl))
  f205:=Tryz.func213.trans (congrArg some (by kernel_rfl))
  f243:=Tryz.func121.trans (congrArg some (by kernel_rfl))
  f244:=Tryz.func177.trans (congrArg some (by kernel_rfl))
  f245:=Tryz.func178.trans (congrArg some (by kernel_rfl))
  f246:=Tryz.func151.trans (congrArg some (by kernel_rfl))
  f247:=Tryz.func196.trans (congrArg some (by kernel_rfl))
  f279:=Tryz.func197.trans (congrArg some (by kernel_rfl))
  f280:=Tryz.func198.trans (congrArg some (by kernel_rfl))
  f281:=Tryz.func199.trans (congrArg some (by kernel_rfl))
  f282:=Tryz.func200.trans (congrArg some (by kernel_rfl))
  f283:=Tryz.func168.trans (congrArg some (by kernel_rfl))
  f284:=Tryz.func169.trans (congrArg some (by kernel_rfl))
  f285:=Tryz.func170.trans (congrArg some (by kernel_rfl))
  f286:=Tryz.func171.trans (congrArg some (by kernel_rfl))
  f287:=Tryz.func211.trans (congrArg some (by kernel_rfl))
  f316:=Tryz.func212.trans (congrArg some (by kernel_rfl))
  f317:=Tryz.func186.trans (congrArg some (by kernel_rfl))
  f318:=Tryz.func188.trans (congrArg some (by kernel_rfl))
  f319:=Tryz.func189.trans (congrArg some (by kernel_rfl))
  f320:=Tryz.func190.trans (congrArg some (by kernel_rfl))
  f321:=Tryz.func217.trans (congrArg some (by kernel_rfl))
  f322:=Tryz.func218.trans (congrArg some (by kernel_rfl))
  f337:=Tryz.func207.trans (congrArg some (by kernel_rfl))
  f338:=Tryz.func208.trans (congrArg some (by kernel_rfl))
  t0:=Tryz.underlying0
  a0:=Tryz.isAgg0
  z0:=Tryz.sizeOf0
  v0:=Tryz.zeroValue0
  t2:=Tryz.underlying2
  a2:=Tryz.isAgg2
  z2:=Tryz.sizeOf2
  v2:=Tryz.zeroValue2
  t3:=Tryz.underlying3
  a3:=Tryz.isAgg3
  z3:=Tryz.sizeOf3
  v3:=Tryz.zeroValue3
  t4:=Tryz.underlying4
  a4:=Tryz.isAgg4
  z4:=Tryz.sizeOf4
  v4:=Tryz.zeroValue4
  t5:=Tryz.underlying5
  a5:=Tryz.isAgg5
  z5:=Tryz.sizeOf5
  v5:=Tryz.zeroValue5
  t9:=Tryz.underlying9
  a9:=Tryz.isAgg9
  z9:=Tryz.sizeOf9
  v9:=Tryz.zeroValue9
  t20:=Tryz.underlying20
  a20:=Tryz.isAgg20
  z20:=Tryz.sizeOf20
  v20:=Tryz.zeroValue20
  t21:=Tryz.underlying21
  a21:=Tryz.isAgg21
  z21:=Tryz.sizeOf21
  v21:=Tryz.zeroValue21
  t37:=Tryz.underlying145
  a37:=Tryz.isAgg145
  z37:=Tryz.sizeOf145
  v37:=Tryz.zeroValue145
  t46:=Tryz.underlying189
  a46:=Tryz.isAgg189
  z46:=Tryz.sizeOf189
  v46:=Tryz.zeroValue189
  t51:=Tryz.underlying208
  a51:=Tryz.isAgg208
  z51:=Tryz.sizeOf208
  v51:=Tryz.zeroValue208
  t53:=Tryz.underlying195
  a53:=Tryz.isAgg195
  z53:=Tryz.sizeOf195
  v53:=Tryz.zeroValue195
  t75:=Tryz.underlying180
  a75:=Tryz.isAgg180
  z75:=Tryz.sizeOf180
  v75:=Tryz.zeroValue180
  t76:=Tryz.underlying181
  a76:=Tryz.isAgg181
  z76:=Tryz.sizeOf181
  v76:=Tryz.zeroValue181
  t85:=Tryz.underlying221
  a85:=Tryz.isAgg221
  z85:=Tryz.sizeOf221
  v85:=Tryz.zeroValue221
  t127:=Tryz.underlying219
  a127:=Tryz.isAgg219
  z127:=Tryz.sizeOf219
  v127:=Tryz.zeroValue219
  t143:=Tryz.underlying252
  a143:=Tryz.isAgg252
  z143:=Tryz.sizeOf252
  v143:=Tryz.zeroValue252
  t145:=Tryz.underlying254
  a145:=Tryz.isAgg254
  z145:=Tryz.sizeOf254
  v145:=Tryz.zeroValue254
  t167:=Tryz.underlying220
  a167:=Tryz.isAgg220
  z167:=Tryz.sizeOf220
  v167:=Tryz.zeroValue220
  t168:=Tryz.underlying223
  a168:=Tryz.isAgg223
  z168:=Tryz.sizeOf223
  v168:=Tryz.zeroValue223
  t171:=Tryz.underlying194
  a171:=Tryz.isAgg194
  z171:=Tryz.sizeOf194
  v171:=Tryz.zeroValue194
  t173:=Tryz.underlying198
  a173:=Tryz.isAgg198
  z173:=Tryz.sizeOf198
  v173:=Tryz.zeroValue198
  t175:=Tryz.underlying242
  a175:=Tryz.isAgg242
  z175:=Tryz.sizeOf242
  v175:=Tryz.zeroValue242
  t210:=Tryz.underlying245
  a210:=Tryz.isAgg245
  z210:=Tryz.sizeOf245
  v210:=Tryz.zeroValue245
  t212:=Tryz.underlying216
  a212:=Tryz.isAgg216
  z212:=Tryz.sizeOf216
  v212:=Tryz.zeroValue216
  t213:=Tryz.underlying217
  a213:=Tryz.isAgg217
  z213:=Tryz.sizeOf217
  t232:=Tryz.underlying249
  a232:=Tryz.isAgg249
  z232:=Tryz.sizeOf249
  v232:=Tryz.zeroValue249
  t233:=Tryz.underlying250
  a233:=Tryz.isAgg250
  z233:=Tryz.sizeOf250
  v233:=Tryz.zeroValue250
  g15:=by kernel_rfl
  g16:=by kernel_rfl
  g17:=by kernel_rfl
  g18:=by kernel_rfl
  g19:=by kernel_rfl
  t80:=Tryz.underlying206
  a80:=Tryz.isAgg206
  z80:=Tryz.sizeOf206
  v80:=Tryz.zeroValue206
  i0:=by kernel_rfl
  i2:=by kernel_rfl
  i3:=by kernel_rfl
  i4:=by kernel_rfl
  i5:=by kernel_rfl
  i9:=by kernel_rfl
  i20:=by kernel_rfl
  i21:=by kernel_rfl
  i37:=by kernel_rfl
  i46:=by kernel_rfl
  i51:=by kernel_rfl
  i53:=by kernel_rfl
  i75:=by kernel_rfl
  i76:=by kernel_rfl
  i80:=by kernel_rfl
  i85:=by kernel_rfl
  i127:=by kernel_rfl
  i143:=by kernel_rfl
  i145:=by kernel_rfl
  i167:=by kernel_rfl
  i168:=by kernel_rfl
  i171:=by kernel_rfl
  i173:=by kernel_rfl
  i175:=by kernel_rfl
  i210:=by kernel_rfl
  i212:=by kernel_rfl
  i232:=by kernel_rfl
  i233:=by kernel_rfl
  m15:=by kernel_rfl
  m16:=by kernel_rfl
  m17:=by kernel_rfl
  m18:=by kernel_rfl
  m19:=by kernel_rfl
  c0:=by kernel_rfl
  c2:=by kernel_rfl
  c3:=by kernel_rfl
  c4:=by kernel_rfl
  c5:=by kernel_rfl
  c9:=by kernel_rfl
  c20:=by kernel_rfl
  c21:=by kernel_rfl
  c37:=by kernel_rfl
  c46:=by kernel_rfl
  c51:=by kernel_rfl
  c53:=by kernel_rfl
  c75:=by kernel_rfl
  c76:=by kernel_rfl
  c80:=by kernel_rfl
  c85:=by kernel_rfl
  c127:=by kernel_rfl
  c143:=by kernel_rfl
  c145:=by kernel_rfl
  c167:=by kernel_rfl
  c168:=by kernel_rfl
  c171:=by kernel_rfl
  c173:=by kernel_rfl
  c175:=by kernel_rfl
  c210:=by kernel_rfl
  c212:=by kernel_rfl
  c213:=by kernel_rfl
  c232:=by kernel_rfl
  c233:=by kernel_rfl }
end Go.Proofs
namespace Go.Proofs.YtmpglmcjoelciaaGreatDoor.Ev
open Go Go.Proofs Go.Proofs.Ev
set_option linter.unusedVariables false
set_option maxRecDepth 100000
def Q4e.F (n:Nat) (c:Int):Option (ByteArray):=bif decide (-9223372036854775808≤c)&&decide (c≤9223372036854775807) then Option.some (⟨(Lib.itoa c).toArray⟩) else none
theorem Q4e.hands (n:Nat) (c:Int) {p:ByteArray} (h:Q4e.F n c=some p):HandsIn Tryz.prog 76 [.v (.int .i64 c)] (.v (.string p)):=by
 unfold Q4e.F at h
 cases hc:(decide (-9223372036854775808≤c)&&decide (c≤9223372036854775807)) with
 | false=>rw [hc] at h; cases h
 | true=>
  rw [hc] at h
  cases h
  refine hands_calls (fn:=Tryz.f76) Tryz.func76 (by kernel_rfl) (by kernel_rfl) fun w F vals hQ hF hl hr=>?_
  obtain ⟨u0,rfl,h0⟩:=vals1 hl hr
  obtain rfl:=rel_v h0
  rw [Bool.and_eq_true] at hc
  refine (Tryz.strconv_Itoa c (of_decide_eq_true hc.1) (of_decide_eq_true hc.2) w (hQ.2.1 _ (List.mem_cons_self ..))).mono ?_
  rintro e w' ⟨rfl,k,os,rfl⟩
  exact ⟨F,fun _=>none,Came.of_below hF (below_grew w k os),.v _ rfl⟩
def Q4e.via {R:Type} (n:Nat) (ys:List AV):(AV→Option R)→Option R:=match ys with | [.v (.int .i64 c)]=>fun K=>(Q4e.F n c).bind fun p=>K (.v (.string p)) | _=>fun _=>none
theorem Q4e.tells1 {R:Type} (n:Nat) (ys:List AV):Tells1 (R:=R) Tryz.prog 76 ys (Q4e.via n ys):=by
 unfold Q4e.via
 split
 ·exact Tells1.of (fun p hp=>(Q4e.hands n _ hp).hands rfl)
 ·exact Tells1.none
end Go.Proofs.YtmpglmcjoelciaaGreatDoor.Ev
namespace Go.Proofs.YtmpglmcjoelciaaGreatDoor.Ev
open Go Go.Proofs Go.Proofs.Ev
set_option linter.unusedVariables false
set_option maxRecDepth 100000
def Q4i.F (n:Nat) (s:ByteArray) (c:Int):Option (Int):=bif true then Option.some (Lib.indexByte s.data.toList c.toNat.toUInt8) else none
theorem Q4i.hands (n:Nat) (s:ByteArray) (c:Int) {p:Int} (h:Q4i.F n s c=some p):HandsIn Tryz.prog 96 [.v (.string s),.v (.int .u8 c)] (.v (.int .i64 p)):=by
 unfold Q4i.F at h
 cases hc:(true) with
 | false=>rw [hc] at h; cases h
 | true=>
  rw [hc] at h
  cases h
  refine hands_calls (fn:=Tryz.f96) Tryz.func96 (by kernel_rfl) (by kernel_rfl) fun w F vals hQ hF hl hr=>?_
  obtain ⟨u0,u1,rfl,h0,h1⟩:=vals2 hl hr
  obtain rfl:=rel_v h0
  obtain rfl:=rel_v h1
  refine (Tryz.strings_IndexByte s c w).mono ?_
  rintro e w' ⟨rfl,rfl⟩
  exact ⟨F,fun _=>none,Came.same hF,.v _ rfl⟩
def Q4i.via {R:Type} (n:Nat) (ys:List AV):(AV→Option R)→Option R:=match ys with | [.v (.string s),.v (.int .u8 c)]=>fun K=>(Q4i.F n s c).bind fun p=>K (.v (.int .i64 p)) | _=>fun _=>none
theorem Q4i.tells1 {R:Type} (n:Nat) (ys:List AV):Tells1 (R:=R) Tryz.prog 96 ys (Q4i.via n ys):=by
 unfold Q4i.via
 split
 ·exact Tells1.of (fun p hp=>(Q4i.hands n _ _ hp).hands rfl)
 ·exact Tells1.none
end Go.Proofs.YtmpglmcjoelciaaGreatDoor.Ev
namespace Go.Proofs.YtmpglmcjoelciaaGreatDoor.Ev
open Go Go.Proofs Go.Proofs.Ev
set_option linter.unusedVariables false
set_option maxRecDepth 100000
def Q4h.F (n:Nat) (s:ByteArray) (t:ByteArray):Option (Int):=bif decide (s.size < 4294967281) then Option.some (Lib.index s.data.toList t.data.toList) else none
theorem Q4h.hands (n:Nat) (s:ByteArray) (t:ByteArray) {p:Int} (h:Q4h.F n s t=some p):HandsIn Tryz.prog 106 [vs s,vs t] (.v (.int .i64 p)):=by
 unfold Q4h.F at h
 cases hc:(decide (s.size < 4294967281)) with
 | false=>rw [hc] at h; cases h
 | true=>
  rw [hc] at h
  cases h
  refine hands_calls (fn:=Tryz.f106) Tryz.func106 (by kernel_rfl) (by kernel_rfl) fun w F vals hQ hF hl hr=>?_
  obtain ⟨u,v,rfl,hu,hv⟩:=vals2 hl hr
  obtain rfl:=rel_v hu
  obtain rfl:=rel_v hv
  refine (Tryz.strings_Index_shaped s t w (Rooted.opened _ hQ) (of_decide_eq_true hc)).mono ?_
  rintro e w' ⟨rfl,rfl⟩
  exact ⟨F,fun _=>none,Came.same hF,.v _ rfl⟩
def Q4h.via {R:Type} (n:Nat) (ys:List AV):(AV→Option R)→Option R:=match ys with | [.v (.string s),.v (.string t)]=>fun K=>(Q4h.F n s t).bind fun p=>K (.v (.int .i64 p)) | _=>fun _=>none
theorem Q4h.tells1 {R:Type} (n:Nat) (ys:List AV):Tells1 (R:=R) Tryz.prog 106 ys (Q4h.via n ys):=by
 unfold Q4h.via
 split
 ·exact Tells1.of (fun p hp=>(Q4h.hands n _ _ hp).hands rfl)
 ·exact Tells1.none
end Go.Proofs.YtmpglmcjoelciaaGreatDoor.Ev
namespace Go.Proofs.YtmpglmcjoelciaaGreatDoor.Ev
open Go Go.Proofs Go.Proofs.Ev
set_option linter.unusedVariables false
set_option maxRecDepth 100000
def Q4j.F (n:Nat) (s:ByteArray) (t:ByteArray) (u:ByteArray):Option (ByteArray):=bif (decide (s.size < 4294967281)&&decide (1≤t.size))&&decide (s.size+Lib.countB s t*u.size≤140737488355328) then Option.some (⟨(Lib.replaceAll s.data.toList t.data.toList u.data.toList).toArray⟩) else none
theorem Q4j.hands (n:Nat) (s:ByteArray) (t:ByteArray) (u:ByteArray) {p:ByteArray} (h:Q4j.F n s t u=some p):HandsIn Tryz.prog 122 [.v (.string s),.v (.string t),.v (.string u)] (.v (.string p)):=by
 unfold Q4j.F at h
 cases hc:((decide (s.size < 4294967281)&&decide (1≤t.size))&&decide (s.size+Lib.countB s t*u.size≤140737488355328)) with
 | false=>rw [hc] at h; cases h
 | true=>
  rw [hc] at h
  cases h
  refine hands_calls (fn:=Tryz.f122) Tryz.func122 (by kernel_rfl) (by kernel_rfl) fun w F vals hQ hF hl hr=>?_
  obtain ⟨u0,u1,u2,rfl,h0,h1,h2⟩:=vals3 hl hr
  obtain rfl:=rel_v h0
  obtain rfl:=rel_v h1
  obtain rfl:=rel_v h2
  rw [Bool.and_eq_true,Bool.and_eq_true] at hc
  refine (Tryz.strings_ReplaceAll_shaped s t u w (Rooted.opened _ hQ) (of_decide_eq_true hc.1.1) (of_decide_eq_true hc.1.2) (of_decide_eq_true hc.2)).mono ?_
  rintro e w' ⟨rfl,hB⟩
  exact ⟨F,fun _=>none,Came.of_below hF hB,.v _ rfl⟩
def Q4j.via {R:Type} (n:Nat) (ys:List AV):(AV→Option R)→Option R:=match ys with | [.v (.string s),.v (.string t),.v (.string u)]=>fun K=>(Q4j.F n s t u).bind fun p=>K (.v (.string p)) | _=>fun _=>none
theorem Q4j.tells1 {R:Type} (n:Nat) (ys:List AV):Tells1 (R:=R) Tryz.prog 122 ys (Q4j.via n ys):=by
 unfold Q4j.via
 split
 ·exact Tells1.of (fun p hp=>(Q4j.hands n _ _ _ hp).hands rfl)
 ·exact Tells1.none
end Go.Proofs.YtmpglmcjoelciaaGreatDoor.Ev
namespace Go.Proofs.YtmpglmcjoelciaaGreatDoor.Ev
open Go Go.Proofs Go.Proofs.Ev
set_option linter.unusedVariables false
set_option maxRecDepth 100000
def Q4d.F (n:Nat) (s:ByteArray):Option (Int × Bool):=bif decide (s.size≤281474976710656) then Option.some (atoiR s.data.toList) else none
theorem Q4d.hands (n:Nat) (s:ByteArray) {p:Int × Bool} (h:Q4d.F n s=some p):HandsIn Tryz.prog 153 [.v (.string s)] (.tup [.v (.int .i64 p.1),.err p.2]):=by
 unfold Q4d.F at h
 cases hc:(decide (s.size≤281474976710656)) with
 | false=>rw [hc] at h; cases h
 | true=>
  rw [hc] at h
  cases h
  refine hands_calls (fn:=Tryz.f153) Tryz.func153 (by kernel_rfl) (by kernel_rfl) fun w F vals hQ hF hl hr=>?_
  obtain ⟨u0,rfl,h0⟩:=vals1 hl hr
  obtain rfl:=rel_v h0
  exact atoi_calls Tryz.laysC172 hF s (of_decide_eq_true hc) (Sents.at hQ.1 rfl) (Sents.at hQ.1 rfl)
def Q4d.via {R:Type} (n:Nat) (ys:List AV):(AV→Option R)→Option R:=match ys with | [.v (.string s)]=>fun K=>(Q4d.F n s).bind fun p=>K (.tup [.v (.int .i64 p.1),.err p.2]) | _=>fun _=>none
theorem Q4d.tells1 {R:Type} (n:Nat) (ys:List AV):Tells1 (R:=R) Tryz.prog 153 ys (Q4d.via n ys):=by
 unfold Q4d.via
 split
 ·exact Tells1.of (fun p hp=>(Q4d.hands n _ hp).hands rfl)
 ·exact Tells1.none
end Go.Proofs.YtmpglmcjoelciaaGreatDoor.Ev
namespace Go.Proofs.YtmpglmcjoelciaaGreatDoor.Ev
open Go Go.Proofs Go.Proofs.Ev
set_option linter.unusedVariables false
set_option maxRecDepth 100000
def Q4g.F (n:Nat) (s:ByteArray) (t:ByteArray):Option (ByteArray × ByteArray × Bool):=bif decide (s.size < 4294967281) then Option.some ((⟨(Lib.cut s.data.toList t.data.toList).1.toArray⟩,⟨(Lib.cut s.data.toList t.data.toList).2.1.toArray⟩,(Lib.cut s.data.toList t.data.toList).2.2)) else none
theorem Q4g.hands (n:Nat) (s:ByteArray) (t:ByteArray) {p:ByteArray × ByteArray × Bool} (h:Q4g.F n s t=some p):HandsIn Tryz.prog 184 [.v (.string s),.v (.string t)] (.tup [.v (.string p.1),.v (.string p.2.1),.v (.bool p.2.2)]):=by
 unfold Q4g.F at h
 cases hc:(decide (s.size < 4294967281)) with
 | false=>rw [hc] at h; cases h
 | true=>
  rw [hc] at h
  cases h
  refine hands_calls (fn:=Tryz.f184) Tryz.func184 (by kernel_rfl) (by kernel_rfl) fun w F vals hQ hF hl hr=>?_
  obtain ⟨u0,u1,rfl,h0,h1⟩:=vals2 hl hr
  obtain rfl:=rel_v h0
  obtain rfl:=rel_v h1
  refine (Tryz.strings_Cut_shaped s t w (Rooted.opened _ hQ) (of_decide_eq_true hc)).mono ?_
  rintro e w' ⟨rfl,n,rfl⟩
  exact ⟨F,fun _=>none,Came.of_below hF ⟨rfl,rfl,rfl,Nat.le_refl _,fun _ _=>rfl⟩,#[_,_,_],rfl,rfl,.v _ rfl,.v _ rfl,.v _ rfl,trivial⟩
def Q4g.via {R:Type} (n:Nat) (ys:List AV):(AV→Option R)→Option R:=match ys with | [.v (.string s),.v (.string t)]=>fun K=>(Q4g.F n s t).bind fun p=>K (.tup [.v (.string p.1),.v (.string p.2.1),.v (.bool p.2.2)]) | _=>fun _=>none
theorem Q4g.tells1 {R:Type} (n:Nat) (ys:List AV):Tells1 (R:=R) Tryz.prog 184 ys (Q4g.via n ys):=by
 unfold Q4g.via
 split
 ·exact Tells1.of (fun p hp=>(Q4g.hands n _ _ hp).hands rfl)
 ·exact Tells1.none
end Go.Proofs.YtmpglmcjoelciaaGreatDoor.Ev
namespace Go.Proofs.YtmpglmcjoelciaaGreatDoor.Ev
open Go Go.Proofs Go.Proofs.Ev
set_option linter.unusedVariables false
set_option maxRecDepth 100000
def Q4k.F (n:Nat) (s:ByteArray) (t:ByteArray):Option (ByteArray):=bif Nat.beq t.data.toList.length 1&&decide ((t.data.toList.headD 0).toNat < 128) then Option.some (⟨(Lib.trimLeftB s.data.toList (t.data.toList.headD 0)).toArray⟩) else none
theorem Q4k.hands (n:Nat) (s:ByteArray) (t:ByteArray) {p:ByteArray} (h:Q4k.F n s t=some p):HandsIn Tryz.prog 185 [.v (.string s),.v (.string t)] (.v (.string p)):=by
 unfold Q4k.F at h
 cases hc:(Nat.beq t.data.toList.length 1&&decide ((t.data.toList.headD 0).toNat < 128)) with
 | false=>rw [hc] at h; cases h
 | true=>
  rw [hc] at h
  cases h
  refine hands_calls (fn:=Tryz.f185) Tryz.func185 (by kernel_rfl) (by kernel_rfl) fun w F vals hQ hF hl hr=>?_
  obtain ⟨u0,u1,rfl,h0,h1⟩:=vals2 hl hr
  obtain rfl:=rel_v h0
  obtain rfl:=rel_v h1
  rw [Bool.and_eq_true] at hc
  have ht:=one_byte (Nat.eq_of_beq_eq_true hc.1)
  have:=Tryz.strings_TrimLeft_one s (t.data.toList.headD 0) (of_decide_eq_true hc.2) w
  rw [← ht] at this
  refine this.mono ?_
  rintro e w' ⟨rfl,rfl⟩
  exact ⟨F,fun _=>none,Came.same hF,.v _ rfl⟩
def Q4k.via {R:Type} (n:Nat) (ys:List AV):(AV→Option R)→Option R:=match ys with | [.v (.string s),.v (.string t)]=>fun K=>(Q4k.F n s t).bind fun p=>K (.v (.string p)) | _=>fun _=>none
theorem Q4k.tells1 {R:Type} (n:Nat) (ys:List AV):Tells1 (R:=R) Tryz.prog 185 ys (Q4k.via n ys):=by
 unfold Q4k.via
 split
 ·exact Tells1.of (fun p hp=>(Q4k.hands n _ _ hp).hands rfl)
 ·exact Tells1.none
end Go.Proofs.YtmpglmcjoelciaaGreatDoor.Ev
namespace Go.Proofs.YtmpglmcjoelciaaGreatDoor.Ev
open Go Go.Proofs Go.Proofs.Ev
set_option linter.unusedVariables false
set_option maxRecDepth 100000
def Q2j.own (f:FuncId):Bool:=Nat.beq f 76||Nat.beq f 96||Nat.beq f 106||Nat.beq f 122||Nat.beq f 153||Nat.beq f 184||Nat.beq f 185
def Q2j.C0 {R:Type} (f:FuncId) (xs:List AV):(AV→Option R)→Option R:=bif Nat.beq f 76 then Q4e.via 0 xs else bif Nat.beq f 96 then Q4i.via 0 xs else bif Nat.beq f 106 then Q4h.via 0 xs else bif Nat.beq f 122 then Q4j.via 0 xs else bif Nat.beq f 153 then Q4d.via 0 xs else bif Nat.beq f 184 then Q4g.via 0 xs else bif Nat.beq f 185 then Q4k.via 0 xs else fun _=>none
theorem Q2j.tells0 {R:Type}:Tells (R:=R) Tryz.prog Q2j.C0:=fun _ xs=>tells_at (Q4e.tells1 0 xs) (tells_at (Q4i.tells1 0 xs) (tells_at (Q4h.tells1 0 xs) (tells_at (Q4j.tells1 0 xs) (tells_at (Q4d.tells1 0 xs) (tells_at (Q4g.tells1 0 xs) (tells_at (Q4k.tells1 0 xs) (Tells1.none)))))))
def Q2j.F (n:Nat):Option Bool:=Option.some true
theorem Q2j.run:interp Tryz.prog G Q2j.own Q2j.C0 (fun _ _=>none) 1000 100 12 []=Option.some (vb true):=by kernel_rfl
def Q2j.via {R:Type} (n:Nat) (ys:List AV):(AV→Option R)→Option R:=match ys with | []=>fun K=>(Q2j.F n).bind fun p=>K (.v (.bool p)) | _=>fun _=>none
theorem Q2j.tells1 {R:Type} (n:Nat) (ys:List AV):Tells1 (R:=R) Tryz.prog 12 ys (Q2j.via n ys):=by
 unfold Q2j.via
 split
 ·exact Tells1.of (fun p hp=>by cases hp; exact interp_tells cfg mixed globs rfl Q2j.tells0 100 _ _ _ Q2j.run)
 ·exact Tells1.none
end Go.Proofs.YtmpglmcjoelciaaGreatDoor.Ev
namespace Go.Proofs.YtmpglmcjoelciaaGreatDoor.Ev
open Go Go.Proofs Go.Proofs.Ev
set_option linter.unusedVariables false
set_option maxRecDepth 100000
abbrev Q2k.A:=List AV
abbrev Q2k.T:=Bool
def Q2k.i:Q2k.A→List AV:=fun a0=>[.sl ⟨true,111⟩ 2 a0]
def Q2k.o (xs:List AV):Option Q2k.A:=match xs with | [.sl ⟨true,111⟩ 2 a0]=>some a0 | _=>none
theorem Q2k.oi:∀ xs a,Q2k.o xs=some a→xs=Q2k.i a:=by
 intro xs a h
 unfold Q2k.o at h
 split at h
 ·cases h; rfl
 ·cases h
def Q2k.p (p:Q2k.T):AV:=vb p
def Q2k.q (x:AV):Option Q2k.T:=match x with | .v (.bool p0)=>some p0 | _=>none
theorem Q2k.qi:∀ x p,Q2k.q x=some p→x=Q2k.p p:=by
 intro x p h
 unfold Q2k.q at h
 split at h
 ·cases h; rfl
 ·cases h
inductive Q2k.Z where
 | z2 (z1:List AV) (z2:Int)
def Q2k.C {R:Type} (n:Nat) (f:FuncId) (xs:List AV):(AV→Option R)→Option R:=
 fun _=>none
theorem Q2k.tells {R:Type} (n:Nat):Tells (R:=R) Tryz.prog (Q2k.C n):=fun _ xs=>Tells1.none
def Q2k.cut (r:Nat):Option Keep:=match r with | 2=>some ⟨[0,3],[]⟩ | _=>none
def Q2k.t (z:Q2k.Z):List Item:=(todoOf (match z with | .z2 _ _=>2) 1000 [.code (Tryz.f50.body.getD .skip)]).getD []
def Q2k.s:Q2k.Z→St
 | .z2 z1 z2=>⟨spr 17 0 [(0,.sl ⟨true,111⟩ 2 z1),(3,vi z2)],Mem.ofList [],0⟩
def Q2k.r2 (n:Nat) (c:Q2k.Z→Option Bool) (z1:List AV) (z2:Int):Option Bool:=
 let y1:Bool:=decide (z2 < ((z1.length:Nat):Int))
 bif y1 then (bif decide ((0:Int)≤z2)&&decide (z2 < ((z1.length:Nat):Int)) then (withCons ((z1.getD ((z2).toNat) .undef).cells) fun h2 r3=>
 withStr h2 fun s4=>
 let y5:Bool:=decide (((s4.size:Nat):Int) > 100)
 bif y5 then (some false) else (c (.z2 z1 (IntKind.i64.wrap (z2+1))))) else none) else (some true)
def Q2k.r (n:Nat) (c:Q2k.Z→Option Bool):Q2k.Z→Option Bool
 | .z2 z1 z2=>Q2k.r2 n c z1 z2
def Q2k.e (n:Nat) (c:Q2k.Z→Option Bool) (a0:List AV):Option Bool:=
 c (.z2 a0 0)
def Q2k.E (n:Nat) (c:Q2k.Z→Option Bool):Q2k.A→Option Q2k.T:=fun a0=>Q2k.e n c a0
def Q2k.l (n:Nat):Nat→Q2k.Z→Option Bool:=loopL (Q2k.r n)
def Q2k.F (n:Nat) (a0:List AV):Option Bool:=Q2k.e n (Q2k.l n n) a0
def Q2k.FA (n:Nat):Q2k.A→Option Q2k.T:=Q2k.E n (Q2k.l n n)
theorem Q2k.hands (n:Nat):∀ a p,Q2k.FA n a=some p→HandsIn Tryz.prog 50 (Q2k.i a) (Q2k.p p):=
 pf_hands (C:=Q2k.C n) (cut:=Q2k.cut) (t:=Q2k.t) (s:=Q2k.s) (e:=Q2k.E n) (r:=Q2k.r n) (n:=n) cfg mixed globs rfl Q2k.qi (Q2k.tells n) Tryz.func50 (by kernel_rfl) (by kernel_rfl) (fun rec a=>by kernel_rfl) (fun rec z=>by cases z <;> kernel_rfl)
def Q2k.via {R:Type} (n:Nat):List AV→(AV→Option R)→Option R:=viaK (Q2k.FA n) Q2k.o Q2k.p
theorem Q2k.tells1 {R:Type} (n:Nat) (xs:List AV):Tells1 (R:=R) Tryz.prog 50 xs (Q2k.via n xs):=tells_via Q2k.oi (fun a=>by kernel_rfl) (Q2k.hands n) xs
end Go.Proofs.YtmpglmcjoelciaaGreatDoor.Ev
namespace Go.Proofs.YtmpglmcjoelciaaGreatDoor.Ev
open Go Go.Proofs Go.Proofs.Ev
set_option linter.unusedVariables false
set_option maxRecDepth 100000
abbrev Q2i.A:=ByteArray × ByteArray × List AV × List AV × List AV × List AV × Bool × List AV
abbrev Q2i.T:=Bool
def Q2i.i:Q2i.A→List AV:=fun (a0,a1,a2,a3,a4,a5,a6,a7)=>[AV.agg [vs a0,vs a1,.sl ⟨true,9⟩ 1 a2,.sl ⟨true,95⟩ 3 a3,.sl ⟨true,97⟩ 4 a4,.sl ⟨true,111⟩ 2 a5,vb a6,.sl ⟨false,100⟩ 2 a7]]
def Q2i.o (xs:List AV):Option Q2i.A:=match xs with | [.agg [.v (.string a0),.v (.string a1),.sl ⟨true,9⟩ 1 a2,.sl ⟨true,95⟩ 3 a3,.sl ⟨true,97⟩ 4 a4,.sl ⟨true,111⟩ 2 a5,.v (.bool a6),.sl ⟨false,100⟩ 2 a7]]=>some (a0,a1,a2,a3,a4,a5,a6,a7) | _=>none
theorem Q2i.oi:∀ xs a,Q2i.o xs=some a→xs=Q2i.i a:=by
 intro xs a h
 unfold Q2i.o at h
 split at h
 ·cases h; rfl
 ·cases h
def Q2i.p (p:Q2i.T):AV:=vb p
def Q2i.q (x:AV):Option Q2i.T:=match x with | .v (.bool p0)=>some p0 | _=>none
theorem Q2i.qi:∀ x p,Q2i.q x=some p→x=Q2i.p p:=by
 intro x p h
 unfold Q2i.q at h
 split at h
 ·cases h; rfl
 ·cases h
inductive Q2i.Z where
 | z2
 | z4 (z1:Int) (z2 z3:ByteArray) (z4 z5 z6 z7:List AV) (z8:Bool) (z9:List AV)
 | z9 (z1:Int) (z2 z3:ByteArray) (z4 z5 z6 z7:List AV) (z8:Bool) (z9:List AV)
 | z14 (z1:Int) (z2 z3:ByteArray) (z4 z5 z6 z7:List AV) (z8:Bool) (z9:List AV)
 | z19 (z1:Int) (z2 z3:ByteArray) (z4 z5 z6 z7:List AV) (z8:Bool) (z9:List AV)
 | z24 (z1 z2:Int) (z3 z4:ByteArray) (z5 z6 z7 z8:List AV) (z9:Bool) (z10:List AV)
def Q2i.C {R:Type} (n:Nat) (f:FuncId) (xs:List AV):(AV→Option R)→Option R:=
 bif Nat.beq f 50 then Q2k.via n xs else fun _=>none
theorem Q2i.tells {R:Type} (n:Nat):Tells (R:=R) Tryz.prog (Q2i.C n):=fun _ xs=>tells_at (Q2k.tells1 n xs) (Tells1.none)
def Q2i.cut (r:Nat):Option Keep:=match r with | 2=>some ⟨[],[]⟩ | 4=>some ⟨[1,3],[]⟩ | 9=>some ⟨[1,4],[]⟩ | 14=>some ⟨[1,5],[]⟩ | 19=>some ⟨[1,6],[]⟩ | 24=>some ⟨[1,6,7],[]⟩ | _=>none
def Q2i.t (z:Q2i.Z):List Item:=(todoOf (match z with | .z2=>2 | .z4 _ _ _ _ _ _ _ _ _=>4 | .z9 _ _ _ _ _ _ _ _ _=>9 | .z14 _ _ _ _ _ _ _ _ _=>14 | .z19 _ _ _ _ _ _ _ _ _=>19 | .z24 _ _ _ _ _ _ _ _ _ _=>24) 1000 [.code (Tryz.f16.body.getD .skip)]).getD []
def Q2i.s:Q2i.Z→St
 | .z2=>⟨spr 165 0 [],Mem.ofList [],0⟩
 | .z4 z1 z2 z3 z4 z5 z6 z7 z8 z9=>⟨spr 165 0 [(1,.ptr 0 0),(3,vi z1)],Mem.ofList [.box 36 [vs z2,vs z3,.sl ⟨true,9⟩ 1 z4,.sl ⟨true,95⟩ 3 z5,.sl ⟨true,97⟩ 4 z6,.sl ⟨true,111⟩ 2 z7,vb z8,.sl ⟨false,100⟩ 2 z9]],1⟩
 | .z9 z1 z2 z3 z4 z5 z6 z7 z8 z9=>⟨spr 165 0 [(1,.ptr 0 0),(4,vi z1)],Mem.ofList [.box 36 [vs z2,vs z3,.sl ⟨true,9⟩ 1 z4,.sl ⟨true,95⟩ 3 z5,.sl ⟨true,97⟩ 4 z6,.sl ⟨true,111⟩ 2 z7,vb z8,.sl ⟨false,100⟩ 2 z9]],1⟩
 | .z14 z1 z2 z3 z4 z5 z6 z7 z8 z9=>⟨spr 165 0 [(1,.ptr 0 0),(5,vi z1)],Mem.ofList [.box 36 [vs z2,vs z3,.sl ⟨true,9⟩ 1 z4,.sl ⟨true,95⟩ 3 z5,.sl ⟨true,97⟩ 4 z6,.sl ⟨true,111⟩ 2 z7,vb z8,.sl ⟨false,100⟩ 2 z9]],1⟩
 | .z19 z1 z2 z3 z4 z5 z6 z7 z8 z9=>⟨spr 165 0 [(1,.ptr 0 0),(6,vi z1)],Mem.ofList [.box 36 [vs z2,vs z3,.sl ⟨true,9⟩ 1 z4,.sl ⟨true,95⟩ 3 z5,.sl ⟨true,97⟩ 4 z6,.sl ⟨true,111⟩ 2 z7,vb z8,.sl ⟨false,100⟩ 2 z9]],1⟩
 | .z24 z1 z2 z3 z4 z5 z6 z7 z8 z9 z10=>⟨spr 165 0 [(1,.ptr 0 0),(6,vi z1),(7,vi z2)],Mem.ofList [.box 36 [vs z3,vs z4,.sl ⟨true,9⟩ 1 z5,.sl ⟨true,95⟩ 3 z6,.sl ⟨true,97⟩ 4 z7,.sl ⟨true,111⟩ 2 z8,vb z9,.sl ⟨false,100⟩ 2 z10]],1⟩
def Q2i.r2 (n:Nat) (c:Q2i.Z→Option Bool)  : Option Bool:=
 some false
def Q2i.r4 (n:Nat) (c:Q2i.Z→Option Bool) (z1:Int) (z2 z3:ByteArray) (z4 z5 z6 z7:List AV) (z8:Bool) (z9:List AV):Option Bool:=
 let y9:Bool:=decide (z1 < ((z4.length:Nat):Int))
 bif y9 then (bif decide ((0:Int)≤z1)&&decide (z1 < ((z4.length:Nat):Int)) then (withCons ((z4.getD ((z1).toNat) .undef).cells) fun h10 r11=>
 withStr h10 fun s12=>
 let y13:Bool:=decide (((s12.size:Nat):Int) > 100)
 bif y13 then (some false) else (c (.z4 (IntKind.i64.wrap (z1+1)) z2 z3 z4 z5 z6 z7 z8 z9))) else none) else (c (.z9 0 z2 z3 z4 z5 z6 z7 z8 z9))
def Q2i.r9 (n:Nat) (c:Q2i.Z→Option Bool) (z1:Int) (z2 z3:ByteArray) (z4 z5 z6 z7:List AV) (z8:Bool) (z9:List AV):Option Bool:=
 let y14:Bool:=decide (z1 < ((z5.length:Nat):Int))
 bif y14 then (bif decide ((0:Int)≤z1)&&decide (z1 < ((z5.length:Nat):Int)) then (withCons ((z5.getD ((z1).toNat) .undef).cells) fun h15 r16=>
 withStr h15 fun s17=>
 let y18:Bool:=decide (((s17.size:Nat):Int) > 100)
 bif y18 then (some false) else (bif decide ((0:Int)≤z1)&&decide (z1 < ((z5.length:Nat):Int)) then (withCons (((z5.getD ((z1).toNat) .undef).cells).drop 2) fun h19 r20=>
 withStr h19 fun s21=>
 let y22:Bool:=decide (((s21.size:Nat):Int) > 100)
 bif y22 then (some false) else (c (.z9 (IntKind.i64.wrap (z1+1)) z2 z3 z4 z5 z6 z7 z8 z9))) else none)) else none) else (c (.z14 0 z2 z3 z4 z5 z6 z7 z8 z9))
def Q2i.r14 (n:Nat) (c:Q2i.Z→Option Bool) (z1:Int) (z2 z3:ByteArray) (z4 z5 z6 z7:List AV) (z8:Bool) (z9:List AV):Option Bool:=
 let y23:Bool:=decide (z1 < ((z6.length:Nat):Int))
 bif y23 then (bif decide ((0:Int)≤z1)&&decide (z1 < ((z6.length:Nat):Int)) then (withCons (((z6.getD ((z1).toNat) .undef).cells).drop 1) fun h24 r25=>
 withStr h24 fun s26=>
 let y27:Bool:=decide (((s26.size:Nat):Int) > 100)
 bif y27 then (some false) else (bif decide ((0:Int)≤z1)&&decide (z1 < ((z6.length:Nat):Int)) then (withCons (((z6.getD ((z1).toNat) .undef).cells).drop 3) fun h28 r29=>
 withStr h28 fun s30=>
 let y31:Bool:=decide (((s30.size:Nat):Int) > 100)
 bif y31 then (some false) else (c (.z14 (IntKind.i64.wrap (z1+1)) z2 z3 z4 z5 z6 z7 z8 z9))) else none)) else none) else (c (.z19 0 z2 z3 z4 z5 z6 z7 z8 z9))
def Q2i.r19 (n:Nat) (c:Q2i.Z→Option Bool) (z1:Int) (z2 z3:ByteArray) (z4 z5 z6 z7:List AV) (z8:Bool) (z9:List AV):Option Bool:=
 let y32:Bool:=decide (z1 < ((z9.length:Nat):Int))
 bif y32 then (bif decide ((0:Int)≤z1)&&decide (z1 < ((z9.length:Nat):Int)) then (withCons (((z9.getD ((z1).toNat) .undef).cells).drop 1) fun h33 r34=>
 withSl ⟨true,104⟩ 4 h33 fun xs35=>
 let y36:Bool:=decide (((xs35.length:Nat):Int) > 8)
 bif y36 then (some false) else (c (.z24 z1 0 z2 z3 z4 z5 z6 z7 z8 z9))) else none) else (some true)
def Q2i.r24 (n:Nat) (c:Q2i.Z→Option Bool) (z1 z2:Int) (z3 z4:ByteArray) (z5 z6 z7 z8:List AV) (z9:Bool) (z10:List AV):Option Bool:=
 bif decide ((0:Int)≤z1)&&decide (z1 < ((z10.length:Nat):Int)) then (withCons (((z10.getD ((z1).toNat) .undef).cells).drop 1) fun h37 r38=>
 withSl ⟨true,104⟩ 4 h37 fun xs39=>
 let y40:Bool:=decide (z2 < ((xs39.length:Nat):Int))
 bif y40 then (bif decide ((0:Int)≤z1)&&decide (z1 < ((z10.length:Nat):Int)) then (withCons (((z10.getD ((z1).toNat) .undef).cells).drop 1) fun h41 r42=>
 withSl ⟨true,104⟩ 4 h41 fun xs43=>
 bif decide ((0:Int)≤z2)&&decide (z2 < ((xs43.length:Nat):Int)) then (withCons ((xs43.getD ((z2).toNat) .undef).cells) fun h44 r45=>
 withStr h44 fun s46=>
 withCons r45 fun h47 r48=>
 withInt .i64 h47 fun x49=>
 withCons r48 fun h50 r51=>
 withInt .i64 h50 fun x52=>
 withCons r51 fun h53 r54=>
 withStr h53 fun s55=>
 let y56:Bool:=decide (((s46.size:Nat):Int) > 100)
 bif y56 then (some false) else (let y57:Bool:=decide (((s55.size:Nat):Int) > 400)
 bif y57 then (some false) else (c (.z24 z1 (IntKind.i64.wrap (z2+1)) z3 z4 z5 z6 z7 z8 z9 z10)))) else none) else none) else (c (.z19 (IntKind.i64.wrap (z1+1)) z3 z4 z5 z6 z7 z8 z9 z10))) else none
def Q2i.r (n:Nat) (c:Q2i.Z→Option Bool):Q2i.Z→Option Bool
 | .z2=>Q2i.r2 n c
 | .z4 z1 z2 z3 z4 z5 z6 z7 z8 z9=>Q2i.r4 n c z1 z2 z3 z4 z5 z6 z7 z8 z9
 | .z9 z1 z2 z3 z4 z5 z6 z7 z8 z9=>Q2i.r9 n c z1 z2 z3 z4 z5 z6 z7 z8 z9
 | .z14 z1 z2 z3 z4 z5 z6 z7 z8 z9=>Q2i.r14 n c z1 z2 z3 z4 z5 z6 z7 z8 z9
 | .z19 z1 z2 z3 z4 z5 z6 z7 z8 z9=>Q2i.r19 n c z1 z2 z3 z4 z5 z6 z7 z8 z9
 | .z24 z1 z2 z3 z4 z5 z6 z7 z8 z9 z10=>Q2i.r24 n c z1 z2 z3 z4 z5 z6 z7 z8 z9 z10
def Q2i.e (n:Nat) (c:Q2i.Z→Option Bool) (a0 a1:ByteArray) (a2 a3 a4 a5:List AV) (a6:Bool) (a7:List AV):Option Bool:=
 let y1:Bool:=decide (((a0.size:Nat):Int) > 100)
 bif y1 then (c .z2) else (let y2:Bool:=decide (((a1.size:Nat):Int) > 100)
 bif y2 then (c .z2) else (let y3:Bool:=decide (((a2.length:Nat):Int) > 8)
 bif y3 then (c .z2) else (let y4:Bool:=decide (((a3.length:Nat):Int) > 40)
 bif y4 then (c .z2) else (let y5:Bool:=decide (((a4.length:Nat):Int) > 40)
 bif y5 then (c .z2) else (let y6:Bool:=decide (((a5.length:Nat):Int) > 40)
 bif y6 then (c .z2) else (let y7:Bool:=decide (((a7.length:Nat):Int) > 12)
 bif y7 then (c .z2) else ((Q2k.F n a5).bind fun p8=>
 bif !p8 then (c .z2) else (c (.z4 0 a0 a1 a2 a3 a4 a5 a6 a7)))))))))
def Q2i.E (n:Nat) (c:Q2i.Z→Option Bool):Q2i.A→Option Q2i.T:=fun (a0,a1,a2,a3,a4,a5,a6,a7)=>Q2i.e n c a0 a1 a2 a3 a4 a5 a6 a7
def Q2i.l (n:Nat):Nat→Q2i.Z→Option Bool:=loopL (Q2i.r n)
def Q2i.F (n:Nat) (a0 a1:ByteArray) (a2 a3 a4 a5:List AV) (a6:Bool) (a7:List AV):Option Bool:=Q2i.e n (Q2i.l n n) a0 a1 a2 a3 a4 a5 a6 a7
def Q2i.FA (n:Nat):Q2i.A→Option Q2i.T:=Q2i.E n (Q2i.l n n)
theorem Q2i.hands (n:Nat):∀ a p,Q2i.FA n a=some p→HandsIn Tryz.prog 16 (Q2i.i a) (Q2i.p p):=
 pf_hands (C:=Q2i.C n) (cut:=Q2i.cut) (t:=Q2i.t) (s:=Q2i.s) (e:=Q2i.E n) (r:=Q2i.r n) (n:=n) cfg mixed globs rfl Q2i.qi (Q2i.tells n) Tryz.func16 (by kernel_rfl) (by kernel_rfl) (fun rec a=>by kernel_rfl) (fun rec z=>by cases z <;> kernel_rfl)
def Q2i.via {R:Type} (n:Nat):List AV→(AV→Option R)→Option R:=viaK (Q2i.FA n) Q2i.o Q2i.p
theorem Q2i.tells1 {R:Type} (n:Nat) (xs:List AV):Tells1 (R:=R) Tryz.prog 16 xs (Q2i.via n xs):=tells_via Q2i.oi (fun a=>by kernel_rfl) (Q2i.hands n) xs
end Go.Proofs.YtmpglmcjoelciaaGreatDoor.Ev
namespace Go.Proofs.YtmpglmcjoelciaaGreatDoor.Ev
open Go Go.Proofs Go.Proofs.Ev
set_option linter.unusedVariables false
set_option maxRecDepth 100000
abbrev Q0f.A:=Bool × Int
abbrev Q0f.T:=Int
def Q0f.i:Q0f.A→List AV:=fun (a0,a1)=>[vb a0,vi a1]
def Q0f.o (xs:List AV):Option Q0f.A:=match xs with | [.v (.bool a0),.v (.int .i64 a1)]=>some (a0,a1) | _=>none
theorem Q0f.oi:∀ xs a,Q0f.o xs=some a→xs=Q0f.i a:=by
 intro xs a h
 unfold Q0f.o at h
 split at h
 ·cases h; rfl
 ·cases h
def Q0f.p (p:Q0f.T):AV:=vi p
def Q0f.q (x:AV):Option Q0f.T:=match x with | .v (.int .i64 p0)=>some p0 | _=>none
theorem Q0f.qi:∀ x p,Q0f.q x=some p→x=Q0f.p p:=by
 intro x p h
 unfold Q0f.q at h
 split at h
 ·cases h; rfl
 ·cases h
def Q0f.C {R:Type} (n:Nat) (f:FuncId) (xs:List AV):(AV→Option R)→Option R:=
 fun _=>none
theorem Q0f.tells {R:Type} (n:Nat):Tells (R:=R) Tryz.prog (Q0f.C n):=fun _ xs=>Tells1.none
def Q0f.cut (r:Nat):Option Keep:=match r with  | _=>none
def Q0f.e (n:Nat) (a0:Bool) (a1:Int):Option Int:=
 bif a0 then (some a1) else (some 0)
def Q0f.E (n:Nat):Q0f.A→Option Q0f.T:=fun (a0,a1)=>Q0f.e n a0 a1
def Q0f.F (n:Nat) (a0:Bool) (a1:Int):Option Int:=Q0f.e n a0 a1
def Q0f.FA (n:Nat):Q0f.A→Option Q0f.T:=Q0f.E n
theorem Q0f.hands (n:Nat):∀ a p,Q0f.FA n a=some p→HandsIn Tryz.prog 45 (Q0f.i a) (Q0f.p p):=
 pf_hands (C:=Q0f.C n) (cut:=Q0f.cut) (Z:=Empty) (t:=nofun) (s:=nofun) (e:=fun _=>Q0f.E n) (r:=fun _ z=>nomatch z) (n:=n) cfg mixed globs rfl Q0f.qi (Q0f.tells n) Tryz.func45 (by kernel_rfl) (by kernel_rfl) (fun rec a=>by kernel_rfl) (fun rec z=>nomatch z)
def Q0f.via {R:Type} (n:Nat):List AV→(AV→Option R)→Option R:=viaK (Q0f.FA n) Q0f.o Q0f.p
theorem Q0f.tells1 {R:Type} (n:Nat) (xs:List AV):Tells1 (R:=R) Tryz.prog 45 xs (Q0f.via n xs):=tells_via Q0f.oi (fun a=>by kernel_rfl) (Q0f.hands n) xs
end Go.Proofs.YtmpglmcjoelciaaGreatDoor.Ev
namespace Go.Proofs.YtmpglmcjoelciaaGreatDoor.Ev
open Go Go.Proofs Go.Proofs.Ev
set_option linter.unusedVariables false
set_option maxRecDepth 100000
abbrev Q0r.A:=ByteArray
abbrev Q0r.T:=Bool
def Q0r.i:Q0r.A→List AV:=fun a0=>[vs a0]
def Q0r.o (xs:List AV):Option Q0r.A:=match xs with | [.v (.string a0)]=>some a0 | _=>none
theorem Q0r.oi:∀ xs a,Q0r.o xs=some a→xs=Q0r.i a:=by
 intro xs a h
 unfold Q0r.o at h
 split at h
 ·cases h; rfl
 ·cases h
def Q0r.p (p:Q0r.T):AV:=vb p
def Q0r.q (x:AV):Option Q0r.T:=match x with | .v (.bool p0)=>some p0 | _=>none
theorem Q0r.qi:∀ x p,Q0r.q x=some p→x=Q0r.p p:=by
 intro x p h
 unfold Q0r.q at h
 split at h
 ·cases h; rfl
 ·cases h
inductive Q0r.Z where
 | z4 (z1 z2:Int) (z3:List AV)
 | z7 (z1 z2:Int) (z3:Bool) (z4 z5:Int) (z6:List AV)
 | z8 (z1:Int) (z2 z3:Bool) (z4 z5:Int) (z6:List AV)
def Q0r.C {R:Type} (n:Nat) (f:FuncId) (xs:List AV):(AV→Option R)→Option R:=
 fun _=>none
theorem Q0r.tells {R:Type} (n:Nat):Tells (R:=R) Tryz.prog (Q0r.C n):=fun _ xs=>Tells1.none
def Q0r.cut (r:Nat):Option Keep:=match r with | 4=>some ⟨[15,16,17],[]⟩ | 7=>some ⟨[3,4,5,15,16,17],[]⟩ | 8=>some ⟨[3,5,6,15,16,17],[]⟩ | _=>none
def Q0r.t (z:Q0r.Z):List Item:=(todoOf (match z with | .z4 _ _ _=>4 | .z7 _ _ _ _ _ _=>7 | .z8 _ _ _ _ _ _=>8) 1000 [.code (Tryz.f51.body.getD .skip)]).getD []
def Q0r.s:Q0r.Z→St
 | .z4 z1 z2 z3=>⟨spr 65 0 [(15,.own 0 0 none),(16,vi z1),(17,vi z2)],Mem.ofList [.row ⟨true,5⟩ 1 z3],1⟩
 | .z7 z1 z2 z3 z4 z5 z6=>⟨spr 65 0 [(3,vi z1),(4,vu z2),(5,vb z3),(15,.own 0 0 none),(16,vi z4),(17,vi z5)],Mem.ofList [.row ⟨true,5⟩ 1 z6],1⟩
 | .z8 z1 z2 z3 z4 z5 z6=>⟨spr 65 0 [(3,vi z1),(5,vb z2),(6,vb z3),(15,.own 0 0 none),(16,vi z4),(17,vi z5)],Mem.ofList [.row ⟨true,5⟩ 1 z6],1⟩
def Q0r.r4 (n:Nat) (c:Q0r.Z→Option Bool) (z1 z2:Int) (z3:List AV):Option Bool:=
 bif decide (z2 < z1) then (bif decide ((0:Int)≤z2)&&decide (z2 < ((z3.length:Nat):Int)) then (withCons ((z3.getD ((z2).toNat) .undef).cells) fun h4 r5=>
 withInt .u8 h4 fun x6=>
 bif decide ((65:Int)≤x6) then (bif decide (x6≤90) then (c (.z7 z2 x6 true z1 z2 z3)) else (bif x6==35 then (c (.z7 z2 x6 true z1 z2 z3)) else (bif x6==36 then (c (.z7 z2 x6 true z1 z2 z3)) else (c (.z7 z2 x6 (x6==64) z1 z2 z3))))) else (bif x6==35 then (c (.z7 z2 x6 true z1 z2 z3)) else (bif x6==36 then (c (.z7 z2 x6 true z1 z2 z3)) else (c (.z7 z2 x6 (x6==64) z1 z2 z3))))) else none) else (some true)
def Q0r.r7 (n:Nat) (c:Q0r.Z→Option Bool) (z1 z2:Int) (z3:Bool) (z4 z5:Int) (z6:List AV):Option Bool:=
 bif decide ((48:Int)≤z2) then (bif decide (z2≤57) then (c (.z8 z1 z3 true z4 z5 z6)) else (bif z2==95 then (c (.z8 z1 z3 true z4 z5 z6)) else (c (.z8 z1 z3 (z2==46) z4 z5 z6)))) else (bif z2==95 then (c (.z8 z1 z3 true z4 z5 z6)) else (c (.z8 z1 z3 (z2==46) z4 z5 z6)))
def Q0r.r8 (n:Nat) (c:Q0r.Z→Option Bool) (z1:Int) (z2 z3:Bool) (z4 z5:Int) (z6:List AV):Option Bool:=
 bif !z2 then (bif z1==0 then (some false) else (bif !z3 then (some false) else (c (.z4 z4 (IntKind.i64.wrap (z5+1)) z6)))) else (c (.z4 z4 (IntKind.i64.wrap (z5+1)) z6))
def Q0r.r (n:Nat) (c:Q0r.Z→Option Bool):Q0r.Z→Option Bool
 | .z4 z1 z2 z3=>Q0r.r4 n c z1 z2 z3
 | .z7 z1 z2 z3 z4 z5 z6=>Q0r.r7 n c z1 z2 z3 z4 z5 z6
 | .z8 z1 z2 z3 z4 z5 z6=>Q0r.r8 n c z1 z2 z3 z4 z5 z6
def Q0r.e (n:Nat) (c:Q0r.Z→Option Bool) (a0:ByteArray):Option Bool:=
 let y1:Bool:=a0.toList==(⟨#[]⟩ : ByteArray).toList
 bif y1 then (some false) else (let y2:Bool:=decide (((a0.size:Nat):Int) > 10)
 bif y2 then (some false) else (let y3:List AV:=a0.toList.map fun b=>vu b.toNat
 c (.z4 ((y3.length:Nat):Int) 0 y3)))
def Q0r.E (n:Nat) (c:Q0r.Z→Option Bool):Q0r.A→Option Q0r.T:=fun a0=>Q0r.e n c a0
def Q0r.l (n:Nat):Nat→Q0r.Z→Option Bool:=loopL (Q0r.r n)
def Q0r.F (n:Nat) (a0:ByteArray):Option Bool:=Q0r.e n (Q0r.l n n) a0
def Q0r.FA (n:Nat):Q0r.A→Option Q0r.T:=Q0r.E n (Q0r.l n n)
theorem Q0r.hands (n:Nat):∀ a p,Q0r.FA n a=some p→HandsIn Tryz.prog 51 (Q0r.i a) (Q0r.p p):=
 pf_hands (C:=Q0r.C n) (cut:=Q0r.cut) (t:=Q0r.t) (s:=Q0r.s) (e:=Q0r.E n) (r:=Q0r.r n) (n:=n) cfg mixed globs rfl Q0r.qi (Q0r.tells n) Tryz.func51 (by kernel_rfl) (by kernel_rfl) (fun rec a=>by kernel_rfl) (fun rec z=>by cases z <;> kernel_rfl)
def Q0r.via {R:Type} (n:Nat):List AV→(AV→Option R)→Option R:=viaK (Q0r.FA n) Q0r.o Q0r.p
theorem Q0r.tells1 {R:Type} (n:Nat) (xs:List AV):Tells1 (R:=R) Tryz.prog 51 xs (Q0r.via n xs):=tells_via Q0r.oi (fun a=>by kernel_rfl) (Q0r.hands n) xs
end Go.Proofs.YtmpglmcjoelciaaGreatDoor.Ev
namespace Go.Proofs.YtmpglmcjoelciaaGreatDoor.Ev
open Go Go.Proofs Go.Proofs.Ev
set_option linter.unusedVariables false
set_option maxRecDepth 100000
abbrev Q0m.A:=List AV
abbrev Q0m.T:=Int
def Q0m.i:Q0m.A→List AV:=fun a0=>[.sl ⟨true,24⟩ 1 a0]
def Q0m.o (xs:List AV):Option Q0m.A:=match xs with | [.sl ⟨true,24⟩ 1 a0]=>some a0 | _=>none
theorem Q0m.oi:∀ xs a,Q0m.o xs=some a→xs=Q0m.i a:=by
 intro xs a h
 unfold Q0m.o at h
 split at h
 ·cases h; rfl
 ·cases h
def Q0m.p (p:Q0m.T):AV:=vi p
def Q0m.q (x:AV):Option Q0m.T:=match x with | .v (.int .i64 p0)=>some p0 | _=>none
theorem Q0m.qi:∀ x p,Q0m.q x=some p→x=Q0m.p p:=by
 intro x p h
 unfold Q0m.q at h
 split at h
 ·cases h; rfl
 ·cases h
inductive Q0m.Z where
 | z2 (z1:List AV) (z2 z3:Int)
def Q0m.C {R:Type} (n:Nat) (f:FuncId) (xs:List AV):(AV→Option R)→Option R:=
 fun _=>none
theorem Q0m.tells {R:Type} (n:Nat):Tells (R:=R) Tryz.prog (Q0m.C n):=fun _ xs=>Tells1.none
def Q0m.cut (r:Nat):Option Keep:=match r with | 2=>some ⟨[5,6,7],[]⟩ | _=>none
def Q0m.t (z:Q0m.Z):List Item:=(todoOf (match z with | .z2 _ _ _=>2) 1000 [.code (Tryz.f44.body.getD .skip)]).getD []
def Q0m.s:Q0m.Z→St
 | .z2 z1 z2 z3=>⟨spr 15 0 [(5,.sl ⟨true,24⟩ 1 z1),(6,vi z2),(7,vi z3)],Mem.ofList [],0⟩
def Q0m.r2 (n:Nat) (c:Q0m.Z→Option Int) (z1:List AV) (z2 z3:Int):Option Int:=
 bif decide (z3 < z2) then (bif decide ((0:Int)≤z3)&&decide (z3 < ((z1.length:Nat):Int)) then (withCons ((z1.getD ((z3).toNat) .undef).cells) fun h1 r2=>
 withInt .i64 h1 fun x3=>
 bif x3 != 0 then (some x3) else (c (.z2 z1 z2 (IntKind.i64.wrap (z3+1))))) else none) else (some 0)
def Q0m.r (n:Nat) (c:Q0m.Z→Option Int):Q0m.Z→Option Int
 | .z2 z1 z2 z3=>Q0m.r2 n c z1 z2 z3
def Q0m.e (n:Nat) (c:Q0m.Z→Option Int) (a0:List AV):Option Int:=
 c (.z2 a0 ((a0.length:Nat):Int) 0)
def Q0m.E (n:Nat) (c:Q0m.Z→Option Int):Q0m.A→Option Q0m.T:=fun a0=>Q0m.e n c a0
def Q0m.l (n:Nat):Nat→Q0m.Z→Option Int:=loopL (Q0m.r n)
def Q0m.F (n:Nat) (a0:List AV):Option Int:=Q0m.e n (Q0m.l n n) a0
def Q0m.FA (n:Nat):Q0m.A→Option Q0m.T:=Q0m.E n (Q0m.l n n)
theorem Q0m.hands (n:Nat):∀ a p,Q0m.FA n a=some p→HandsIn Tryz.prog 44 (Q0m.i a) (Q0m.p p):=
 pf_hands (C:=Q0m.C n) (cut:=Q0m.cut) (t:=Q0m.t) (s:=Q0m.s) (e:=Q0m.E n) (r:=Q0m.r n) (n:=n) cfg mixed globs rfl Q0m.qi (Q0m.tells n) Tryz.func44 (by kernel_rfl) (by kernel_rfl) (fun rec a=>by kernel_rfl) (fun rec z=>by cases z <;> kernel_rfl)
def Q0m.via {R:Type} (n:Nat):List AV→(AV→Option R)→Option R:=viaK (Q0m.FA n) Q0m.o Q0m.p
theorem Q0m.tells1 {R:Type} (n:Nat) (xs:List AV):Tells1 (R:=R) Tryz.prog 44 xs (Q0m.via n xs):=tells_via Q0m.oi (fun a=>by kernel_rfl) (Q0m.hands n) xs
end Go.Proofs.YtmpglmcjoelciaaGreatDoor.Ev
namespace Go.Proofs.YtmpglmcjoelciaaGreatDoor.Ev
open Go Go.Proofs Go.Proofs.Ev
set_option linter.unusedVariables false
set_option maxRecDepth 100000
abbrev Q4c.A:=List AV × ByteArray
abbrev Q4c.T:=Int
def Q4c.i:Q4c.A→List AV:=fun (a0,a1)=>[.sl ⟨true,9⟩ 1 a0,vs a1]
def Q4c.o (xs:List AV):Option Q4c.A:=match xs with | [.sl ⟨true,9⟩ 1 a0,.v (.string a1)]=>some (a0,a1) | _=>none
theorem Q4c.oi:∀ xs a,Q4c.o xs=some a→xs=Q4c.i a:=by
 intro xs a h
 unfold Q4c.o at h
 split at h
 ·cases h; rfl
 ·cases h
def Q4c.p (p:Q4c.T):AV:=vi p
def Q4c.q (x:AV):Option Q4c.T:=match x with | .v (.int .i64 p0)=>some p0 | _=>none
theorem Q4c.qi:∀ x p,Q4c.q x=some p→x=Q4c.p p:=by
 intro x p h
 unfold Q4c.q at h
 split at h
 ·cases h; rfl
 ·cases h
inductive Q4c.Z where
 | z2 (z1:List AV) (z2:ByteArray) (z3 z4:Int)
def Q4c.C {R:Type} (n:Nat) (f:FuncId) (xs:List AV):(AV→Option R)→Option R:=
 fun _=>none
theorem Q4c.tells {R:Type} (n:Nat):Tells (R:=R) Tryz.prog (Q4c.C n):=fun _ xs=>Tells1.none
def Q4c.cut (r:Nat):Option Keep:=match r with | 2=>some ⟨[0,1,7,8],[]⟩ | _=>none
def Q4c.t (z:Q4c.Z):List Item:=(todoOf (match z with | .z2 _ _ _ _=>2) 1000 [.code (Tryz.f145.body.getD .skip)]).getD []
def Q4c.s:Q4c.Z→St
 | .z2 z1 z2 z3 z4=>⟨spr 19 0 [(0,.sl ⟨true,9⟩ 1 z1),(1,vs z2),(7,vi z3),(8,vi z4)],Mem.ofList [],0⟩
def Q4c.r2 (n:Nat) (c:Q4c.Z→Option Int) (z1:List AV) (z2:ByteArray) (z3 z4:Int):Option Int:=
 bif decide (z4 < z3) then (bif decide ((0:Int)≤z4)&&decide (z4 < ((z1.length:Nat):Int)) then (withCons ((z1.getD ((z4).toNat) .undef).cells) fun h1 r2=>
 withStr h1 fun s3=>
 bif z2.toList==s3.toList then (some z4) else (c (.z2 z1 z2 z3 (IntKind.i64.wrap (z4+1))))) else none) else (some (-1))
def Q4c.r (n:Nat) (c:Q4c.Z→Option Int):Q4c.Z→Option Int
 | .z2 z1 z2 z3 z4=>Q4c.r2 n c z1 z2 z3 z4
def Q4c.e (n:Nat) (c:Q4c.Z→Option Int) (a0:List AV) (a1:ByteArray):Option Int:=
 c (.z2 a0 a1 ((a0.length:Nat):Int) 0)
def Q4c.E (n:Nat) (c:Q4c.Z→Option Int):Q4c.A→Option Q4c.T:=fun (a0,a1)=>Q4c.e n c a0 a1
def Q4c.l (n:Nat):Nat→Q4c.Z→Option Int:=loopL (Q4c.r n)
def Q4c.F (n:Nat) (a0:List AV) (a1:ByteArray):Option Int:=Q4c.e n (Q4c.l n n) a0 a1
def Q4c.FA (n:Nat):Q4c.A→Option Q4c.T:=Q4c.E n (Q4c.l n n)
theorem Q4c.hands (n:Nat):∀ a p,Q4c.FA n a=some p→HandsIn Tryz.prog 145 (Q4c.i a) (Q4c.p p):=
 pf_hands (C:=Q4c.C n) (cut:=Q4c.cut) (t:=Q4c.t) (s:=Q4c.s) (e:=Q4c.E n) (r:=Q4c.r n) (n:=n) cfg mixed globs rfl Q4c.qi (Q4c.tells n) Tryz.func145 (by kernel_rfl) (by kernel_rfl) (fun rec a=>by kernel_rfl) (fun rec z=>by cases z <;> kernel_rfl)
def Q4c.via {R:Type} (n:Nat):List AV→(AV→Option R)→Option R:=viaK (Q4c.FA n) Q4c.o Q4c.p
theorem Q4c.tells1 {R:Type} (n:Nat) (xs:List AV):Tells1 (R:=R) Tryz.prog 145 xs (Q4c.via n xs):=tells_via Q4c.oi (fun a=>by kernel_rfl) (Q4c.hands n) xs
end Go.Proofs.YtmpglmcjoelciaaGreatDoor.Ev
namespace Go.Proofs.YtmpglmcjoelciaaGreatDoor.Ev
open Go Go.Proofs Go.Proofs.Ev
set_option linter.unusedVariables false
set_option maxRecDepth 100000
abbrev Q48.A:=List AV × ByteArray
abbrev Q48.T:=Bool
def Q48.i:Q48.A→List AV:=fun (a0,a1)=>[.sl ⟨true,9⟩ 1 a0,vs a1]
def Q48.o (xs:List AV):Option Q48.A:=match xs with | [.sl ⟨true,9⟩ 1 a0,.v (.string a1)]=>some (a0,a1) | _=>none
theorem Q48.oi:∀ xs a,Q48.o xs=some a→xs=Q48.i a:=by
 intro xs a h
 unfold Q48.o at h
 split at h
 ·cases h; rfl
 ·cases h
def Q48.p (p:Q48.T):AV:=vb p
def Q48.q (x:AV):Option Q48.T:=match x with | .v (.bool p0)=>some p0 | _=>none
theorem Q48.qi:∀ x p,Q48.q x=some p→x=Q48.p p:=by
 intro x p h
 unfold Q48.q at h
 split at h
 ·cases h; rfl
 ·cases h
def Q48.C {R:Type} (n:Nat) (f:FuncId) (xs:List AV):(AV→Option R)→Option R:=
 bif Nat.beq f 145 then Q4c.via n xs else fun _=>none
theorem Q48.tells {R:Type} (n:Nat):Tells (R:=R) Tryz.prog (Q48.C n):=fun _ xs=>tells_at (Q4c.tells1 n xs) (Tells1.none)
def Q48.cut (r:Nat):Option Keep:=match r with  | _=>none
def Q48.e (n:Nat) (a0:List AV) (a1:ByteArray):Option Bool:=
 (Q4c.F n a0 a1).bind fun p1=>
 some (decide (p1≥0))
def Q48.E (n:Nat):Q48.A→Option Q48.T:=fun (a0,a1)=>Q48.e n a0 a1
def Q48.F (n:Nat) (a0:List AV) (a1:ByteArray):Option Bool:=Q48.e n a0 a1
def Q48.FA (n:Nat):Q48.A→Option Q48.T:=Q48.E n
theorem Q48.hands (n:Nat):∀ a p,Q48.FA n a=some p→HandsIn Tryz.prog 102 (Q48.i a) (Q48.p p):=
 pf_hands (C:=Q48.C n) (cut:=Q48.cut) (Z:=Empty) (t:=nofun) (s:=nofun) (e:=fun _=>Q48.E n) (r:=fun _ z=>nomatch z) (n:=n) cfg mixed globs rfl Q48.qi (Q48.tells n) Tryz.func102 (by kernel_rfl) (by kernel_rfl) (fun rec a=>by kernel_rfl) (fun rec z=>nomatch z)
def Q48.via {R:Type} (n:Nat):List AV→(AV→Option R)→Option R:=viaK (Q48.FA n) Q48.o Q48.p
theorem Q48.tells1 {R:Type} (n:Nat) (xs:List AV):Tells1 (R:=R) Tryz.prog 102 xs (Q48.via n xs):=tells_via Q48.oi (fun a=>by kernel_rfl) (Q48.hands n) xs
end Go.Proofs.YtmpglmcjoelciaaGreatDoor.Ev
namespace Go.Proofs.YtmpglmcjoelciaaGreatDoor.Ev
open Go Go.Proofs Go.Proofs.Ev
set_option linter.unusedVariables false
set_option maxRecDepth 100000
abbrev Q0y.A:=ByteArray × List AV
abbrev Q0y.T:=Int
def Q0y.i:Q0y.A→List AV:=fun (a0,a1)=>[vs a0,.sl ⟨true,9⟩ 1 a1]
def Q0y.o (xs:List AV):Option Q0y.A:=match xs with | [.v (.string a0),.sl ⟨true,9⟩ 1 a1]=>some (a0,a1) | _=>none
theorem Q0y.oi:∀ xs a,Q0y.o xs=some a→xs=Q0y.i a:=by
 intro xs a h
 unfold Q0y.o at h
 split at h
 ·cases h; rfl
 ·cases h
def Q0y.p (p:Q0y.T):AV:=vi p
def Q0y.q (x:AV):Option Q0y.T:=match x with | .v (.int .i64 p0)=>some p0 | _=>none
theorem Q0y.qi:∀ x p,Q0y.q x=some p→x=Q0y.p p:=by
 intro x p h
 unfold Q0y.q at h
 split at h
 ·cases h; rfl
 ·cases h
def Q0y.C {R:Type} (n:Nat) (f:FuncId) (xs:List AV):(AV→Option R)→Option R:=
 bif Nat.beq f 44 then Q0m.via n xs else bif Nat.beq f 45 then Q0f.via n xs else bif Nat.beq f 51 then Q0r.via n xs else bif Nat.beq f 102 then Q48.via n xs else fun _=>none
theorem Q0y.tells {R:Type} (n:Nat):Tells (R:=R) Tryz.prog (Q0y.C n):=fun _ xs=>tells_at (Q0m.tells1 n xs) (tells_at (Q0f.tells1 n xs) (tells_at (Q0r.tells1 n xs) (tells_at (Q48.tells1 n xs) (Tells1.none))))
def Q0y.cut (r:Nat):Option Keep:=match r with  | _=>none
def Q0y.e (n:Nat) (a0:ByteArray) (a1:List AV):Option Int:=
 (Q0r.F n a0).bind fun p1=>
 (Q0f.F n (!p1) 7).bind fun p2=>
 (Q48.F n a1 a0).bind fun p3=>
 (Q0f.F n p3 13).bind fun p4=>
 (Q0m.F n [vi p2,vi p4]).bind fun p5=>
 some p5
def Q0y.E (n:Nat):Q0y.A→Option Q0y.T:=fun (a0,a1)=>Q0y.e n a0 a1
def Q0y.F (n:Nat) (a0:ByteArray) (a1:List AV):Option Int:=Q0y.e n a0 a1
def Q0y.FA (n:Nat):Q0y.A→Option Q0y.T:=Q0y.E n
theorem Q0y.hands (n:Nat):∀ a p,Q0y.FA n a=some p→HandsIn Tryz.prog 99 (Q0y.i a) (Q0y.p p):=
 pf_hands (C:=Q0y.C n) (cut:=Q0y.cut) (Z:=Empty) (t:=nofun) (s:=nofun) (e:=fun _=>Q0y.E n) (r:=fun _ z=>nomatch z) (n:=n) cfg mixed globs rfl Q0y.qi (Q0y.tells n) Tryz.func99 (by kernel_rfl) (by kernel_rfl) (fun rec a=>by kernel_rfl) (fun rec z=>nomatch z)
def Q0y.via {R:Type} (n:Nat):List AV→(AV→Option R)→Option R:=viaK (Q0y.FA n) Q0y.o Q0y.p
theorem Q0y.tells1 {R:Type} (n:Nat) (xs:List AV):Tells1 (R:=R) Tryz.prog 99 xs (Q0y.via n xs):=tells_via Q0y.oi (fun a=>by kernel_rfl) (Q0y.hands n) xs
end Go.Proofs.YtmpglmcjoelciaaGreatDoor.Ev
namespace Go.Proofs.YtmpglmcjoelciaaGreatDoor.Ev
open Go Go.Proofs Go.Proofs.Ev
set_option linter.unusedVariables false
set_option maxRecDepth 100000
abbrev Q0e.A:=ByteArray × ByteArray × List AV × List AV × List AV × List AV × Bool × List AV
abbrev Q0e.T:=Int × Int
def Q0e.i:Q0e.A→List AV:=fun (a0,a1,a2,a3,a4,a5,a6,a7)=>[AV.agg [vs a0,vs a1,.sl ⟨true,9⟩ 1 a2,.sl ⟨true,95⟩ 3 a3,.sl ⟨true,97⟩ 4 a4,.sl ⟨true,111⟩ 2 a5,vb a6,.sl ⟨false,100⟩ 2 a7]]
def Q0e.o (xs:List AV):Option Q0e.A:=match xs with | [.agg [.v (.string a0),.v (.string a1),.sl ⟨true,9⟩ 1 a2,.sl ⟨true,95⟩ 3 a3,.sl ⟨true,97⟩ 4 a4,.sl ⟨true,111⟩ 2 a5,.v (.bool a6),.sl ⟨false,100⟩ 2 a7]]=>some (a0,a1,a2,a3,a4,a5,a6,a7) | _=>none
theorem Q0e.oi:∀ xs a,Q0e.o xs=some a→xs=Q0e.i a:=by
 intro xs a h
 unfold Q0e.o at h
 split at h
 ·cases h; rfl
 ·cases h
def Q0e.p (p:Q0e.T):AV:=.tup [vi p.1,vi p.2]
def Q0e.q (x:AV):Option Q0e.T:=match x with | .tup [.v (.int .i64 p0),.v (.int .i64 p1)]=>some (p0,p1) | _=>none
theorem Q0e.qi:∀ x p,Q0e.q x=some p→x=Q0e.p p:=by
 intro x p h
 unfold Q0e.q at h
 split at h
 ·cases h; rfl
 ·cases h
inductive Q0e.Z where
 | z5 (z1:List AV) (z2 z3:Int) (z4 z5:ByteArray) (z6 z7 z8 z9:List AV) (z10:Bool) (z11:List AV)
def Q0e.C {R:Type} (n:Nat) (f:FuncId) (xs:List AV):(AV→Option R)→Option R:=
 bif Nat.beq f 44 then Q0m.via n xs else bif Nat.beq f 45 then Q0f.via n xs else bif Nat.beq f 99 then Q0y.via n xs else fun _=>none
theorem Q0e.tells {R:Type} (n:Nat):Tells (R:=R) Tryz.prog (Q0e.C n):=fun _ xs=>tells_at (Q0m.tells1 n xs) (tells_at (Q0f.tells1 n xs) (tells_at (Q0y.tells1 n xs) (Tells1.none)))
def Q0e.cut (r:Nat):Option Keep:=match r with | 5=>some ⟨[1,24,25,26],[]⟩ | _=>none
def Q0e.t (z:Q0e.Z):List Item:=(todoOf (match z with | .z5 _ _ _ _ _ _ _ _ _ _ _=>5) 1000 [.code (Tryz.f52.body.getD .skip)]).getD []
def Q0e.s:Q0e.Z→St
 | .z5 z1 z2 z3 z4 z5 z6 z7 z8 z9 z10 z11=>⟨spr 42 0 [(1,.ptr 0 0),(24,.sl ⟨true,9⟩ 1 z1),(25,vi z2),(26,vi z3)],Mem.ofList [.box 36 [vs z4,vs z5,.sl ⟨true,9⟩ 1 z6,.sl ⟨true,95⟩ 3 z7,.sl ⟨true,97⟩ 4 z8,.sl ⟨true,111⟩ 2 z9,vb z10,.sl ⟨false,100⟩ 2 z11]],1⟩
def Q0e.r5 (n:Nat) (c:Q0e.Z→Option (Int × Int)) (z1:List AV) (z2 z3:Int) (z4 z5:ByteArray) (z6 z7 z8 z9:List AV) (z10:Bool) (z11:List AV):Option (Int × Int):=
 bif decide (z3 < z2) then (bif decide ((0:Int)≤z3)&&decide (z3 < ((z1.length:Nat):Int)) then (withCons ((z1.getD ((z3).toNat) .undef).cells) fun h6 r7=>
 withStr h6 fun s8=>
 bif decide ((0:Int)≤z3)&&decide ((z3:Int)≤((z6.length:Nat):Int)) then ((Q0y.F n s8 ((z6.take (z3).toNat).drop 0)).bind fun p9=>
 bif p9 != 0 then (some (z3,p9)) else (c (.z5 z1 z2 (IntKind.i64.wrap (z3+1)) z4 z5 z6 z7 z8 z9 z10 z11))) else none) else none) else (some (0,0))
def Q0e.r (n:Nat) (c:Q0e.Z→Option (Int × Int)):Q0e.Z→Option (Int × Int)
 | .z5 z1 z2 z3 z4 z5 z6 z7 z8 z9 z10 z11=>Q0e.r5 n c z1 z2 z3 z4 z5 z6 z7 z8 z9 z10 z11
def Q0e.e (n:Nat) (c:Q0e.Z→Option (Int × Int)) (a0 a1:ByteArray) (a2 a3 a4 a5:List AV) (a6:Bool) (a7:List AV):Option (Int × Int):=
 let y1:Bool:=((a2.length:Nat):Int)==0
 (Q0f.F n y1 1).bind fun p2=>
 let y3:Bool:=decide (((a2.length:Nat):Int) > 3)
 (Q0f.F n y3 2).bind fun p4=>
 (Q0m.F n [vi p2,vi p4]).bind fun p5=>
 bif p5 != 0 then (some (0,p5)) else (c (.z5 a2 ((a2.length:Nat):Int) 0 a0 a1 a2 a3 a4 a5 a6 a7))
def Q0e.E (n:Nat) (c:Q0e.Z→Option (Int × Int)):Q0e.A→Option Q0e.T:=fun (a0,a1,a2,a3,a4,a5,a6,a7)=>Q0e.e n c a0 a1 a2 a3 a4 a5 a6 a7
def Q0e.l (n:Nat):Nat→Q0e.Z→Option (Int × Int):=loopL (Q0e.r n)
def Q0e.F (n:Nat) (a0 a1:ByteArray) (a2 a3 a4 a5:List AV) (a6:Bool) (a7:List AV):Option (Int × Int):=Q0e.e n (Q0e.l n n) a0 a1 a2 a3 a4 a5 a6 a7
def Q0e.FA (n:Nat):Q0e.A→Option Q0e.T:=Q0e.E n (Q0e.l n n)
theorem Q0e.hands (n:Nat):∀ a p,Q0e.FA n a=some p→HandsIn Tryz.prog 52 (Q0e.i a) (Q0e.p p):=
 pf_hands (C:=Q0e.C n) (cut:=Q0e.cut) (t:=Q0e.t) (s:=Q0e.s) (e:=Q0e.E n) (r:=Q0e.r n) (n:=n) cfg mixed globs rfl Q0e.qi (Q0e.tells n) Tryz.func52 (by kernel_rfl) (by kernel_rfl) (fun rec a=>by kernel_rfl) (fun rec z=>by cases z <;> kernel_rfl)
def Q0e.via {R:Type} (n:Nat):List AV→(AV→Option R)→Option R:=viaK (Q0e.FA n) Q0e.o Q0e.p
theorem Q0e.tells1 {R:Type} (n:Nat) (xs:List AV):Tells1 (R:=R) Tryz.prog 52 xs (Q0e.via n xs):=tells_via Q0e.oi (fun a=>by kernel_rfl) (Q0e.hands n) xs
end Go.Proofs.YtmpglmcjoelciaaGreatDoor.Ev
namespace Go.Proofs.YtmpglmcjoelciaaGreatDoor.Ev
open Go Go.Proofs Go.Proofs.Ev
set_option linter.unusedVariables false
set_option maxRecDepth 100000
abbrev Q0z.A:=ByteArray × ByteArray × List AV × List AV × List AV × List AV × Bool × List AV
abbrev Q0z.T:=List AV
def Q0z.i:Q0z.A→List AV:=fun (a0,a1,a2,a3,a4,a5,a6,a7)=>[AV.agg [vs a0,vs a1,.sl ⟨true,9⟩ 1 a2,.sl ⟨true,95⟩ 3 a3,.sl ⟨true,97⟩ 4 a4,.sl ⟨true,111⟩ 2 a5,vb a6,.sl ⟨false,100⟩ 2 a7]]
def Q0z.o (xs:List AV):Option Q0z.A:=match xs with | [.agg [.v (.string a0),.v (.string a1),.sl ⟨true,9⟩ 1 a2,.sl ⟨true,95⟩ 3 a3,.sl ⟨true,97⟩ 4 a4,.sl ⟨true,111⟩ 2 a5,.v (.bool a6),.sl ⟨false,100⟩ 2 a7]]=>some (a0,a1,a2,a3,a4,a5,a6,a7) | _=>none
theorem Q0z.oi:∀ xs a,Q0z.o xs=some a→xs=Q0z.i a:=by
 intro xs a h
 unfold Q0z.o at h
 split at h
 ·cases h; rfl
 ·cases h
def Q0z.p (p:Q0z.T):AV:=.fr ⟨true,9⟩ 1 p
def Q0z.q (x:AV):Option Q0z.T:=match x with | .fr ⟨true,9⟩ 1 p0=>some p0 | _=>none
theorem Q0z.qi:∀ x p,Q0z.q x=some p→x=Q0z.p p:=by
 intro x p h
 unfold Q0z.q at h
 split at h
 ·cases h; rfl
 ·cases h
inductive Q0z.Z where
 | z3 (z1:List AV) (z2 z3:Int) (z4:List AV)
def Q0z.C {R:Type} (n:Nat) (f:FuncId) (xs:List AV):(AV→Option R)→Option R:=
 fun _=>none
theorem Q0z.tells {R:Type} (n:Nat):Tells (R:=R) Tryz.prog (Q0z.C n):=fun _ xs=>Tells1.none
def Q0z.cut (r:Nat):Option Keep:=match r with | 3=>some ⟨[3,7,8,9],[(3,none,⟨true,9⟩,1)]⟩ | _=>none
def Q0z.t (z:Q0z.Z):List Item:=(todoOf (match z with | .z3 _ _ _ _=>3) 1000 [.code (Tryz.f57.body.getD .skip)]).getD []
def Q0z.s:Q0z.Z→St
 | .z3 z1 z2 z3 z4=>⟨spr 20 0 [(3,.own 0 0 none),(7,.sl ⟨true,95⟩ 3 z1),(8,vi z2),(9,vi z3)],Mem.ofList [.row ⟨true,9⟩ 1 z4],1⟩
def Q0z.r3 (n:Nat) (c:Q0z.Z→Option (List AV)) (z1:List AV) (z2 z3:Int) (z4:List AV):Option (List AV):=
 bif decide (z3 < z2) then (bif decide ((0:Int)≤z3)&&decide (z3 < ((z1.length:Nat):Int)) then (withCons ((z1.getD ((z3).toNat) .undef).cells) fun h1 r2=>
 withStr h1 fun s3=>
 withCons r2 fun h4 r5=>
 withInt .i64 h4 fun x6=>
 withCons r5 fun h7 r8=>
 withStr h7 fun s9=>
 bif decide (z4.length+[vs s3].length≤most) then (c (.z3 z1 z2 (IntKind.i64.wrap (z3+1)) (z4++[vs s3]))) else none) else none) else (some z4)
def Q0z.r (n:Nat) (c:Q0z.Z→Option (List AV)):Q0z.Z→Option (List AV)
 | .z3 z1 z2 z3 z4=>Q0z.r3 n c z1 z2 z3 z4
def Q0z.e (n:Nat) (c:Q0z.Z→Option (List AV)) (a0 a1:ByteArray) (a2 a3 a4 a5:List AV) (a6:Bool) (a7:List AV):Option (List AV):=
 c (.z3 a3 ((a3.length:Nat):Int) 0 [])
def Q0z.E (n:Nat) (c:Q0z.Z→Option (List AV)):Q0z.A→Option Q0z.T:=fun (a0,a1,a2,a3,a4,a5,a6,a7)=>Q0z.e n c a0 a1 a2 a3 a4 a5 a6 a7
def Q0z.l (n:Nat):Nat→Q0z.Z→Option (List AV):=loopL (Q0z.r n)
def Q0z.F (n:Nat) (a0 a1:ByteArray) (a2 a3 a4 a5:List AV) (a6:Bool) (a7:List AV):Option (List AV):=Q0z.e n (Q0z.l n n) a0 a1 a2 a3 a4 a5 a6 a7
def Q0z.FA (n:Nat):Q0z.A→Option Q0z.T:=Q0z.E n (Q0z.l n n)
theorem Q0z.hands (n:Nat):∀ a p,Q0z.FA n a=some p→HandsIn Tryz.prog 57 (Q0z.i a) (Q0z.p p):=
 pf_hands (C:=Q0z.C n) (cut:=Q0z.cut) (t:=Q0z.t) (s:=Q0z.s) (e:=Q0z.E n) (r:=Q0z.r n) (n:=n) cfg mixed globs rfl Q0z.qi (Q0z.tells n) Tryz.func57 (by kernel_rfl) (by kernel_rfl) (fun rec a=>by kernel_rfl) (fun rec z=>by cases z <;> kernel_rfl)
def Q0z.via {R:Type} (n:Nat):List AV→(AV→Option R)→Option R:=viaK (Q0z.FA n) Q0z.o Q0z.p
theorem Q0z.tells1 {R:Type} (n:Nat) (xs:List AV):Tells1 (R:=R) Tryz.prog 57 xs (Q0z.via n xs):=tells_via Q0z.oi (fun a=>by kernel_rfl) (Q0z.hands n) xs
end Go.Proofs.YtmpglmcjoelciaaGreatDoor.Ev
namespace Go.Proofs.YtmpglmcjoelciaaGreatDoor.Ev
open Go Go.Proofs Go.Proofs.Ev
set_option linter.unusedVariables false
set_option maxRecDepth 100000
abbrev Q0o.A:=Int × Int × Int
abbrev Q0o.T:=Bool
def Q0o.i:Q0o.A→List AV:=fun (a0,a1,a2)=>[vi a0,vi a1,vi a2]
def Q0o.o (xs:List AV):Option Q0o.A:=match xs with | [.v (.int .i64 a0),.v (.int .i64 a1),.v (.int .i64 a2)]=>some (a0,a1,a2) | _=>none
theorem Q0o.oi:∀ xs a,Q0o.o xs=some a→xs=Q0o.i a:=by
 intro xs a h
 unfold Q0o.o at h
 split at h
 ·cases h; rfl
 ·cases h
def Q0o.p (p:Q0o.T):AV:=vb p
def Q0o.q (x:AV):Option Q0o.T:=match x with | .v (.bool p0)=>some p0 | _=>none
theorem Q0o.qi:∀ x p,Q0o.q x=some p→x=Q0o.p p:=by
 intro x p h
 unfold Q0o.q at h
 split at h
 ·cases h; rfl
 ·cases h
def Q0o.C {R:Type} (n:Nat) (f:FuncId) (xs:List AV):(AV→Option R)→Option R:=
 fun _=>none
theorem Q0o.tells {R:Type} (n:Nat):Tells (R:=R) Tryz.prog (Q0o.C n):=fun _ xs=>Tells1.none
def Q0o.cut (r:Nat):Option Keep:=match r with  | _=>none
def Q0o.e (n:Nat) (a0 a1 a2:Int):Option Bool:=
 bif decide (a1≤a0) then (some (decide (a0≤a2))) else (some false)
def Q0o.E (n:Nat):Q0o.A→Option Q0o.T:=fun (a0,a1,a2)=>Q0o.e n a0 a1 a2
def Q0o.F (n:Nat) (a0 a1 a2:Int):Option Bool:=Q0o.e n a0 a1 a2
def Q0o.FA (n:Nat):Q0o.A→Option Q0o.T:=Q0o.E n
theorem Q0o.hands (n:Nat):∀ a p,Q0o.FA n a=some p→HandsIn Tryz.prog 100 (Q0o.i a) (Q0o.p p):=
 pf_hands (C:=Q0o.C n) (cut:=Q0o.cut) (Z:=Empty) (t:=nofun) (s:=nofun) (e:=fun _=>Q0o.E n) (r:=fun _ z=>nomatch z) (n:=n) cfg mixed globs rfl Q0o.qi (Q0o.tells n) Tryz.func100 (by kernel_rfl) (by kernel_rfl) (fun rec a=>by kernel_rfl) (fun rec z=>nomatch z)
def Q0o.via {R:Type} (n:Nat):List AV→(AV→Option R)→Option R:=viaK (Q0o.FA n) Q0o.o Q0o.p
theorem Q0o.tells1 {R:Type} (n:Nat) (xs:List AV):Tells1 (R:=R) Tryz.prog 100 xs (Q0o.via n xs):=tells_via Q0o.oi (fun a=>by kernel_rfl) (Q0o.hands n) xs
end Go.Proofs.YtmpglmcjoelciaaGreatDoor.Ev
namespace Go.Proofs.YtmpglmcjoelciaaGreatDoor.Ev
open Go Go.Proofs Go.Proofs.Ev
set_option linter.unusedVariables false
set_option maxRecDepth 100000
abbrev Q0i.A:=ByteArray × ByteArray × List AV × List AV × List AV × List AV × Bool × List AV
abbrev Q0i.T:=Int × Int
def Q0i.i:Q0i.A→List AV:=fun (a0,a1,a2,a3,a4,a5,a6,a7)=>[AV.agg [vs a0,vs a1,.sl ⟨true,9⟩ 1 a2,.sl ⟨true,95⟩ 3 a3,.sl ⟨true,97⟩ 4 a4,.sl ⟨true,111⟩ 2 a5,vb a6,.sl ⟨false,100⟩ 2 a7]]
def Q0i.o (xs:List AV):Option Q0i.A:=match xs with | [.agg [.v (.string a0),.v (.string a1),.sl ⟨true,9⟩ 1 a2,.sl ⟨true,95⟩ 3 a3,.sl ⟨true,97⟩ 4 a4,.sl ⟨true,111⟩ 2 a5,.v (.bool a6),.sl ⟨false,100⟩ 2 a7]]=>some (a0,a1,a2,a3,a4,a5,a6,a7) | _=>none
theorem Q0i.oi:∀ xs a,Q0i.o xs=some a→xs=Q0i.i a:=by
 intro xs a h
 unfold Q0i.o at h
 split at h
 ·cases h; rfl
 ·cases h
def Q0i.p (p:Q0i.T):AV:=.tup [vi p.1,vi p.2]
def Q0i.q (x:AV):Option Q0i.T:=match x with | .tup [.v (.int .i64 p0),.v (.int .i64 p1)]=>some (p0,p1) | _=>none
theorem Q0i.qi:∀ x p,Q0i.q x=some p→x=Q0i.p p:=by
 intro x p h
 unfold Q0i.q at h
 split at h
 ·cases h; rfl
 ·cases h
inductive Q0i.Z where
 | z6 (z1:List AV) (z2 z3:Int) (z4 z5:ByteArray) (z6 z7 z8 z9:List AV) (z10:Bool) (z11 z12:List AV)
def Q0i.C {R:Type} (n:Nat) (f:FuncId) (xs:List AV):(AV→Option R)→Option R:=
 bif Nat.beq f 44 then Q0m.via n xs else bif Nat.beq f 45 then Q0f.via n xs else bif Nat.beq f 51 then Q0r.via n xs else bif Nat.beq f 57 then Q0z.via n xs else bif Nat.beq f 99 then Q0y.via n xs else bif Nat.beq f 100 then Q0o.via n xs else fun _=>none
theorem Q0i.tells {R:Type} (n:Nat):Tells (R:=R) Tryz.prog (Q0i.C n):=fun _ xs=>tells_at (Q0m.tells1 n xs) (tells_at (Q0f.tells1 n xs) (tells_at (Q0r.tells1 n xs) (tells_at (Q0z.tells1 n xs) (tells_at (Q0y.tells1 n xs) (tells_at (Q0o.tells1 n xs) (Tells1.none))))))
def Q0i.cut (r:Nat):Option Keep:=match r with | 6=>some ⟨[1,5,27,28,29],[]⟩ | _=>none
def Q0i.t (z:Q0i.Z):List Item:=(todoOf (match z with | .z6 _ _ _ _ _ _ _ _ _ _ _ _=>6) 1000 [.code (Tryz.f53.body.getD .skip)]).getD []
def Q0i.s:Q0i.Z→St
 | .z6 z1 z2 z3 z4 z5 z6 z7 z8 z9 z10 z11 z12=>⟨spr 61 0 [(1,.ptr 0 0),(5,.own 1 0 none),(27,.sl ⟨true,95⟩ 3 z1),(28,vi z2),(29,vi z3)],Mem.ofList [.box 36 [vs z4,vs z5,.sl ⟨true,9⟩ 1 z6,.sl ⟨true,95⟩ 3 z7,.sl ⟨true,97⟩ 4 z8,.sl ⟨true,111⟩ 2 z9,vb z10,.sl ⟨false,100⟩ 2 z11],.row ⟨true,9⟩ 1 z12],2⟩
def Q0i.r6 (n:Nat) (c:Q0i.Z→Option (Int × Int)) (z1:List AV) (z2 z3:Int) (z4 z5:ByteArray) (z6 z7 z8 z9:List AV) (z10:Bool) (z11 z12:List AV):Option (Int × Int):=
 bif decide (z3 < z2) then (bif decide ((0:Int)≤z3)&&decide (z3 < ((z1.length:Nat):Int)) then (withCons ((z1.getD ((z3).toNat) .undef).cells) fun h7 r8=>
 withStr h7 fun s9=>
 withCons r8 fun h10 r11=>
 withInt .i64 h10 fun x12=>
 withCons r11 fun h13 r14=>
 withStr h13 fun s15=>
 bif decide ((0:Int)≤z3)&&decide ((z3:Int)≤((z12.length:Nat):Int)) then ((Q0y.F n s9 ((z12.drop 0).take ((z3 - 0).toNat))).bind fun p16=>
 let y17:Int:=IntKind.i64.wrap (((z6.length:Nat):Int) - 1)
 (Q0o.F n x12 0 y17).bind fun p18=>
 (Q0f.F n (!p18) 3).bind fun p19=>
 (Q0r.F n s15).bind fun p20=>
 (Q0f.F n (!p20) 7).bind fun p21=>
 (Q0m.F n [vi p16,vi p19,vi p21]).bind fun p22=>
 bif p22 != 0 then (some (z3,p22)) else (c (.z6 z1 z2 (IntKind.i64.wrap (z3+1)) z4 z5 z6 z7 z8 z9 z10 z11 z12))) else none) else none) else (some (0,0))
def Q0i.r (n:Nat) (c:Q0i.Z→Option (Int × Int)):Q0i.Z→Option (Int × Int)
 | .z6 z1 z2 z3 z4 z5 z6 z7 z8 z9 z10 z11 z12=>Q0i.r6 n c z1 z2 z3 z4 z5 z6 z7 z8 z9 z10 z11 z12
def Q0i.e (n:Nat) (c:Q0i.Z→Option (Int × Int)) (a0 a1:ByteArray) (a2 a3 a4 a5:List AV) (a6:Bool) (a7:List AV):Option (Int × Int):=
 let y1:Bool:=((a3.length:Nat):Int)==0
 (Q0f.F n y1 1).bind fun p2=>
 let y3:Bool:=decide (((a3.length:Nat):Int) > 20)
 (Q0f.F n y3 2).bind fun p4=>
 (Q0m.F n [vi p2,vi p4]).bind fun p5=>
 bif p5 != 0 then (some (0,p5)) else ((Q0z.F n a0 a1 a2 a3 a4 a5 a6 a7).bind fun p6=>
 c (.z6 a3 ((a3.length:Nat):Int) 0 a0 a1 a2 a3 a4 a5 a6 a7 p6))
def Q0i.E (n:Nat) (c:Q0i.Z→Option (Int × Int)):Q0i.A→Option Q0i.T:=fun (a0,a1,a2,a3,a4,a5,a6,a7)=>Q0i.e n c a0 a1 a2 a3 a4 a5 a6 a7
def Q0i.l (n:Nat):Nat→Q0i.Z→Option (Int × Int):=loopL (Q0i.r n)
def Q0i.F (n:Nat) (a0 a1:ByteArray) (a2 a3 a4 a5:List AV) (a6:Bool) (a7:List AV):Option (Int × Int):=Q0i.e n (Q0i.l n n) a0 a1 a2 a3 a4 a5 a6 a7
def Q0i.FA (n:Nat):Q0i.A→Option Q0i.T:=Q0i.E n (Q0i.l n n)
theorem Q0i.hands (n:Nat):∀ a p,Q0i.FA n a=some p→HandsIn Tryz.prog 53 (Q0i.i a) (Q0i.p p):=
 pf_hands (C:=Q0i.C n) (cut:=Q0i.cut) (t:=Q0i.t) (s:=Q0i.s) (e:=Q0i.E n) (r:=Q0i.r n) (n:=n) cfg mixed globs rfl Q0i.qi (Q0i.tells n) Tryz.func53 (by kernel_rfl) (by kernel_rfl) (fun rec a=>by kernel_rfl) (fun rec z=>by cases z <;> kernel_rfl)
def Q0i.via {R:Type} (n:Nat):List AV→(AV→Option R)→Option R:=viaK (Q0i.FA n) Q0i.o Q0i.p
theorem Q0i.tells1 {R:Type} (n:Nat) (xs:List AV):Tells1 (R:=R) Tryz.prog 53 xs (Q0i.via n xs):=tells_via Q0i.oi (fun a=>by kernel_rfl) (Q0i.hands n) xs
end Go.Proofs.YtmpglmcjoelciaaGreatDoor.Ev
namespace Go.Proofs.YtmpglmcjoelciaaGreatDoor.Ev
open Go Go.Proofs Go.Proofs.Ev
set_option linter.unusedVariables false
set_option maxRecDepth 100000
abbrev Q4b.A:=List AV × Bool
abbrev Q4b.T:=Int
def Q4b.i:Q4b.A→List AV:=fun (a0,a1)=>[.sl ⟨true,4⟩ 1 a0,vb a1]
def Q4b.o (xs:List AV):Option Q4b.A:=match xs with | [.sl ⟨true,4⟩ 1 a0,.v (.bool a1)]=>some (a0,a1) | _=>none
theorem Q4b.oi:∀ xs a,Q4b.o xs=some a→xs=Q4b.i a:=by
 intro xs a h
 unfold Q4b.o at h
 split at h
 ·cases h; rfl
 ·cases h
def Q4b.p (p:Q4b.T):AV:=vi p
def Q4b.q (x:AV):Option Q4b.T:=match x with | .v (.int .i64 p0)=>some p0 | _=>none
theorem Q4b.qi:∀ x p,Q4b.q x=some p→x=Q4b.p p:=by
 intro x p h
 unfold Q4b.q at h
 split at h
 ·cases h; rfl
 ·cases h
inductive Q4b.Z where
 | z2 (z1:List AV) (z2:Bool) (z3 z4:Int)
def Q4b.C {R:Type} (n:Nat) (f:FuncId) (xs:List AV):(AV→Option R)→Option R:=
 fun _=>none
theorem Q4b.tells {R:Type} (n:Nat):Tells (R:=R) Tryz.prog (Q4b.C n):=fun _ xs=>Tells1.none
def Q4b.cut (r:Nat):Option Keep:=match r with | 2=>some ⟨[0,1,7,8],[]⟩ | _=>none
def Q4b.t (z:Q4b.Z):List Item:=(todoOf (match z with | .z2 _ _ _ _=>2) 1000 [.code (Tryz.f144.body.getD .skip)]).getD []
def Q4b.s:Q4b.Z→St
 | .z2 z1 z2 z3 z4=>⟨spr 19 0 [(0,.sl ⟨true,4⟩ 1 z1),(1,vb z2),(7,vi z3),(8,vi z4)],Mem.ofList [],0⟩
def Q4b.r2 (n:Nat) (c:Q4b.Z→Option Int) (z1:List AV) (z2:Bool) (z3 z4:Int):Option Int:=
 bif decide (z4 < z3) then (bif decide ((0:Int)≤z4)&&decide (z4 < ((z1.length:Nat):Int)) then (withCons ((z1.getD ((z4).toNat) .undef).cells) fun h1 r2=>
 withBool h1 fun b3=>
 bif z2==b3 then (some z4) else (c (.z2 z1 z2 z3 (IntKind.i64.wrap (z4+1))))) else none) else (some (-1))
def Q4b.r (n:Nat) (c:Q4b.Z→Option Int):Q4b.Z→Option Int
 | .z2 z1 z2 z3 z4=>Q4b.r2 n c z1 z2 z3 z4
def Q4b.e (n:Nat) (c:Q4b.Z→Option Int) (a0:List AV) (a1:Bool):Option Int:=
 c (.z2 a0 a1 ((a0.length:Nat):Int) 0)
def Q4b.E (n:Nat) (c:Q4b.Z→Option Int):Q4b.A→Option Q4b.T:=fun (a0,a1)=>Q4b.e n c a0 a1
def Q4b.l (n:Nat):Nat→Q4b.Z→Option Int:=loopL (Q4b.r n)
def Q4b.F (n:Nat) (a0:List AV) (a1:Bool):Option Int:=Q4b.e n (Q4b.l n n) a0 a1
def Q4b.FA (n:Nat):Q4b.A→Option Q4b.T:=Q4b.E n (Q4b.l n n)
theorem Q4b.hands (n:Nat):∀ a p,Q4b.FA n a=some p→HandsIn Tryz.prog 144 (Q4b.i a) (Q4b.p p):=
 pf_hands (C:=Q4b.C n) (cut:=Q4b.cut) (t:=Q4b.t) (s:=Q4b.s) (e:=Q4b.E n) (r:=Q4b.r n) (n:=n) cfg mixed globs rfl Q4b.qi (Q4b.tells n) Tryz.func144 (by kernel_rfl) (by kernel_rfl) (fun rec a=>by kernel_rfl) (fun rec z=>by cases z <;> kernel_rfl)
def Q4b.via {R:Type} (n:Nat):List AV→(AV→Option R)→Option R:=viaK (Q4b.FA n) Q4b.o Q4b.p
theorem Q4b.tells1 {R:Type} (n:Nat) (xs:List AV):Tells1 (R:=R) Tryz.prog 144 xs (Q4b.via n xs):=tells_via Q4b.oi (fun a=>by kernel_rfl) (Q4b.hands n) xs
end Go.Proofs.YtmpglmcjoelciaaGreatDoor.Ev
namespace Go.Proofs.YtmpglmcjoelciaaGreatDoor.Ev
open Go Go.Proofs Go.Proofs.Ev
set_option linter.unusedVariables false
set_option maxRecDepth 100000
abbrev Q47.A:=List AV × Bool
abbrev Q47.T:=Bool
def Q47.i:Q47.A→List AV:=fun (a0,a1)=>[.sl ⟨true,4⟩ 1 a0,vb a1]
def Q47.o (xs:List AV):Option Q47.A:=match xs with | [.sl ⟨true,4⟩ 1 a0,.v (.bool a1)]=>some (a0,a1) | _=>none
theorem Q47.oi:∀ xs a,Q47.o xs=some a→xs=Q47.i a:=by
 intro xs a h
 unfold Q47.o at h
 split at h
 ·cases h; rfl
 ·cases h
def Q47.p (p:Q47.T):AV:=vb p
def Q47.q (x:AV):Option Q47.T:=match x with | .v (.bool p0)=>some p0 | _=>none
theorem Q47.qi:∀ x p,Q47.q x=some p→x=Q47.p p:=by
 intro x p h
 unfold Q47.q at h
 split at h
 ·cases h; rfl
 ·cases h
def Q47.C {R:Type} (n:Nat) (f:FuncId) (xs:List AV):(AV→Option R)→Option R:=
 bif Nat.beq f 144 then Q4b.via n xs else fun _=>none
theorem Q47.tells {R:Type} (n:Nat):Tells (R:=R) Tryz.prog (Q47.C n):=fun _ xs=>tells_at (Q4b.tells1 n xs) (Tells1.none)
def Q47.cut (r:Nat):Option Keep:=match r with  | _=>none
def Q47.e (n:Nat) (a0:List AV) (a1:Bool):Option Bool:=
 (Q4b.F n a0 a1).bind fun p1=>
 some (decide (p1≥0))
def Q47.E (n:Nat):Q47.A→Option Q47.T:=fun (a0,a1)=>Q47.e n a0 a1
def Q47.F (n:Nat) (a0:List AV) (a1:Bool):Option Bool:=Q47.e n a0 a1
def Q47.FA (n:Nat):Q47.A→Option Q47.T:=Q47.E n
theorem Q47.hands (n:Nat):∀ a p,Q47.FA n a=some p→HandsIn Tryz.prog 101 (Q47.i a) (Q47.p p):=
 pf_hands (C:=Q47.C n) (cut:=Q47.cut) (Z:=Empty) (t:=nofun) (s:=nofun) (e:=fun _=>Q47.E n) (r:=fun _ z=>nomatch z) (n:=n) cfg mixed globs rfl Q47.qi (Q47.tells n) Tryz.func101 (by kernel_rfl) (by kernel_rfl) (fun rec a=>by kernel_rfl) (fun rec z=>nomatch z)
def Q47.via {R:Type} (n:Nat):List AV→(AV→Option R)→Option R:=viaK (Q47.FA n) Q47.o Q47.p
theorem Q47.tells1 {R:Type} (n:Nat) (xs:List AV):Tells1 (R:=R) Tryz.prog 101 xs (Q47.via n xs):=tells_via Q47.oi (fun a=>by kernel_rfl) (Q47.hands n) xs
end Go.Proofs.YtmpglmcjoelciaaGreatDoor.Ev
namespace Go.Proofs.YtmpglmcjoelciaaGreatDoor.Ev
open Go Go.Proofs Go.Proofs.Ev
set_option linter.unusedVariables false
set_option maxRecDepth 100000
abbrev Q0u.A:=ByteArray × ByteArray × List AV × List AV × List AV × List AV × Bool × List AV
abbrev Q0u.T:=Int × Int
def Q0u.i:Q0u.A→List AV:=fun (a0,a1,a2,a3,a4,a5,a6,a7)=>[AV.agg [vs a0,vs a1,.sl ⟨true,9⟩ 1 a2,.sl ⟨true,95⟩ 3 a3,.sl ⟨true,97⟩ 4 a4,.sl ⟨true,111⟩ 2 a5,vb a6,.sl ⟨false,100⟩ 2 a7]]
def Q0u.o (xs:List AV):Option Q0u.A:=match xs with | [.agg [.v (.string a0),.v (.string a1),.sl ⟨true,9⟩ 1 a2,.sl ⟨true,95⟩ 3 a3,.sl ⟨true,97⟩ 4 a4,.sl ⟨true,111⟩ 2 a5,.v (.bool a6),.sl ⟨false,100⟩ 2 a7]]=>some (a0,a1,a2,a3,a4,a5,a6,a7) | _=>none
theorem Q0u.oi:∀ xs a,Q0u.o xs=some a→xs=Q0u.i a:=by
 intro xs a h
 unfold Q0u.o at h
 split at h
 ·cases h; rfl
 ·cases h
def Q0u.p (p:Q0u.T):AV:=.tup [vi p.1,vi p.2]
def Q0u.q (x:AV):Option Q0u.T:=match x with | .tup [.v (.int .i64 p0),.v (.int .i64 p1)]=>some (p0,p1) | _=>none
theorem Q0u.qi:∀ x p,Q0u.q x=some p→x=Q0u.p p:=by
 intro x p h
 unfold Q0u.q at h
 split at h
 ·cases h; rfl
 ·cases h
inductive Q0u.Z where
 | z6 (z1:Int) (z2:List AV) (z3 z4:Int) (z5 z6:ByteArray) (z7 z8 z9 z10:List AV) (z11:Bool) (z12 z13:List AV)
def Q0u.C {R:Type} (n:Nat) (f:FuncId) (xs:List AV):(AV→Option R)→Option R:=
 bif Nat.beq f 44 then Q0m.via n xs else bif Nat.beq f 45 then Q0f.via n xs else bif Nat.beq f 51 then Q0r.via n xs else bif Nat.beq f 100 then Q0o.via n xs else bif Nat.beq f 101 then Q47.via n xs else fun _=>none
theorem Q0u.tells {R:Type} (n:Nat):Tells (R:=R) Tryz.prog (Q0u.C n):=fun _ xs=>tells_at (Q0m.tells1 n xs) (tells_at (Q0f.tells1 n xs) (tells_at (Q0r.tells1 n xs) (tells_at (Q0o.tells1 n xs) (tells_at (Q47.tells1 n xs) (Tells1.none)))))
def Q0u.cut (r:Nat):Option Keep:=match r with | 6=>some ⟨[1,4,5,18,19,20],[]⟩ | _=>none
def Q0u.t (z:Q0u.Z):List Item:=(todoOf (match z with | .z6 _ _ _ _ _ _ _ _ _ _ _ _ _=>6) 1000 [.code (Tryz.f54.body.getD .skip)]).getD []
def Q0u.s:Q0u.Z→St
 | .z6 z1 z2 z3 z4 z5 z6 z7 z8 z9 z10 z11 z12 z13=>⟨spr 74 0 [(1,.ptr 0 0),(4,.own 1 0 none),(5,vi z1),(18,.sl ⟨true,97⟩ 4 z2),(19,vi z3),(20,vi z4)],Mem.ofList [.box 36 [vs z5,vs z6,.sl ⟨true,9⟩ 1 z7,.sl ⟨true,95⟩ 3 z8,.sl ⟨true,97⟩ 4 z9,.sl ⟨true,111⟩ 2 z10,vb z11,.sl ⟨false,100⟩ 2 z12],.row ⟨true,4⟩ 1 z13],2⟩
def Q0u.r6 (n:Nat) (c:Q0u.Z→Option (Int × Int)) (z1:Int) (z2:List AV) (z3 z4:Int) (z5 z6:ByteArray) (z7 z8 z9 z10:List AV) (z11:Bool) (z12 z13:List AV):Option (Int × Int):=
 bif decide (z4 < z3) then (bif decide ((0:Int)≤z4)&&decide (z4 < ((z2.length:Nat):Int)) then (withCons ((z2.getD ((z4).toNat) .undef).cells) fun h3 r4=>
 withInt .i64 h3 fun x5=>
 withCons r4 fun h6 r7=>
 withStr h6 fun s8=>
 withCons r7 fun h9 r10=>
 withInt .i64 h9 fun x11=>
 withCons r10 fun h12 r13=>
 withStr h12 fun s14=>
 let y15:Int:=IntKind.i64.wrap (((z7.length:Nat):Int) - 1)
 (Q0o.F n x11 1 y15).bind fun p16=>
 (Q0f.F n (!p16) 3).bind fun p17=>
 (Q0o.F n x5 0 (IntKind.i64.wrap (x11 - 1))).bind fun p18=>
 (Q0f.F n (!p18) 3).bind fun p19=>
 (Q0r.F n s8).bind fun p20=>
 (Q0f.F n (!p20) 7).bind fun p21=>
 (Q0r.F n s14).bind fun p22=>
 (Q0f.F n (!p22) 7).bind fun p23=>
 (Q0f.F n (decide (x11 < z1)) 14).bind fun p24=>
 (Q0m.F n [vi p17,vi p19,vi p21,vi p23,vi p24]).bind fun p25=>
 bif p25 != 0 then (some (z4,p25)) else (bif decide ((0:Int)≤x11)&&decide (x11 < ((z13.length:Nat):Int)) then (let y26:List AV:=z13.set ((x11).toNat) (vb true)
 c (.z6 x11 z2 z3 (IntKind.i64.wrap (z4+1)) z5 z6 z7 z8 z9 z10 z11 z12 y26)) else none)) else none) else (bif decide ((0:Int)≤1)&&decide ((1:Int)≤((z13.length:Nat):Int)) then ((Q47.F n (z13.drop 1) false).bind fun p27=>
 (Q0f.F n p27 11).bind fun p28=>
 some (0,p28)) else none)
def Q0u.r (n:Nat) (c:Q0u.Z→Option (Int × Int)):Q0u.Z→Option (Int × Int)
 | .z6 z1 z2 z3 z4 z5 z6 z7 z8 z9 z10 z11 z12 z13=>Q0u.r6 n c z1 z2 z3 z4 z5 z6 z7 z8 z9 z10 z11 z12 z13
def Q0u.e (n:Nat) (c:Q0u.Z→Option (Int × Int)) (a0 a1:ByteArray) (a2 a3 a4 a5:List AV) (a6:Bool) (a7:List AV):Option (Int × Int):=
 let y1:Bool:=decide (((a4.length:Nat):Int) > 20)
 bif y1 then (some (0,2)) else (bif (decide ((0:Int)≤((a2.length:Nat):Int))&&decide ((((a2.length:Nat):Int):Int)≤most))&&decide ((((a2.length:Nat):Int):Int)=((a2.length:Nat):Int))&&true&&true then (let y2:List AV:=List.replicate (((a2.length:Nat):Int)).toNat (vb false)
 c (.z6 0 a4 ((a4.length:Nat):Int) 0 a0 a1 a2 a3 a4 a5 a6 a7 y2)) else none)
def Q0u.E (n:Nat) (c:Q0u.Z→Option (Int × Int)):Q0u.A→Option Q0u.T:=fun (a0,a1,a2,a3,a4,a5,a6,a7)=>Q0u.e n c a0 a1 a2 a3 a4 a5 a6 a7
def Q0u.l (n:Nat):Nat→Q0u.Z→Option (Int × Int):=loopL (Q0u.r n)
def Q0u.F (n:Nat) (a0 a1:ByteArray) (a2 a3 a4 a5:List AV) (a6:Bool) (a7:List AV):Option (Int × Int):=Q0u.e n (Q0u.l n n) a0 a1 a2 a3 a4 a5 a6 a7
def Q0u.FA (n:Nat):Q0u.A→Option Q0u.T:=Q0u.E n (Q0u.l n n)
theorem Q0u.hands (n:Nat):∀ a p,Q0u.FA n a=some p→HandsIn Tryz.prog 54 (Q0u.i a) (Q0u.p p):=
 pf_hands (C:=Q0u.C n) (cut:=Q0u.cut) (t:=Q0u.t) (s:=Q0u.s) (e:=Q0u.E n) (r:=Q0u.r n) (n:=n) cfg mixed globs rfl Q0u.qi (Q0u.tells n) Tryz.func54 (by kernel_rfl) (by kernel_rfl) (fun rec a=>by kernel_rfl) (fun rec z=>by cases z <;> kernel_rfl)
def Q0u.via {R:Type} (n:Nat):List AV→(AV→Option R)→Option R:=viaK (Q0u.FA n) Q0u.o Q0u.p
theorem Q0u.tells1 {R:Type} (n:Nat) (xs:List AV):Tells1 (R:=R) Tryz.prog 54 xs (Q0u.via n xs):=tells_via Q0u.oi (fun a=>by kernel_rfl) (Q0u.hands n) xs
end Go.Proofs.YtmpglmcjoelciaaGreatDoor.Ev
namespace Go.Proofs.YtmpglmcjoelciaaGreatDoor.Ev
open Go Go.Proofs Go.Proofs.Ev
set_option linter.unusedVariables false
set_option maxRecDepth 100000
abbrev Q0w.A:=List AV × List AV
abbrev Q0w.T:=Int × Int
def Q0w.i:Q0w.A→List AV:=fun (a0,a1)=>[.sl ⟨true,111⟩ 2 a0,.sl ⟨true,9⟩ 1 a1]
def Q0w.o (xs:List AV):Option Q0w.A:=match xs with | [.sl ⟨true,111⟩ 2 a0,.sl ⟨true,9⟩ 1 a1]=>some (a0,a1) | _=>none
theorem Q0w.oi:∀ xs a,Q0w.o xs=some a→xs=Q0w.i a:=by
 intro xs a h
 unfold Q0w.o at h
 split at h
 ·cases h; rfl
 ·cases h
def Q0w.p (p:Q0w.T):AV:=.tup [vi p.1,vi p.2]
def Q0w.q (x:AV):Option Q0w.T:=match x with | .tup [.v (.int .i64 p0),.v (.int .i64 p1)]=>some (p0,p1) | _=>none
theorem Q0w.qi:∀ x p,Q0w.q x=some p→x=Q0w.p p:=by
 intro x p h
 unfold Q0w.q at h
 split at h
 ·cases h; rfl
 ·cases h
inductive Q0w.Z where
 | z5 (z1 z2:List AV) (z3 z4:Int) (z5:List AV)
def Q0w.C {R:Type} (n:Nat) (f:FuncId) (xs:List AV):(AV→Option R)→Option R:=
 bif Nat.beq f 44 then Q0m.via n xs else bif Nat.beq f 45 then Q0f.via n xs else bif Nat.beq f 102 then Q48.via n xs else fun _=>none
theorem Q0w.tells {R:Type} (n:Nat):Tells (R:=R) Tryz.prog (Q0w.C n):=fun _ xs=>tells_at (Q0m.tells1 n xs) (tells_at (Q0f.tells1 n xs) (tells_at (Q48.tells1 n xs) (Tells1.none)))
def Q0w.cut (r:Nat):Option Keep:=match r with | 5=>some ⟨[1,6,13,14,15],[(6,none,⟨true,9⟩,1)]⟩ | _=>none
def Q0w.t (z:Q0w.Z):List Item:=(todoOf (match z with | .z5 _ _ _ _ _=>5) 1000 [.code (Tryz.f56.body.getD .skip)]).getD []
def Q0w.s:Q0w.Z→St
 | .z5 z1 z2 z3 z4 z5=>⟨spr 43 0 [(1,.sl ⟨true,9⟩ 1 z1),(6,.own 0 0 none),(13,.sl ⟨true,111⟩ 2 z2),(14,vi z3),(15,vi z4)],Mem.ofList [.row ⟨true,9⟩ 1 z5],1⟩
def Q0w.r5 (n:Nat) (c:Q0w.Z→Option (Int × Int)) (z1 z2:List AV) (z3 z4:Int) (z5:List AV):Option (Int × Int):=
 bif decide (z4 < z3) then (bif decide ((0:Int)≤z4)&&decide (z4 < ((z2.length:Nat):Int)) then (withCons ((z2.getD ((z4).toNat) .undef).cells) fun h2 r3=>
 withStr h2 fun s4=>
 withCons r3 fun h5 r6=>
 withBool h5 fun b7=>
 (Q48.F n z1 s4).bind fun p8=>
 (Q0f.F n (!p8) 11).bind fun p9=>
 (Q48.F n z5 s4).bind fun p10=>
 (Q0f.F n p10 13).bind fun p11=>
 (Q0m.F n [vi p9,vi p11]).bind fun p12=>
 bif p12 != 0 then (some (z4,p12)) else (bif decide (z5.length+[vs s4].length≤most) then (c (.z5 z1 z2 z3 (IntKind.i64.wrap (z4+1)) (z5++[vs s4]))) else none)) else none) else (some (0,0))
def Q0w.r (n:Nat) (c:Q0w.Z→Option (Int × Int)):Q0w.Z→Option (Int × Int)
 | .z5 z1 z2 z3 z4 z5=>Q0w.r5 n c z1 z2 z3 z4 z5
def Q0w.e (n:Nat) (c:Q0w.Z→Option (Int × Int)) (a0 a1:List AV):Option (Int × Int):=
 let y1:Bool:=decide (((a0.length:Nat):Int) > 4)
 bif y1 then (some (0,2)) else (c (.z5 a1 a0 ((a0.length:Nat):Int) 0 []))
def Q0w.E (n:Nat) (c:Q0w.Z→Option (Int × Int)):Q0w.A→Option Q0w.T:=fun (a0,a1)=>Q0w.e n c a0 a1
def Q0w.l (n:Nat):Nat→Q0w.Z→Option (Int × Int):=loopL (Q0w.r n)
def Q0w.F (n:Nat) (a0 a1:List AV):Option (Int × Int):=Q0w.e n (Q0w.l n n) a0 a1
def Q0w.FA (n:Nat):Q0w.A→Option Q0w.T:=Q0w.E n (Q0w.l n n)
theorem Q0w.hands (n:Nat):∀ a p,Q0w.FA n a=some p→HandsIn Tryz.prog 56 (Q0w.i a) (Q0w.p p):=
 pf_hands (C:=Q0w.C n) (cut:=Q0w.cut) (t:=Q0w.t) (s:=Q0w.s) (e:=Q0w.E n) (r:=Q0w.r n) (n:=n) cfg mixed globs rfl Q0w.qi (Q0w.tells n) Tryz.func56 (by kernel_rfl) (by kernel_rfl) (fun rec a=>by kernel_rfl) (fun rec z=>by cases z <;> kernel_rfl)
def Q0w.via {R:Type} (n:Nat):List AV→(AV→Option R)→Option R:=viaK (Q0w.FA n) Q0w.o Q0w.p
theorem Q0w.tells1 {R:Type} (n:Nat) (xs:List AV):Tells1 (R:=R) Tryz.prog 56 xs (Q0w.via n xs):=tells_via Q0w.oi (fun a=>by kernel_rfl) (Q0w.hands n) xs
end Go.Proofs.YtmpglmcjoelciaaGreatDoor.Ev
namespace Go.Proofs.YtmpglmcjoelciaaGreatDoor.Ev
open Go Go.Proofs Go.Proofs.Ev
set_option linter.unusedVariables false
set_option maxRecDepth 100000
abbrev Q05.A:=ByteArray × ByteArray × List AV × List AV × List AV × List AV × Bool × List AV
abbrev Q05.T:=Int × Int
def Q05.i:Q05.A→List AV:=fun (a0,a1,a2,a3,a4,a5,a6,a7)=>[AV.agg [vs a0,vs a1,.sl ⟨true,9⟩ 1 a2,.sl ⟨true,95⟩ 3 a3,.sl ⟨true,97⟩ 4 a4,.sl ⟨true,111⟩ 2 a5,vb a6,.sl ⟨false,100⟩ 2 a7]]
def Q05.o (xs:List AV):Option Q05.A:=match xs with | [.agg [.v (.string a0),.v (.string a1),.sl ⟨true,9⟩ 1 a2,.sl ⟨true,95⟩ 3 a3,.sl ⟨true,97⟩ 4 a4,.sl ⟨true,111⟩ 2 a5,.v (.bool a6),.sl ⟨false,100⟩ 2 a7]]=>some (a0,a1,a2,a3,a4,a5,a6,a7) | _=>none
theorem Q05.oi:∀ xs a,Q05.o xs=some a→xs=Q05.i a:=by
 intro xs a h
 unfold Q05.o at h
 split at h
 ·cases h; rfl
 ·cases h
def Q05.p (p:Q05.T):AV:=.tup [vi p.1,vi p.2]
def Q05.q (x:AV):Option Q05.T:=match x with | .tup [.v (.int .i64 p0),.v (.int .i64 p1)]=>some (p0,p1) | _=>none
theorem Q05.qi:∀ x p,Q05.q x=some p→x=Q05.p p:=by
 intro x p h
 unfold Q05.q at h
 split at h
 ·cases h; rfl
 ·cases h
def Q05.C {R:Type} (n:Nat) (f:FuncId) (xs:List AV):(AV→Option R)→Option R:=
 bif Nat.beq f 56 then Q0w.via n xs else bif Nat.beq f 57 then Q0z.via n xs else fun _=>none
theorem Q05.tells {R:Type} (n:Nat):Tells (R:=R) Tryz.prog (Q05.C n):=fun _ xs=>tells_at (Q0w.tells1 n xs) (tells_at (Q0z.tells1 n xs) (Tells1.none))
def Q05.cut (r:Nat):Option Keep:=match r with  | _=>none
def Q05.e (n:Nat) (a0 a1:ByteArray) (a2 a3 a4 a5:List AV) (a6:Bool) (a7:List AV):Option (Int × Int):=
 (Q0z.F n a0 a1 a2 a3 a4 a5 a6 a7).bind fun p1=>
 (Q0w.F n a5 p1).bind fun p2=>
 some (p2.1,p2.2)
def Q05.E (n:Nat):Q05.A→Option Q05.T:=fun (a0,a1,a2,a3,a4,a5,a6,a7)=>Q05.e n a0 a1 a2 a3 a4 a5 a6 a7
def Q05.F (n:Nat) (a0 a1:ByteArray) (a2 a3 a4 a5:List AV) (a6:Bool) (a7:List AV):Option (Int × Int):=Q05.e n a0 a1 a2 a3 a4 a5 a6 a7
def Q05.FA (n:Nat):Q05.A→Option Q05.T:=Q05.E n
theorem Q05.hands (n:Nat):∀ a p,Q05.FA n a=some p→HandsIn Tryz.prog 55 (Q05.i a) (Q05.p p):=
 pf_hands (C:=Q05.C n) (cut:=Q05.cut) (Z:=Empty) (t:=nofun) (s:=nofun) (e:=fun _=>Q05.E n) (r:=fun _ z=>nomatch z) (n:=n) cfg mixed globs rfl Q05.qi (Q05.tells n) Tryz.func55 (by kernel_rfl) (by kernel_rfl) (fun rec a=>by kernel_rfl) (fun rec z=>nomatch z)
def Q05.via {R:Type} (n:Nat):List AV→(AV→Option R)→Option R:=viaK (Q05.FA n) Q05.o Q05.p
theorem Q05.tells1 {R:Type} (n:Nat) (xs:List AV):Tells1 (R:=R) Tryz.prog 55 xs (Q05.via n xs):=tells_via Q05.oi (fun a=>by kernel_rfl) (Q05.hands n) xs
end Go.Proofs.YtmpglmcjoelciaaGreatDoor.Ev
namespace Go.Proofs.YtmpglmcjoelciaaGreatDoor.Ev
open Go Go.Proofs Go.Proofs.Ev
set_option linter.unusedVariables false
set_option maxRecDepth 100000
abbrev Q0g.A:=ByteArray × Int × Int × ByteArray × List AV
abbrev Q0g.T:=Int
def Q0g.i:Q0g.A→List AV:=fun (a0,a1,a2,a3,a4)=>[AV.agg [vs a0,vi a1,vi a2,vs a3],.sl ⟨true,9⟩ 1 a4]
def Q0g.o (xs:List AV):Option Q0g.A:=match xs with | [.agg [.v (.string a0),.v (.int .i64 a1),.v (.int .i64 a2),.v (.string a3)],.sl ⟨true,9⟩ 1 a4]=>some (a0,a1,a2,a3,a4) | _=>none
theorem Q0g.oi:∀ xs a,Q0g.o xs=some a→xs=Q0g.i a:=by
 intro xs a h
 unfold Q0g.o at h
 split at h
 ·cases h; rfl
 ·cases h
def Q0g.p (p:Q0g.T):AV:=vi p
def Q0g.q (x:AV):Option Q0g.T:=match x with | .v (.int .i64 p0)=>some p0 | _=>none
theorem Q0g.qi:∀ x p,Q0g.q x=some p→x=Q0g.p p:=by
 intro x p h
 unfold Q0g.q at h
 split at h
 ·cases h; rfl
 ·cases h
def Q0g.C {R:Type} (n:Nat) (f:FuncId) (xs:List AV):(AV→Option R)→Option R:=
 bif Nat.beq f 44 then Q0m.via n xs else bif Nat.beq f 45 then Q0f.via n xs else bif Nat.beq f 100 then Q0o.via n xs else bif Nat.beq f 102 then Q48.via n xs else fun _=>none
theorem Q0g.tells {R:Type} (n:Nat):Tells (R:=R) Tryz.prog (Q0g.C n):=fun _ xs=>tells_at (Q0m.tells1 n xs) (tells_at (Q0f.tells1 n xs) (tells_at (Q0o.tells1 n xs) (tells_at (Q48.tells1 n xs) (Tells1.none))))
def Q0g.cut (r:Nat):Option Keep:=match r with  | _=>none
def Q0g.e (n:Nat) (a0:ByteArray) (a1 a2:Int) (a3:ByteArray) (a4:List AV):Option Int:=
 (Q48.F n a4 a0).bind fun p1=>
 (Q0f.F n (!p1) 11).bind fun p2=>
 (Q0o.F n a1 0 5).bind fun p3=>
 (Q0f.F n (!p3) 4).bind fun p4=>
 (Q0o.F n a2 (-999999999999999) 999999999999999).bind fun p5=>
 (Q0f.F n (!p5) 3).bind fun p6=>
 let y7:Bool:=decide (((a3.size:Nat):Int) > 256)
 (Q0f.F n y7 2).bind fun p8=>
 bif a2 != 0 then (let y9:Bool:=!(a3.toList==(⟨#[]⟩ : ByteArray).toList)
 (Q0f.F n y9 5).bind fun p10=>
 (Q0m.F n [vi p2,vi p4,vi p6,vi p8,vi p10]).bind fun p11=>
 some p11) else ((Q0f.F n false 5).bind fun p12=>
 (Q0m.F n [vi p2,vi p4,vi p6,vi p8,vi p12]).bind fun p13=>
 some p13)
def Q0g.E (n:Nat):Q0g.A→Option Q0g.T:=fun (a0,a1,a2,a3,a4)=>Q0g.e n a0 a1 a2 a3 a4
def Q0g.F (n:Nat) (a0:ByteArray) (a1 a2:Int) (a3:ByteArray) (a4:List AV):Option Int:=Q0g.e n a0 a1 a2 a3 a4
def Q0g.FA (n:Nat):Q0g.A→Option Q0g.T:=Q0g.E n
theorem Q0g.hands (n:Nat):∀ a p,Q0g.FA n a=some p→HandsIn Tryz.prog 103 (Q0g.i a) (Q0g.p p):=
 pf_hands (C:=Q0g.C n) (cut:=Q0g.cut) (Z:=Empty) (t:=nofun) (s:=nofun) (e:=fun _=>Q0g.E n) (r:=fun _ z=>nomatch z) (n:=n) cfg mixed globs rfl Q0g.qi (Q0g.tells n) Tryz.func103 (by kernel_rfl) (by kernel_rfl) (fun rec a=>by kernel_rfl) (fun rec z=>nomatch z)
def Q0g.via {R:Type} (n:Nat):List AV→(AV→Option R)→Option R:=viaK (Q0g.FA n) Q0g.o Q0g.p
theorem Q0g.tells1 {R:Type} (n:Nat) (xs:List AV):Tells1 (R:=R) Tryz.prog 103 xs (Q0g.via n xs):=tells_via Q0g.oi (fun a=>by kernel_rfl) (Q0g.hands n) xs
end Go.Proofs.YtmpglmcjoelciaaGreatDoor.Ev
namespace Go.Proofs.YtmpglmcjoelciaaGreatDoor.Ev
open Go Go.Proofs Go.Proofs.Ev
set_option linter.unusedVariables false
set_option maxRecDepth 100000
abbrev Q16.A:=ByteArray × ByteArray × List AV × List AV × List AV × List AV × Bool × List AV
abbrev Q16.T:=Int × Int
def Q16.i:Q16.A→List AV:=fun (a0,a1,a2,a3,a4,a5,a6,a7)=>[AV.agg [vs a0,vs a1,.sl ⟨true,9⟩ 1 a2,.sl ⟨true,95⟩ 3 a3,.sl ⟨true,97⟩ 4 a4,.sl ⟨true,111⟩ 2 a5,vb a6,.sl ⟨false,100⟩ 2 a7]]
def Q16.o (xs:List AV):Option Q16.A:=match xs with | [.agg [.v (.string a0),.v (.string a1),.sl ⟨true,9⟩ 1 a2,.sl ⟨true,95⟩ 3 a3,.sl ⟨true,97⟩ 4 a4,.sl ⟨true,111⟩ 2 a5,.v (.bool a6),.sl ⟨false,100⟩ 2 a7]]=>some (a0,a1,a2,a3,a4,a5,a6,a7) | _=>none
theorem Q16.oi:∀ xs a,Q16.o xs=some a→xs=Q16.i a:=by
 intro xs a h
 unfold Q16.o at h
 split at h
 ·cases h; rfl
 ·cases h
def Q16.p (p:Q16.T):AV:=.tup [vi p.1,vi p.2]
def Q16.q (x:AV):Option Q16.T:=match x with | .tup [.v (.int .i64 p0),.v (.int .i64 p1)]=>some (p0,p1) | _=>none
theorem Q16.qi:∀ x p,Q16.q x=some p→x=Q16.p p:=by
 intro x p h
 unfold Q16.q at h
 split at h
 ·cases h; rfl
 ·cases h
inductive Q16.Z where
 | z5 (z1:List AV) (z2 z3:Int) (z4:List AV)
 | z10 (z1:Int) (z2:List AV) (z3 z4:Int) (z5:List AV) (z6 z7:Int) (z8:List AV)
def Q16.C {R:Type} (n:Nat) (f:FuncId) (xs:List AV):(AV→Option R)→Option R:=
 bif Nat.beq f 57 then Q0z.via n xs else bif Nat.beq f 103 then Q0g.via n xs else fun _=>none
theorem Q16.tells {R:Type} (n:Nat):Tells (R:=R) Tryz.prog (Q16.C n):=fun _ xs=>tells_at (Q0z.tells1 n xs) (tells_at (Q0g.tells1 n xs) (Tells1.none))
def Q16.cut (r:Nat):Option Keep:=match r with | 5=>some ⟨[4,17,18,19],[]⟩ | 10=>some ⟨[4,5,17,18,19,30,31,32],[]⟩ | _=>none
def Q16.t (z:Q16.Z):List Item:=(todoOf (match z with | .z5 _ _ _ _=>5 | .z10 _ _ _ _ _ _ _ _=>10) 1000 [.code (Tryz.f58.body.getD .skip)]).getD []
def Q16.s:Q16.Z→St
 | .z5 z1 z2 z3 z4=>⟨spr 45 0 [(4,.own 0 0 none),(17,.sl ⟨false,100⟩ 2 z1),(18,vi z2),(19,vi z3)],Mem.ofList [.row ⟨true,9⟩ 1 z4],1⟩
 | .z10 z1 z2 z3 z4 z5 z6 z7 z8=>⟨spr 45 0 [(4,.own 0 0 none),(5,vi z1),(17,.sl ⟨false,100⟩ 2 z2),(18,vi z3),(19,vi z4),(30,.sl ⟨true,104⟩ 4 z5),(31,vi z6),(32,vi z7)],Mem.ofList [.row ⟨true,9⟩ 1 z8],1⟩
def Q16.r5 (n:Nat) (c:Q16.Z→Option (Int × Int)) (z1:List AV) (z2 z3:Int) (z4:List AV):Option (Int × Int):=
 bif decide (z3 < z2) then (bif decide ((0:Int)≤z3)&&decide (z3 < ((z1.length:Nat):Int)) then (withCons ((z1.getD ((z3).toNat) .undef).cells) fun h3 r4=>
 withBool h3 fun b5=>
 withCons r4 fun h6 r7=>
 withSl ⟨true,104⟩ 4 h6 fun xs8=>
 let y9:Bool:=decide (((xs8.length:Nat):Int) > 4)
 bif y9 then (some (z3,2)) else (c (.z10 z3 z1 z2 z3 xs8 ((xs8.length:Nat):Int) 0 z4))) else none) else (some (0,0))
def Q16.r10 (n:Nat) (c:Q16.Z→Option (Int × Int)) (z1:Int) (z2:List AV) (z3 z4:Int) (z5:List AV) (z6 z7:Int) (z8:List AV):Option (Int × Int):=
 bif decide (z7 < z6) then (bif decide ((0:Int)≤z7)&&decide (z7 < ((z5.length:Nat):Int)) then (withCons ((z5.getD ((z7).toNat) .undef).cells) fun h10 r11=>
 withStr h10 fun s12=>
 withCons r11 fun h13 r14=>
 withInt .i64 h13 fun x15=>
 withCons r14 fun h16 r17=>
 withInt .i64 h16 fun x18=>
 withCons r17 fun h19 r20=>
 withStr h19 fun s21=>
 (Q0g.F n s12 x15 x18 s21 z8).bind fun p22=>
 bif p22 != 0 then (some (z1,p22)) else (c (.z10 z1 z2 z3 z4 z5 z6 (IntKind.i64.wrap (z7+1)) z8))) else none) else (c (.z5 z2 z3 (IntKind.i64.wrap (z4+1)) z8))
def Q16.r (n:Nat) (c:Q16.Z→Option (Int × Int)):Q16.Z→Option (Int × Int)
 | .z5 z1 z2 z3 z4=>Q16.r5 n c z1 z2 z3 z4
 | .z10 z1 z2 z3 z4 z5 z6 z7 z8=>Q16.r10 n c z1 z2 z3 z4 z5 z6 z7 z8
def Q16.e (n:Nat) (c:Q16.Z→Option (Int × Int)) (a0 a1:ByteArray) (a2 a3 a4 a5:List AV) (a6:Bool) (a7:List AV):Option (Int × Int):=
 let y1:Bool:=decide (((a7.length:Nat):Int) > 8)
 bif y1 then (some (0,2)) else ((Q0z.F n a0 a1 a2 a3 a4 a5 a6 a7).bind fun p2=>
 c (.z5 a7 ((a7.length:Nat):Int) 0 p2))
def Q16.E (n:Nat) (c:Q16.Z→Option (Int × Int)):Q16.A→Option Q16.T:=fun (a0,a1,a2,a3,a4,a5,a6,a7)=>Q16.e n c a0 a1 a2 a3 a4 a5 a6 a7
def Q16.l (n:Nat):Nat→Q16.Z→Option (Int × Int):=loopL (Q16.r n)
def Q16.F (n:Nat) (a0 a1:ByteArray) (a2 a3 a4 a5:List AV) (a6:Bool) (a7:List AV):Option (Int × Int):=Q16.e n (Q16.l n n) a0 a1 a2 a3 a4 a5 a6 a7
def Q16.FA (n:Nat):Q16.A→Option Q16.T:=Q16.E n (Q16.l n n)
theorem Q16.hands (n:Nat):∀ a p,Q16.FA n a=some p→HandsIn Tryz.prog 58 (Q16.i a) (Q16.p p):=
 pf_hands (C:=Q16.C n) (cut:=Q16.cut) (t:=Q16.t) (s:=Q16.s) (e:=Q16.E n) (r:=Q16.r n) (n:=n) cfg mixed globs rfl Q16.qi (Q16.tells n) Tryz.func58 (by kernel_rfl) (by kernel_rfl) (fun rec a=>by kernel_rfl) (fun rec z=>by cases z <;> kernel_rfl)
def Q16.via {R:Type} (n:Nat):List AV→(AV→Option R)→Option R:=viaK (Q16.FA n) Q16.o Q16.p
theorem Q16.tells1 {R:Type} (n:Nat) (xs:List AV):Tells1 (R:=R) Tryz.prog 58 xs (Q16.via n xs):=tells_via Q16.oi (fun a=>by kernel_rfl) (Q16.hands n) xs
end Go.Proofs.YtmpglmcjoelciaaGreatDoor.Ev
namespace Go.Proofs.YtmpglmcjoelciaaGreatDoor.Ev
open Go Go.Proofs Go.Proofs.Ev
set_option linter.unusedVariables false
set_option maxRecDepth 100000
abbrev Q04.A:=ByteArray × ByteArray × List AV × List AV × List AV × List AV × Bool × List AV
abbrev Q04.T:=Int × Int
def Q04.i:Q04.A→List AV:=fun (a0,a1,a2,a3,a4,a5,a6,a7)=>[AV.agg [vs a0,vs a1,.sl ⟨true,9⟩ 1 a2,.sl ⟨true,95⟩ 3 a3,.sl ⟨true,97⟩ 4 a4,.sl ⟨true,111⟩ 2 a5,vb a6,.sl ⟨false,100⟩ 2 a7]]
def Q04.o (xs:List AV):Option Q04.A:=match xs with | [.agg [.v (.string a0),.v (.string a1),.sl ⟨true,9⟩ 1 a2,.sl ⟨true,95⟩ 3 a3,.sl ⟨true,97⟩ 4 a4,.sl ⟨true,111⟩ 2 a5,.v (.bool a6),.sl ⟨false,100⟩ 2 a7]]=>some (a0,a1,a2,a3,a4,a5,a6,a7) | _=>none
theorem Q04.oi:∀ xs a,Q04.o xs=some a→xs=Q04.i a:=by
 intro xs a h
 unfold Q04.o at h
 split at h
 ·cases h; rfl
 ·cases h
def Q04.p (p:Q04.T):AV:=.tup [vi p.1,vi p.2]
def Q04.q (x:AV):Option Q04.T:=match x with | .tup [.v (.int .i64 p0),.v (.int .i64 p1)]=>some (p0,p1) | _=>none
theorem Q04.qi:∀ x p,Q04.q x=some p→x=Q04.p p:=by
 intro x p h
 unfold Q04.q at h
 split at h
 ·cases h; rfl
 ·cases h
inductive Q04.Z where
 | z4 (z1 z2:Int) (z3 z4:ByteArray) (z5 z6 z7 z8:List AV) (z9:Bool) (z10:List AV)
 | z6 (z1 z2:Int) (z3 z4:ByteArray) (z5 z6 z7 z8:List AV) (z9:Bool) (z10:List AV)
 | z6x1 (z1 z2:Int) (z3 z4:ByteArray) (z5 z6 z7 z8:List AV) (z9:Bool) (z10:List AV)
 | z6x2 (z1 z2:Int) (z3 z4:ByteArray) (z5 z6 z7 z8:List AV) (z9:Bool) (z10:List AV)
 | z6x3 (z1 z2:Int) (z3 z4:ByteArray) (z5 z6 z7 z8:List AV) (z9:Bool) (z10:List AV)
 | z6x4 (z1 z2:Int) (z3 z4:ByteArray) (z5 z6 z7 z8:List AV) (z9:Bool) (z10:List AV)
 | z7 (z1 z2 z3 z4:Int) (z5 z6:ByteArray) (z7 z8 z9 z10:List AV) (z11:Bool) (z12:List AV)
def Q04.C {R:Type} (n:Nat) (f:FuncId) (xs:List AV):(AV→Option R)→Option R:=
 bif Nat.beq f 45 then Q0f.via n xs else bif Nat.beq f 51 then Q0r.via n xs else bif Nat.beq f 52 then Q0e.via n xs else bif Nat.beq f 53 then Q0i.via n xs else bif Nat.beq f 54 then Q0u.via n xs else bif Nat.beq f 55 then Q05.via n xs else bif Nat.beq f 58 then Q16.via n xs else fun _=>none
theorem Q04.tells {R:Type} (n:Nat):Tells (R:=R) Tryz.prog (Q04.C n):=fun _ xs=>tells_at (Q0f.tells1 n xs) (tells_at (Q0r.tells1 n xs) (tells_at (Q0e.tells1 n xs) (tells_at (Q0i.tells1 n xs) (tells_at (Q0u.tells1 n xs) (tells_at (Q05.tells1 n xs) (tells_at (Q16.tells1 n xs) (Tells1.none)))))))
def Q04.cut (r:Nat):Option Keep:=match r with | 4=>some ⟨[1,18,19,20],[]⟩ | 6=>some ⟨[1,5,18,19,20],[]⟩ | 7=>some ⟨[1,6,7,18,19,20],[]⟩ | _=>none
def Q04.t (z:Q04.Z):List Item:=(todoOf (match z with | .z4 _ _ _ _ _ _ _ _ _ _=>4 | .z6 _ _ _ _ _ _ _ _ _ _=>6 | .z6x1 _ _ _ _ _ _ _ _ _ _=>6 | .z6x2 _ _ _ _ _ _ _ _ _ _=>6 | .z6x3 _ _ _ _ _ _ _ _ _ _=>6 | .z6x4 _ _ _ _ _ _ _ _ _ _=>6 | .z7 _ _ _ _ _ _ _ _ _ _ _ _=>7) 1000 [.code (Tryz.f17.body.getD .skip)]).getD []
def Q04.s:Q04.Z→St
 | .z4 z1 z2 z3 z4 z5 z6 z7 z8 z9 z10=>⟨spr 50 0 [(1,.ptr 0 0),(18,.bs 1),(19,vi z1),(20,vi z2)],Mem.ofList [.box 36 [vs z3,vs z4,.sl ⟨true,9⟩ 1 z5,.sl ⟨true,95⟩ 3 z6,.sl ⟨true,97⟩ 4 z7,.sl ⟨true,111⟩ 2 z8,vb z9,.sl ⟨false,100⟩ 2 z10],.box 39 [.fn 52 [],.fn 53 [],.fn 54 [],.fn 55 [],.fn 58 []]],2⟩
 | .z6 z1 z2 z3 z4 z5 z6 z7 z8 z9 z10=>⟨spr 50 0 [(1,.ptr 0 0),(5,.fn 58 []),(18,.bs 1),(19,vi z1),(20,vi z2)],Mem.ofList [.box 36 [vs z3,vs z4,.sl ⟨true,9⟩ 1 z5,.sl ⟨true,95⟩ 3 z6,.sl ⟨true,97⟩ 4 z7,.sl ⟨true,111⟩ 2 z8,vb z9,.sl ⟨false,100⟩ 2 z10],.box 39 [.fn 52 [],.fn 53 [],.fn 54 [],.fn 55 [],.fn 58 []]],2⟩
 | .z6x1 z1 z2 z3 z4 z5 z6 z7 z8 z9 z10=>⟨spr 50 0 [(1,.ptr 0 0),(5,.fn 55 []),(18,.bs 1),(19,vi z1),(20,vi z2)],Mem.ofList [.box 36 [vs z3,vs z4,.sl ⟨true,9⟩ 1 z5,.sl ⟨true,95⟩ 3 z6,.sl ⟨true,97⟩ 4 z7,.sl ⟨true,111⟩ 2 z8,vb z9,.sl ⟨false,100⟩ 2 z10],.box 39 [.fn 52 [],.fn 53 [],.fn 54 [],.fn 55 [],.fn 58 []]],2⟩
 | .z6x2 z1 z2 z3 z4 z5 z6 z7 z8 z9 z10=>⟨spr 50 0 [(1,.ptr 0 0),(5,.fn 54 []),(18,.bs 1),(19,vi z1),(20,vi z2)],Mem.ofList [.box 36 [vs z3,vs z4,.sl ⟨true,9⟩ 1 z5,.sl ⟨true,95⟩ 3 z6,.sl ⟨true,97⟩ 4 z7,.sl ⟨true,111⟩ 2 z8,vb z9,.sl ⟨false,100⟩ 2 z10],.box 39 [.fn 52 [],.fn 53 [],.fn 54 [],.fn 55 [],.fn 58 []]],2⟩
 | .z6x3 z1 z2 z3 z4 z5 z6 z7 z8 z9 z10=>⟨spr 50 0 [(1,.ptr 0 0),(5,.fn 53 []),(18,.bs 1),(19,vi z1),(20,vi z2)],Mem.ofList [.box 36 [vs z3,vs z4,.sl ⟨true,9⟩ 1 z5,.sl ⟨true,95⟩ 3 z6,.sl ⟨true,97⟩ 4 z7,.sl ⟨true,111⟩ 2 z8,vb z9,.sl ⟨false,100⟩ 2 z10],.box 39 [.fn 52 [],.fn 53 [],.fn 54 [],.fn 55 [],.fn 58 []]],2⟩
 | .z6x4 z1 z2 z3 z4 z5 z6 z7 z8 z9 z10=>⟨spr 50 0 [(1,.ptr 0 0),(5,.fn 52 []),(18,.bs 1),(19,vi z1),(20,vi z2)],Mem.ofList [.box 36 [vs z3,vs z4,.sl ⟨true,9⟩ 1 z5,.sl ⟨true,95⟩ 3 z6,.sl ⟨true,97⟩ 4 z7,.sl ⟨true,111⟩ 2 z8,vb z9,.sl ⟨false,100⟩ 2 z10],.box 39 [.fn 52 [],.fn 53 [],.fn 54 [],.fn 55 [],.fn 58 []]],2⟩
 | .z7 z1 z2 z3 z4 z5 z6 z7 z8 z9 z10 z11 z12=>⟨spr 50 0 [(1,.ptr 0 0),(6,vi z1),(7,vi z2),(18,.bs 1),(19,vi z3),(20,vi z4)],Mem.ofList [.box 36 [vs z5,vs z6,.sl ⟨true,9⟩ 1 z7,.sl ⟨true,95⟩ 3 z8,.sl ⟨true,97⟩ 4 z9,.sl ⟨true,111⟩ 2 z10,vb z11,.sl ⟨false,100⟩ 2 z12],.box 39 [.fn 52 [],.fn 53 [],.fn 54 [],.fn 55 [],.fn 58 []]],2⟩
def Q04.r4 (n:Nat) (c:Q04.Z→Option (Int × Int)) (z1 z2:Int) (z3 z4:ByteArray) (z5 z6 z7 z8:List AV) (z9:Bool) (z10:List AV):Option (Int × Int):=
 bif decide (z2 < z1) then (bif decide (z2=((4:Nat):Int)) then (c (.z6 z1 z2 z3 z4 z5 z6 z7 z8 z9 z10)) else (bif decide (z2=((3:Nat):Int)) then (c (.z6x1 z1 z2 z3 z4 z5 z6 z7 z8 z9 z10)) else (bif decide (z2=((2:Nat):Int)) then (c (.z6x2 z1 z2 z3 z4 z5 z6 z7 z8 z9 z10)) else (bif decide (z2=((1:Nat):Int)) then (c (.z6x3 z1 z2 z3 z4 z5 z6 z7 z8 z9 z10)) else (bif decide (z2=((0:Nat):Int)) then (c (.z6x4 z1 z2 z3 z4 z5 z6 z7 z8 z9 z10)) else (none)))))) else (let y3:Bool:=decide (((z5.length:Nat):Int) > 1)
 bif y3 then (let y4:Bool:=decide (((z10.length:Nat):Int) > 0)
 bif y4 then ((Q0f.F n true 15).bind fun p5=>
 some (0,p5)) else ((Q0f.F n z9 15).bind fun p6=>
 some (0,p6))) else ((Q0f.F n false 15).bind fun p7=>
 some (0,p7)))
def Q04.r6 (n:Nat) (c:Q04.Z→Option (Int × Int)) (z1 z2:Int) (z3 z4:ByteArray) (z5 z6 z7 z8:List AV) (z9:Bool) (z10:List AV):Option (Int × Int):=
 (Q16.F n z3 z4 z5 z6 z7 z8 z9 z10).bind fun p8=>
 c (.z7 p8.1 p8.2 z1 z2 z3 z4 z5 z6 z7 z8 z9 z10)
def Q04.r6x1 (n:Nat) (c:Q04.Z→Option (Int × Int)) (z1 z2:Int) (z3 z4:ByteArray) (z5 z6 z7 z8:List AV) (z9:Bool) (z10:List AV):Option (Int × Int):=
 (Q05.F n z3 z4 z5 z6 z7 z8 z9 z10).bind fun p9=>
 c (.z7 p9.1 p9.2 z1 z2 z3 z4 z5 z6 z7 z8 z9 z10)
def Q04.r6x2 (n:Nat) (c:Q04.Z→Option (Int × Int)) (z1 z2:Int) (z3 z4:ByteArray) (z5 z6 z7 z8:List AV) (z9:Bool) (z10:List AV):Option (Int × Int):=
 (Q0u.F n z3 z4 z5 z6 z7 z8 z9 z10).bind fun p10=>
 c (.z7 p10.1 p10.2 z1 z2 z3 z4 z5 z6 z7 z8 z9 z10)
def Q04.r6x3 (n:Nat) (c:Q04.Z→Option (Int × Int)) (z1 z2:Int) (z3 z4:ByteArray) (z5 z6 z7 z8:List AV) (z9:Bool) (z10:List AV):Option (Int × Int):=
 (Q0i.F n z3 z4 z5 z6 z7 z8 z9 z10).bind fun p11=>
 c (.z7 p11.1 p11.2 z1 z2 z3 z4 z5 z6 z7 z8 z9 z10)
def Q04.r6x4 (n:Nat) (c:Q04.Z→Option (Int × Int)) (z1 z2:Int) (z3 z4:ByteArray) (z5 z6 z7 z8:List AV) (z9:Bool) (z10:List AV):Option (Int × Int):=
 (Q0e.F n z3 z4 z5 z6 z7 z8 z9 z10).bind fun p12=>
 c (.z7 p12.1 p12.2 z1 z2 z3 z4 z5 z6 z7 z8 z9 z10)
def Q04.r7 (n:Nat) (c:Q04.Z→Option (Int × Int)) (z1 z2 z3 z4:Int) (z5 z6:ByteArray) (z7 z8 z9 z10:List AV) (z11:Bool) (z12:List AV):Option (Int × Int):=
 bif z2 != 0 then (some (z1,z2)) else (c (.z4 z3 (IntKind.i64.wrap (z4+1)) z5 z6 z7 z8 z9 z10 z11 z12))
def Q04.r (n:Nat) (c:Q04.Z→Option (Int × Int)):Q04.Z→Option (Int × Int)
 | .z4 z1 z2 z3 z4 z5 z6 z7 z8 z9 z10=>Q04.r4 n c z1 z2 z3 z4 z5 z6 z7 z8 z9 z10
 | .z6 z1 z2 z3 z4 z5 z6 z7 z8 z9 z10=>Q04.r6 n c z1 z2 z3 z4 z5 z6 z7 z8 z9 z10
 | .z6x1 z1 z2 z3 z4 z5 z6 z7 z8 z9 z10=>Q04.r6x1 n c z1 z2 z3 z4 z5 z6 z7 z8 z9 z10
 | .z6x2 z1 z2 z3 z4 z5 z6 z7 z8 z9 z10=>Q04.r6x2 n c z1 z2 z3 z4 z5 z6 z7 z8 z9 z10
 | .z6x3 z1 z2 z3 z4 z5 z6 z7 z8 z9 z10=>Q04.r6x3 n c z1 z2 z3 z4 z5 z6 z7 z8 z9 z10
 | .z6x4 z1 z2 z3 z4 z5 z6 z7 z8 z9 z10=>Q04.r6x4 n c z1 z2 z3 z4 z5 z6 z7 z8 z9 z10
 | .z7 z1 z2 z3 z4 z5 z6 z7 z8 z9 z10 z11 z12=>Q04.r7 n c z1 z2 z3 z4 z5 z6 z7 z8 z9 z10 z11 z12
def Q04.e (n:Nat) (c:Q04.Z→Option (Int × Int)) (a0 a1:ByteArray) (a2 a3 a4 a5:List AV) (a6:Bool) (a7:List AV):Option (Int × Int):=
 (Q0r.F n a0).bind fun p1=>
 bif !p1 then (some (0,7)) else ((Q0r.F n a1).bind fun p2=>
 bif !p2 then (some (0,7)) else (c (.z4 5 0 a0 a1 a2 a3 a4 a5 a6 a7)))
def Q04.E (n:Nat) (c:Q04.Z→Option (Int × Int)):Q04.A→Option Q04.T:=fun (a0,a1,a2,a3,a4,a5,a6,a7)=>Q04.e n c a0 a1 a2 a3 a4 a5 a6 a7
def Q04.l (n:Nat):Nat→Q04.Z→Option (Int × Int):=loopL (Q04.r n)
def Q04.F (n:Nat) (a0 a1:ByteArray) (a2 a3 a4 a5:List AV) (a6:Bool) (a7:List AV):Option (Int × Int):=Q04.e n (Q04.l n n) a0 a1 a2 a3 a4 a5 a6 a7
def Q04.FA (n:Nat):Q04.A→Option Q04.T:=Q04.E n (Q04.l n n)
theorem Q04.hands (n:Nat):∀ a p,Q04.FA n a=some p→HandsIn Tryz.prog 17 (Q04.i a) (Q04.p p):=
 pf_hands (C:=Q04.C n) (cut:=Q04.cut) (t:=Q04.t) (s:=Q04.s) (e:=Q04.E n) (r:=Q04.r n) (n:=n) cfg mixed globs rfl Q04.qi (Q04.tells n) Tryz.func17 (by kernel_rfl) (by kernel_rfl) (fun rec a=>by kernel_rfl) (fun rec z=>by cases z <;> kernel_rfl)
def Q04.via {R:Type} (n:Nat):List AV→(AV→Option R)→Option R:=viaK (Q04.FA n) Q04.o Q04.p
theorem Q04.tells1 {R:Type} (n:Nat) (xs:List AV):Tells1 (R:=R) Tryz.prog 17 xs (Q04.via n xs):=tells_via Q04.oi (fun a=>by kernel_rfl) (Q04.hands n) xs
end Go.Proofs.YtmpglmcjoelciaaGreatDoor.Ev
namespace Go.Proofs.YtmpglmcjoelciaaGreatDoor.Ev
open Go Go.Proofs Go.Proofs.Ev
set_option linter.unusedVariables false
set_option maxRecDepth 100000
abbrev Q1o.A:=List AV
abbrev Q1o.T:=List AV
def Q1o.i:Q1o.A→List AV:=fun a0=>[.sl ⟨true,9⟩ 1 a0]
def Q1o.o (xs:List AV):Option Q1o.A:=match xs with | [.sl ⟨true,9⟩ 1 a0]=>some a0 | _=>none
theorem Q1o.oi:∀ xs a,Q1o.o xs=some a→xs=Q1o.i a:=by
 intro xs a h
 unfold Q1o.o at h
 split at h
 ·cases h; rfl
 ·cases h
def Q1o.p (p:Q1o.T):AV:=.fr ⟨true,9⟩ 1 p
def Q1o.q (x:AV):Option Q1o.T:=match x with | .fr ⟨true,9⟩ 1 p0=>some p0 | _=>none
theorem Q1o.qi:∀ x p,Q1o.q x=some p→x=Q1o.p p:=by
 intro x p h
 unfold Q1o.q at h
 split at h
 ·cases h; rfl
 ·cases h
def Q1o.C {R:Type} (n:Nat) (f:FuncId) (xs:List AV):(AV→Option R)→Option R:=
 fun _=>none
theorem Q1o.tells {R:Type} (n:Nat):Tells (R:=R) Tryz.prog (Q1o.C n):=fun _ xs=>Tells1.none
def Q1o.cut (r:Nat):Option Keep:=match r with  | _=>none
def Q1o.e (n:Nat) (a0:List AV):Option (List AV):=
 bif decide (a0.length≤most) then (some a0) else none
def Q1o.E (n:Nat):Q1o.A→Option Q1o.T:=fun a0=>Q1o.e n a0
def Q1o.F (n:Nat) (a0:List AV):Option (List AV):=Q1o.e n a0
def Q1o.FA (n:Nat):Q1o.A→Option Q1o.T:=Q1o.E n
theorem Q1o.hands (n:Nat):∀ a p,Q1o.FA n a=some p→HandsIn Tryz.prog 22 (Q1o.i a) (Q1o.p p):=
 pf_hands (C:=Q1o.C n) (cut:=Q1o.cut) (Z:=Empty) (t:=nofun) (s:=nofun) (e:=fun _=>Q1o.E n) (r:=fun _ z=>nomatch z) (n:=n) cfg mixed globs rfl Q1o.qi (Q1o.tells n) Tryz.func22 (by kernel_rfl) (by kernel_rfl) (fun rec a=>by kernel_rfl) (fun rec z=>nomatch z)
def Q1o.via {R:Type} (n:Nat):List AV→(AV→Option R)→Option R:=viaK (Q1o.FA n) Q1o.o Q1o.p
theorem Q1o.tells1 {R:Type} (n:Nat) (xs:List AV):Tells1 (R:=R) Tryz.prog 22 xs (Q1o.via n xs):=tells_via Q1o.oi (fun a=>by kernel_rfl) (Q1o.hands n) xs
end Go.Proofs.YtmpglmcjoelciaaGreatDoor.Ev
namespace Go.Proofs.YtmpglmcjoelciaaGreatDoor.Ev
open Go Go.Proofs Go.Proofs.Ev
set_option linter.unusedVariables false
set_option maxRecDepth 100000
abbrev Q30.A:=ByteArray × ByteArray × List AV × List AV × List AV × List AV × Bool × List AV
abbrev Q30.T:=ByteArray × ByteArray × List AV × List AV × List AV × List AV × Bool × List AV
def Q30.i:Q30.A→List AV:=fun (a0,a1,a2,a3,a4,a5,a6,a7)=>[AV.agg [vs a0,vs a1,.sl ⟨true,9⟩ 1 a2,.sl ⟨true,95⟩ 3 a3,.sl ⟨true,97⟩ 4 a4,.sl ⟨true,111⟩ 2 a5,vb a6,.sl ⟨false,100⟩ 2 a7]]
def Q30.o (xs:List AV):Option Q30.A:=match xs with | [.agg [.v (.string a0),.v (.string a1),.sl ⟨true,9⟩ 1 a2,.sl ⟨true,95⟩ 3 a3,.sl ⟨true,97⟩ 4 a4,.sl ⟨true,111⟩ 2 a5,.v (.bool a6),.sl ⟨false,100⟩ 2 a7]]=>some (a0,a1,a2,a3,a4,a5,a6,a7) | _=>none
theorem Q30.oi:∀ xs a,Q30.o xs=some a→xs=Q30.i a:=by
 intro xs a h
 unfold Q30.o at h
 split at h
 ·cases h; rfl
 ·cases h
def Q30.p (p:Q30.T):AV:=AV.agg [vs p.1,vs p.2.1,.fr ⟨true,9⟩ 1 p.2.2.1,.fr ⟨true,95⟩ 3 p.2.2.2.1,.fr ⟨true,97⟩ 4 p.2.2.2.2.1,.fr ⟨true,111⟩ 2 p.2.2.2.2.2.1,vb p.2.2.2.2.2.2.1,.fr ⟨false,100⟩ 2 p.2.2.2.2.2.2.2]
def Q30.q (x:AV):Option Q30.T:=match x with | .agg [.v (.string p0),.v (.string p1),.fr ⟨true,9⟩ 1 p2,.fr ⟨true,95⟩ 3 p3,.fr ⟨true,97⟩ 4 p4,.fr ⟨true,111⟩ 2 p5,.v (.bool p6),.fr ⟨false,100⟩ 2 p7]=>some (p0,p1,p2,p3,p4,p5,p6,p7) | _=>none
theorem Q30.qi:∀ x p,Q30.q x=some p→x=Q30.p p:=by
 intro x p h
 unfold Q30.q at h
 split at h
 ·cases h; rfl
 ·cases h
inductive Q30.Z where
 | z7 (z1:Int) (z2 z3:ByteArray) (z4:Bool) (z5 z6 z7 z8 z9:List AV) (z10 z11:ByteArray) (z12:Bool) (z13:List AV)
def Q30.C {R:Type} (n:Nat) (f:FuncId) (xs:List AV):(AV→Option R)→Option R:=
 bif Nat.beq f 22 then Q1o.via n xs else fun _=>none
theorem Q30.tells {R:Type} (n:Nat):Tells (R:=R) Tryz.prog (Q30.C n):=fun _ xs=>tells_at (Q1o.tells1 n xs) (Tells1.none)
def Q30.cut (r:Nat):Option Keep:=match r with | 7=>some ⟨[1,2,3,4],[(3,none,⟨false,100⟩,2)]⟩ | _=>none
def Q30.t (z:Q30.Z):List Item:=(todoOf (match z with | .z7 _ _ _ _ _ _ _ _ _ _ _ _ _=>7) 1000 [.code (Tryz.f18.body.getD .skip)]).getD []
def Q30.s:Q30.Z→St
 | .z7 z1 z2 z3 z4 z5 z6 z7 z8 z9 z10 z11 z12 z13=>⟨spr 48 0 [(1,.ptr 0 0),(2,.ptr 5 0),(3,.own 6 0 none),(4,vi z1)],Mem.ofList [.box 36 [vs z2,vs z3,.own 1 0 none,.own 2 0 none,.own 3 0 none,.own 4 0 none,vb z4,.sl ⟨false,100⟩ 2 z5],.row ⟨true,9⟩ 1 z6,.row ⟨true,95⟩ 3 z7,.row ⟨true,97⟩ 4 z8,.row ⟨true,111⟩ 2 z9,.box 36 [vs z10,vs z11,.v (.slice none 0 0),.v (.slice none 0 0),.v (.slice none 0 0),.v (.slice none 0 0),vb z12,.v (.slice none 0 0)],.row ⟨false,100⟩ 2 z13],7⟩
def Q30.r7 (n:Nat) (c:Q30.Z→Option Q30.T) (z1:Int) (z2 z3:ByteArray) (z4:Bool) (z5 z6 z7 z8 z9:List AV) (z10 z11:ByteArray) (z12:Bool) (z13:List AV):Option Q30.T:=
 let y2:Bool:=decide (z1 < ((z5.length:Nat):Int))
 bif y2 then (bif decide ((0:Int)≤z1)&&decide (z1 < ((z5.length:Nat):Int)) then (withCons ((z5.getD ((z1).toNat) .undef).cells) fun h3 r4=>
 withBool h3 fun b5=>
 bif decide ((0:Int)≤z1)&&decide (z1 < ((z5.length:Nat):Int)) then (withCons (((z5.getD ((z1).toNat) .undef).cells).drop 1) fun h6 r7=>
 withSl ⟨true,104⟩ 4 h6 fun xs8=>
 bif decide (xs8.length≤most) then (let y9:List AV:=[AV.agg [vb b5,.sl ⟨true,104⟩ 4 xs8]]
 bif decide (z13.length+y9.length≤most) then (c (.z7 (IntKind.i64.wrap (z1+1)) z2 z3 z4 z5 z6 z7 z8 z9 z10 z11 z12 (z13++y9))) else none) else none) else none) else none) else (some (z2,z3,z6,z7,z8,z9,z4,z13))
def Q30.r (n:Nat) (c:Q30.Z→Option Q30.T):Q30.Z→Option Q30.T
 | .z7 z1 z2 z3 z4 z5 z6 z7 z8 z9 z10 z11 z12 z13=>Q30.r7 n c z1 z2 z3 z4 z5 z6 z7 z8 z9 z10 z11 z12 z13
def Q30.e (n:Nat) (c:Q30.Z→Option Q30.T) (a0 a1:ByteArray) (a2 a3 a4 a5:List AV) (a6:Bool) (a7:List AV):Option Q30.T:=
 (Q1o.F n a2).bind fun p1=>
 bif decide (a3.length≤most) then (bif decide (a4.length≤most) then (bif decide (a5.length≤most) then (c (.z7 0 a0 a1 a6 a7 p1 a3 a4 a5 (⟨#[]⟩ : ByteArray) (⟨#[]⟩ : ByteArray) false [])) else none) else none) else none
def Q30.E (n:Nat) (c:Q30.Z→Option Q30.T):Q30.A→Option Q30.T:=fun (a0,a1,a2,a3,a4,a5,a6,a7)=>Q30.e n c a0 a1 a2 a3 a4 a5 a6 a7
def Q30.l (n:Nat):Nat→Q30.Z→Option Q30.T:=loopL (Q30.r n)
def Q30.F (n:Nat) (a0 a1:ByteArray) (a2 a3 a4 a5:List AV) (a6:Bool) (a7:List AV):Option Q30.T:=Q30.e n (Q30.l n n) a0 a1 a2 a3 a4 a5 a6 a7
def Q30.FA (n:Nat):Q30.A→Option Q30.T:=Q30.E n (Q30.l n n)
theorem Q30.hands (n:Nat):∀ a p,Q30.FA n a=some p→HandsIn Tryz.prog 18 (Q30.i a) (Q30.p p):=
 pf_hands (C:=Q30.C n) (cut:=Q30.cut) (t:=Q30.t) (s:=Q30.s) (e:=Q30.E n) (r:=Q30.r n) (n:=n) cfg mixed globs rfl Q30.qi (Q30.tells n) Tryz.func18 (by kernel_rfl) (by kernel_rfl) (fun rec a=>by kernel_rfl) (fun rec z=>by cases z <;> kernel_rfl)
def Q30.via {R:Type} (n:Nat):List AV→(AV→Option R)→Option R:=viaK (Q30.FA n) Q30.o Q30.p
theorem Q30.tells1 {R:Type} (n:Nat) (xs:List AV):Tells1 (R:=R) Tryz.prog 18 xs (Q30.via n xs):=tells_via Q30.oi (fun a=>by kernel_rfl) (Q30.hands n) xs
end Go.Proofs.YtmpglmcjoelciaaGreatDoor.Ev
namespace Go.Proofs.YtmpglmcjoelciaaGreatDoor.Ev
open Go Go.Proofs Go.Proofs.Ev
theorem Q2k.at2 (n m z1 z2):Q2k.l n (m+1) (.z2 z1 z2)=Q2k.r2 n (Q2k.l n m) z1 z2:=rfl
theorem Q2i.at4 (n m z1 z2 z3 z4 z5 z6 z7 z8 z9):Q2i.l n (m+1) (.z4 z1 z2 z3 z4 z5 z6 z7 z8 z9)=Q2i.r4 n (Q2i.l n m) z1 z2 z3 z4 z5 z6 z7 z8 z9:=rfl
theorem Q2i.at9 (n m z1 z2 z3 z4 z5 z6 z7 z8 z9):Q2i.l n (m+1) (.z9 z1 z2 z3 z4 z5 z6 z7 z8 z9)=Q2i.r9 n (Q2i.l n m) z1 z2 z3 z4 z5 z6 z7 z8 z9:=rfl
theorem Q2i.at14 (n m z1 z2 z3 z4 z5 z6 z7 z8 z9):Q2i.l n (m+1) (.z14 z1 z2 z3 z4 z5 z6 z7 z8 z9)=Q2i.r14 n (Q2i.l n m) z1 z2 z3 z4 z5 z6 z7 z8 z9:=rfl
theorem Q2i.at19 (n m z1 z2 z3 z4 z5 z6 z7 z8 z9):Q2i.l n (m+1) (.z19 z1 z2 z3 z4 z5 z6 z7 z8 z9)=Q2i.r19 n (Q2i.l n m) z1 z2 z3 z4 z5 z6 z7 z8 z9:=rfl
theorem Q2i.at24 (n m z1 z2 z3 z4 z5 z6 z7 z8 z9 z10):Q2i.l n (m+1) (.z24 z1 z2 z3 z4 z5 z6 z7 z8 z9 z10)=Q2i.r24 n (Q2i.l n m) z1 z2 z3 z4 z5 z6 z7 z8 z9 z10:=rfl
theorem Q0r.at4 (n m z1 z2 z3):Q0r.l n (m+1) (.z4 z1 z2 z3)=Q0r.r4 n (Q0r.l n m) z1 z2 z3:=rfl
theorem Q0r.at7 (n m z1 z2 z3 z4 z5 z6):Q0r.l n (m+1) (.z7 z1 z2 z3 z4 z5 z6)=Q0r.r7 n (Q0r.l n m) z1 z2 z3 z4 z5 z6:=rfl
theorem Q0r.at8 (n m z1 z2 z3 z4 z5 z6):Q0r.l n (m+1) (.z8 z1 z2 z3 z4 z5 z6)=Q0r.r8 n (Q0r.l n m) z1 z2 z3 z4 z5 z6:=rfl
theorem Q4c.at2 (n m z1 z2 z3 z4):Q4c.l n (m+1) (.z2 z1 z2 z3 z4)=Q4c.r2 n (Q4c.l n m) z1 z2 z3 z4:=rfl
theorem Q0e.at5 (n m z1 z2 z3 z4 z5 z6 z7 z8 z9 z10 z11):Q0e.l n (m+1) (.z5 z1 z2 z3 z4 z5 z6 z7 z8 z9 z10 z11)=Q0e.r5 n (Q0e.l n m) z1 z2 z3 z4 z5 z6 z7 z8 z9 z10 z11:=rfl
theorem Q0z.at3 (n m z1 z2 z3 z4):Q0z.l n (m+1) (.z3 z1 z2 z3 z4)=Q0z.r3 n (Q0z.l n m) z1 z2 z3 z4:=rfl
theorem Q0i.at6 (n m z1 z2 z3 z4 z5 z6 z7 z8 z9 z10 z11 z12):Q0i.l n (m+1) (.z6 z1 z2 z3 z4 z5 z6 z7 z8 z9 z10 z11 z12)=Q0i.r6 n (Q0i.l n m) z1 z2 z3 z4 z5 z6 z7 z8 z9 z10 z11 z12:=rfl
theorem Q4b.at2 (n m z1 z2 z3 z4):Q4b.l n (m+1) (.z2 z1 z2 z3 z4)=Q4b.r2 n (Q4b.l n m) z1 z2 z3 z4:=rfl
theorem Q0u.at6 (n m z1 z2 z3 z4 z5 z6 z7 z8 z9 z10 z11 z12 z13):Q0u.l n (m+1) (.z6 z1 z2 z3 z4 z5 z6 z7 z8 z9 z10 z11 z12 z13)=Q0u.r6 n (Q0u.l n m) z1 z2 z3 z4 z5 z6 z7 z8 z9 z10 z11 z12 z13:=rfl
theorem Q0w.at5 (n m z1 z2 z3 z4 z5):Q0w.l n (m+1) (.z5 z1 z2 z3 z4 z5)=Q0w.r5 n (Q0w.l n m) z1 z2 z3 z4 z5:=rfl
theorem Q16.at5 (n m z1 z2 z3 z4):Q16.l n (m+1) (.z5 z1 z2 z3 z4)=Q16.r5 n (Q16.l n m) z1 z2 z3 z4:=rfl
theorem Q16.at10 (n m z1 z2 z3 z4 z5 z6 z7 z8):Q16.l n (m+1) (.z10 z1 z2 z3 z4 z5 z6 z7 z8)=Q16.r10 n (Q16.l n m) z1 z2 z3 z4 z5 z6 z7 z8:=rfl
theorem Q04.at4 (n m z1 z2 z3 z4 z5 z6 z7 z8 z9 z10):Q04.l n (m+1) (.z4 z1 z2 z3 z4 z5 z6 z7 z8 z9 z10)=Q04.r4 n (Q04.l n m) z1 z2 z3 z4 z5 z6 z7 z8 z9 z10:=rfl
theorem Q04.at6 (n m z1 z2 z3 z4 z5 z6 z7 z8 z9 z10):Q04.l n (m+1) (.z6 z1 z2 z3 z4 z5 z6 z7 z8 z9 z10)=Q04.r6 n (Q04.l n m) z1 z2 z3 z4 z5 z6 z7 z8 z9 z10:=rfl
theorem Q04.at6x1 (n m z1 z2 z3 z4 z5 z6 z7 z8 z9 z10):Q04.l n (m+1) (.z6x1 z1 z2 z3 z4 z5 z6 z7 z8 z9 z10)=Q04.r6x1 n (Q04.l n m) z1 z2 z3 z4 z5 z6 z7 z8 z9 z10:=rfl
theorem Q04.at6x2 (n m z1 z2 z3 z4 z5 z6 z7 z8 z9 z10):Q04.l n (m+1) (.z6x2 z1 z2 z3 z4 z5 z6 z7 z8 z9 z10)=Q04.r6x2 n (Q04.l n m) z1 z2 z3 z4 z5 z6 z7 z8 z9 z10:=rfl
theorem Q04.at6x3 (n m z1 z2 z3 z4 z5 z6 z7 z8 z9 z10):Q04.l n (m+1) (.z6x3 z1 z2 z3 z4 z5 z6 z7 z8 z9 z10)=Q04.r6x3 n (Q04.l n m) z1 z2 z3 z4 z5 z6 z7 z8 z9 z10:=rfl
theorem Q04.at6x4 (n m z1 z2 z3 z4 z5 z6 z7 z8 z9 z10):Q04.l n (m+1) (.z6x4 z1 z2 z3 z4 z5 z6 z7 z8 z9 z10)=Q04.r6x4 n (Q04.l n m) z1 z2 z3 z4 z5 z6 z7 z8 z9 z10:=rfl
theorem Q04.at7 (n m z1 z2 z3 z4 z5 z6 z7 z8 z9 z10 z11 z12):Q04.l n (m+1) (.z7 z1 z2 z3 z4 z5 z6 z7 z8 z9 z10 z11 z12)=Q04.r7 n (Q04.l n m) z1 z2 z3 z4 z5 z6 z7 z8 z9 z10 z11 z12:=rfl
theorem Q30.at7 (n m z1 z2 z3 z4 z5 z6 z7 z8 z9 z10 z11 z12 z13):Q30.l n (m+1) (.z7 z1 z2 z3 z4 z5 z6 z7 z8 z9 z10 z11 z12 z13)=Q30.r7 n (Q30.l n m) z1 z2 z3 z4 z5 z6 z7 z8 z9 z10 z11 z12 z13:=rfl
end Go.Proofs.YtmpglmcjoelciaaGreatDoor.Ev
namespace Go.Proofs.YtmpglmcjoelciaaGreatDoor.Ev
open Go Go.Proofs Go.Proofs.Ev
set_option linter.unusedVariables false
set_option maxRecDepth 100000
abbrev Q10.A:=ByteArray
abbrev Q10.T:=Int × ByteArray × Bool
def Q10.i:Q10.A→List AV:=fun a0=>[vs a0]
def Q10.o (xs:List AV):Option Q10.A:=match xs with | [.v (.string a0)]=>some a0 | _=>none
theorem Q10.oi:∀ xs a,Q10.o xs=some a→xs=Q10.i a:=by
 intro xs a h
 unfold Q10.o at h
 split at h
 ·cases h; rfl
 ·cases h
def Q10.p (p:Q10.T):AV:=.tup [vi p.1,vs p.2.1,vb p.2.2]
def Q10.q (x:AV):Option Q10.T:=match x with | .tup [.v (.int .i64 p0),.v (.string p1),.v (.bool p2)]=>some (p0,p1,p2) | _=>none
theorem Q10.qi:∀ x p,Q10.q x=some p→x=Q10.p p:=by
 intro x p h
 unfold Q10.q at h
 split at h
 ·cases h; rfl
 ·cases h
inductive Q10.Z where
 | z2 (z1:ByteArray) (z2:Int)
 | z4 (z1:ByteArray) (z2:Int)
 | z5
def Q10.C {R:Type} (n:Nat) (f:FuncId) (xs:List AV):(AV→Option R)→Option R:=
 bif Nat.beq f 153 then Q4d.via n xs else fun _=>none
theorem Q10.tells {R:Type} (n:Nat):Tells (R:=R) Tryz.prog (Q10.C n):=fun _ xs=>tells_at (Q4d.tells1 n xs) (Tells1.none)
def Q10.cut (r:Nat):Option Keep:=match r with | 2=>some ⟨[0,5],[]⟩ | 4=>some ⟨[0,5],[]⟩ | 5=>some ⟨[],[]⟩ | _=>none
def Q10.t (z:Q10.Z):List Item:=(todoOf (match z with | .z2 _ _=>2 | .z4 _ _=>4 | .z5=>5) 1000 [.code (Tryz.f126.body.getD .skip)]).getD []
def Q10.s:Q10.Z→St
 | .z2 z1 z2=>⟨spr 52 0 [(0,vs z1),(5,vi z2)],Mem.ofList [],0⟩
 | .z4 z1 z2=>⟨spr 52 0 [(0,vs z1),(5,vi z2)],Mem.ofList [],0⟩
 | .z5=>⟨spr 52 0 [],Mem.ofList [],0⟩
def Q10.r2 (n:Nat) (c:Q10.Z→Option (Int × ByteArray × Bool)) (z1:ByteArray) (z2:Int):Option (Int × ByteArray × Bool):=
 let y1:Bool:=decide (z2 < ((z1.size:Nat):Int))
 bif y1 then (bif decide ((0:Int)≤z2)&&decide (z2 < ((z1.size:Nat):Int)) then (let y2:Int:=(((z1.data.getD ((z2).toNat) 0).toNat:Nat):Int)
 bif decide ((48:Int)≤y2) then (bif decide ((0:Int)≤z2)&&decide (z2 < ((z1.size:Nat):Int)) then (let y3:Int:=(((z1.data.getD ((z2).toNat) 0).toNat:Nat):Int)
 bif decide (y3≤57) then (c (.z2 z1 (IntKind.i64.wrap (z2+1)))) else (c (.z4 z1 z2))) else none) else (c (.z4 z1 z2))) else none) else (c (.z4 z1 z2))
def Q10.r4 (n:Nat) (c:Q10.Z→Option (Int × ByteArray × Bool)) (z1:ByteArray) (z2:Int):Option (Int × ByteArray × Bool):=
 bif z2==0 then (c .z5) else (bif decide (z2 > 3) then (c .z5) else (bif decide (z2 > 1) then (bif decide ((0:Int) < (z1.size:Nat)) then (let y4:Int:=(((z1.data.getD 0 0).toNat:Nat):Int)
 bif y4==48 then (c .z5) else (bif decide ((0:Int)≤z2)&&decide ((z2:Int)≤((z1.size:Nat):Int)) then ((Q4d.F n (z1.extract 0 (z2).toNat)).bind fun p5=>
 bif decide ((0:Int)≤z2)&&decide ((z2:Int)≤((z1.size:Nat):Int)) then (let y6:ByteArray:=z1.extract (z2).toNat z1.size
 some (p5.1,y6,true)) else none) else none)) else none) else (bif decide ((0:Int)≤z2)&&decide ((z2:Int)≤((z1.size:Nat):Int)) then ((Q4d.F n (z1.extract 0 (z2).toNat)).bind fun p7=>
 bif decide ((0:Int)≤z2)&&decide ((z2:Int)≤((z1.size:Nat):Int)) then (let y8:ByteArray:=z1.extract (z2).toNat z1.size
 some (p7.1,y8,true)) else none) else none)))
def Q10.r5 (n:Nat) (c:Q10.Z→Option (Int × ByteArray × Bool))  : Option (Int × ByteArray × Bool):=
 some (0,(⟨#[]⟩ : ByteArray),false)
def Q10.r (n:Nat) (c:Q10.Z→Option (Int × ByteArray × Bool)):Q10.Z→Option (Int × ByteArray × Bool)
 | .z2 z1 z2=>Q10.r2 n c z1 z2
 | .z4 z1 z2=>Q10.r4 n c z1 z2
 | .z5=>Q10.r5 n c
def Q10.e (n:Nat) (c:Q10.Z→Option (Int × ByteArray × Bool)) (a0:ByteArray):Option (Int × ByteArray × Bool):=
 c (.z2 a0 0)
def Q10.E (n:Nat) (c:Q10.Z→Option (Int × ByteArray × Bool)):Q10.A→Option Q10.T:=fun a0=>Q10.e n c a0
def Q10.l (n:Nat):Nat→Q10.Z→Option (Int × ByteArray × Bool):=loopL (Q10.r n)
def Q10.F (n:Nat) (a0:ByteArray):Option (Int × ByteArray × Bool):=Q10.e n (Q10.l n n) a0
def Q10.FA (n:Nat):Q10.A→Option Q10.T:=Q10.E n (Q10.l n n)
theorem Q10.hands (n:Nat):∀ a p,Q10.FA n a=some p→HandsIn Tryz.prog 126 (Q10.i a) (Q10.p p):=
 pf_hands (C:=Q10.C n) (cut:=Q10.cut) (t:=Q10.t) (s:=Q10.s) (e:=Q10.E n) (r:=Q10.r n) (n:=n) cfg mixed globs rfl Q10.qi (Q10.tells n) Tryz.func126 (by kernel_rfl) (by kernel_rfl) (fun rec a=>by kernel_rfl) (fun rec z=>by cases z <;> kernel_rfl)
def Q10.via {R:Type} (n:Nat):List AV→(AV→Option R)→Option R:=viaK (Q10.FA n) Q10.o Q10.p
theorem Q10.tells1 {R:Type} (n:Nat) (xs:List AV):Tells1 (R:=R) Tryz.prog 126 xs (Q10.via n xs):=tells_via Q10.oi (fun a=>by kernel_rfl) (Q10.hands n) xs
end Go.Proofs.YtmpglmcjoelciaaGreatDoor.Ev
namespace Go.Proofs.YtmpglmcjoelciaaGreatDoor.Ev
open Go Go.Proofs Go.Proofs.Ev
set_option linter.unusedVariables false
set_option maxRecDepth 100000
abbrev Q1i.A:=ByteArray
abbrev Q1i.T:=Int × Int × Int × Bool
def Q1i.i:Q1i.A→List AV:=fun a0=>[vs a0]
def Q1i.o (xs:List AV):Option Q1i.A:=match xs with | [.v (.string a0)]=>some a0 | _=>none
theorem Q1i.oi:∀ xs a,Q1i.o xs=some a→xs=Q1i.i a:=by
 intro xs a h
 unfold Q1i.o at h
 split at h
 ·cases h; rfl
 ·cases h
def Q1i.p (p:Q1i.T):AV:=.tup [AV.agg [vi p.1,vi p.2.1,vi p.2.2.1],vb p.2.2.2]
def Q1i.q (x:AV):Option Q1i.T:=match x with | .tup [.agg [.v (.int .i64 p0),.v (.int .i64 p1),.v (.int .i64 p2)],.v (.bool p3)]=>some (p0,p1,p2,p3) | _=>none
theorem Q1i.qi:∀ x p,Q1i.q x=some p→x=Q1i.p p:=by
 intro x p h
 unfold Q1i.q at h
 split at h
 ·cases h; rfl
 ·cases h
def Q1i.C {R:Type} (n:Nat) (f:FuncId) (xs:List AV):(AV→Option R)→Option R:=
 bif Nat.beq f 96 then Q4i.via n xs else bif Nat.beq f 126 then Q10.via n xs else fun _=>none
theorem Q1i.tells {R:Type} (n:Nat):Tells (R:=R) Tryz.prog (Q1i.C n):=fun _ xs=>tells_at (Q4i.tells1 n xs) (tells_at (Q10.tells1 n xs) (Tells1.none))
def Q1i.cut (r:Nat):Option Keep:=match r with  | _=>none
def Q1i.e (n:Nat) (a0:ByteArray):Option (Int × Int × Int × Bool):=
 (Q10.F n a0).bind fun p1=>
 bif !p1.2.2 then (some (0,0,0,false)) else (let y2:Bool:=p1.2.1.toList==(⟨#[]⟩ : ByteArray).toList
 bif y2 then (some (0,0,0,false)) else (bif decide ((0:Int) < (p1.2.1.size:Nat)) then (let y3:Int:=(((p1.2.1.data.getD 0 0).toNat:Nat):Int)
 (Q4i.F n (⟨#[65,80,83,66]⟩ : ByteArray) y3).bind fun p4=>
 bif p4==0 then (bif decide (p4≥0) then (let y5:Bool:=((p1.2.1.size:Nat):Int)==1
 some (p4,p1.1,0,y5)) else (some (p4,p1.1,0,false))) else (bif decide (p4 < 0) then (bif decide (p4≥0) then (let y6:Bool:=((p1.2.1.size:Nat):Int)==1
 some (p4,p1.1,0,y6)) else (some (p4,p1.1,0,false))) else (bif decide ((0:Int)≤1)&&decide ((1:Int)≤((p1.2.1.size:Nat):Int)) then ((Q10.F n (p1.2.1.extract 1 p1.2.1.size)).bind fun p7=>
 bif p7.2.2 then (let y8:Bool:=p7.2.1.toList==(⟨#[]⟩ : ByteArray).toList
 some (p4,p1.1,p7.1,y8)) else (some (p4,p1.1,p7.1,false))) else none))) else none))
def Q1i.E (n:Nat):Q1i.A→Option Q1i.T:=fun a0=>Q1i.e n a0
def Q1i.F (n:Nat) (a0:ByteArray):Option (Int × Int × Int × Bool):=Q1i.e n a0
def Q1i.FA (n:Nat):Q1i.A→Option Q1i.T:=Q1i.E n
theorem Q1i.hands (n:Nat):∀ a p,Q1i.FA n a=some p→HandsIn Tryz.prog 83 (Q1i.i a) (Q1i.p p):=
 pf_hands (C:=Q1i.C n) (cut:=Q1i.cut) (Z:=Empty) (t:=nofun) (s:=nofun) (e:=fun _=>Q1i.E n) (r:=fun _ z=>nomatch z) (n:=n) cfg mixed globs rfl Q1i.qi (Q1i.tells n) Tryz.func83 (by kernel_rfl) (by kernel_rfl) (fun rec a=>by kernel_rfl) (fun rec z=>nomatch z)
def Q1i.via {R:Type} (n:Nat):List AV→(AV→Option R)→Option R:=viaK (Q1i.FA n) Q1i.o Q1i.p
theorem Q1i.tells1 {R:Type} (n:Nat) (xs:List AV):Tells1 (R:=R) Tryz.prog 83 xs (Q1i.via n xs):=tells_via Q1i.oi (fun a=>by kernel_rfl) (Q1i.hands n) xs
end Go.Proofs.YtmpglmcjoelciaaGreatDoor.Ev
namespace Go.Proofs.YtmpglmcjoelciaaGreatDoor.Ev
open Go Go.Proofs Go.Proofs.Ev
set_option linter.unusedVariables false
set_option maxRecDepth 100000
abbrev Q3z.A:=Int × Int × Int
abbrev Q3z.T:=Bool
def Q3z.i:Q3z.A→List AV:=fun (a0,a1,a2)=>[vi a0,vi a1,vi a2]
def Q3z.o (xs:List AV):Option Q3z.A:=match xs with | [.v (.int .i64 a0),.v (.int .i64 a1),.v (.int .i64 a2)]=>some (a0,a1,a2) | _=>none
theorem Q3z.oi:∀ xs a,Q3z.o xs=some a→xs=Q3z.i a:=by
 intro xs a h
 unfold Q3z.o at h
 split at h
 ·cases h; rfl
 ·cases h
def Q3z.p (p:Q3z.T):AV:=vb p
def Q3z.q (x:AV):Option Q3z.T:=match x with | .v (.bool p0)=>some p0 | _=>none
theorem Q3z.qi:∀ x p,Q3z.q x=some p→x=Q3z.p p:=by
 intro x p h
 unfold Q3z.q at h
 split at h
 ·cases h; rfl
 ·cases h
def Q3z.C {R:Type} (n:Nat) (f:FuncId) (xs:List AV):(AV→Option R)→Option R:=
 fun _=>none
theorem Q3z.tells {R:Type} (n:Nat):Tells (R:=R) Tryz.prog (Q3z.C n):=fun _ xs=>Tells1.none
def Q3z.cut (r:Nat):Option Keep:=match r with  | _=>none
def Q3z.e (n:Nat) (a0 a1 a2:Int):Option Bool:=
 bif decide (a1≤a0) then (some (decide (a0≤a2))) else (some false)
def Q3z.E (n:Nat):Q3z.A→Option Q3z.T:=fun (a0,a1,a2)=>Q3z.e n a0 a1 a2
def Q3z.F (n:Nat) (a0 a1 a2:Int):Option Bool:=Q3z.e n a0 a1 a2
def Q3z.FA (n:Nat):Q3z.A→Option Q3z.T:=Q3z.E n
theorem Q3z.hands (n:Nat):∀ a p,Q3z.FA n a=some p→HandsIn Tryz.prog 127 (Q3z.i a) (Q3z.p p):=
 pf_hands (C:=Q3z.C n) (cut:=Q3z.cut) (Z:=Empty) (t:=nofun) (s:=nofun) (e:=fun _=>Q3z.E n) (r:=fun _ z=>nomatch z) (n:=n) cfg mixed globs rfl Q3z.qi (Q3z.tells n) Tryz.func127 (by kernel_rfl) (by kernel_rfl) (fun rec a=>by kernel_rfl) (fun rec z=>nomatch z)
def Q3z.via {R:Type} (n:Nat):List AV→(AV→Option R)→Option R:=viaK (Q3z.FA n) Q3z.o Q3z.p
theorem Q3z.tells1 {R:Type} (n:Nat) (xs:List AV):Tells1 (R:=R) Tryz.prog 127 xs (Q3z.via n xs):=tells_via Q3z.oi (fun a=>by kernel_rfl) (Q3z.hands n) xs
end Go.Proofs.YtmpglmcjoelciaaGreatDoor.Ev
namespace Go.Proofs.YtmpglmcjoelciaaGreatDoor.Ev
open Go Go.Proofs Go.Proofs.Ev
set_option linter.unusedVariables false
set_option maxRecDepth 100000
abbrev Q3y.A:=List AV
abbrev Q3y.T:=Int
def Q3y.i:Q3y.A→List AV:=fun a0=>[.sl ⟨true,24⟩ 1 a0]
def Q3y.o (xs:List AV):Option Q3y.A:=match xs with | [.sl ⟨true,24⟩ 1 a0]=>some a0 | _=>none
theorem Q3y.oi:∀ xs a,Q3y.o xs=some a→xs=Q3y.i a:=by
 intro xs a h
 unfold Q3y.o at h
 split at h
 ·cases h; rfl
 ·cases h
def Q3y.p (p:Q3y.T):AV:=vi p
def Q3y.q (x:AV):Option Q3y.T:=match x with | .v (.int .i64 p0)=>some p0 | _=>none
theorem Q3y.qi:∀ x p,Q3y.q x=some p→x=Q3y.p p:=by
 intro x p h
 unfold Q3y.q at h
 split at h
 ·cases h; rfl
 ·cases h
inductive Q3y.Z where
 | z2 (z1:List AV) (z2 z3:Int)
def Q3y.C {R:Type} (n:Nat) (f:FuncId) (xs:List AV):(AV→Option R)→Option R:=
 fun _=>none
theorem Q3y.tells {R:Type} (n:Nat):Tells (R:=R) Tryz.prog (Q3y.C n):=fun _ xs=>Tells1.none
def Q3y.cut (r:Nat):Option Keep:=match r with | 2=>some ⟨[5,6,7],[]⟩ | _=>none
def Q3y.t (z:Q3y.Z):List Item:=(todoOf (match z with | .z2 _ _ _=>2) 1000 [.code (Tryz.f128.body.getD .skip)]).getD []
def Q3y.s:Q3y.Z→St
 | .z2 z1 z2 z3=>⟨spr 15 0 [(5,.sl ⟨true,24⟩ 1 z1),(6,vi z2),(7,vi z3)],Mem.ofList [],0⟩
def Q3y.r2 (n:Nat) (c:Q3y.Z→Option Int) (z1:List AV) (z2 z3:Int):Option Int:=
 bif decide (z3 < z2) then (bif decide ((0:Int)≤z3)&&decide (z3 < ((z1.length:Nat):Int)) then (withCons ((z1.getD ((z3).toNat) .undef).cells) fun h1 r2=>
 withInt .i64 h1 fun x3=>
 bif x3 != 0 then (some x3) else (c (.z2 z1 z2 (IntKind.i64.wrap (z3+1))))) else none) else (some 0)
def Q3y.r (n:Nat) (c:Q3y.Z→Option Int):Q3y.Z→Option Int
 | .z2 z1 z2 z3=>Q3y.r2 n c z1 z2 z3
def Q3y.e (n:Nat) (c:Q3y.Z→Option Int) (a0:List AV):Option Int:=
 c (.z2 a0 ((a0.length:Nat):Int) 0)
def Q3y.E (n:Nat) (c:Q3y.Z→Option Int):Q3y.A→Option Q3y.T:=fun a0=>Q3y.e n c a0
def Q3y.l (n:Nat):Nat→Q3y.Z→Option Int:=loopL (Q3y.r n)
def Q3y.F (n:Nat) (a0:List AV):Option Int:=Q3y.e n (Q3y.l n n) a0
def Q3y.FA (n:Nat):Q3y.A→Option Q3y.T:=Q3y.E n (Q3y.l n n)
theorem Q3y.hands (n:Nat):∀ a p,Q3y.FA n a=some p→HandsIn Tryz.prog 128 (Q3y.i a) (Q3y.p p):=
 pf_hands (C:=Q3y.C n) (cut:=Q3y.cut) (t:=Q3y.t) (s:=Q3y.s) (e:=Q3y.E n) (r:=Q3y.r n) (n:=n) cfg mixed globs rfl Q3y.qi (Q3y.tells n) Tryz.func128 (by kernel_rfl) (by kernel_rfl) (fun rec a=>by kernel_rfl) (fun rec z=>by cases z <;> kernel_rfl)
def Q3y.via {R:Type} (n:Nat):List AV→(AV→Option R)→Option R:=viaK (Q3y.FA n) Q3y.o Q3y.p
theorem Q3y.tells1 {R:Type} (n:Nat) (xs:List AV):Tells1 (R:=R) Tryz.prog 128 xs (Q3y.via n xs):=tells_via Q3y.oi (fun a=>by kernel_rfl) (Q3y.hands n) xs
end Go.Proofs.YtmpglmcjoelciaaGreatDoor.Ev
namespace Go.Proofs.YtmpglmcjoelciaaGreatDoor.Ev
open Go Go.Proofs Go.Proofs.Ev
set_option linter.unusedVariables false
set_option maxRecDepth 100000
abbrev Q3x.A:=Bool × Int
abbrev Q3x.T:=Int
def Q3x.i:Q3x.A→List AV:=fun (a0,a1)=>[vb a0,vi a1]
def Q3x.o (xs:List AV):Option Q3x.A:=match xs with | [.v (.bool a0),.v (.int .i64 a1)]=>some (a0,a1) | _=>none
theorem Q3x.oi:∀ xs a,Q3x.o xs=some a→xs=Q3x.i a:=by
 intro xs a h
 unfold Q3x.o at h
 split at h
 ·cases h; rfl
 ·cases h
def Q3x.p (p:Q3x.T):AV:=vi p
def Q3x.q (x:AV):Option Q3x.T:=match x with | .v (.int .i64 p0)=>some p0 | _=>none
theorem Q3x.qi:∀ x p,Q3x.q x=some p→x=Q3x.p p:=by
 intro x p h
 unfold Q3x.q at h
 split at h
 ·cases h; rfl
 ·cases h
def Q3x.C {R:Type} (n:Nat) (f:FuncId) (xs:List AV):(AV→Option R)→Option R:=
 fun _=>none
theorem Q3x.tells {R:Type} (n:Nat):Tells (R:=R) Tryz.prog (Q3x.C n):=fun _ xs=>Tells1.none
def Q3x.cut (r:Nat):Option Keep:=match r with  | _=>none
def Q3x.e (n:Nat) (a0:Bool) (a1:Int):Option Int:=
 bif a0 then (some a1) else (some 0)
def Q3x.E (n:Nat):Q3x.A→Option Q3x.T:=fun (a0,a1)=>Q3x.e n a0 a1
def Q3x.F (n:Nat) (a0:Bool) (a1:Int):Option Int:=Q3x.e n a0 a1
def Q3x.FA (n:Nat):Q3x.A→Option Q3x.T:=Q3x.E n
theorem Q3x.hands (n:Nat):∀ a p,Q3x.FA n a=some p→HandsIn Tryz.prog 129 (Q3x.i a) (Q3x.p p):=
 pf_hands (C:=Q3x.C n) (cut:=Q3x.cut) (Z:=Empty) (t:=nofun) (s:=nofun) (e:=fun _=>Q3x.E n) (r:=fun _ z=>nomatch z) (n:=n) cfg mixed globs rfl Q3x.qi (Q3x.tells n) Tryz.func129 (by kernel_rfl) (by kernel_rfl) (fun rec a=>by kernel_rfl) (fun rec z=>nomatch z)
def Q3x.via {R:Type} (n:Nat):List AV→(AV→Option R)→Option R:=viaK (Q3x.FA n) Q3x.o Q3x.p
theorem Q3x.tells1 {R:Type} (n:Nat) (xs:List AV):Tells1 (R:=R) Tryz.prog 129 xs (Q3x.via n xs):=tells_via Q3x.oi (fun a=>by kernel_rfl) (Q3x.hands n) xs
end Go.Proofs.YtmpglmcjoelciaaGreatDoor.Ev
namespace Go.Proofs.YtmpglmcjoelciaaGreatDoor.Ev
open Go Go.Proofs Go.Proofs.Ev
set_option linter.unusedVariables false
set_option maxRecDepth 100000
abbrev Q3t.A:=Int × Int × Int
abbrev Q3t.T:=Int
def Q3t.i:Q3t.A→List AV:=fun (a0,a1,a2)=>[AV.agg [vi a0,vi a1,vi a2]]
def Q3t.o (xs:List AV):Option Q3t.A:=match xs with | [.agg [.v (.int .i64 a0),.v (.int .i64 a1),.v (.int .i64 a2)]]=>some (a0,a1,a2) | _=>none
theorem Q3t.oi:∀ xs a,Q3t.o xs=some a→xs=Q3t.i a:=by
 intro xs a h
 unfold Q3t.o at h
 split at h
 ·cases h; rfl
 ·cases h
def Q3t.p (p:Q3t.T):AV:=vi p
def Q3t.q (x:AV):Option Q3t.T:=match x with | .v (.int .i64 p0)=>some p0 | _=>none
theorem Q3t.qi:∀ x p,Q3t.q x=some p→x=Q3t.p p:=by
 intro x p h
 unfold Q3t.q at h
 split at h
 ·cases h; rfl
 ·cases h
inductive Q3t.Z where
 | z13 (z1 z2:Bool)
def Q3t.C {R:Type} (n:Nat) (f:FuncId) (xs:List AV):(AV→Option R)→Option R:=
 bif Nat.beq f 127 then Q3z.via n xs else bif Nat.beq f 128 then Q3y.via n xs else bif Nat.beq f 129 then Q3x.via n xs else fun _=>none
theorem Q3t.tells {R:Type} (n:Nat):Tells (R:=R) Tryz.prog (Q3t.C n):=fun _ xs=>tells_at (Q3z.tells1 n xs) (tells_at (Q3y.tells1 n xs) (tells_at (Q3x.tells1 n xs) (Tells1.none)))
def Q3t.cut (r:Nat):Option Keep:=match r with | 13=>some ⟨[3,4],[]⟩ | _=>none
def Q3t.t (z:Q3t.Z):List Item:=(todoOf (match z with | .z13 _ _=>13) 1000 [.code (Tryz.f84.body.getD .skip)]).getD []
def Q3t.s:Q3t.Z→St
 | .z13 z1 z2=>⟨spr 54 0 [(3,vb z1),(4,vb z2)],Mem.ofList [],0⟩
def Q3t.r13 (n:Nat) (c:Q3t.Z→Option Int) (z1 z2:Bool):Option Int:=
 (Q3x.F n (!z1) 18).bind fun p8=>
 (Q3x.F n (!z2) 3).bind fun p9=>
 (Q3y.F n [vi p8,vi p9]).bind fun p10=>
 some p10
def Q3t.r (n:Nat) (c:Q3t.Z→Option Int):Q3t.Z→Option Int
 | .z13 z1 z2=>Q3t.r13 n c z1 z2
def Q3t.e (n:Nat) (c:Q3t.Z→Option Int) (a0 a1 a2:Int):Option Int:=
 bif a0==0 then ((Q3z.F n a1 1 256).bind fun p1=>
 c (.z13 p1 (a2==0))) else (bif a0==1 then ((Q3z.F n a1 1 15).bind fun p2=>
 (Q3z.F n a2 0 a1).bind fun p3=>
 c (.z13 p2 p3)) else (bif a0==2 then ((Q3z.F n a1 1 15).bind fun p4=>
 (Q3z.F n a2 0 a1).bind fun p5=>
 c (.z13 p4 p5)) else (bif a0==3 then (bif a1==4 then ((Q3z.F n a2 0 a1).bind fun p6=>
 c (.z13 true p6)) else ((Q3z.F n a2 0 a1).bind fun p7=>
 c (.z13 (a1==9) p7))) else (bif a0==4 then (c (.z13 (a1==0) (a2==0))) else (some 4)))))
def Q3t.E (n:Nat) (c:Q3t.Z→Option Int):Q3t.A→Option Q3t.T:=fun (a0,a1,a2)=>Q3t.e n c a0 a1 a2
def Q3t.l (n:Nat):Nat→Q3t.Z→Option Int:=loopL (Q3t.r n)
def Q3t.F (n:Nat) (a0 a1 a2:Int):Option Int:=Q3t.e n (Q3t.l n n) a0 a1 a2
def Q3t.FA (n:Nat):Q3t.A→Option Q3t.T:=Q3t.E n (Q3t.l n n)
theorem Q3t.hands (n:Nat):∀ a p,Q3t.FA n a=some p→HandsIn Tryz.prog 84 (Q3t.i a) (Q3t.p p):=
 pf_hands (C:=Q3t.C n) (cut:=Q3t.cut) (t:=Q3t.t) (s:=Q3t.s) (e:=Q3t.E n) (r:=Q3t.r n) (n:=n) cfg mixed globs rfl Q3t.qi (Q3t.tells n) Tryz.func84 (by kernel_rfl) (by kernel_rfl) (fun rec a=>by kernel_rfl) (fun rec z=>by cases z <;> kernel_rfl)
def Q3t.via {R:Type} (n:Nat):List AV→(AV→Option R)→Option R:=viaK (Q3t.FA n) Q3t.o Q3t.p
theorem Q3t.tells1 {R:Type} (n:Nat) (xs:List AV):Tells1 (R:=R) Tryz.prog 84 xs (Q3t.via n xs):=tells_via Q3t.oi (fun a=>by kernel_rfl) (Q3t.hands n) xs
end Go.Proofs.YtmpglmcjoelciaaGreatDoor.Ev
namespace Go.Proofs.YtmpglmcjoelciaaGreatDoor.Ev
open Go Go.Proofs Go.Proofs.Ev
set_option linter.unusedVariables false
set_option maxRecDepth 100000
abbrev Q1j.A:=Int × Int × Int
abbrev Q1j.T:=ByteArray
def Q1j.i:Q1j.A→List AV:=fun (a0,a1,a2)=>[AV.agg [vi a0,vi a1,vi a2]]
def Q1j.o (xs:List AV):Option Q1j.A:=match xs with | [.agg [.v (.int .i64 a0),.v (.int .i64 a1),.v (.int .i64 a2)]]=>some (a0,a1,a2) | _=>none
theorem Q1j.oi:∀ xs a,Q1j.o xs=some a→xs=Q1j.i a:=by
 intro xs a h
 unfold Q1j.o at h
 split at h
 ·cases h; rfl
 ·cases h
def Q1j.p (p:Q1j.T):AV:=vs p
def Q1j.q (x:AV):Option Q1j.T:=match x with | .v (.string p0)=>some p0 | _=>none
theorem Q1j.qi:∀ x p,Q1j.q x=some p→x=Q1j.p p:=by
 intro x p h
 unfold Q1j.q at h
 split at h
 ·cases h; rfl
 ·cases h
def Q1j.C {R:Type} (n:Nat) (f:FuncId) (xs:List AV):(AV→Option R)→Option R:=
 bif Nat.beq f 76 then Q4e.via n xs else fun _=>none
theorem Q1j.tells {R:Type} (n:Nat):Tells (R:=R) Tryz.prog (Q1j.C n):=fun _ xs=>tells_at (Q4e.tells1 n xs) (Tells1.none)
def Q1j.cut (r:Nat):Option Keep:=match r with  | _=>none
def Q1j.e (n:Nat) (a0 a1 a2:Int):Option ByteArray:=
 (Q4e.F n a1).bind fun p1=>
 bif decide ((0:Int)≤IntKind.i64.wrap (a0+1))&&decide ((IntKind.i64.wrap (a0+1):Int)≤4) then (bif decide ((0:Int)≤a0)&&decide ((a0:Int)≤IntKind.i64.wrap (a0+1)) then (let y2:ByteArray:=(⟨#[65,80,83,66]⟩ : ByteArray).extract (a0).toNat (IntKind.i64.wrap (a0+1)).toNat
 chk (decide (p1.size+y2.size≤9223372036854775807)) (bif a0==0 then (some (p1++y2)) else ((Q4e.F n a2).bind fun p3=>
 chk (decide ((p1++y2).size+p3.size≤9223372036854775807)) (some ((p1++y2)++p3))))) else none) else none
def Q1j.E (n:Nat):Q1j.A→Option Q1j.T:=fun (a0,a1,a2)=>Q1j.e n a0 a1 a2
def Q1j.F (n:Nat) (a0 a1 a2:Int):Option ByteArray:=Q1j.e n a0 a1 a2
def Q1j.FA (n:Nat):Q1j.A→Option Q1j.T:=Q1j.E n
theorem Q1j.hands (n:Nat):∀ a p,Q1j.FA n a=some p→HandsIn Tryz.prog 74 (Q1j.i a) (Q1j.p p):=
 pf_hands (C:=Q1j.C n) (cut:=Q1j.cut) (Z:=Empty) (t:=nofun) (s:=nofun) (e:=fun _=>Q1j.E n) (r:=fun _ z=>nomatch z) (n:=n) cfg mixed globs rfl Q1j.qi (Q1j.tells n) Tryz.func74 (by kernel_rfl) (by kernel_rfl) (fun rec a=>by kernel_rfl) (fun rec z=>nomatch z)
def Q1j.via {R:Type} (n:Nat):List AV→(AV→Option R)→Option R:=viaK (Q1j.FA n) Q1j.o Q1j.p
theorem Q1j.tells1 {R:Type} (n:Nat) (xs:List AV):Tells1 (R:=R) Tryz.prog 74 xs (Q1j.via n xs):=tells_via Q1j.oi (fun a=>by kernel_rfl) (Q1j.hands n) xs
end Go.Proofs.YtmpglmcjoelciaaGreatDoor.Ev
namespace Go.Proofs.YtmpglmcjoelciaaGreatDoor.Ev
open Go Go.Proofs Go.Proofs.Ev
set_option linter.unusedVariables false
theorem w64 {x:Int} (h1 : -9223372036854775808≤x) (h2:x≤9223372036854775807):IntKind.i64.wrap x=x:=by rw [IntKind.wrap_i64]; omega
theorem w8 (x:Int):IntKind.u8.wrap x=x % 256:=by rw [IntKind.wrap_u8]
theorem cond_t {α:Type} {p:Prop} [Decidable p] (h:p) (x y:α):(bif decide p then x else y)=x:=by simp [h]
theorem cond_f {α:Type} {p:Prop} [Decidable p] (h:¬ p) (x y:α):(bif decide p then x else y)=y:=by simp [h]
theorem chk_t {R:Type} {p:Prop} [Decidable p] (h:p) (K:Option R):chk (decide p) K=K:=by simp [chk,h]
theorem within_t {i:Nat} {len:Nat} (h:i < len):(decide ((0:Int)≤(i:Int))&&decide ((i:Int) < (len:Int)))=true:=by
 rw [Bool.and_eq_true,decide_eq_true_eq,decide_eq_true_eq]; omega
theorem upto_t {i:Nat} {len:Nat} (h:i≤len):(decide ((0:Int)≤(i:Int))&&decide ((i:Int)≤(len:Int)))=true:=by
 rw [Bool.and_eq_true,decide_eq_true_eq,decide_eq_true_eq]; omega
theorem wsucc {i:Nat} (h:i≤1000000000):IntKind.i64.wrap ((i:Int)+1)=((i+1:Nat):Int):=by rw [w64] <;> omega
abbrev bs (l:List UInt8):ByteArray:=⟨l.toArray⟩
theorem bs_of (s:ByteArray):s=bs s.data.toList:=rfl
theorem bs_append (a b:List UInt8):bs a++bs b=bs (a++b):=by
 apply ByteArray.ext
 rw [ByteArray.data_append]
 simp
theorem bs_size (l:List UInt8):(bs l).size=l.length:=rfl
theorem extract_list (s:ByteArray) (a b:Nat):(s.extract a b).data.toList=(s.data.toList.drop a).take (b - a):=by
 rw [ByteArray.data_extract,Array.toList_extract,List.extract_eq_take_drop]
theorem bs_extract (l:List UInt8) (a b:Nat):(bs l).extract a b=bs ((l.drop a).take (b - a)):=by
 rw [bs_of ((bs l).extract a b),extract_list]
theorem bs_take (l:List UInt8) (b:Nat):(bs l).extract 0 b=bs (l.take b):=by rw [bs_extract]; simp
theorem bs_drop (l:List UInt8) (a:Nat):(bs l).extract a (bs l).size=bs (l.drop a):=by
 rw [bs_extract,bs_size,List.take_of_length_le (by simp)]
theorem bs_getD (l:List UInt8) (i:Nat):(bs l).data.getD i 0=l.getD i 0:=by
 rw [Array.getD_eq_getD_getElem?,List.getD_eq_getElem?_getD]
 simp
theorem getD_at {l:List UInt8} {i:Nat} (hi:i < l.length):(bs l).data.getD i 0=l[i]:=by
 rw [bs_getD]; simp [List.getD_eq_getElem?_getD,hi]
theorem bs_toList (l:List UInt8):(bs l).toList=l:=by rw [ByteArray.toList_eq]
def isD (c:UInt8):Bool:=decide (48≤c.toNat)&&decide (c.toNat≤57)
theorem isD_iff (c:UInt8):isD c=true↔48≤c.toNat∧c.toNat≤57:=by simp [isD]
def valA (a:Nat) (l:List UInt8):Nat:=l.foldl (fun a b=>a*10+(b.toNat - 48)) a
theorem valA_cons (a:Nat) (b:UInt8) (l:List UInt8):valA a (b::l)=valA (a*10+(b.toNat - 48)) l:=by unfold valA; rw [List.foldl_cons]
theorem valA_snoc (a:Nat) (l:List UInt8) (b:UInt8):valA a (l++[b])=valA a l*10+(b.toNat - 48):=by simp [valA]
theorem valA_ge:∀ (l:List UInt8) (a:Nat),a≤valA a l
 | [],a=>Nat.le_refl _
 | b::l,a=>by rw [valA_cons]; have:=valA_ge l (a*10+(b.toNat - 48)); omega
theorem valA_lt:∀ (l:List UInt8) (a:Nat),l.all isD=true→valA a l < (a+1)*10 ^ l.length
 | [],a,_=>by simp [valA]
 | b::l,a,h=>by
  simp only [List.all_cons,Bool.and_eq_true] at h
  have hb:=(isD_iff b).1 h.1
  rw [valA_cons,List.length_cons,Nat.pow_succ]
  have h1:=valA_lt l (a*10+(b.toNat - 48)) h.2
  have h3:(a*10+(b.toNat - 48)+1)*10 ^ l.length≤(a*10+10)*10 ^ l.length:=Nat.mul_le_mul_right _ (by omega)
  have h2:(a+1)*(10 ^ l.length*10)=(a*10+10)*10 ^ l.length:=by
   rw [Nat.mul_comm (10 ^ l.length) 10,← Nat.mul_assoc,Nat.add_mul,Nat.one_mul]
  omega
abbrev valD (l:List UInt8):Nat:=valA 0 l
theorem parseUint_eq:∀ (l:List UInt8) (a:Nat),l.all isD=true→a < 18446744073709551616→Lib.parseUint10 a l=if valA a l < 18446744073709551616 then .ok (valA a l) else .range
 | [],a,_,ha=>by rw [show valA a []=a from rfl,if_pos ha]; rfl
 | c::l,a,h,ha=>by
  simp only [List.all_cons,Bool.and_eq_true] at h
  have hc:=(isD_iff c).1 h.1
  have hge:=valA_ge l (a*10+(c.toNat - 48))
  unfold Lib.parseUint10
  rw [if_pos hc,valA_cons]
  by_cases h1:1844674407370955162≤a
  ·rw [if_pos h1,if_neg (by omega)]
  ·rw [if_neg h1]
   by_cases h2:18446744073709551616≤a*10+(c.toNat - 48)
   ·rw [if_pos h2,if_neg (by omega)]
   ·rw [if_neg h2,parseUint_eq l _ h.2 (by omega)]
theorem atoiR_digs {l:List UInt8} (h0:l≠[]) (hall:l.all isD=true) (hv:valD l < 9223372036854775808):atoiR l=((valD l:Int),false):=by
 cases l with
 | nil=>exact absurd rfl h0
 | cons c r=>
  have hc:=hall
  simp only [List.all_cons,Bool.and_eq_true] at hc
  have hc:=(isD_iff c).1 hc.1
  have e:Lib.parseMag (c::r)=.ok (valD (c::r)):=by
   unfold Lib.parseMag
   rw [if_neg (by simp),parseUint_eq _ _ hall (by omega),if_pos (by show valD (c::r) < _; omega)]
  have n1:¬ c.toNat=43:=by omega
  have n2:¬ c.toNat=45:=by omega
  have key:Lib.atoiAll (c::r)=.ok (valD (c::r):Int):=by
   unfold Lib.atoiAll
   simp only [n1,n2,or_self,if_false,e,not_false_eq_true,true_and,false_and]
   rw [if_neg (by omega)]
  unfold atoiR
  rw [key]
def num3 (l:List UInt8):Bool:=(decide (1≤l.length)&&decide (l.length≤3))&&(l.all isD&&!(decide (1 < l.length)&&l.getD 0 0==48))
theorem num3_iff (l:List UInt8):num3 l=true↔1≤l.length∧l.length≤3∧l.all isD=true∧¬ (1 < l.length∧l.getD 0 0=48):=by
 unfold num3
 simp only [Bool.and_eq_true,decide_eq_true_eq,Bool.not_eq_true',Bool.and_eq_false_iff,decide_eq_false_iff_not,beq_eq_false_iff_ne,and_assoc]
 constructor
 ·rintro ⟨h1,h2,h3,h4⟩; exact ⟨h1,h2,h3,fun ⟨a,b⟩=>by rcases h4 with h | h; exact h a; exact h b⟩
 ·rintro ⟨h1,h2,h3,h4⟩
  refine ⟨h1,h2,h3,?_⟩
  by_cases h:1 < l.length
  ·exact .inr fun e=>h4 ⟨h,e⟩
  ·exact .inl h
theorem num3_val {l:List UInt8} (h:num3 l=true):valD l < 1000:=by
 obtain ⟨h1,h2,h3,_⟩:=(num3_iff l).1 h
 have:=valA_lt l 0 h3
 have hp:10 ^ l.length≤10 ^ 3:=Nat.pow_le_pow_right (by omega) h2
 show valA 0 l < 1000
 omega
def lead (l:List UInt8):Nat:=(l.takeWhile isD).length
theorem lead_le (l:List UInt8):lead l≤l.length:=(List.takeWhile_sublist _).length_le
theorem lead_take (l:List UInt8):l.take (lead l)=l.takeWhile isD:=by
 have:(l.takeWhile isD++l.dropWhile isD).take (lead l)=l.takeWhile isD:=by rw [lead,List.take_left]
 rwa [List.takeWhile_append_dropWhile] at this
theorem lead_drop (l:List UInt8):l.drop (lead l)=l.dropWhile isD:=by
 have:(l.takeWhile isD++l.dropWhile isD).drop (lead l)=l.dropWhile isD:=by rw [lead,List.drop_left]
 rwa [List.takeWhile_append_dropWhile] at this
theorem lead_all (l:List UInt8):(l.take (lead l)).all isD=true:=by rw [lead_take]; exact List.all_takeWhile
theorem lead_dig {l:List UInt8} {i:Nat} (hi:i < lead l):isD (l[i]'(Nat.lt_of_lt_of_le hi (lead_le l)))=true:=by
 have h:=lead_all l
 have hl:=lead_le l
 have:l[i]'(by omega)∈l.take (lead l):=by
  rw [List.mem_take_iff_getElem]
  exact ⟨i,by omega,rfl⟩
 exact List.all_eq_true.1 h _ this
theorem lead_end {l:List UInt8} (hi:lead l < l.length):isD l[lead l]=false:=by
 have h:=List.head?_dropWhile_not isD l
 rw [← lead_drop] at h
 have e:(l.drop (lead l)).head?=some l[lead l]:=by rw [List.head?_drop,List.getElem?_eq_getElem hi]
 rw [e] at h
 exact h
theorem number_l (n:Nat) (l:List UInt8) (hl:l.length≤100000):∀ (d i m:Nat),i+d=lead l→d < m→Q10.l n m (.z2 (bs l) i)=Q10.l n (m - d - 1) (.z4 (bs l) (lead l))
 | _,_,0,_,h=>absurd h (by omega)
 | 0,i,m+1,h,_=>by
  have hi:i=lead l:=by omega
  subst hi
  show Q10.r2 n (Q10.l n m) _ _=_
  unfold Q10.r2
  simp only [bs_size]
  by_cases h1:lead l < l.length
  ·rw [cond_t (by omega),within_t h1,cond_true]
   simp only [Int.toNat_natCast,getD_at h1]
   have hd:=lead_end h1
   by_cases h2:48≤l[lead l].toNat
   ·have h3:¬ l[lead l].toNat≤57:=fun h3=>by rw [(isD_iff _).2 ⟨h2,h3⟩] at hd; cases hd
    rw [cond_t (by omega),cond_true,cond_f (by omega)]
    rfl
   ·rw [cond_f (by omega)]; rfl
  ·rw [cond_f (by omega)]; rfl
 | d+1,i,m+1,h,hm=>by
  have hi:i < lead l:=by omega
  have hil:i < l.length:=Nat.lt_of_lt_of_le hi (lead_le l)
  have ih:=number_l n l hl d (i+1) m (by omega) (by omega)
  have hd:=(isD_iff _).1 (lead_dig hi)
  show Q10.r2 n (Q10.l n m) _ _=_
  unfold Q10.r2
  simp only [bs_size]
  rw [cond_t (by omega),within_t hil,cond_true]
  simp only [Int.toNat_natCast,getD_at hil]
  rw [cond_t (by omega),cond_true,cond_t (by omega),wsucc (by omega),show m+1 - (d+1) - 1=m - d - 1 by omega]
  exact ih
theorem number_eq {n:Nat} (l:List UInt8) (hl:l.length≤100000) (hn:200000≤n):Q10.F n (bs l)=some (if num3 (l.take (lead l)) then ((valD (l.take (lead l)):Int),bs (l.drop (lead l)),true) else (0,bs [],false)):=by
 unfold Q10.F Q10.e
 have hle:=lead_le l
 rw [show (0:Int)=((0:Nat):Int) from rfl,number_l n l hl (lead l) 0 n (by omega) (by omega)]
 obtain ⟨m,hm⟩ : ∃ m,n - lead l - 1=m+2:=⟨n - lead l - 3,by omega⟩
 rw [hm]
 show Q10.r4 n (Q10.l n (m+1)) _ _=_
 have hc5:Q10.l n (m+1) .z5=some (0,bs [],false):=rfl
 unfold Q10.r4
 simp only [bs_size]
 have htl:(l.take (lead l)).length=lead l:=by rw [List.length_take]; omega
 have hall:=lead_all l
 have bad:num3 (l.take (lead l))=false→some (0,bs [],false)=some (if num3 (l.take (lead l)) then ((valD (l.take (lead l)):Int),bs (l.drop (lead l)),true) else (0,bs [],false)):=by
  intro h; rw [h]; rfl
 have ok:num3 (l.take (lead l))=true→(bif decide ((0:Int)≤((lead l:Nat):Int))&&decide (((lead l:Nat):Int)≤((l.length:Nat):Int)) then ((Q4d.F n ((bs l).extract 0 (((lead l:Nat):Int)).toNat)).bind fun p5=>
   bif decide ((0:Int)≤((lead l:Nat):Int))&&decide (((lead l:Nat):Int)≤((l.length:Nat):Int)) then (let y6:ByteArray:=(bs l).extract (((lead l:Nat):Int)).toNat l.length
   some (p5.1,y6,true)) else none) else none)=some (if num3 (l.take (lead l)) then ((valD (l.take (lead l)):Int),bs (l.drop (lead l)),true) else (0,bs [],false)):=by
  intro h
  obtain ⟨h1,h2,h3,h4⟩:=(num3_iff _).1 h
  have hv:=num3_val h
  rw [upto_t hle,cond_true,Int.toNat_natCast,bs_take,h]
  have ha:Q4d.F n (bs (l.take (lead l)))=some ((valD (l.take (lead l)):Int),false):=by
   unfold Q4d.F
   rw [cond_t (by rw [bs_size]; omega)]
   show some (atoiR (l.take (lead l)))=_
   rw [atoiR_digs (by intro e; rw [e] at h1; simp at h1) h3 (by omega)]
  rw [ha,Option.bind_some,cond_true]
  have:=bs_drop l (lead l)
  rw [bs_size] at this
  simp only [this]
  rfl
 by_cases h0:lead l=0
 ·have:(((lead l:Nat):Int)==0)=true:=by rw [h0]; rfl
  rw [this,cond_true,hc5]
  refine bad ?_
  rw [← Bool.not_eq_true,num3_iff]
  rintro ⟨h1,_⟩
  omega
 ·have:(((lead l:Nat):Int)==0)=false:=by rw [beq_eq_false_iff_ne]; omega
  rw [this,cond_false]
  by_cases h3:lead l > 3
  ·rw [cond_t (by omega),hc5]
   refine bad ?_
   rw [← Bool.not_eq_true,num3_iff]
   rintro ⟨_,h2,_⟩
   omega
  ·rw [cond_f (by omega)]
   have hpos:0 < l.length:=by omega
   by_cases h1:lead l > 1
   ·rw [cond_t (by omega),cond_t (by omega)]
    simp only [getD_at hpos]
    have e0:(l.take (lead l)).getD 0 0=l[0]:=by simp [List.getD_eq_getElem?_getD,show 0 < lead l by omega,hpos]
    by_cases h48:l[0].toNat=48
    ·have:((((l[0].toNat:Nat):Int))==48)=true:=by rw [h48]; rfl
     rw [this,cond_true,hc5]
     refine bad ?_
     rw [← Bool.not_eq_true,num3_iff]
     rintro ⟨_,_,_,h4⟩
     exact h4 ⟨by omega,by rw [e0]; exact UInt8.toNat_inj.1 h48⟩
    ·have:((((l[0].toNat:Nat):Int))==48)=false:=by rw [beq_eq_false_iff_ne]; omega
     rw [this,cond_false]
     refine ok ((num3_iff _).2 ⟨by omega,by omega,hall,?_⟩)
     rintro ⟨_,e⟩
     rw [e0] at e
     exact h48 (by rw [e]; rfl)
   ·rw [cond_f (by omega)]
    exact ok ((num3_iff _).2 ⟨by omega,by omega,hall,fun ⟨h,_⟩=>by omega⟩)
end Go.Proofs.YtmpglmcjoelciaaGreatDoor.Ev
namespace Go.Proofs.YtmpglmcjoelciaaGreatDoor.Ev
open Go Go.Proofs Go.Proofs.Ev
set_option linter.unusedVariables false
theorem cond_eq (n:Nat) (b:Bool) (e:Int):Q0f.F n b e=some (if b then e else 0):=by cases b <;> rfl
theorem ncond_eq (n:Nat) (b:Bool) (e:Int):Q3x.F n b e=some (if b then e else 0):=by cases b <;> rfl
theorem in_eq (n:Nat) (a b c:Int):Q3z.F n a b c=some (decide (b≤a∧a≤c)):=by
 unfold Q3z.F Q3z.e
 by_cases h:b≤a
 ·rw [cond_t h]; simp [h]
 ·rw [cond_f h]; simp [h]
def fz:List Int→Int
 | []=>0
 | x::r=>if x≠0 then x else fz r
theorem first_l (n:Nat) (xs:List Int) (hx:xs.length≤1000):∀ (d i m:Nat),i+d=xs.length→d < m→Q0m.l n m (.z2 (xs.map vi) xs.length i)=some (fz (xs.drop i))
 | _,_,0,_,h=>absurd h (by omega)
 | 0,i,m+1,h,_=>by
  show Q0m.r2 n (Q0m.l n m) _ _ _=_
  unfold Q0m.r2
  rw [cond_f (by omega),List.drop_of_length_le (by omega)]
  rfl
 | d+1,i,m+1,h,hm=>by
  have hi:i < xs.length:=by omega
  have ih:=first_l n xs hx d (i+1) m (by omega) (by omega)
  show Q0m.r2 n (Q0m.l n m) _ _ _=_
  unfold Q0m.r2
  rw [cond_t (by omega),List.length_map,within_t hi,cond_true]
  have e:(xs.map vi).getD (((i:Nat):Int)).toNat AV.undef=vi xs[i]:=by simp [List.getD_eq_getElem?_getD,hi]
  rw [e,List.drop_eq_getElem_cons hi]
  show (bif xs[i] != 0 then some xs[i] else _)=_
  by_cases h0:xs[i]=0
  ·have:(xs[i] != 0)=false:=by simp [h0]
   rw [this,cond_false,wsucc (by omega),ih]
   simp [fz,h0]
  ·have:(xs[i] != 0)=true:=by simp [h0]
   rw [this,cond_true]
   simp [fz,h0]
theorem first_eq {n:Nat} (xs:List Int) (hx:xs.length≤1000) (hn:1001≤n):Q0m.F n (xs.map vi)=some (fz xs):=by
 unfold Q0m.F Q0m.e
 rw [List.length_map]
 exact first_l n xs hx xs.length 0 n (by omega) (by omega)
theorem first2 {n:Nat} (hn:1001≤n) (a b:Int):Q0m.F n [vi a,vi b]=some (if a≠0 then a else b):=by
 have:=first_eq (n:=n) [a,b] (by simp) hn
 rw [show ([a,b]:List Int).map vi=[vi a,vi b] from rfl] at this
 rw [this]
 by_cases h:a=0 <;> by_cases h2:b=0 <;> simp [fz,h,h2]
theorem nfirst_l (n:Nat) (xs:List Int) (hx:xs.length≤1000):∀ (d i m:Nat),i+d=xs.length→d < m→Q3y.l n m (.z2 (xs.map vi) xs.length i)=some (fz (xs.drop i))
 | _,_,0,_,h=>absurd h (by omega)
 | 0,i,m+1,h,_=>by
  show Q3y.r2 n (Q3y.l n m) _ _ _=_
  unfold Q3y.r2
  rw [cond_f (by omega),List.drop_of_length_le (by omega)]
  rfl
 | d+1,i,m+1,h,hm=>by
  have hi:i < xs.length:=by omega
  have ih:=nfirst_l n xs hx d (i+1) m (by omega) (by omega)
  show Q3y.r2 n (Q3y.l n m) _ _ _=_
  unfold Q3y.r2
  rw [cond_t (by omega),List.length_map,within_t hi,cond_true]
  have e:(xs.map vi).getD (((i:Nat):Int)).toNat AV.undef=vi xs[i]:=by simp [List.getD_eq_getElem?_getD,hi]
  rw [e,List.drop_eq_getElem_cons hi]
  show (bif xs[i] != 0 then some xs[i] else _)=_
  by_cases h0:xs[i]=0
  ·have:(xs[i] != 0)=false:=by simp [h0]
   rw [this,cond_false,wsucc (by omega),ih]
   simp [fz,h0]
  ·have:(xs[i] != 0)=true:=by simp [h0]
   rw [this,cond_true]
   simp [fz,h0]
theorem nfirst_eq {n:Nat} (xs:List Int) (hx:xs.length≤1000) (hn:1001≤n):Q3y.F n (xs.map vi)=some (fz xs):=by
 unfold Q3y.F Q3y.e
 rw [List.length_map]
 exact nfirst_l n xs hx xs.length 0 n (by omega) (by omega)
theorem nfirst2 {n:Nat} (hn:1001≤n) (a b:Int):Q3y.F n [vi a,vi b]=some (if a≠0 then a else b):=by
 have:=nfirst_eq (n:=n) [a,b] (by simp) hn
 rw [show ([a,b]:List Int).map vi=[vi a,vi b] from rfl] at this
 rw [this]
 by_cases h:a=0 <;> by_cases h2:b=0 <;> simp [fz,h,h2]
def chkT (k a b:Int):Int:=
 if k=0 then (if ¬ (1≤a∧a≤256) then 18 else if b≠0 then 3 else 0)
 else if k=1∨k=2 then (if ¬ (1≤a∧a≤15) then 18 else if ¬ (0≤b∧b≤a) then 3 else 0)
 else if k=3 then (if ¬ (a=4∨a=9) then 18 else if ¬ (0≤b∧b≤a) then 3 else 0)
 else if k=4 then (if a≠0 then 18 else if b≠0 then 3 else 0)
 else 4
theorem beq_int (a b:Int):(a==b)=decide (a=b):=rfl
theorem r13_eq {n:Nat} (hn:1001≤n) (c:Q3t.Z→Option Int) (x y:Bool):Q3t.r13 n c x y=some (if !x then 18 else if !y then 3 else 0):=by
 unfold Q3t.r13
 rw [ncond_eq,Option.bind_some,ncond_eq,Option.bind_some,nfirst2 hn,Option.bind_some]
 cases x <;> cases y <;> rfl
theorem check_eq {n:Nat} (hn:1001≤n) (k a b:Int):Q3t.F n k a b=some (chkT k a b):=by
 obtain ⟨m,rfl⟩ : ∃ m,n=m+1:=⟨n - 1,by omega⟩
 unfold Q3t.F Q3t.e chkT
 have hl:∀ x y,Q3t.l (m+1) (m+1) (.z13 x y)=some (if !x then 18 else if !y then 3 else 0):=fun x y=>r13_eq hn (Q3t.l (m+1) m) x y
 simp only [hl,in_eq,Option.bind_some,beq_int]
 by_cases h0:k=0
 ·rw [cond_t h0]
  by_cases h1:1≤a∧a≤256 <;> by_cases h2:b=0 <;> simp only [h0,h1,h2] <;> (try simp) <;> (try (first | omega | (split <;> split <;> omega)))
 ·rw [cond_f h0]
  by_cases h1:k=1
  ·rw [cond_t h1]
   by_cases h2:1≤a∧a≤15 <;> by_cases h3:0≤b∧b≤a <;> simp only [h1,h2,h3] <;> (try simp) <;> (try (first | omega | (split <;> split <;> omega)))
  ·rw [cond_f h1]
   by_cases h2:k=2
   ·rw [cond_t h2]
    by_cases h4:1≤a∧a≤15 <;> by_cases h3:0≤b∧b≤a <;> simp only [h2,h4,h3] <;> (try simp) <;> (try (first | omega | (split <;> split <;> omega)))
   ·rw [cond_f h2]
    by_cases h3:k=3
    ·rw [cond_t h3]
     by_cases ha:a=4
     ·rw [cond_t ha]
      by_cases h5:0≤b∧b≤a <;> simp only [h3,h5] <;> (try simp [ha]) <;> (try (first | omega | (split <;> split <;> omega)))
     ·rw [cond_f ha]
      by_cases h6:a=9 <;> by_cases h5:0≤b∧b≤a <;> simp only [h3,h5,h6,ha] <;> (try simp) <;> (try (first | omega | (split <;> split <;> omega)))
    ·rw [cond_f h3]
     by_cases h4:k=4
     ·rw [cond_t h4]
      by_cases h5:a=0 <;> by_cases h6:b=0 <;> simp only [h4,h5,h6] <;> (try simp) <;> (try (first | omega | (split <;> split <;> omega)))
     ·rw [cond_f h4]
      simp [h0,h1,h2,h3,h4]
def kd (c:UInt8):Int:=Lib.indexByte [65,80,83,66] c
theorem kd_eq (c:UInt8):kd c=if c=65 then 0 else if c=80 then 1 else if c=83 then 2 else if c=66 then 3 else -1:=by
 have:∀ k:Fin 256,kd (UInt8.ofNat k.1)=if (UInt8.ofNat k.1)=65 then 0 else if (UInt8.ofNat k.1)=80 then 1 else if (UInt8.ofNat k.1)=83 then 2 else if (UInt8.ofNat k.1)=66 then 3 else -1:=by decide +kernel
 have h:=this ⟨c.toNat,c.toNat_lt⟩
 simpa using h
theorem kd_range (c:UInt8):kd c=-1∨(0≤kd c∧kd c≤3):=by
 rw [kd_eq]; split <;> (try split) <;> (try split) <;> (try split) <;> omega
def typeP (l:List UInt8):Option (Int × Int × Int):=
 if num3 (l.take (lead l)) then match l.drop (lead l) with
  | []=>none
  | c::r=>if kd c=0 then (if r=[] then some (0,valD (l.take (lead l)),0) else none)
   else if kd c < 0 then none
   else if num3 r then some (kd c,valD (l.take (lead l)),valD r) else none
 else none
theorem lead_full:∀ r:List UInt8,r.all isD=true→lead r=r.length
 | [],_=>rfl
 | c::r,h=>by
  simp only [List.all_cons,Bool.and_eq_true] at h
  have:=lead_full r h.2
  unfold lead at this ⊢
  rw [List.takeWhile_cons,if_pos h.1,List.length_cons,List.length_cons,this]
theorem num3_lead {r:List UInt8}:(num3 (r.take (lead r))=true∧r.drop (lead r)=[])↔num3 r=true:=by
 constructor
 ·rintro ⟨h1,h2⟩
  have:r.take (lead r)=r:=by
   have:=List.take_append_drop (lead r) r
   rw [h2,List.append_nil] at this
   exact this
  rwa [this] at h1
 ·intro h
  obtain ⟨_,_,h3,_⟩:=(num3_iff r).1 h
  have e:lead r=r.length:=lead_full r h3
  rw [e,List.take_length,List.drop_length]
  exact ⟨h,rfl⟩
theorem size_cons (c:UInt8) (r:List UInt8):(bs (c::r)).size=r.length+1:=by rw [bs_size]; simp
theorem empty_eq (l:List UInt8):((bs l).toList==(⟨#[]⟩ : ByteArray).toList)=decide (l=[]):=by
 rw [bs_toList,show (⟨#[]⟩ : ByteArray).toList=([]:List UInt8) from bs_toList []]
 cases l <;> rfl
theorem typeOf_eq {n:Nat} (hn:200000≤n) (l:List UInt8) (hl:l.length≤100000):∃ x,Q1i.F n (bs l)=some x∧x.2.2.2=(typeP l).isSome∧∀ t,typeP l=some t→x=(t.1,t.2.1,t.2.2,true):=by
 unfold Q1i.F Q1i.e typeP
 rw [number_eq l hl hn,Option.bind_some]
 cases hnum:num3 (l.take (lead l)) with
 | false=>exact ⟨_,rfl,rfl,by intro t ht; cases ht⟩
 | true=>
  simp only [if_true,Bool.not_true,cond_false,empty_eq]
  cases hd:l.drop (lead l) with
  | nil=>exact ⟨_,by rw [cond_t rfl],rfl,by intro t ht; cases ht⟩
  | cons c r=>
   rw [cond_f (by simp),cond_t (by rw [size_cons]; omega)]
   have e0:(bs (c::r)).data.getD 0 0=c:=by rw [getD_at (by simp)]; rfl
   have ei:Q4i.F n (⟨#[65,80,83,66]⟩ : ByteArray) ((c.toNat:Nat):Int)=some (kd c):=by
    unfold Q4i.F kd
    have:((c.toNat:Nat):Int).toNat.toUInt8=c:=by simp
    rw [this]
    rfl
   simp only [e0,ei,Option.bind_some,beq_int,size_cons]
   have hr:r.length≤100000:=by
    have h1:(l.drop (lead l)).length≤l.length:=by simp
    rw [hd] at h1
    simp at h1
    omega
   rcases kd_range c with hk | hk
   ·rw [hk,cond_f (by omega),cond_t (by omega),cond_f (by omega),if_neg (by omega),if_pos (by omega)]
    exact ⟨_,rfl,rfl,by intro t ht; cases ht⟩
   ·by_cases h0:kd c=0
    ·rw [cond_t h0,cond_t (by omega),if_pos h0,h0]
     by_cases hr0:r=[]
     ·subst hr0
      exact ⟨_,rfl,rfl,by intro t ht; simp at ht; subst ht; rfl⟩
     ·rw [if_neg hr0]
      have:r.length≠0:=fun e=>hr0 (List.length_eq_zero_iff.1 e)
      refine ⟨_,rfl,?_,by intro t ht; cases ht⟩
      simp; omega
    ·rw [cond_f h0,cond_f (by omega),if_neg h0,if_neg (by omega)]
     have e1:(decide ((0:Int)≤1)&&decide ((1:Int)≤((r.length+1:Nat):Int)))=true:=by rw [Bool.and_eq_true,decide_eq_true_eq,decide_eq_true_eq]; omega
     rw [e1,cond_true]
     have e2:(bs (c::r)).extract 1 (r.length+1)=bs r:=by
      have:=bs_drop (c::r) 1
      rw [size_cons] at this
      rw [this]; rfl
     rw [e2,number_eq r hr hn,Option.bind_some]
     cases h3:num3 (r.take (lead r)) with
     | false=>
      have:num3 r=false:=by rw [← Bool.not_eq_true,← num3_lead,h3]; simp
      rw [this]
      exact ⟨_,rfl,rfl,by intro t ht; cases ht⟩
     | true=>
      simp only [if_true,cond_true,empty_eq]
      by_cases h4:r.drop (lead r)=[]
      ·have h5:=num3_lead.1 ⟨h3,h4⟩
       rw [h5]
       have h6:r.take (lead r)=r:=by
        have:=List.take_append_drop (lead r) r
        rw [h4,List.append_nil] at this
        exact this
       refine ⟨_,rfl,?_,?_⟩
       ·simp [h4]
       ·intro t ht; simp at ht; subst ht; simp [h4,h6]
      ·have:num3 r=false:=by rw [← Bool.not_eq_true,← num3_lead]; exact fun h=>h4 h.2
       rw [this]
       exact ⟨_,rfl,by simp [h4],by intro t ht; cases ht⟩
end Go.Proofs.YtmpglmcjoelciaaGreatDoor.Ev
namespace Go.Proofs.YtmpglmcjoelciaaGreatDoor.Ev
open Go Go.Proofs Go.Proofs.Ev
set_option linter.unusedVariables false
theorem dec1 {k:Nat} (h:k < 10):Lib.decDigits k=[UInt8.ofNat (48+k)]:=by rw [Lib.decDigits,dif_pos h]
theorem decS {k:Nat} (h:¬ k < 10):Lib.decDigits k=Lib.decDigits (k / 10)++[UInt8.ofNat (48+k % 10)]:=by rw [Lib.decDigits,dif_neg h]
theorem dec_len:∀ (m k:Nat),k < 10 ^ (m+1)→1≤(Lib.decDigits k).length∧(Lib.decDigits k).length≤m+1
 | m,k,h=>by
  by_cases h1:k < 10
  ·rw [dec1 h1]; simp
  ·rw [decS h1]
   cases m with
   | zero=>omega
   | succ m=>
    have:=dec_len m (k / 10) (by rw [Nat.pow_succ] at h; omega)
    simp only [List.length_append,List.length_cons,List.length_nil]
    omega
theorem itoa_eq (n k:Nat) (h:k < 10 ^ 18):Q4e.F n k=some (bs (Lib.decDigits k)):=by
 unfold Q4e.F
 have:(decide ((-9223372036854775808:Int)≤(k:Int))&&decide ((k:Int)≤9223372036854775807))=true:=by rw [Bool.and_eq_true,decide_eq_true_eq,decide_eq_true_eq]; omega
 rw [this,cond_true,Lib.itoa,if_neg (by omega),Int.toNat_natCast]
def ltr (k:Int):UInt8:=if k=0 then 65 else if k=1 then 80 else if k=2 then 83 else 66
def tText (k a b:Int):List UInt8:=Lib.decDigits a.toNat++([ltr k]++(if k=0 then [] else Lib.decDigits b.toNat))
theorem chkT_ok {k a b:Int} (h:chkT k a b=0) (h4:k≠4):(k=0∨k=1∨k=2∨k=3)∧1≤a∧a≤256∧0≤b∧b≤15∧(k=0→b=0):=by
 unfold chkT at h
 split at h
 ·split at h
  ·cases h
  ·split at h
   ·cases h
   ·omega
 ·split at h
  ·split at h
   ·cases h
   ·split at h
    ·cases h
    ·omega
  ·split at h
   ·split at h
    ·cases h
    ·split at h
     ·cases h
     ·omega
   ·exact absurd h (by decide)
theorem ltr_ext (k:Int) (h:k=0∨k=1∨k=2∨k=3):(decide ((0:Int)≤IntKind.i64.wrap (k+1))&&decide ((IntKind.i64.wrap (k+1):Int)≤4))=true∧
  (decide ((0:Int)≤k)&&decide (k≤IntKind.i64.wrap (k+1)))=true∧(⟨#[65,80,83,66]⟩ : ByteArray).extract k.toNat (IntKind.i64.wrap (k+1)).toNat=bs [ltr k]:=by
 rcases h with rfl | rfl | rfl | rfl <;> exact ⟨by decide,by decide,by rw [show (⟨#[65,80,83,66]⟩ : ByteArray)=bs [65,80,83,66] from rfl,bs_extract]; rfl⟩
theorem dec_small {a:Int} (h0:0≤a) (h:a≤256):∃ x:Nat,a=x∧x≤256∧(Lib.decDigits a.toNat).length≤3:=by
 refine ⟨a.toNat,by omega,by omega,(dec_len 2 a.toNat (by omega)).2⟩
theorem typeText_eq {n:Nat} {k a b:Int} (hk:k=0∨k=1∨k=2∨k=3) (ha:0≤a) (ha2:a≤256) (hb:0≤b) (hb2:b≤15):Q1j.F n k a b=some (bs (tText k a b)):=by
 obtain ⟨x,rfl,hx,hxl⟩:=dec_small ha ha2
 obtain ⟨y,rfl,hy,hyl⟩:=dec_small hb (by omega)
 obtain ⟨e1,e2,e3⟩:=ltr_ext k hk
 rw [Int.toNat_natCast] at hxl hyl
 unfold Q1j.F Q1j.e
 rw [itoa_eq n x (by omega),Option.bind_some,e1,cond_true,e2,cond_true]
 simp only [e3]
 rw [chk_t (by rw [bs_size,bs_size]; simp; omega),bs_append]
 unfold tText
 rw [Int.toNat_natCast,Int.toNat_natCast,beq_int]
 by_cases h0:k=0
 ·rw [cond_t h0,if_pos h0]; simp
 ·rw [cond_f h0,if_neg h0,itoa_eq n y (by omega),Option.bind_some,chk_t (by rw [bs_size,bs_size]; simp; omega),bs_append,List.append_assoc]
theorem awake_eq (n:Nat):Q2j.F n=some true:=rfl
end Go.Proofs.YtmpglmcjoelciaaGreatDoor.Ev
namespace Go.Proofs.YtmpglmcjoelciaaGreatDoor.Ev
open Go Go.Proofs Go.Proofs.Ev
set_option linter.unusedVariables false
set_option maxRecDepth 100000
abbrev Q0s.A:=ByteArray
abbrev Q0s.T:=Bool
def Q0s.i:Q0s.A→List AV:=fun a0=>[vs a0]
def Q0s.o (xs:List AV):Option Q0s.A:=match xs with | [.v (.string a0)]=>some a0 | _=>none
theorem Q0s.oi:∀ xs a,Q0s.o xs=some a→xs=Q0s.i a:=by
 intro xs a h
 unfold Q0s.o at h
 split at h
 ·cases h; rfl
 ·cases h
def Q0s.p (p:Q0s.T):AV:=vb p
def Q0s.q (x:AV):Option Q0s.T:=match x with | .v (.bool p0)=>some p0 | _=>none
theorem Q0s.qi:∀ x p,Q0s.q x=some p→x=Q0s.p p:=by
 intro x p h
 unfold Q0s.q at h
 split at h
 ·cases h; rfl
 ·cases h
inductive Q0s.Z where
 | z2 (z1 z2:Int) (z3:List AV)
def Q0s.C {R:Type} (n:Nat) (f:FuncId) (xs:List AV):(AV→Option R)→Option R:=
 fun _=>none
theorem Q0s.tells {R:Type} (n:Nat):Tells (R:=R) Tryz.prog (Q0s.C n):=fun _ xs=>Tells1.none
def Q0s.cut (r:Nat):Option Keep:=match r with | 2=>some ⟨[6,7,8],[]⟩ | _=>none
def Q0s.t (z:Q0s.Z):List Item:=(todoOf (match z with | .z2 _ _ _=>2) 1000 [.code (Tryz.f46.body.getD .skip)]).getD []
def Q0s.s:Q0s.Z→St
 | .z2 z1 z2 z3=>⟨spr 19 0 [(6,.own 0 0 none),(7,vi z1),(8,vi z2)],Mem.ofList [.row ⟨true,5⟩ 1 z3],1⟩
def Q0s.r2 (n:Nat) (c:Q0s.Z→Option Bool) (z1 z2:Int) (z3:List AV):Option Bool:=
 bif decide (z2 < z1) then (bif decide ((0:Int)≤z2)&&decide (z2 < ((z3.length:Nat):Int)) then (withCons ((z3.getD ((z2).toNat) .undef).cells) fun h2 r3=>
 withInt .u8 h2 fun x4=>
 bif decide (x4 < 32) then (some false) else (bif decide (x4 > 126) then (some false) else (c (.z2 z1 (IntKind.i64.wrap (z2+1)) z3)))) else none) else (some true)
def Q0s.r (n:Nat) (c:Q0s.Z→Option Bool):Q0s.Z→Option Bool
 | .z2 z1 z2 z3=>Q0s.r2 n c z1 z2 z3
def Q0s.e (n:Nat) (c:Q0s.Z→Option Bool) (a0:ByteArray):Option Bool:=
 let y1:List AV:=a0.toList.map fun b=>vu b.toNat
 c (.z2 ((y1.length:Nat):Int) 0 y1)
def Q0s.E (n:Nat) (c:Q0s.Z→Option Bool):Q0s.A→Option Q0s.T:=fun a0=>Q0s.e n c a0
def Q0s.l (n:Nat):Nat→Q0s.Z→Option Bool:=loopL (Q0s.r n)
def Q0s.F (n:Nat) (a0:ByteArray):Option Bool:=Q0s.e n (Q0s.l n n) a0
def Q0s.FA (n:Nat):Q0s.A→Option Q0s.T:=Q0s.E n (Q0s.l n n)
theorem Q0s.hands (n:Nat):∀ a p,Q0s.FA n a=some p→HandsIn Tryz.prog 46 (Q0s.i a) (Q0s.p p):=
 pf_hands (C:=Q0s.C n) (cut:=Q0s.cut) (t:=Q0s.t) (s:=Q0s.s) (e:=Q0s.E n) (r:=Q0s.r n) (n:=n) cfg mixed globs rfl Q0s.qi (Q0s.tells n) Tryz.func46 (by kernel_rfl) (by kernel_rfl) (fun rec a=>by kernel_rfl) (fun rec z=>by cases z <;> kernel_rfl)
def Q0s.via {R:Type} (n:Nat):List AV→(AV→Option R)→Option R:=viaK (Q0s.FA n) Q0s.o Q0s.p
theorem Q0s.tells1 {R:Type} (n:Nat) (xs:List AV):Tells1 (R:=R) Tryz.prog 46 xs (Q0s.via n xs):=tells_via Q0s.oi (fun a=>by kernel_rfl) (Q0s.hands n) xs
end Go.Proofs.YtmpglmcjoelciaaGreatDoor.Ev
namespace Go.Proofs.YtmpglmcjoelciaaGreatDoor.Ev
open Go Go.Proofs Go.Proofs.Ev
set_option linter.unusedVariables false
set_option maxRecDepth 100000
abbrev Q14.A:=ByteArray
abbrev Q14.T:=Int
def Q14.i:Q14.A→List AV:=fun a0=>[vs a0]
def Q14.o (xs:List AV):Option Q14.A:=match xs with | [.v (.string a0)]=>some a0 | _=>none
theorem Q14.oi:∀ xs a,Q14.o xs=some a→xs=Q14.i a:=by
 intro xs a h
 unfold Q14.o at h
 split at h
 ·cases h; rfl
 ·cases h
def Q14.p (p:Q14.T):AV:=vi p
def Q14.q (x:AV):Option Q14.T:=match x with | .v (.int .i64 p0)=>some p0 | _=>none
theorem Q14.qi:∀ x p,Q14.q x=some p→x=Q14.p p:=by
 intro x p h
 unfold Q14.q at h
 split at h
 ·cases h; rfl
 ·cases h
inductive Q14.Z where
 | z2 (z1:ByteArray) (z2:Int)
def Q14.C {R:Type} (n:Nat) (f:FuncId) (xs:List AV):(AV→Option R)→Option R:=
 fun _=>none
theorem Q14.tells {R:Type} (n:Nat):Tells (R:=R) Tryz.prog (Q14.C n):=fun _ xs=>Tells1.none
def Q14.cut (r:Nat):Option Keep:=match r with | 2=>some ⟨[0,3],[]⟩ | _=>none
def Q14.t (z:Q14.Z):List Item:=(todoOf (match z with | .z2 _ _=>2) 1000 [.code (Tryz.f97.body.getD .skip)]).getD []
def Q14.s:Q14.Z→St
 | .z2 z1 z2=>⟨spr 32 0 [(0,vs z1),(3,vi z2)],Mem.ofList [],0⟩
def Q14.r2 (n:Nat) (c:Q14.Z→Option Int) (z1:ByteArray) (z2:Int):Option Int:=
 let y1:Bool:=decide (z2 < ((z1.size:Nat):Int))
 bif y1 then (bif decide ((0:Int)≤z2)&&decide (z2 < ((z1.size:Nat):Int)) then (let y2:Int:=(((z1.data.getD ((z2).toNat) 0).toNat:Nat):Int)
 bif y2 != 39 then (c (.z2 z1 (IntKind.i64.wrap (z2+1)))) else (let y3:Bool:=decide ((IntKind.i64.wrap (z2+1)) < ((z1.size:Nat):Int))
 bif y3 then (bif decide ((0:Int)≤IntKind.i64.wrap (z2+1))&&decide (IntKind.i64.wrap (z2+1) < ((z1.size:Nat):Int)) then (let y4:Int:=(((z1.data.getD ((IntKind.i64.wrap (z2+1)).toNat) 0).toNat:Nat):Int)
 bif y4==39 then (let y5:Int:=IntKind.i64.wrap ((IntKind.i64.wrap (z2+1))+1)
 c (.z2 z1 y5)) else (some (IntKind.i64.wrap (z2+1)))) else none) else (some (IntKind.i64.wrap (z2+1))))) else none) else (some 0)
def Q14.r (n:Nat) (c:Q14.Z→Option Int):Q14.Z→Option Int
 | .z2 z1 z2=>Q14.r2 n c z1 z2
def Q14.e (n:Nat) (c:Q14.Z→Option Int) (a0:ByteArray):Option Int:=
 c (.z2 a0 1)
def Q14.E (n:Nat) (c:Q14.Z→Option Int):Q14.A→Option Q14.T:=fun a0=>Q14.e n c a0
def Q14.l (n:Nat):Nat→Q14.Z→Option Int:=loopL (Q14.r n)
def Q14.F (n:Nat) (a0:ByteArray):Option Int:=Q14.e n (Q14.l n n) a0
def Q14.FA (n:Nat):Q14.A→Option Q14.T:=Q14.E n (Q14.l n n)
theorem Q14.hands (n:Nat):∀ a p,Q14.FA n a=some p→HandsIn Tryz.prog 97 (Q14.i a) (Q14.p p):=
 pf_hands (C:=Q14.C n) (cut:=Q14.cut) (t:=Q14.t) (s:=Q14.s) (e:=Q14.E n) (r:=Q14.r n) (n:=n) cfg mixed globs rfl Q14.qi (Q14.tells n) Tryz.func97 (by kernel_rfl) (by kernel_rfl) (fun rec a=>by kernel_rfl) (fun rec z=>by cases z <;> kernel_rfl)
def Q14.via {R:Type} (n:Nat):List AV→(AV→Option R)→Option R:=viaK (Q14.FA n) Q14.o Q14.p
theorem Q14.tells1 {R:Type} (n:Nat) (xs:List AV):Tells1 (R:=R) Tryz.prog 97 xs (Q14.via n xs):=tells_via Q14.oi (fun a=>by kernel_rfl) (Q14.hands n) xs
end Go.Proofs.YtmpglmcjoelciaaGreatDoor.Ev
namespace Go.Proofs.YtmpglmcjoelciaaGreatDoor.Ev
open Go Go.Proofs Go.Proofs.Ev
set_option linter.unusedVariables false
set_option maxRecDepth 100000
abbrev Q4f.A:=ByteArray × ByteArray
abbrev Q4f.T:=Bool
def Q4f.i:Q4f.A→List AV:=fun (a0,a1)=>[vs a0,vs a1]
def Q4f.o (xs:List AV):Option Q4f.A:=match xs with | [.v (.string a0),.v (.string a1)]=>some (a0,a1) | _=>none
theorem Q4f.oi:∀ xs a,Q4f.o xs=some a→xs=Q4f.i a:=by
 intro xs a h
 unfold Q4f.o at h
 split at h
 ·cases h; rfl
 ·cases h
def Q4f.p (p:Q4f.T):AV:=vb p
def Q4f.q (x:AV):Option Q4f.T:=match x with | .v (.bool p0)=>some p0 | _=>none
theorem Q4f.qi:∀ x p,Q4f.q x=some p→x=Q4f.p p:=by
 intro x p h
 unfold Q4f.q at h
 split at h
 ·cases h; rfl
 ·cases h
def Q4f.C {R:Type} (n:Nat) (f:FuncId) (xs:List AV):(AV→Option R)→Option R:=
 bif Nat.beq f 106 then Q4h.via n xs else fun _=>none
theorem Q4f.tells {R:Type} (n:Nat):Tells (R:=R) Tryz.prog (Q4f.C n):=fun _ xs=>tells_at (Q4h.tells1 n xs) (Tells1.none)
def Q4f.cut (r:Nat):Option Keep:=match r with  | _=>none
def Q4f.e (n:Nat) (a0 a1:ByteArray):Option Bool:=
 (Q4h.F n a0 a1).bind fun p1=>
 some (decide (p1≥0))
def Q4f.E (n:Nat):Q4f.A→Option Q4f.T:=fun (a0,a1)=>Q4f.e n a0 a1
def Q4f.F (n:Nat) (a0 a1:ByteArray):Option Bool:=Q4f.e n a0 a1
def Q4f.FA (n:Nat):Q4f.A→Option Q4f.T:=Q4f.E n
theorem Q4f.hands (n:Nat):∀ a p,Q4f.FA n a=some p→HandsIn Tryz.prog 98 (Q4f.i a) (Q4f.p p):=
 pf_hands (C:=Q4f.C n) (cut:=Q4f.cut) (Z:=Empty) (t:=nofun) (s:=nofun) (e:=fun _=>Q4f.E n) (r:=fun _ z=>nomatch z) (n:=n) cfg mixed globs rfl Q4f.qi (Q4f.tells n) Tryz.func98 (by kernel_rfl) (by kernel_rfl) (fun rec a=>by kernel_rfl) (fun rec z=>nomatch z)
def Q4f.via {R:Type} (n:Nat):List AV→(AV→Option R)→Option R:=viaK (Q4f.FA n) Q4f.o Q4f.p
theorem Q4f.tells1 {R:Type} (n:Nat) (xs:List AV):Tells1 (R:=R) Tryz.prog 98 xs (Q4f.via n xs):=tells_via Q4f.oi (fun a=>by kernel_rfl) (Q4f.hands n) xs
end Go.Proofs.YtmpglmcjoelciaaGreatDoor.Ev
namespace Go.Proofs.YtmpglmcjoelciaaGreatDoor.Ev
open Go Go.Proofs Go.Proofs.Ev
set_option linter.unusedVariables false
set_option maxRecDepth 100000
abbrev Q1n.A:=ByteArray
abbrev Q1n.T:=Int
def Q1n.i:Q1n.A→List AV:=fun a0=>[vs a0]
def Q1n.o (xs:List AV):Option Q1n.A:=match xs with | [.v (.string a0)]=>some a0 | _=>none
theorem Q1n.oi:∀ xs a,Q1n.o xs=some a→xs=Q1n.i a:=by
 intro xs a h
 unfold Q1n.o at h
 split at h
 ·cases h; rfl
 ·cases h
def Q1n.p (p:Q1n.T):AV:=vi p
def Q1n.q (x:AV):Option Q1n.T:=match x with | .v (.int .i64 p0)=>some p0 | _=>none
theorem Q1n.qi:∀ x p,Q1n.q x=some p→x=Q1n.p p:=by
 intro x p h
 unfold Q1n.q at h
 split at h
 ·cases h; rfl
 ·cases h
inductive Q1n.Z where
 | z8 (z1:Int)
def Q1n.C {R:Type} (n:Nat) (f:FuncId) (xs:List AV):(AV→Option R)→Option R:=
 bif Nat.beq f 96 then Q4i.via n xs else bif Nat.beq f 97 then Q14.via n xs else bif Nat.beq f 98 then Q4f.via n xs else fun _=>none
theorem Q1n.tells {R:Type} (n:Nat):Tells (R:=R) Tryz.prog (Q1n.C n):=fun _ xs=>tells_at (Q4i.tells1 n xs) (tells_at (Q14.tells1 n xs) (tells_at (Q4f.tells1 n xs) (Tells1.none)))
def Q1n.cut (r:Nat):Option Keep:=match r with | 8=>some ⟨[3],[]⟩ | _=>none
def Q1n.t (z:Q1n.Z):List Item:=(todoOf (match z with | .z8 _=>8) 1000 [.code (Tryz.f47.body.getD .skip)]).getD []
def Q1n.s:Q1n.Z→St
 | .z8 z1=>⟨spr 31 0 [(3,vi z1)],Mem.ofList [],0⟩
def Q1n.r8 (n:Nat) (c:Q1n.Z→Option Int) (z1:Int):Option Int:=
 some z1
def Q1n.r (n:Nat) (c:Q1n.Z→Option Int):Q1n.Z→Option Int
 | .z8 z1=>Q1n.r8 n c z1
def Q1n.e (n:Nat) (c:Q1n.Z→Option Int) (a0:ByteArray):Option Int:=
 (Q4i.F n a0 32).bind fun p1=>
 bif decide (p1 < 0) then (bif decide ((0:Int) < (a0.size:Nat)) then (let y2:Int:=(((a0.data.getD 0 0).toNat:Nat):Int)
 bif y2==39 then ((Q14.F n a0).bind fun p3=>
 let y4:Bool:=decide (p3 < ((a0.size:Nat):Int))
 bif y4 then (bif decide ((0:Int)≤p3)&&decide (p3 < ((a0.size:Nat):Int)) then (let y5:Int:=(((a0.data.getD ((p3).toNat) 0).toNat:Nat):Int)
 bif y5 != 32 then (some 0) else (c (.z8 p3))) else none) else (c (.z8 p3))) else (bif decide ((0:Int)≤((a0.size:Nat):Int))&&decide ((((a0.size:Nat):Int):Int)≤((a0.size:Nat):Int)) then (let y6:ByteArray:=a0.extract 0 (((a0.size:Nat):Int)).toNat
 (Q4f.F n y6 (⟨#[39]⟩ : ByteArray)).bind fun p7=>
 bif p7 then (some 0) else (some ((a0.size:Nat):Int))) else none)) else none) else (bif decide ((0:Int) < (a0.size:Nat)) then (let y8:Int:=(((a0.data.getD 0 0).toNat:Nat):Int)
 bif y8==39 then ((Q14.F n a0).bind fun p9=>
 let y10:Bool:=decide (p9 < ((a0.size:Nat):Int))
 bif y10 then (bif decide ((0:Int)≤p9)&&decide (p9 < ((a0.size:Nat):Int)) then (let y11:Int:=(((a0.data.getD ((p9).toNat) 0).toNat:Nat):Int)
 bif y11 != 32 then (some 0) else (c (.z8 p9))) else none) else (c (.z8 p9))) else (bif decide ((0:Int)≤p1)&&decide ((p1:Int)≤((a0.size:Nat):Int)) then ((Q4f.F n (a0.extract 0 (p1).toNat) (⟨#[39]⟩ : ByteArray)).bind fun p12=>
 bif p12 then (some 0) else (some p1)) else none)) else none)
def Q1n.E (n:Nat) (c:Q1n.Z→Option Int):Q1n.A→Option Q1n.T:=fun a0=>Q1n.e n c a0
def Q1n.l (n:Nat):Nat→Q1n.Z→Option Int:=loopL (Q1n.r n)
def Q1n.F (n:Nat) (a0:ByteArray):Option Int:=Q1n.e n (Q1n.l n n) a0
def Q1n.FA (n:Nat):Q1n.A→Option Q1n.T:=Q1n.E n (Q1n.l n n)
theorem Q1n.hands (n:Nat):∀ a p,Q1n.FA n a=some p→HandsIn Tryz.prog 47 (Q1n.i a) (Q1n.p p):=
 pf_hands (C:=Q1n.C n) (cut:=Q1n.cut) (t:=Q1n.t) (s:=Q1n.s) (e:=Q1n.E n) (r:=Q1n.r n) (n:=n) cfg mixed globs rfl Q1n.qi (Q1n.tells n) Tryz.func47 (by kernel_rfl) (by kernel_rfl) (fun rec a=>by kernel_rfl) (fun rec z=>by cases z <;> kernel_rfl)
def Q1n.via {R:Type} (n:Nat):List AV→(AV→Option R)→Option R:=viaK (Q1n.FA n) Q1n.o Q1n.p
theorem Q1n.tells1 {R:Type} (n:Nat) (xs:List AV):Tells1 (R:=R) Tryz.prog 47 xs (Q1n.via n xs):=tells_via Q1n.oi (fun a=>by kernel_rfl) (Q1n.hands n) xs
end Go.Proofs.YtmpglmcjoelciaaGreatDoor.Ev
namespace Go.Proofs.YtmpglmcjoelciaaGreatDoor.Ev
open Go Go.Proofs Go.Proofs.Ev
set_option linter.unusedVariables false
set_option maxRecDepth 100000
abbrev Q0d.A:=ByteArray
abbrev Q0d.T:=List AV × Int
def Q0d.i:Q0d.A→List AV:=fun a0=>[vs a0]
def Q0d.o (xs:List AV):Option Q0d.A:=match xs with | [.v (.string a0)]=>some a0 | _=>none
theorem Q0d.oi:∀ xs a,Q0d.o xs=some a→xs=Q0d.i a:=by
 intro xs a h
 unfold Q0d.o at h
 split at h
 ·cases h; rfl
 ·cases h
def Q0d.p (p:Q0d.T):AV:=.tup [.fr ⟨true,9⟩ 1 p.1,vi p.2]
def Q0d.q (x:AV):Option Q0d.T:=match x with | .tup [.fr ⟨true,9⟩ 1 p0,.v (.int .i64 p1)]=>some (p0,p1) | _=>none
theorem Q0d.qi:∀ x p,Q0d.q x=some p→x=Q0d.p p:=by
 intro x p h
 unfold Q0d.q at h
 split at h
 ·cases h; rfl
 ·cases h
inductive Q0d.Z where
 | z5 (z1:ByteArray) (z2:List AV)
def Q0d.C {R:Type} (n:Nat) (f:FuncId) (xs:List AV):(AV→Option R)→Option R:=
 bif Nat.beq f 44 then Q0m.via n xs else bif Nat.beq f 45 then Q0f.via n xs else bif Nat.beq f 46 then Q0s.via n xs else bif Nat.beq f 47 then Q1n.via n xs else fun _=>none
theorem Q0d.tells {R:Type} (n:Nat):Tells (R:=R) Tryz.prog (Q0d.C n):=fun _ xs=>tells_at (Q0m.tells1 n xs) (tells_at (Q0f.tells1 n xs) (tells_at (Q0s.tells1 n xs) (tells_at (Q1n.tells1 n xs) (Tells1.none))))
def Q0d.cut (r:Nat):Option Keep:=match r with | 5=>some ⟨[0,5],[(5,none,⟨true,9⟩,1)]⟩ | _=>none
def Q0d.t (z:Q0d.Z):List Item:=(todoOf (match z with | .z5 _ _=>5) 1000 [.code (Tryz.f13.body.getD .skip)]).getD []
def Q0d.s:Q0d.Z→St
 | .z5 z1 z2=>⟨spr 43 0 [(0,vs z1),(5,.own 0 0 none)],Mem.ofList [.row ⟨true,9⟩ 1 z2],1⟩
def Q0d.r5 (n:Nat) (c:Q0d.Z→Option (List AV × Int)) (z1:ByteArray) (z2:List AV):Option (List AV × Int):=
 let y6:Bool:=!(z1.toList==(⟨#[]⟩ : ByteArray).toList)
 bif y6 then ((Q1n.F n z1).bind fun p7=>
 bif p7==0 then (some ([],8)) else (bif decide ((0:Int)≤p7)&&decide ((p7:Int)≤((z1.size:Nat):Int)) then (let y8:List AV:=[vs (z1.extract 0 (p7).toNat)]
 bif decide (z2.length+y8.length≤most) then (let y9:Bool:=p7==((z1.size:Nat):Int)
 bif y9 then (some (z2++y8,0)) else (bif decide ((0:Int)≤IntKind.i64.wrap (p7+1))&&decide ((IntKind.i64.wrap (p7+1):Int)≤((z1.size:Nat):Int)) then (let y10:ByteArray:=z1.extract (IntKind.i64.wrap (p7+1)).toNat z1.size
 let y11:Bool:=y10.toList==(⟨#[]⟩ : ByteArray).toList
 bif y11 then (some ([],8)) else (c (.z5 y10 (z2++y8)))) else none)) else none) else none)) else (some (z2,0))
def Q0d.r (n:Nat) (c:Q0d.Z→Option (List AV × Int)):Q0d.Z→Option (List AV × Int)
 | .z5 z1 z2=>Q0d.r5 n c z1 z2
def Q0d.e (n:Nat) (c:Q0d.Z→Option (List AV × Int)) (a0:ByteArray):Option (List AV × Int):=
 let y1:Bool:=decide (((a0.size:Nat):Int) > 240)
 (Q0f.F n y1 2).bind fun p2=>
 (Q0s.F n a0).bind fun p3=>
 (Q0f.F n (!p3) 8).bind fun p4=>
 (Q0m.F n [vi p2,vi p4]).bind fun p5=>
 bif p5 != 0 then (some ([],p5)) else (c (.z5 a0 []))
def Q0d.E (n:Nat) (c:Q0d.Z→Option (List AV × Int)):Q0d.A→Option Q0d.T:=fun a0=>Q0d.e n c a0
def Q0d.l (n:Nat):Nat→Q0d.Z→Option (List AV × Int):=loopL (Q0d.r n)
def Q0d.F (n:Nat) (a0:ByteArray):Option (List AV × Int):=Q0d.e n (Q0d.l n n) a0
def Q0d.FA (n:Nat):Q0d.A→Option Q0d.T:=Q0d.E n (Q0d.l n n)
theorem Q0d.hands (n:Nat):∀ a p,Q0d.FA n a=some p→HandsIn Tryz.prog 13 (Q0d.i a) (Q0d.p p):=
 pf_hands (C:=Q0d.C n) (cut:=Q0d.cut) (t:=Q0d.t) (s:=Q0d.s) (e:=Q0d.E n) (r:=Q0d.r n) (n:=n) cfg mixed globs rfl Q0d.qi (Q0d.tells n) Tryz.func13 (by kernel_rfl) (by kernel_rfl) (fun rec a=>by kernel_rfl) (fun rec z=>by cases z <;> kernel_rfl)
def Q0d.via {R:Type} (n:Nat):List AV→(AV→Option R)→Option R:=viaK (Q0d.FA n) Q0d.o Q0d.p
theorem Q0d.tells1 {R:Type} (n:Nat) (xs:List AV):Tells1 (R:=R) Tryz.prog 13 xs (Q0d.via n xs):=tells_via Q0d.oi (fun a=>by kernel_rfl) (Q0d.hands n) xs
end Go.Proofs.YtmpglmcjoelciaaGreatDoor.Ev
namespace Go.Proofs.YtmpglmcjoelciaaGreatDoor.Ev
open Go Go.Proofs Go.Proofs.Ev
set_option linter.unusedVariables false
set_option maxRecDepth 100000
abbrev Q1y.A:=List AV × List AV
abbrev Q1y.T:=Bool
def Q1y.i:Q1y.A→List AV:=fun (a0,a1)=>[.sl ⟨true,9⟩ 1 a0,.sl ⟨true,9⟩ 1 a1]
def Q1y.o (xs:List AV):Option Q1y.A:=match xs with | [.sl ⟨true,9⟩ 1 a0,.sl ⟨true,9⟩ 1 a1]=>some (a0,a1) | _=>none
theorem Q1y.oi:∀ xs a,Q1y.o xs=some a→xs=Q1y.i a:=by
 intro xs a h
 unfold Q1y.o at h
 split at h
 ·cases h; rfl
 ·cases h
def Q1y.p (p:Q1y.T):AV:=vb p
def Q1y.q (x:AV):Option Q1y.T:=match x with | .v (.bool p0)=>some p0 | _=>none
theorem Q1y.qi:∀ x p,Q1y.q x=some p→x=Q1y.p p:=by
 intro x p h
 unfold Q1y.q at h
 split at h
 ·cases h; rfl
 ·cases h
inductive Q1y.Z where
 | z4 (z1 z2:List AV) (z3:Int)
def Q1y.C {R:Type} (n:Nat) (f:FuncId) (xs:List AV):(AV→Option R)→Option R:=
 fun _=>none
theorem Q1y.tells {R:Type} (n:Nat):Tells (R:=R) Tryz.prog (Q1y.C n):=fun _ xs=>Tells1.none
def Q1y.cut (r:Nat):Option Keep:=match r with | 4=>some ⟨[0,1,5],[]⟩ | _=>none
def Q1y.t (z:Q1y.Z):List Item:=(todoOf (match z with | .z4 _ _ _=>4) 1000 [.code (Tryz.f15.body.getD .skip)]).getD []
def Q1y.s:Q1y.Z→St
 | .z4 z1 z2 z3=>⟨spr 26 0 [(0,.sl ⟨true,9⟩ 1 z1),(1,.sl ⟨true,9⟩ 1 z2),(5,vi z3)],Mem.ofList [],0⟩
def Q1y.r4 (n:Nat) (c:Q1y.Z→Option Bool) (z1 z2:List AV) (z3:Int):Option Bool:=
 let y2:Bool:=decide (z3 < ((z1.length:Nat):Int))
 bif y2 then (bif decide ((0:Int)≤z3)&&decide (z3 < ((z1.length:Nat):Int)) then (withCons ((z1.getD ((z3).toNat) .undef).cells) fun h3 r4=>
 withStr h3 fun s5=>
 bif decide ((0:Int)≤z3)&&decide (z3 < ((z2.length:Nat):Int)) then (withCons ((z2.getD ((z3).toNat) .undef).cells) fun h6 r7=>
 withStr h6 fun s8=>
 bif !(s5.toList==s8.toList) then (some false) else (c (.z4 z1 z2 (IntKind.i64.wrap (z3+1))))) else none) else none) else (some true)
def Q1y.r (n:Nat) (c:Q1y.Z→Option Bool):Q1y.Z→Option Bool
 | .z4 z1 z2 z3=>Q1y.r4 n c z1 z2 z3
def Q1y.e (n:Nat) (c:Q1y.Z→Option Bool) (a0 a1:List AV):Option Bool:=
 let y1:Bool:=((a0.length:Nat):Int) != ((a1.length:Nat):Int)
 bif y1 then (some false) else (c (.z4 a0 a1 0))
def Q1y.E (n:Nat) (c:Q1y.Z→Option Bool):Q1y.A→Option Q1y.T:=fun (a0,a1)=>Q1y.e n c a0 a1
def Q1y.l (n:Nat):Nat→Q1y.Z→Option Bool:=loopL (Q1y.r n)
def Q1y.F (n:Nat) (a0 a1:List AV):Option Bool:=Q1y.e n (Q1y.l n n) a0 a1
def Q1y.FA (n:Nat):Q1y.A→Option Q1y.T:=Q1y.E n (Q1y.l n n)
theorem Q1y.hands (n:Nat):∀ a p,Q1y.FA n a=some p→HandsIn Tryz.prog 15 (Q1y.i a) (Q1y.p p):=
 pf_hands (C:=Q1y.C n) (cut:=Q1y.cut) (t:=Q1y.t) (s:=Q1y.s) (e:=Q1y.E n) (r:=Q1y.r n) (n:=n) cfg mixed globs rfl Q1y.qi (Q1y.tells n) Tryz.func15 (by kernel_rfl) (by kernel_rfl) (fun rec a=>by kernel_rfl) (fun rec z=>by cases z <;> kernel_rfl)
def Q1y.via {R:Type} (n:Nat):List AV→(AV→Option R)→Option R:=viaK (Q1y.FA n) Q1y.o Q1y.p
theorem Q1y.tells1 {R:Type} (n:Nat) (xs:List AV):Tells1 (R:=R) Tryz.prog 15 xs (Q1y.via n xs):=tells_via Q1y.oi (fun a=>by kernel_rfl) (Q1y.hands n) xs
end Go.Proofs.YtmpglmcjoelciaaGreatDoor.Ev
namespace Go.Proofs.YtmpglmcjoelciaaGreatDoor.Ev
open Go Go.Proofs Go.Proofs.Ev
set_option linter.unusedVariables false
def ib (l:List UInt8) (c:UInt8):Nat:=(l.takeWhile (fun x=>x != c)).length
theorem ib_le (l:List UInt8) (c:UInt8):ib l c≤l.length:=(List.takeWhile_sublist _).length_le
theorem ib_cons (b c:UInt8) (l:List UInt8):ib (b::l) c=if b=c then 0 else ib l c+1:=by
 unfold ib
 rw [List.takeWhile_cons]
 by_cases h:b=c
 ·subst h; simp
 ·have h2:(b != c)=true:=by simpa using h
  rw [h2,if_neg h]
  simp
theorem ib_eq (c:UInt8):∀ l:List UInt8,Lib.indexByte l c=if ib l c < l.length then (ib l c:Int) else -1
 | []=>rfl
 | b::l=>by
  have ih:=ib_eq c l
  unfold Lib.indexByte
  rw [ib_cons]
  by_cases h:b=c
  ·subst h; simp
  ·have h1:(b==c)=false:=by simpa using h
   rw [h1,if_neg h,ih]
   simp only [Bool.false_eq_true,if_false,List.length_cons]
   by_cases h3:ib l c < l.length
   ·have h4:(((ib l c:Nat):Int)==-1)=false:=by rw [beq_eq_false_iff_ne]; omega
    simp only [if_pos h3,h4,Bool.false_eq_true,if_false]
    rw [if_pos (by omega)]
    simp
   ·simp only [if_neg h3]
    rw [if_neg (show ¬ (ib l c+1 < l.length+1) by omega)]
    rfl
theorem has_eq (c:UInt8):∀ l:List UInt8,decide (0≤Lib.indexByte l c)=l.contains c
 | []=>by simp [Lib.indexByte]
 | b::l=>by
  have ih:=has_eq c l
  unfold Lib.indexByte
  rw [List.contains_cons]
  by_cases h:b=c
  ·subst h; simp
  ·have h1:(b==c)=false:=by simpa using h
   have h2:(c==b)=false:=by simpa using fun e=>h e.symm
   have:=Lib.indexByte_ge l c
   rw [h1,h2,← ih]
   simp only [Bool.false_eq_true,if_false,Bool.false_or]
   by_cases h3:Lib.indexByte l c=-1
   ·rw [h3]; rfl
   ·have h4:(Lib.indexByte l c==-1)=false:=by simpa using h3
    rw [h4]
    simp only [Bool.false_eq_true,if_false]
    rw [decide_eq_decide]
    omega
theorem contains_eq {n:Nat} (l:List UInt8) (hl:l.length≤100000):Q4f.F n (bs l) (⟨#[39]⟩ : ByteArray)=some (l.contains 39):=by
 unfold Q4f.F Q4f.e Q4h.F
 rw [cond_t (by rw [bs_size]; omega),Option.bind_some]
 show some (decide (Lib.index l [39]≥0))=_
 rw [Lib.index_one,← has_eq]
def qt:List UInt8→Nat→Option Nat
 | [],_=>none
 | c::r,i=>if c≠39 then qt r (i+1) else match r with
  | []=>some (i+1)
  | d::r'=>if d=39 then qt r' (i+2) else some (i+1)
theorem qt_bound:∀ (r:List UInt8) (i e:Nat),qt r i=some e→i+1≤e∧e≤i+r.length
 | [],_,_,h=>by cases h
 | [c],i,e,h=>by
  unfold qt at h
  by_cases hc:c=39
  ·rw [if_neg (by simp [hc])] at h
   simp only [Option.some.injEq] at h
   subst h
   simp
  ·rw [if_pos hc] at h; cases h
 | c::d::r,i,e,h=>by
  unfold qt at h
  by_cases hc:c=39
  ·rw [if_neg (by simp [hc])] at h
   simp only at h
   by_cases hd:d=39
   ·rw [if_pos hd] at h
    have:=qt_bound r (i+2) e h
    simp only [List.length_cons]
    omega
   ·rw [if_neg hd] at h
    simp only [Option.some.injEq] at h
    subst h
    simp only [List.length_cons]
    omega
  ·rw [if_pos hc] at h
   have:=qt_bound (d::r) (i+1) e h
   simp only [List.length_cons] at this ⊢
   omega
theorem byte_ne (c u:UInt8) (k:Nat) (hu:u.toNat=k):((((c.toNat:Nat):Int)) != ((k:Nat):Int))=decide (c≠u):=by
 have:(((c.toNat:Nat):Int)=((k:Nat):Int))↔c=u:=by
  constructor
  ·intro h
   apply UInt8.toNat_inj.1
   omega
  ·rintro rfl
   omega
 rw [Bool.eq_iff_iff,bne_iff_ne,decide_eq_true_eq]
 exact not_congr this
theorem byte_eq (c u:UInt8) (k:Nat) (hu:u.toNat=k):((((c.toNat:Nat):Int))==((k:Nat):Int))=decide (c=u):=by
 have:(((c.toNat:Nat):Int)=((k:Nat):Int))↔c=u:=by
  constructor
  ·intro h
   apply UInt8.toNat_inj.1
   omega
  ·rintro rfl
   omega
 rw [Bool.eq_iff_iff,beq_iff_eq,decide_eq_true_eq]
 exact this
theorem quoted_l (n:Nat) (l:List UInt8) (hl:l.length≤100000):∀ (d i m:Nat),i+d=l.length→d < m→Q14.l n m (.z2 (bs l) i)=some (((qt (l.drop i) i).getD 0:Nat):Int)
 | _,_,0,_,h=>absurd h (by omega)
 | 0,i,m+1,h,_=>by
  show Q14.r2 n (Q14.l n m) (bs l) i=_
  unfold Q14.r2
  simp only [bs_size]
  rw [cond_f (by omega),List.drop_of_length_le (by omega)]
  rfl
 | d+1,i,m+1,h,hm=>by
  have hi:i < l.length:=by omega
  show Q14.r2 n (Q14.l n m) (bs l) i=_
  unfold Q14.r2
  simp only [bs_size,within_t hi,Int.toNat_natCast,getD_at hi,cond_true]
  rw [cond_t (by omega),List.drop_eq_getElem_cons hi,show (39:Int)=((39:Nat):Int) from rfl,byte_ne _ 39 39 rfl,wsucc (by omega)]
  unfold qt
  by_cases hc:l[i]=39
  ·rw [cond_f (by simp [hc]),if_neg (by simp [hc])]
   by_cases h1:i+1 < l.length
   ·simp only [within_t h1,Int.toNat_natCast,getD_at h1,cond_true,byte_eq _ 39 39 rfl]
    rw [cond_t (by omega),List.drop_eq_getElem_cons h1]
    simp only
    by_cases hd:l[i+1]=39
    ·rw [cond_t hd,if_pos hd,wsucc (by omega)]
     cases d with
     | zero=>omega
     | succ d=>exact quoted_l n l hl d (i+2) m (by omega) (by omega)
    ·rw [cond_f hd,if_neg hd]
     rfl
   ·rw [cond_f (by omega),List.drop_of_length_le (by omega)]
    rfl
  ·rw [cond_t (by simpa using hc),if_pos hc]
   exact quoted_l n l hl d (i+1) m (by omega) (by omega)
theorem quoted_eq {n:Nat} (l:List UInt8) (hl:l.length≤100000) (h0:1≤l.length) (hn:100002≤n):Q14.F n (bs l)=some (((qt (l.drop 1) 1).getD 0:Nat):Int):=by
 unfold Q14.F Q14.e
 exact quoted_l n l hl (l.length - 1) 1 n (by omega) (by omega)
def wrd (l:List UInt8):Nat:=match l with
 | []=>0
 | c::r=>if c=39 then (match qt r 1 with
   | none=>0
   | some e=>if e < l.length∧l.getD e 0≠32 then 0 else e)
  else if (l.take (ib l 32)).contains 39 then 0 else ib l 32
theorem wrd_cons (c:UInt8) (r:List UInt8):wrd (c::r)=if c=39 then (match qt r 1 with
   | none=>0
   | some e=>if e < (c::r).length∧(c::r).getD e 0≠32 then 0 else e)
  else if ((c::r).take (ib (c::r) 32)).contains 39 then 0 else ib (c::r) 32:=rfl
theorem wrd_le (l:List UInt8):wrd l≤l.length:=by
 unfold wrd
 split
 ·exact Nat.zero_le _
 ·rename_i c r
  split
  ·split
   ·exact Nat.zero_le _
   ·rename_i e he
    split
    ·exact Nat.zero_le _
    ·have:=qt_bound r 1 e he
     simp only [List.length_cons]
     omega
  ·split
   ·exact Nat.zero_le _
   ·exact ib_le _ _
theorem word_eq {n:Nat} (l:List UInt8) (hl:l.length≤100000) (h0:l≠[]) (hn:100002≤n):Q1n.F n (bs l)=some ((wrd l:Nat):Int):=by
 obtain ⟨m,rfl⟩ : ∃ m,n=m+1:=⟨n - 1,by omega⟩
 unfold Q1n.F Q1n.e
 have h8:∀ z,Q1n.l (m+1) (m+1) (.z8 z)=some z:=fun z=>rfl
 simp only [h8]
 match l,h0 with
 | c::r,_=>
  have hpos:0 < (c::r).length:=by simp
  have hix:Q4i.F (m+1) (bs (c::r)) 32=some (Lib.indexByte (c::r) 32):=rfl
  have hle:=ib_le (c::r) 32
  rw [hix,Option.bind_some,ib_eq]
  have e0:(bs (c::r)).data.getD 0 0=c:=by rw [getD_at hpos]; rfl
  have hq:=quoted_eq (n:=m+1) (c::r) hl (by simp) hn
  rw [show (c::r).drop 1=r from rfl] at hq
  -- a string
  have str:c=39→(Q14.F (m+1) (bs (c::r))).bind (fun p3=>
    let y4:Bool:=decide (p3 < (((bs (c::r)).size:Nat):Int))
    bif y4 then (bif decide ((0:Int)≤p3)&&decide (p3 < (((bs (c::r)).size:Nat):Int)) then (let y5:Int:=((((bs (c::r)).data.getD ((p3).toNat) 0).toNat:Nat):Int)
    bif y5 != 32 then (some 0) else (some p3)) else none) else (some p3))=some ((wrd (c::r):Nat):Int):=by
   intro hc
   subst hc
   rw [hq,Option.bind_some,wrd_cons,if_pos rfl]
   cases hqt:qt r 1 with
   | none=>
    simp only [Option.getD_none,bs_size]
    rw [cond_t (by simp),within_t hpos,cond_true]
    simp only [Int.toNat_natCast,e0]
    rfl
   | some e=>
    have hb:=qt_bound r 1 e hqt
    simp only [Option.getD_some,bs_size]
    by_cases he:e < (39::r:List UInt8).length
    ·rw [cond_t (by omega),within_t he,cond_true]
     simp only [Int.toNat_natCast]
     rw [bs_getD,show (32:Int)=((32:Nat):Int) from rfl,byte_ne _ 32 32 rfl]
     by_cases h32:(39::r:List UInt8).getD e 0=32
     ·rw [cond_f (by simpa using h32),if_neg (by rintro ⟨_,h⟩; exact h h32)]
     ·rw [cond_t (by simpa using h32),if_pos ⟨he,h32⟩]
      rfl
    ·rw [cond_f (by omega),if_neg (by rintro ⟨h,_⟩; exact he h)]
  -- a word
  have wd:c≠39→∀ (k:Nat),k=ib (c::r) 32→((Q4f.F (m+1) (bs ((c::r).take k)) (⟨#[39]⟩ : ByteArray)).bind fun p7=>
    bif p7 then (some 0) else (some ((k:Nat):Int)))=some ((wrd (c::r):Nat):Int):=by
   rintro hc k rfl
   rw [contains_eq _ (by rw [List.length_take]; omega),Option.bind_some]
   rw [wrd_cons,if_neg hc]
   cases ((c::r).take (ib (c::r) 32)).contains 39 <;> rfl
  have hb39:((((c.toNat:Nat):Int))==39)=decide (c=39):=byte_eq c 39 39 rfl
  by_cases hsp:ib (c::r) 32 < (c::r).length
  ·rw [if_pos hsp,cond_f (by omega),cond_t (by rw [bs_size]; omega)]
   simp only [e0,hb39]
   by_cases hc:c=39
   ·rw [cond_t hc]
    exact str hc
   ·rw [cond_f hc,bs_size,upto_t hle,cond_true,Int.toNat_natCast,bs_take]
    exact wd hc _ rfl
  ·rw [if_neg hsp,cond_t (by omega),cond_t (by rw [bs_size]; omega)]
   simp only [e0,hb39]
   by_cases hc:c=39
   ·rw [cond_t hc]
    exact str hc
   ·have hkk:(c::r).length=ib (c::r) 32:=by omega
    rw [cond_f hc,bs_size,upto_t (Nat.le_refl _),cond_true]
    simp only [Int.toNat_natCast,bs_take]
    exact wd hc _ hkk
def wordsP:Nat→List UInt8→Option (List (List UInt8))
 | 0,_=>none
 | g+1,l=>if wrd l=0 then none else if wrd l=l.length then some [l] else (wordsP g (l.drop (wrd l+1))).map fun w=>l.take (wrd l)::w
def Ws (ws:List (List UInt8)):List AV:=ws.map fun w=>vs (bs w)
theorem Ws_snoc (a:List (List UInt8)) (w:List UInt8):Ws a++[vs (bs w)]=Ws (a++[w]):=by simp [Ws]
theorem Ws_length (a:List (List UInt8)):(Ws a).length=a.length:=by simp [Ws]
def wres (out:List (List UInt8)) (x:Option (List (List UInt8))):List AV × Int:=match x with
 | some ws=>(Ws (out++ws),0)
 | none=>([],8)
theorem wres_map (out:List (List UInt8)) (w:List UInt8) (x:Option (List (List UInt8))):wres out (x.map fun ws=>w::ws)=wres (out++[w]) x:=by
 cases x <;> simp [wres]
theorem wordsOf_l {n:Nat} (hn:100002≤n):∀ (g:Nat) (l:List UInt8) (out:List (List UInt8)) (m:Nat),l≠[]→l.length < g→g < m→l.length≤1000→out.length+l.length≤100000→
  Q0d.l n m (.z5 (bs l) (Ws out))=some (wres out (wordsP g l))
 | 0,_,_,_,_,h,_,_,_=>absurd h (by omega)
 | g+1,_,_,0,_,_,h,_,_=>absurd h (by omega)
 | g+1,l,out,m+1,h0,hg,hm,hl,ho=>by
  have hle:=wrd_le l
  have hpos:0 < l.length:=List.length_pos_iff.2 h0
  have hmost:most=1000000000:=rfl
  show Q0d.r5 n (Q0d.l n m) (bs l) (Ws out)=_
  unfold Q0d.r5 wordsP
  simp only [empty_eq]
  have:(!decide (l=[]))=true:=by simpa using h0
  rw [this,cond_true,word_eq l (by omega) h0 hn,Option.bind_some,beq_int]
  by_cases hw:wrd l=0
  ·rw [cond_t (by omega),if_pos hw]
   rfl
  ·rw [cond_f (by omega),if_neg hw,bs_size,upto_t hle,cond_true]
   simp only [Int.toNat_natCast,bs_take,Ws_length]
   rw [cond_t (by simp; omega),beq_int]
   by_cases he:wrd l=l.length
   ·rw [cond_t (by omega),if_pos he,Ws_snoc,he,List.take_length]
    rfl
   ·rw [cond_f (by omega),if_neg he,wsucc (by omega),upto_t (by omega),cond_true]
    have e7:(bs l).extract (wrd l+1) l.length=bs (l.drop (wrd l+1)):=by
     have:=bs_drop l (wrd l+1)
     rwa [bs_size] at this
    simp only [Int.toNat_natCast,e7,empty_eq]
    rw [wres_map]
    by_cases hd:l.drop (wrd l+1)=[]
    ·rw [cond_t hd,hd]
     have:wordsP g []=none:=by cases g <;> rfl
     rw [this]
     rfl
    ·have hlen:(l.drop (wrd l+1)).length≤l.length - 2:=by rw [List.length_drop]; omega
     rw [cond_f hd,Ws_snoc]
     exact wordsOf_l hn g (l.drop (wrd l+1)) (out++[l.take (wrd l)]) m hd (by omega) (by omega) (by omega) (by simp; omega)
def okc (c:UInt8):Bool:=decide (32≤c.toNat)&&decide (c.toNat≤126)
theorem writable_l (n:Nat) (l:List UInt8) (hl:l.length≤100000):∀ (d i m:Nat),i+d=l.length→d < m→Q0s.l n m (.z2 l.length i (l.map fun b=>vu b.toNat))=some ((l.drop i).all okc)
 | _,_,0,_,h=>absurd h (by omega)
 | 0,i,m+1,h,_=>by
  show Q0s.r2 n (Q0s.l n m) l.length i _=_
  unfold Q0s.r2
  rw [cond_f (by omega),List.drop_of_length_le (by omega)]
  rfl
 | d+1,i,m+1,h,hm=>by
  have hi:i < l.length:=by omega
  have ih:=writable_l n l hl d (i+1) m (by omega) (by omega)
  show Q0s.r2 n (Q0s.l n m) l.length i _=_
  unfold Q0s.r2
  have e:(l.map fun b=>vu b.toNat).getD (((i:Nat):Int)).toNat AV.undef=vu l[i].toNat:=by simp [List.getD_eq_getElem?_getD,hi]
  rw [cond_t (by omega),List.length_map,within_t hi,cond_true,e,List.drop_eq_getElem_cons hi,List.all_cons]
  show (bif decide (((l[i].toNat:Nat):Int) < 32) then some false else bif decide (((l[i].toNat:Nat):Int) > 126) then some false else _)=_
  by_cases h1:l[i].toNat < 32
  ·rw [cond_t (by omega)]
   have:okc l[i]=false:=by simp [okc]; omega
   rw [this]; rfl
  ·rw [cond_f (by omega)]
   by_cases h2:l[i].toNat > 126
   ·rw [cond_t (by omega)]
    have:okc l[i]=false:=by simp [okc]; omega
    rw [this]; rfl
   ·rw [cond_f (by omega)]
    have:okc l[i]=true:=by simp [okc]; omega
    rw [this,wsucc (by omega),ih,Bool.true_and]
theorem writable_eq {n:Nat} (l:List UInt8) (hl:l.length≤100000) (hn:100002≤n):Q0s.F n (bs l)=some (l.all okc):=by
 unfold Q0s.F Q0s.e
 simp only [bs_toList,List.length_map]
 exact writable_l n l hl l.length 0 n (by omega) (by omega)
def wordsR (l:List UInt8):List AV × Int:=
 if l.length > 240 then ([],2) else if l.all okc=false then ([],8) else if l=[] then ([],0) else wres [] (wordsP (l.length+1) l)
theorem wordsOf_eq {n:Nat} (hn:200002≤n) (l:List UInt8) (hl:l.length≤1000):Q0d.F n (bs l)=some (wordsR l):=by
 unfold Q0d.F Q0d.e
 simp only [bs_size]
 rw [cond_eq,Option.bind_some,writable_eq l (by omega) (by omega),Option.bind_some,cond_eq,Option.bind_some,first2 (by omega),Option.bind_some]
 unfold wordsR
 by_cases h1:l.length > 240
 ·have:decide (((l.length:Nat):Int) > 240)=true:=by rw [decide_eq_true_eq]; omega
  rw [this,if_pos h1]
  rfl
 ·have:decide (((l.length:Nat):Int) > 240)=false:=by rw [decide_eq_false_iff_not]; omega
  rw [this,if_neg h1]
  cases hw:l.all okc with
  | false=>rfl
  | true=>
   simp only [Bool.not_true,Bool.false_eq_true,if_false,ne_eq,not_true_eq_false]
   show (bif (0:Int) != 0 then _ else _)=_
   rw [show ((0:Int) != 0)=false from rfl,cond_false]
   by_cases h0:l=[]
   ·subst h0
    obtain ⟨m,rfl⟩ : ∃ m,n=m+1:=⟨n - 1,by omega⟩
    show Q0d.r5 (m+1) (Q0d.l (m+1) m) (bs []) []=_
    unfold Q0d.r5
    simp only [empty_eq]
    rfl
   ·rw [if_neg (by simp),if_neg h0]
    exact wordsOf_l (by omega) (l.length+1) l [] n h0 (by omega) (by omega) hl (by simp; omega)
end Go.Proofs.YtmpglmcjoelciaaGreatDoor.Ev
namespace Go.Proofs.YtmpglmcjoelciaaGreatDoor.Ev
open Go Go.Proofs Go.Proofs.Ev
set_option linter.unusedVariables false
def nmL (c:UInt8):Bool:=(decide (65≤c.toNat)&&decide (c.toNat≤90))||(decide (c=35)||(decide (c=36)||decide (c=64)))
def nmO (c:UInt8):Bool:=isD c||(decide (c=95)||decide (c=46))
def chkN:Nat→List UInt8→Bool
 | _,[]=>true
 | i,c::r=>(nmL c||(decide (i≠0)&&nmO c))&&chkN (i+1) r
theorem chkN_cons (i:Nat) (c:UInt8) (r:List UInt8):chkN i (c::r)=((nmL c||(decide (i≠0)&&nmO c))&&chkN (i+1) r):=rfl
def isNm (l:List UInt8):Bool:=(decide (1≤l.length)&&decide (l.length≤10))&&chkN 0 l
theorem let3 {α:Type} (f:Bool→α) (a b c d e:Bool):(bif a then (bif b then f true else (bif c then f true else (bif d then f true else f e))) else (bif c then f true else (bif d then f true else f e)))=f ((a&&b)||(c||(d||e))):=by
 cases a <;> cases b <;> cases c <;> cases d <;> rfl
theorem let2 {α:Type} (g:Bool→α) (a b c d:Bool):(bif a then (bif b then g true else (bif c then g true else g d)) else (bif c then g true else g d))=g ((a&&b)||(c||d)):=by
 cases a <;> cases b <;> cases c <;> rfl
theorem le_byte (c:UInt8) (k:Nat):decide ((k:Int)≤((c.toNat:Nat):Int))=decide (k≤c.toNat):=by rw [decide_eq_decide]; omega
theorem byte_le2 (c:UInt8) (k:Nat):decide (((c.toNat:Nat):Int)≤(k:Int))=decide (c.toNat≤k):=by rw [decide_eq_decide]; omega
theorem isName_l (n:Nat) (l:List UInt8) (hl:l.length≤1000):∀ (d i m:Nat),i+d=l.length→3*d < m→Q0r.l n m (.z4 l.length i (l.map fun b=>vu b.toNat))=some (chkN i (l.drop i))
 | _,_,0,_,h=>absurd h (by omega)
 | 0,i,m+1,h,_=>by
  rw [Q0r.at4]
  unfold Q0r.r4
  rw [cond_f (by omega),List.drop_of_length_le (by omega)]
  rfl
 | d+1,i,m+1,h,hm=>by
  have hi:i < l.length:=by omega
  obtain ⟨m,rfl⟩ : ∃ q,m=q+2:=⟨m - 2,by omega⟩
  have ih:=isName_l n l hl d (i+1) m (by omega) (by omega)
  have e:(l.map fun b=>vu b.toNat).getD (((i:Nat):Int)).toNat AV.undef=vu l[i].toNat:=by simp [List.getD_eq_getElem?_getD,hi]
  have h8:∀ z2 z3,Q0r.l n (m+1) (.z8 i z2 z3 l.length i (l.map fun b=>vu b.toNat))=some ((z2||(decide (i≠0)&&z3))&&chkN (i+1) (l.drop (i+1))):=by
   intro z2 z3
   rw [Q0r.at8]
   unfold Q0r.r8
   rw [wsucc (by omega),ih,beq_int]
   cases z2 with
   | true=>rfl
   | false=>
    by_cases h0:i=0
    ·subst h0; rfl
    ·rw [Bool.not_false,cond_true,cond_f (by omega)]
     cases z3 <;> simp [h0]
  have h7:∀ b,Q0r.l n (m+2) (.z7 i ((l[i].toNat:Nat):Int) b l.length i (l.map fun b=>vu b.toNat))=some ((b||(decide (i≠0)&&nmO l[i]))&&chkN (i+1) (l.drop (i+1))):=by
   intro b
   rw [Q0r.at7]
   unfold Q0r.r7
   rw [let2 (fun q=>Q0r.l n (m+1) (.z8 i b q l.length i (l.map fun b=>vu b.toNat))),h8]
   unfold nmO isD
   rw [show (48:Int)=((48:Nat):Int) from rfl,le_byte,show (57:Int)=((57:Nat):Int) from rfl,byte_le2,show (95:Int)=((95:Nat):Int) from rfl,byte_eq _ 95 95 rfl,show (46:Int)=((46:Nat):Int) from rfl,byte_eq _ 46 46 rfl]
  rw [Q0r.at4]
  unfold Q0r.r4
  rw [cond_t (by omega),List.length_map,within_t hi,cond_true,e,List.drop_eq_getElem_cons hi]
  show (bif decide ((65:Int)≤((l[i].toNat:Nat):Int)) then _ else _)=_
  rw [let3 (fun q=>Q0r.l n (m+2) (.z7 i ((l[i].toNat:Nat):Int) q l.length i (l.map fun b=>vu b.toNat))),h7]
  rw [chkN_cons]
  unfold nmL
  rw [show (65:Int)=((65:Nat):Int) from rfl,le_byte,show (90:Int)=((90:Nat):Int) from rfl,byte_le2,show (35:Int)=((35:Nat):Int) from rfl,byte_eq _ 35 35 rfl,show (36:Int)=((36:Nat):Int) from rfl,byte_eq _ 36 36 rfl,
   show (64:Int)=((64:Nat):Int) from rfl,byte_eq _ 64 64 rfl]
theorem isName_eq {n:Nat} (hn:1001≤n) (l:List UInt8):Q0r.F n (bs l)=some (isNm l):=by
 unfold Q0r.F Q0r.e isNm
 rw [empty_eq]
 simp only [bs_size,bs_toList,List.length_map]
 by_cases h0:l=[]
 ·rw [cond_t h0]
  subst h0
  rfl
 ·have hpos:0 < l.length:=List.length_pos_iff.2 h0
  rw [cond_f h0]
  by_cases h1:l.length > 10
  ·rw [cond_t (by omega)]
   have:decide (l.length≤10)=false:=by rw [decide_eq_false_iff_not]; omega
   rw [this]; simp
  ·rw [cond_f (by omega)]
   have h2:decide (l.length≤10)=true:=by rw [decide_eq_true_eq]; omega
   have h3:decide (1≤l.length)=true:=by rw [decide_eq_true_eq]; omega
   rw [h2,h3]
   have:=isName_l n l (by omega) l.length 0 n (by omega) (by omega)
   rw [List.drop_zero] at this
   exact this
def ixs:List (List UInt8)→List UInt8→Nat→Int
 | [],_,_=>-1
 | w::r,s,i=>if w=s then (i:Int) else ixs r s (i+1)
theorem ixs_cons (w:List UInt8) (r:List (List UInt8)) (s:List UInt8) (i:Nat):ixs (w::r) s i=if w=s then (i:Int) else ixs r s (i+1):=rfl
theorem ixs_has:∀ (ws:List (List UInt8)) (s:List UInt8) (i:Nat),decide (ixs ws s i≥0)=ws.contains s
 | [],s,i=>by simp [ixs]
 | w::r,s,i=>by
  unfold ixs
  rw [List.contains_cons]
  by_cases h:w=s
  ·subst h; simp
  ·have:(s==w)=false:=by simpa using fun e=>h e.symm
   rw [if_neg h,this,Bool.false_or,ixs_has r s (i+1)]
theorem Ws_getD {ws:List (List UInt8)} {i:Nat} (hi:i < ws.length):(Ws ws).getD (((i:Nat):Int)).toNat AV.undef=vs (bs ws[i]):=by simp [Ws,List.getD_eq_getElem?_getD,hi]
theorem str_eq (a b:List UInt8):((bs a).toList==(bs b).toList)=decide (a=b):=by
 rw [bs_toList,bs_toList]
 by_cases h:a=b <;> simp [h]
theorem index_l (n:Nat) (ws:List (List UInt8)) (hw:ws.length≤1000) (s:List UInt8):∀ (d i m:Nat),i+d=ws.length→d < m→Q4c.l n m (.z2 (Ws ws) (bs s) ws.length i)=some (ixs (ws.drop i) s i)
 | _,_,0,_,h=>absurd h (by omega)
 | 0,i,m+1,h,_=>by
  rw [Q4c.at2]
  unfold Q4c.r2
  rw [cond_f (by omega),List.drop_of_length_le (by omega)]
  rfl
 | d+1,i,m+1,h,hm=>by
  have hi:i < ws.length:=by omega
  have ih:=index_l n ws hw s d (i+1) m (by omega) (by omega)
  rw [Q4c.at2]
  unfold Q4c.r2
  rw [cond_t (by omega),Ws_length,within_t hi,cond_true,Ws_getD hi,List.drop_eq_getElem_cons hi]
  show (bif ((bs s).toList==(bs ws[i]).toList) then _ else _)=_
  rw [str_eq,wsucc (by omega),ih,ixs_cons]
  by_cases h:s=ws[i]
  ·rw [cond_t h,if_pos h.symm]
  ·rw [cond_f h,if_neg (fun e=>h e.symm)]
theorem contains_str {n:Nat} (hn:1001≤n) (ws:List (List UInt8)) (hw:ws.length≤1000) (s:List UInt8):Q48.F n (Ws ws) (bs s)=some (ws.contains s):=by
 unfold Q48.F Q48.e Q4c.F Q4c.e
 have:=index_l n ws hw s ws.length 0 n (by omega) (by omega)
 rw [List.drop_zero] at this
 rw [Ws_length,show (0:Int)=((0:Nat):Int) from rfl,this,Option.bind_some]
 show some (decide (ixs ws s 0≥0))=_
 rw [ixs_has]
theorem nameErr_eq {n:Nat} (hn:1001≤n) (ws:List (List UInt8)) (hw:ws.length≤1000) (s:List UInt8):Q0y.F n (bs s) (Ws ws)=some (if isNm s=false then 7 else if ws.contains s then 13 else 0):=by
 unfold Q0y.F Q0y.e
 rw [isName_eq hn,Option.bind_some,cond_eq,Option.bind_some,contains_str hn ws hw,Option.bind_some,cond_eq,Option.bind_some,first2 hn,Option.bind_some]
 cases isNm s <;> cases ws.contains s <;> rfl
theorem Ws_take (ws:List (List UInt8)) (i:Nat):((Ws ws).take i).drop 0=Ws (ws.take i):=by simp [Ws,List.map_take]
theorem Ws_take2 (ws:List (List UInt8)) (i:Nat):((Ws ws).drop 0).take i=Ws (ws.take i):=by simp [Ws,List.map_take]
end Go.Proofs.YtmpglmcjoelciaaGreatDoor.Ev
namespace Go.Proofs.YtmpglmcjoelciaaGreatDoor.Ev
open Go Go.Proofs Go.Proofs.Ev
set_option linter.unusedVariables false
structure LF where
 nm:List UInt8
 b:Int
 fd:List UInt8
structure JP where
 fr:Int
 lf:List UInt8
 b:Int
 rt:List UInt8
structure KF where
 nm:List UInt8
 d:Bool
structure CN where
 fd:List UInt8
 op:Int
 n:Int
 s:List UInt8
structure RL where
 om:Bool
 cs:List CN
def LF.av (x:LF):AV:=.agg [vs (bs x.nm),vi x.b,vs (bs x.fd)]
def JP.av (x:JP):AV:=.agg [vi x.fr,vs (bs x.lf),vi x.b,vs (bs x.rt)]
def KF.av (x:KF):AV:=.agg [vs (bs x.nm),vb x.d]
def CN.av (x:CN):AV:=.agg [vs (bs x.fd),vi x.op,vi x.n,vs (bs x.s)]
def RL.av (x:RL):AV:=.agg [vb x.om,.sl ⟨true,104⟩ 4 (x.cs.map CN.av)]
theorem at_map {α:Type} (f:α→AV) {l:List α} {i:Nat} (hi:i < l.length):(l.map f).getD (((i:Nat):Int)).toNat AV.undef=f l[i]:=by simp [List.getD_eq_getElem?_getD,hi]
def names (fs:List LF):List (List UInt8):=fs.map LF.nm
def knames (ks:List KF):List (List UInt8):=ks.map KF.nm
def Bl (ts:List Bool):List AV:=ts.map vb
theorem Bl_length (ts:List Bool):(Bl ts).length=ts.length:=by simp [Bl]
def ne (before:List (List UInt8)) (s:List UInt8):Int:=if isNm s=false then 7 else if before.contains s then 13 else 0
def bErr (ws:List (List UInt8)):List (List UInt8)→Nat→Int × Int
 | [],_=>(0,0)
 | w::r,i=>if ne (ws.take i) w≠0 then ((i:Int),ne (ws.take i) w) else bErr ws r (i+1)
def fe (nb:Int) (before:List (List UInt8)) (f:LF):Int:=if ne before f.nm≠0 then ne before f.nm else if ¬ (0≤f.b∧f.b≤nb) then 3 else if isNm f.fd=false then 7 else 0
def fErr (nb:Int) (ns:List (List UInt8)):List LF→Nat→Int × Int
 | [],_=>(0,0)
 | f::r,i=>if fe nb (ns.take i) f≠0 then ((i:Int),fe nb (ns.take i) f) else fErr nb ns r (i+1)
def je (nb last:Int) (j:JP):Int:=if ¬ (1≤j.b∧j.b≤nb) then 3 else if ¬ (0≤j.fr∧j.fr≤j.b - 1) then 3 else if isNm j.lf=false then 7 else if isNm j.rt=false then 7 else if j.b < last then 14 else 0
def jErr (nb:Int):List JP→Nat→Int→List Bool→Int × Int
 | [],_,_,ts=>(0,if (ts.drop 1).contains false then 11 else 0)
 | j::r,i,last,ts=>if je nb last j≠0 then ((i:Int),je nb last j) else jErr nb r (i+1) j.b (ts.set j.b.toNat true)
def ke (ns before:List (List UInt8)) (k:KF):Int:=if ns.contains k.nm=false then 11 else if before.contains k.nm then 13 else 0
def kErr (ns ks:List (List UInt8)):List KF→Nat→Int × Int
 | [],_=>(0,0)
 | k::r,i=>if ke ns (ks.take i) k≠0 then ((i:Int),ke ns (ks.take i) k) else kErr ns ks r (i+1)
def ce (ns:List (List UInt8)) (c:CN):Int:=if ns.contains c.fd=false then 11 else if ¬ (0≤c.op∧c.op≤5) then 4 else if ¬ (-999999999999999≤c.n∧c.n≤999999999999999) then 3 else if c.s.length > 256 then 2 else if c.n≠0∧c.s≠[] then 5 else 0
def cErr (ns:List (List UInt8)):List CN→Int
 | []=>0
 | c::r=>if ce ns c≠0 then ce ns c else cErr ns r
def re (ns:List (List UInt8)) (r:RL):Int:=if r.cs.length > 4 then 2 else cErr ns r.cs
def rErr (ns:List (List UInt8)):List RL→Nat→Int × Int
 | [],_=>(0,0)
 | r::rs,i=>if re ns r≠0 then ((i:Int),re ns r) else rErr ns rs (i+1)
theorem bErr_cons (ws:List (List UInt8)) (w:List UInt8) (r:List (List UInt8)) (i:Nat):bErr ws (w::r) i=if ne (ws.take i) w≠0 then ((i:Int),ne (ws.take i) w) else bErr ws r (i+1):=rfl
theorem fErr_cons (nb:Int) (ns:List (List UInt8)) (f:LF) (r:List LF) (i:Nat):fErr nb ns (f::r) i=if fe nb (ns.take i) f≠0 then ((i:Int),fe nb (ns.take i) f) else fErr nb ns r (i+1):=rfl
theorem jErr_cons (nb:Int) (j:JP) (r:List JP) (i:Nat) (last:Int) (ts:List Bool):jErr nb (j::r) i last ts=if je nb last j≠0 then ((i:Int),je nb last j) else jErr nb r (i+1) j.b (ts.set j.b.toNat true):=rfl
theorem kErr_cons (ns ks:List (List UInt8)) (k:KF) (r:List KF) (i:Nat):kErr ns ks (k::r) i=if ke ns (ks.take i) k≠0 then ((i:Int),ke ns (ks.take i) k) else kErr ns ks r (i+1):=rfl
theorem cErr_cons (ns:List (List UInt8)) (c:CN) (r:List CN):cErr ns (c::r)=if ce ns c≠0 then ce ns c else cErr ns r:=rfl
theorem rErr_cons (ns:List (List UInt8)) (r:RL) (rs:List RL) (i:Nat):rErr ns (r::rs) i=if re ns r≠0 then ((i:Int),re ns r) else rErr ns rs (i+1):=rfl
section
variable {n:Nat} {nm fm:ByteArray} {a2 a4 a5 a7:List AV} {uq:Bool}
theorem namesOf_l (hn:1001≤n) (fs:List LF) (hf:fs.length≤1000):∀ (d i m:Nat),i+d=fs.length→d < m→Q0z.l n m (.z3 (fs.map LF.av) fs.length i (Ws ((names fs).take i)))=some (Ws (names fs))
 | _,_,0,_,h=>absurd h (by omega)
 | 0,i,m+1,h,_=>by
  rw [Q0z.at3]
  unfold Q0z.r3
  rw [cond_f (by omega),List.take_of_length_le (by simp [names]; omega)]
 | d+1,i,m+1,h,hm=>by
  have hi:i < fs.length:=by omega
  have ih:=namesOf_l hn fs hf d (i+1) m (by omega) (by omega)
  have hmost:most=1000000000:=rfl
  have hni:i < (names fs).length:=by simp [names]; omega
  have e2:(names fs)[i]=fs[i].nm:=by simp [names]
  rw [Q0z.at3]
  unfold Q0z.r3
  rw [cond_t (by omega),List.length_map,within_t hi,cond_true,at_map LF.av hi]
  show (bif decide ((Ws ((names fs).take i)).length+1≤most) then (Q0z.l n m (.z3 (fs.map LF.av) fs.length (IntKind.i64.wrap ((i:Int)+1)) (Ws ((names fs).take i)++[vs (bs fs[i].nm)]))) else none)=_
  rw [cond_t (by rw [Ws_length,List.length_take]; omega),wsucc (by omega),Ws_snoc,← e2,← List.take_succ_eq_append_getElem hni]
  exact ih
theorem namesOf_eq (hn:1001≤n) (fs:List LF) (hf:fs.length≤1000):Q0z.F n nm fm a2 (fs.map LF.av) a4 a5 uq a7=some (Ws (names fs)):=by
 unfold Q0z.F Q0z.e
 rw [List.length_map]
 exact namesOf_l hn fs hf fs.length 0 n (by omega) (by omega)
theorem basesErr_l (hn:1001≤n) (ws:List (List UInt8)) (hw:ws.length≤1000) (a3:List AV):∀ (d i m:Nat),i+d=ws.length→d < m→Q0e.l n m (.z5 (Ws ws) ws.length i nm fm (Ws ws) a3 a4 a5 uq a7)=some (bErr ws (ws.drop i) i)
 | _,_,0,_,h=>absurd h (by omega)
 | 0,i,m+1,h,_=>by
  rw [Q0e.at5]
  unfold Q0e.r5
  rw [cond_f (by omega),List.drop_of_length_le (by omega)]
  rfl
 | d+1,i,m+1,h,hm=>by
  have hi:i < ws.length:=by omega
  have ih:=basesErr_l hn ws hw a3 d (i+1) m (by omega) (by omega)
  rw [Q0e.at5]
  unfold Q0e.r5
  rw [cond_t (by omega),Ws_length,within_t hi,cond_true,Ws_getD hi,upto_t (Nat.le_of_lt hi),List.drop_eq_getElem_cons hi]
  show (Q0y.F n (bs ws[i]) (((Ws ws).take i).drop 0)).bind _=_
  rw [Ws_take,nameErr_eq hn _ (by rw [List.length_take]; omega),Option.bind_some,wsucc (by omega),ih]
  rw [bErr_cons]
  show (bif ne (ws.take i) ws[i] != 0 then some ((i:Int),ne (ws.take i) ws[i]) else _)=_
  by_cases h0:ne (ws.take i) ws[i]=0
  ·have:(ne (ws.take i) ws[i] != 0)=false:=by simp [h0]
   rw [this,cond_false,if_neg (by simp [h0])]
  ·have:(ne (ws.take i) ws[i] != 0)=true:=by simp [h0]
   rw [this,cond_true,if_pos h0]
def bErrT (ws:List (List UInt8)):Int × Int:=if ws.length=0 then (0,1) else if ws.length > 3 then (0,2) else bErr ws ws 0
theorem sizes_first {n:Nat} (hn:1001≤n) (a b:Bool):Q0m.F n [vi (if a then 1 else 0),vi (if b then 2 else 0)]=some (if a then 1 else if b then 2 else 0):=by
 rw [first2 hn]
 cases a <;> cases b <;> rfl
theorem basesErr_eq (hn:1001≤n) (ws:List (List UInt8)) (hw:ws.length≤1000) (a3:List AV):Q0e.F n nm fm (Ws ws) a3 a4 a5 uq a7=some (bErrT ws):=by
 unfold Q0e.F Q0e.e bErrT
 simp only [Ws_length]
 rw [cond_eq,Option.bind_some,cond_eq,Option.bind_some,sizes_first hn,Option.bind_some,beq_int]
 by_cases h0:ws.length=0
 ·have:decide (((ws.length:Nat):Int)=0)=true:=by rw [decide_eq_true_eq]; omega
  rw [this,if_pos h0]
  rfl
 ·have:decide (((ws.length:Nat):Int)=0)=false:=by rw [decide_eq_false_iff_not]; omega
  rw [this,if_neg h0]
  by_cases h3:ws.length > 3
  ·have:decide (((ws.length:Nat):Int) > 3)=true:=by rw [decide_eq_true_eq]; omega
   rw [this,if_pos h3]
   rfl
  ·have:decide (((ws.length:Nat):Int) > 3)=false:=by rw [decide_eq_false_iff_not]; omega
   rw [this,if_neg h3]
   have:=basesErr_l (nm:=nm) (fm:=fm) (a4:=a4) (a5:=a5) (uq:=uq) (a7:=a7) hn ws hw a3 ws.length 0 n (by omega) (by omega)
   rw [List.drop_zero] at this
   exact this
theorem fieldsErr_l (hn:1001≤n) (ws:List (List UInt8)) (hw:ws.length≤1000) (fs:List LF) (hf:fs.length≤1000):∀ (d i m:Nat),i+d=fs.length→d < m→
  Q0i.l n m (.z6 (fs.map LF.av) fs.length i nm fm (Ws ws) (fs.map LF.av) a4 a5 uq a7 (Ws (names fs)))=some (fErr ((ws.length:Int) - 1) (names fs) (fs.drop i) i)
 | _,_,0,_,h=>absurd h (by omega)
 | 0,i,m+1,h,_=>by
  rw [Q0i.at6]
  unfold Q0i.r6
  rw [cond_f (by omega),List.drop_of_length_le (by omega)]
  rfl
 | d+1,i,m+1,h,hm=>by
  have hi:i < fs.length:=by omega
  have hni:(names fs).length=fs.length:=by simp [names]
  have ih:=fieldsErr_l hn ws hw fs hf d (i+1) m (by omega) (by omega)
  rw [Q0i.at6]
  unfold Q0i.r6
  rw [cond_t (by omega),List.length_map,within_t hi,cond_true,at_map LF.av hi,List.drop_eq_getElem_cons hi]
  show (bif decide ((0:Int)≤(i:Int))&&decide ((i:Int)≤(((Ws (names fs)).length:Nat):Int)) then ((Q0y.F n (bs fs[i].nm) (((Ws (names fs)).drop 0).take (((i:Int) - 0).toNat))).bind _) else none)=_
  rw [Ws_length,upto_t (by omega),cond_true,show ((i:Int) - 0).toNat=i by omega,Ws_take2,nameErr_eq hn _ (by rw [List.length_take]; omega),Option.bind_some]
  show ((Q0o.F n fs[i].b 0 (IntKind.i64.wrap ((((Ws ws).length:Nat):Int) - 1))).bind _)=_
  rw [Ws_length,w64 (by omega) (by omega)]
  have hin:Q0o.F n fs[i].b 0 ((ws.length:Int) - 1)=some (decide (0≤fs[i].b∧fs[i].b≤(ws.length:Int) - 1)):=by
   unfold Q0o.F Q0o.e
   by_cases h:0≤fs[i].b
   ·rw [cond_t h]; simp [h]
   ·rw [cond_f h]; simp [h]
  rw [hin,Option.bind_some,cond_eq,Option.bind_some,isName_eq hn,Option.bind_some,cond_eq,Option.bind_some,wsucc (by omega),ih]
  rw [fErr_cons]
  have hfz:=first_eq (n:=n) [ne ((names fs).take i) fs[i].nm,(if (!decide (0≤fs[i].b∧fs[i].b≤(ws.length:Int) - 1))=true then 3 else 0),(if (!isNm fs[i].fd)=true then 7 else 0)] (by simp) hn
  show ((Q0m.F n ([ne ((names fs).take i) fs[i].nm,(if (!decide (0≤fs[i].b∧fs[i].b≤(ws.length:Int) - 1))=true then 3 else 0),(if (!isNm fs[i].fd)=true then 7 else 0)].map vi)).bind _)=_
  rw [hfz,Option.bind_some]
  have e:fz [ne ((names fs).take i) fs[i].nm,(if (!decide (0≤fs[i].b∧fs[i].b≤(ws.length:Int) - 1))=true then 3 else 0),(if (!isNm fs[i].fd)=true then 7 else 0)]=fe ((ws.length:Int) - 1) ((names fs).take i) fs[i]:=by
   unfold fe
   by_cases h1:ne ((names fs).take i) fs[i].nm=0
   ·by_cases h2:0≤fs[i].b∧fs[i].b≤(ws.length:Int) - 1
    ·cases h3:isNm fs[i].fd <;> simp [fz,h1,h2]
    ·simp [fz,h1,h2]
   ·simp [fz,h1]
  rw [e]
  by_cases h0:fe ((ws.length:Int) - 1) ((names fs).take i) fs[i]=0
  ·have:(fe ((ws.length:Int) - 1) ((names fs).take i) fs[i] != 0)=false:=by simp [h0]
   rw [this,cond_false,if_neg (by simp [h0])]
  ·have:(fe ((ws.length:Int) - 1) ((names fs).take i) fs[i] != 0)=true:=by simp [h0]
   rw [this,cond_true,if_pos h0]
def fErrT (ws:List (List UInt8)) (fs:List LF):Int × Int:=if fs.length=0 then (0,1) else if fs.length > 20 then (0,2) else fErr ((ws.length:Int) - 1) (names fs) fs 0
theorem fieldsErr_eq (hn:1001≤n) (ws:List (List UInt8)) (hw:ws.length≤1000) (fs:List LF) (hf:fs.length≤1000):Q0i.F n nm fm (Ws ws) (fs.map LF.av) a4 a5 uq a7=some (fErrT ws fs):=by
 unfold Q0i.F Q0i.e fErrT
 simp only [List.length_map]
 rw [cond_eq,Option.bind_some,cond_eq,Option.bind_some,sizes_first hn,Option.bind_some,beq_int]
 by_cases h0:fs.length=0
 ·have:decide (((fs.length:Nat):Int)=0)=true:=by rw [decide_eq_true_eq]; omega
  rw [this,if_pos h0]
  rfl
 ·have:decide (((fs.length:Nat):Int)=0)=false:=by rw [decide_eq_false_iff_not]; omega
  rw [this,if_neg h0]
  by_cases h3:fs.length > 20
  ·have:decide (((fs.length:Nat):Int) > 20)=true:=by rw [decide_eq_true_eq]; omega
   rw [this,if_pos h3]
   rfl
  ·have:decide (((fs.length:Nat):Int) > 20)=false:=by rw [decide_eq_false_iff_not]; omega
   rw [this,if_neg h3]
   show ((Q0z.F n nm fm (Ws ws) (fs.map LF.av) a4 a5 uq a7).bind _)=_
   rw [namesOf_eq hn fs hf,Option.bind_some]
   have:=fieldsErr_l (nm:=nm) (fm:=fm) (a4:=a4) (a5:=a5) (uq:=uq) (a7:=a7) hn ws hw fs hf fs.length 0 n (by omega) (by omega)
   rw [List.drop_zero] at this
   exact this
end
end Go.Proofs.YtmpglmcjoelciaaGreatDoor.Ev
namespace Go.Proofs.YtmpglmcjoelciaaGreatDoor.Ev
open Go Go.Proofs Go.Proofs.Ev
set_option linter.unusedVariables false
section
variable {R:Type}
theorem cells_agg (cs:List AV):(AV.agg cs).cells=cs:=rfl
theorem cells_v (x:Value):(AV.v x).cells=[.v x]:=rfl
theorem withCons_cons (c:AV) (r:List AV) (K:AV→List AV→Option R):withCons (c::r) K=K c r:=rfl
theorem withInt_mk (k:IntKind) (n:Int) (K:Int→Option R):withInt k (.v (.int k n)) K=K n:=by simp [withInt]
theorem withStr_mk (s:ByteArray) (K:ByteArray→Option R):withStr (.v (.string s)) K=K s:=rfl
theorem withBool_mk (b:Bool) (K:Bool→Option R):withBool (.v (.bool b)) K=K b:=rfl
theorem withSl_mk (fl:Fl) (sz:Nat) (xs:List AV) (K:List AV→Option R):withSl fl sz (.sl fl sz xs) K=K xs:=by
 have:(fl==fl)=true:=by simp
 simp [withSl]
theorem bif_ite {p:Prop} [Decidable p] (x y:R):(bif decide p then x else y)=if p then x else y:=by by_cases h:p <;> simp [h]
theorem bif_eq0 (a b:Int) (x y:R):(bif a==b then x else y)=if a=b then x else y:=by
 show (bif decide (a=b) then x else y)=_
 exact bif_ite x y
theorem at_mapN {α:Type} (f:α→AV) {l:List α} {i:Nat} (hi:i < l.length):(l.map f).getD i AV.undef=f l[i]:=by simp [List.getD_eq_getElem?_getD,hi]
theorem Ws_getDN {ws:List (List UInt8)} {i:Nat} (hi:i < ws.length):(Ws ws).getD i AV.undef=vs (bs ws[i]):=by simp [Ws,List.getD_eq_getElem?_getD,hi]
end
end Go.Proofs.YtmpglmcjoelciaaGreatDoor.Ev
end
