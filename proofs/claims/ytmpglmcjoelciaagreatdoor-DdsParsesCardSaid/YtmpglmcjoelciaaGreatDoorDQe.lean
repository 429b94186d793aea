import Derived.Test.YtmpglmcjoelciaaGreatDoorDQd
import Derived.Test.YtmpglmcjoelciaaGreatDoorRows
import Derived.Test.YtmpglmcjoelciaaGreatDoorCards
import Derived.Test.YtmpglmcjoelciaaGreatDoorTie
import Derived.Test.YtmpglmcjoelciaaGreatDoorDQVc
import Derived.Lay
import Derived.SevenTiedAt
noncomputable section
namespace Go.Proofs.YtmpglmcjoelciaaGreatDoor.ddsParses
open Go Go.Proofs Go.Proofs.Ev Go.Proofs.YtmpglmcjoelciaaGreatDoor.Ev Go.ChangeShapes Go.WideShapes Go.ChangeAt Go.RowKit
set_option linter.unusedVariables false
theorem own:ownKnob Tryz.prog.godebug=none:=by kernel_rfl
theorem laidOut:laidOutB Tryz.prog=true:=by kernel_rfl
theorem plain (xs:List AV) (h:ArgL G 9 Tryz.f5.params.toList xs):HandsIn Tryz.prog 5 xs (vb true):=by
 rw [Tryz.params5] at h
 obtain ⟨x0,r0,rfl,hx0,rfl⟩:=h
 obtain ⟨zs0,hA0,rfl⟩:=hx0
 obtain ⟨a0,rfl,_,ha0⟩:=hA0
 obtain ⟨l2,rfl⟩:=map_of' (f:=fun w=>vs (bs w)) ha0 (fun y hy=>by obtain ⟨s,hs,_⟩:=hy; cases hs; exact ⟨s.data.toList,rfl⟩)
 exact Q2d.hands 1000002 (Ws l2) true (parses_law (Nat.le_refl _) l2)
theorem spec (H:Type) (ds:List (DataW H)) (hl:ds.length=1):Rows.ddsParsesSpec.fn H ds={ results:=[.lit (.bool true)],args:=ds }:=by
 match ds,hl with
 | [_],_=>rfl
theorem sented {W:World} (hQ:W.ShapedOpen Tryz.prog) (hL:laidMetH Tryz.prog Rows.ddsParsesRow.laid W):Rooted.Q Tryz.prog W:=by
 have h0:laidMet Tryz.prog Rows.ddsParsesRow.laid W:=by rw [← MakeChecks.laidMetH_plain _ _ _ (by kernel_rfl)]; exact hL
 have h1:=laidMet_tail h0
 have h2:=laidMet_tail h1
 have h3:=laidMet_tail h2
 have h4:=laidMet_tail h3
 have h5:=laidMet_tail h4
 have h6:=laidMet_tail h5
 have h7:=laidMet_tail h6
 have hd:Rows.laid_internal_strconv_uint64pow10 (H:=Unit)=Lib.tabData .u64 Lib.pow10Tab:=by rfl
 exact ⟨Sents.cons (Sents.cons (Sents.nil hQ) (sent_of_laid (n := "strconv.ErrRange") h4 (by kernel_rfl))) (sent_of_laid (n := "strconv.ErrSyntax") h5 (by kernel_rfl)), Tabs.cons (Lib.tabIs_of_head (g := 2) (t := 216) (e := 195) (n := 20) (by kernel_rfl) (by kernel_rfl) (by kernel_rfl) (by kernel_rfl) (by kernel_rfl) (by kernel_rfl) (by rw [← hd]; exact h2)) Tabs.nil, GlobsL.cons (glob_of_laid (G := G) cfg (k := 9) (t := 23) h6 (by kernel_rfl) (by kernel_rfl) (by kernel_rfl) (by kernel_rfl)) (GlobsL.nil)⟩
set_option maxRecDepth 100000 in
theorem lifted (os:Os) (started:os.Started) (H:Type) (enc:TypeId × Value→H) :
  ReturnsInHanded {} Tryz.checked os 5 .any (fun w args=>(Rows.ddsParsesSpec.pre enc Tryz.prog Tryz.f5 Rows.ddsParsesRow.domain false w args∧laidMetH Tryz.prog Rows.ddsParsesRow.laid w)∧sizedMet enc Tryz.prog Tryz.f5 (OpenSpec.ofChange Rows.ddsParsesSpec) false w args) (Rows.ddsParsesSpec.post enc Tryz.prog Tryz.f5 false true false false):=by
 refine returns_of_laid (C:=Tryz.checked) (X:=fun w _=>laidMetH Tryz.prog Rows.ddsParsesRow.laid w) (fun _ _ _ hh h=>h.of_heap hh) own started (by kernel_rfl) Tryz.func5
  (ChangeSpec.witness_shaped (enc:=enc) (C:=Tryz.checked) (os:=os) (X:=fun w _=>laidMetH Tryz.prog Rows.ddsParsesRow.laid w) false (World.laidAll Tryz.prog os Rows.ddsParsesRow.laid) #[.slice none 0 0] 8 (World.laidAll_os _ _ _)
   (World.shaped_of_ZipB (by kernel_rfl) (by kernel_rfl)) (by kernel_rfl) (by kernel_rfl) (by kernel_rfl)
   (by rw [MakeChecks.laidMetH_plain _ _ _ (by kernel_rfl)]; exact laidMet_laidAll _ (by kernel_rfl) (by kernel_rfl))) ?_
 intro W base args ds gs before hval hW hQ hL
 exact law_calls (G:=G) (n:=9) cfg laidOut (by kernel_rfl) (by kernel_rfl) rfl Tryz.underlying4 rfl (fun ds hl=>spec H ds (hl.trans (congrArg Array.size Tryz.params5))) hval hW (sented hQ hL) plain
theorem over:Rows.ddsParsesRow.holds Tryz.pinned (OpenSpec.ofChange Rows.ddsParsesSpec):=
 OpenClaim.holds_of_wide 5 Tryz.f5 rfl rfl rfl rfl rfl rfl rfl ⟨rfl,rfl,rfl,rfl,rfl⟩ rfl rfl rfl rfl rfl (by kernel_rfl) Tryz.func5 (by kernel_rfl)
  (of_decide_eq_true (by kernel_rfl)) (by unfold Func.isWrapper; first | (rw [if_pos (by decide +kernel)]; kernel_rfl) | (rw [if_neg (by decide +kernel)]; exact ⟨rfl,rfl⟩))
  (fun os started H enc _=>lifted os started H enc)
theorem carded:Rows.DdsParsesCardSaid:=
 Claim7.holds_tied_plain_at .later [] [.data, .data, .data, .data, .sentinel, .sentinel, .widerDeep, .pinned] true (true, "8470e0a86b50cc07e755685173884c839f38d682c1521856bcf08491a532a02b") true over (fun _ h => by cases h) (by kernel_rfl) (fun _ h => by cases h) ddsParses_row_tie rfl ⟨rfl, rfl⟩ (by kernel_rfl) rfl
  (fun f fn hf hfn=>by
   obtain rfl : f = 5 := Option.some.inj ((show Tryz.prog.funcNamed "midrange/midrangelaw25.DdsParses" = some 5 by kernel_rfl).symm.trans hf) |>.symm
   obtain rfl:fn=Tryz.f5:=(Option.some.inj (Tryz.func5.symm.trans hfn)).symm
   exact ⟨by kernel_rfl,fun j t ht=>by
    rw [Tryz.params5] at ht
    have hm:t∈[23]:=by simpa using Array.mem_of_getElem? ht
    have hall:([23].all fun u=>!Tryz.prog.wantsStandIn u)=true:=by kernel_rfl
    exact (show Tryz.prog.wantsStandIn t=false by simpa using List.all_eq_true.1 hall t hm)⟩)
  (by kernel_rfl)
end Go.Proofs.YtmpglmcjoelciaaGreatDoor.ddsParses
namespace Go.Proofs.YtmpglmcjoelciaaGreatDoor
theorem ddsParses_holds:Rows.DdsParsesCardSaid:=ddsParses.carded
end Go.Proofs.YtmpglmcjoelciaaGreatDoor
end
