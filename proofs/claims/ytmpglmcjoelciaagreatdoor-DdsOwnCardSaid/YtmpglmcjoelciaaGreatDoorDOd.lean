import Derived.Test.YtmpglmcjoelciaaGreatDoorDOc
import Derived.Test.YtmpglmcjoelciaaGreatDoorRows
import Derived.Test.YtmpglmcjoelciaaGreatDoorCards
import Derived.Test.YtmpglmcjoelciaaGreatDoorTie
import Derived.Test.YtmpglmcjoelciaaGreatDoorDOVc
import Derived.Lay
import Derived.SevenTiedAt
noncomputable section
namespace Go.Proofs.YtmpglmcjoelciaaGreatDoor.ddsOwn
open Go Go.Proofs Go.Proofs.Ev Go.Proofs.YtmpglmcjoelciaaGreatDoor.Ev Go.ChangeShapes Go.WideShapes Go.ChangeAt Go.RowKit
set_option linter.unusedVariables false
theorem own:ownKnob Tryz.prog.godebug=none:=by kernel_rfl
theorem laidOut:laidOutB Tryz.prog=true:=by kernel_rfl
theorem plain (xs:List AV) (h:ArgL G 9 Tryz.f10.params.toList xs):HandsIn Tryz.prog 10 xs (vb true):=by
 rw [Tryz.params10] at h
 obtain ⟨x0,r0,rfl,hx0,x1,r1,rfl,hx1,x2,r2,rfl,hx2,rfl⟩:=h
 obtain ⟨zs0,hA0,rfl⟩:=hx0
 obtain ⟨zs1,hA1,rfl⟩:=hx1
 obtain ⟨zs2,hA2,rfl⟩:=hx2
 obtain ⟨p1,q2,rfl,⟨a0,rfl,_⟩,p3,q4,rfl,⟨a1,rfl,_⟩,p5,q6,rfl,⟨a2,rfl,_,ha2⟩,p7,q8,rfl,⟨a4,rfl,_,ha4⟩,p9,q10,rfl,⟨a9,rfl,_,ha9⟩,p11,q12,rfl,⟨a15,rfl,_,ha15⟩,p13,q14,rfl,⟨a19,rfl⟩,p15,q16,rfl,⟨a20,rfl,_,ha20⟩,rfl⟩:=hA0
 obtain ⟨a29,rfl,_,ha29⟩:=hA1
 obtain ⟨a44,rfl,_,ha44⟩:=hA2
 obtain ⟨l4,rfl⟩:=map_of' (f:=fun w=>vs (bs w)) ha2 (fun y hy=>by obtain ⟨s,hs,_⟩:=hy; cases hs; exact ⟨s.data.toList,rfl⟩)
 obtain ⟨l6,rfl⟩:=map_of' (f:=LF.av) ha4 (fun y hy=>by
  obtain ⟨_,rfl,hy⟩:=hy
  obtain ⟨_,_,rfl,⟨s7,rfl,_⟩,_,_,rfl,⟨i8,rfl,_⟩,_,_,rfl,⟨s9,rfl,_⟩,rfl⟩:=hy
  exact ⟨⟨s7.data.toList,i8,s9.data.toList⟩,rfl⟩)
 obtain ⟨l11,rfl⟩:=map_of' (f:=JP.av) ha9 (fun y hy=>by
  obtain ⟨_,rfl,hy⟩:=hy
  obtain ⟨_,_,rfl,⟨i12,rfl,_⟩,_,_,rfl,⟨s13,rfl,_⟩,_,_,rfl,⟨i14,rfl,_⟩,_,_,rfl,⟨s15,rfl,_⟩,rfl⟩:=hy
  exact ⟨⟨i12,s13.data.toList,i14,s15.data.toList⟩,rfl⟩)
 obtain ⟨l17,rfl⟩:=map_of' (f:=KF.av) ha15 (fun y hy=>by
  obtain ⟨_,rfl,hy⟩:=hy
  obtain ⟨_,_,rfl,⟨s18,rfl,_⟩,_,_,rfl,⟨b19,rfl⟩,rfl⟩:=hy
  exact ⟨⟨s18.data.toList,b19⟩,rfl⟩)
 obtain ⟨l22,rfl⟩:=map_of' (f:=RL.av) ha20 (fun y hy=>by
  obtain ⟨_,rfl,hy⟩:=hy
  obtain ⟨_,_,rfl,⟨b23,rfl⟩,_,_,rfl,⟨x24,rfl,_,hx24⟩,rfl⟩:=hy
  obtain ⟨l25,rfl⟩:=map_of' (f:=CN.av) hx24 (fun y hy=>by
   obtain ⟨_,rfl,hy⟩:=hy
   obtain ⟨_,_,rfl,⟨s26,rfl,_⟩,_,_,rfl,⟨i27,rfl,_⟩,_,_,rfl,⟨_,_,rfl,⟨i28,rfl,_⟩,_,_,rfl,⟨s29,rfl,_⟩,rfl⟩,rfl⟩:=hy
   exact ⟨⟨s26.data.toList,i27,i28,s29.data.toList⟩,rfl⟩)
  exact ⟨⟨b23,l25⟩,rfl⟩)
 obtain ⟨l31,rfl⟩:=map_of' (f:=FL.av) ha29 (fun y hy=>by
  obtain ⟨_,rfl,hy⟩:=hy
  obtain ⟨_,_,rfl,⟨s32,rfl,_⟩,_,_,rfl,⟨_,_,rfl,⟨s33,rfl,_⟩,_,_,rfl,⟨x34,rfl,_,hx34⟩,rfl⟩,_,_,rfl,⟨x40,rfl,_,hx40⟩,_,_,rfl,⟨b44,rfl⟩,rfl⟩:=hy
  obtain ⟨l35,rfl⟩:=map_of' (f:=FD.av) hx34 (fun y hy=>by
   obtain ⟨_,rfl,hy⟩:=hy
   obtain ⟨_,_,rfl,⟨s36,rfl,_⟩,_,_,rfl,⟨_,_,rfl,⟨i37,rfl,_⟩,_,_,rfl,⟨i38,rfl,_⟩,_,_,rfl,⟨i39,rfl,_⟩,rfl⟩,rfl⟩:=hy
   exact ⟨⟨s36.data.toList,i37,i38,i39⟩,rfl⟩)
  obtain ⟨l41,rfl⟩:=map_of' (f:=KF.av) hx40 (fun y hy=>by
   obtain ⟨_,rfl,hy⟩:=hy
   obtain ⟨_,_,rfl,⟨s42,rfl,_⟩,_,_,rfl,⟨b43,rfl⟩,rfl⟩:=hy
   exact ⟨⟨s42.data.toList,b43⟩,rfl⟩)
  exact ⟨⟨s32.data.toList,s33.data.toList,l35,l41,b44⟩,rfl⟩)
 obtain ⟨l46,rfl⟩:=map_of' (f:=fun w=>vs (bs w)) ha44 (fun y hy=>by obtain ⟨s,hs,_⟩:=hy; cases hs; exact ⟨s.data.toList,rfl⟩)
 exact Q2c.hands 1000002 (a0,a1,(Ws l4),((List.map LF.av) l6),((List.map JP.av) l11),((List.map KF.av) l17),a19,((List.map RL.av) l22),((List.map FL.av) l31),(Ws l46)) true (own_law (Nat.le_refl _) a0 a1 l4 l6 l11 l17 a19 l22 l31 l46)
theorem spec (H:Type) (ds:List (DataW H)) (hl:ds.length=3):Rows.ddsOwnSpec.fn H ds={ results:=[.lit (.bool true)],args:=ds }:=by
 match ds,hl with
 | [_,_,_],_=>rfl
theorem sented {W:World} (hQ:W.ShapedOpen Tryz.prog) (hL:laidMetH Tryz.prog Rows.ddsOwnRow.laid W):Rooted.Q Tryz.prog W:=by
 have h0:laidMet Tryz.prog Rows.ddsOwnRow.laid W:=by rw [← MakeChecks.laidMetH_plain _ _ _ (by kernel_rfl)]; exact hL
 have h1:=laidMet_tail h0
 have h2:=laidMet_tail h1
 have h3:=laidMet_tail h2
 have h4:=laidMet_tail h3
 have h5:=laidMet_tail h4
 have h6:=laidMet_tail h5
 have h7:=laidMet_tail h6
 have hd:Rows.laid_internal_strconv_uint64pow10 (H:=Unit)=Lib.tabData .u64 Lib.pow10Tab:=by rfl
 exact ⟨Sents.cons (Sents.cons (Sents.nil hQ) (sent_of_laid (n := "strconv.ErrRange") h4 (by kernel_rfl))) (sent_of_laid (n := "strconv.ErrSyntax") h5 (by kernel_rfl)), Tabs.cons (Lib.tabIs_of_head (g := 2) (t := 216) (e := 195) (n := 20) (by kernel_rfl) (by kernel_rfl) (by kernel_rfl) (by kernel_rfl) (by kernel_rfl) (by kernel_rfl) (by rw [← hd]; exact h2)) Tabs.nil, GlobsL.cons (glob_of_laid (G := G) cfg (k := 9) (t := 23) h6 (by kernel_rfl) (by kernel_rfl) (by kernel_rfl) (by kernel_rfl)) (GlobsL.nil)⟩
set_option maxRecDepth 100000 in
theorem lifted (os:Os) (started:os.Started) (H:Type) (enc:TypeId × Value→H) :
  ReturnsInHanded {} Tryz.checked os 10 .any (fun w args=>(Rows.ddsOwnSpec.pre enc Tryz.prog Tryz.f10 Rows.ddsOwnRow.domain false w args∧laidMetH Tryz.prog Rows.ddsOwnRow.laid w)∧sizedMet enc Tryz.prog Tryz.f10 (OpenSpec.ofChange Rows.ddsOwnSpec) false w args) (Rows.ddsOwnSpec.post enc Tryz.prog Tryz.f10 false true false false):=by
 refine returns_of_laid (C:=Tryz.checked) (X:=fun w _=>laidMetH Tryz.prog Rows.ddsOwnRow.laid w) (fun _ _ _ hh h=>h.of_heap hh) own started (by kernel_rfl) Tryz.func10
  (ChangeSpec.witness_shaped (enc:=enc) (C:=Tryz.checked) (os:=os) (X:=fun w _=>laidMetH Tryz.prog Rows.ddsOwnRow.laid w) false (World.laidAll Tryz.prog os Rows.ddsOwnRow.laid) #[.agg #[.string ByteArray.empty,.string ByteArray.empty,.slice none 0 0,.slice none 0 0,.slice none 0 0,.slice none 0 0,.bool false,.slice none 0 0],.slice none 0 0,.slice none 0 0] 8 (World.laidAll_os _ _ _)
   (World.shaped_of_ZipB (by kernel_rfl) (by kernel_rfl)) (by kernel_rfl) (by kernel_rfl) (by kernel_rfl)
   (by rw [MakeChecks.laidMetH_plain _ _ _ (by kernel_rfl)]; exact laidMet_laidAll _ (by kernel_rfl) (by kernel_rfl))) ?_
 intro W base args ds gs before hval hW hQ hL
 exact law_calls (G:=G) (n:=9) cfg laidOut (by kernel_rfl) (by kernel_rfl) rfl Tryz.underlying4 rfl (fun ds hl=>spec H ds (hl.trans (congrArg Array.size Tryz.params10))) hval hW (sented hQ hL) plain
theorem over:Rows.ddsOwnRow.holds Tryz.pinned (OpenSpec.ofChange Rows.ddsOwnSpec):=
 OpenClaim.holds_of_wide 10 Tryz.f10 rfl rfl rfl rfl rfl rfl rfl ⟨rfl,rfl,rfl,rfl,rfl⟩ rfl rfl rfl rfl rfl (by kernel_rfl) Tryz.func10 (by kernel_rfl)
  (of_decide_eq_true (by kernel_rfl)) (by unfold Func.isWrapper; first | (rw [if_pos (by decide +kernel)]; kernel_rfl) | (rw [if_neg (by decide +kernel)]; exact ⟨rfl,rfl⟩))
  (fun os started H enc _=>lifted os started H enc)
theorem carded:Rows.DdsOwnCardSaid:=
 Claim7.holds_tied_plain_at .later [] [.data, .data, .data, .data, .sentinel, .sentinel, .widerDeep, .pinned] true (true, "8470e0a86b50cc07e755685173884c839f38d682c1521856bcf08491a532a02b") true over (fun _ h => by cases h) (by kernel_rfl) (fun _ h => by cases h) ddsOwn_row_tie rfl ⟨rfl, rfl⟩ (by kernel_rfl) rfl
  (fun f fn hf hfn=>by
   obtain rfl : f = 10 := Option.some.inj ((show Tryz.prog.funcNamed "midrange/midrangelaw25.DdsOwn" = some 10 by kernel_rfl).symm.trans hf) |>.symm
   obtain rfl:fn=Tryz.f10:=(Option.some.inj (Tryz.func10.symm.trans hfn)).symm
   exact ⟨by kernel_rfl,fun j t ht=>by
    rw [Tryz.params10] at ht
    have hm:t∈[36,74,23]:=by simpa using Array.mem_of_getElem? ht
    have hall:([36,74,23].all fun u=>!Tryz.prog.wantsStandIn u)=true:=by kernel_rfl
    exact (show Tryz.prog.wantsStandIn t=false by simpa using List.all_eq_true.1 hall t hm)⟩)
  (by kernel_rfl)
end Go.Proofs.YtmpglmcjoelciaaGreatDoor.ddsOwn
namespace Go.Proofs.YtmpglmcjoelciaaGreatDoor
theorem ddsOwn_holds:Rows.DdsOwnCardSaid:=ddsOwn.carded
end Go.Proofs.YtmpglmcjoelciaaGreatDoor
end
