import Derived.Test.YtmpglmcjoelciaaGreatDoorDBc
import Derived.Test.YtmpglmcjoelciaaGreatDoorRows
import Derived.Test.YtmpglmcjoelciaaGreatDoorCards
import Derived.Test.YtmpglmcjoelciaaGreatDoorTie
import Derived.Test.YtmpglmcjoelciaaGreatDoorDBVc
import Derived.Lay
import Derived.SevenTiedAt
noncomputable section
namespace Go.Proofs.YtmpglmcjoelciaaGreatDoor.ddsBack
open Go Go.Proofs Go.Proofs.Ev Go.Proofs.YtmpglmcjoelciaaGreatDoor.Ev Go.ChangeShapes Go.WideShapes Go.ChangeAt Go.RowKit
set_option linter.unusedVariables false
theorem own:ownKnob Tryz.prog.godebug=none:=by kernel_rfl
theorem laidOut:laidOutB Tryz.prog=true:=by kernel_rfl
theorem plain (xs:List AV) (h:ArgL G 9 Tryz.f7.params.toList xs):HandsIn Tryz.prog 7 xs (vb true):=by
 rw [Tryz.params7] at h
 obtain ⟨x0,r0,rfl,hx0,x1,r1,rfl,hx1,rfl⟩:=h
 obtain ⟨zs0,hA0,rfl⟩:=hx0
 obtain ⟨zs1,hA1,rfl⟩:=hx1
 obtain ⟨p1,q2,rfl,⟨a0,rfl⟩,p3,q4,rfl,⟨p5,q6,rfl,⟨a1,rfl,_⟩,p7,q8,rfl,⟨p9,q10,rfl,⟨a2,rfl,_⟩,p11,q12,rfl,⟨a3,rfl,_,ha3⟩,rfl⟩,p13,q14,rfl,⟨a9,rfl,_,ha9⟩,p15,q16,rfl,⟨a13,rfl⟩,rfl⟩,p17,q18,rfl,⟨p19,q20,rfl,⟨a14,rfl,_⟩,p21,q22,rfl,⟨a15,rfl,_⟩,p23,q24,rfl,⟨a16,rfl,_,ha16⟩,p25,q26,rfl,⟨a18,rfl,_,ha18⟩,p27,q28,rfl,⟨a23,rfl,_,ha23⟩,p29,q30,rfl,⟨a29,rfl,_,ha29⟩,p31,q32,rfl,⟨a33,rfl⟩,p33,q34,rfl,⟨a34,rfl,_,ha34⟩,rfl⟩,rfl⟩:=hA0
 obtain ⟨a43,rfl,_,ha43⟩:=hA1
 obtain ⟨l5,rfl⟩:=map_of' (f:=FD.av) ha3 (fun y hy=>by
  obtain ⟨_,rfl,hy⟩:=hy
  obtain ⟨_,_,rfl,⟨s6,rfl,_⟩,_,_,rfl,⟨_,_,rfl,⟨i7,rfl,_⟩,_,_,rfl,⟨i8,rfl,_⟩,_,_,rfl,⟨i9,rfl,_⟩,rfl⟩,rfl⟩:=hy
  exact ⟨⟨s6.data.toList,i7,i8,i9⟩,rfl⟩)
 obtain ⟨l11,rfl⟩:=map_of' (f:=KF.av) ha9 (fun y hy=>by
  obtain ⟨_,rfl,hy⟩:=hy
  obtain ⟨_,_,rfl,⟨s12,rfl,_⟩,_,_,rfl,⟨b13,rfl⟩,rfl⟩:=hy
  exact ⟨⟨s12.data.toList,b13⟩,rfl⟩)
 obtain ⟨l18,rfl⟩:=map_of' (f:=fun w=>vs (bs w)) ha16 (fun y hy=>by obtain ⟨s,hs,_⟩:=hy; cases hs; exact ⟨s.data.toList,rfl⟩)
 obtain ⟨l20,rfl⟩:=map_of' (f:=LF.av) ha18 (fun y hy=>by
  obtain ⟨_,rfl,hy⟩:=hy
  obtain ⟨_,_,rfl,⟨s21,rfl,_⟩,_,_,rfl,⟨i22,rfl,_⟩,_,_,rfl,⟨s23,rfl,_⟩,rfl⟩:=hy
  exact ⟨⟨s21.data.toList,i22,s23.data.toList⟩,rfl⟩)
 obtain ⟨l25,rfl⟩:=map_of' (f:=JP.av) ha23 (fun y hy=>by
  obtain ⟨_,rfl,hy⟩:=hy
  obtain ⟨_,_,rfl,⟨i26,rfl,_⟩,_,_,rfl,⟨s27,rfl,_⟩,_,_,rfl,⟨i28,rfl,_⟩,_,_,rfl,⟨s29,rfl,_⟩,rfl⟩:=hy
  exact ⟨⟨i26,s27.data.toList,i28,s29.data.toList⟩,rfl⟩)
 obtain ⟨l31,rfl⟩:=map_of' (f:=KF.av) ha29 (fun y hy=>by
  obtain ⟨_,rfl,hy⟩:=hy
  obtain ⟨_,_,rfl,⟨s32,rfl,_⟩,_,_,rfl,⟨b33,rfl⟩,rfl⟩:=hy
  exact ⟨⟨s32.data.toList,b33⟩,rfl⟩)
 obtain ⟨l36,rfl⟩:=map_of' (f:=RL.av) ha34 (fun y hy=>by
  obtain ⟨_,rfl,hy⟩:=hy
  obtain ⟨_,_,rfl,⟨b37,rfl⟩,_,_,rfl,⟨x38,rfl,_,hx38⟩,rfl⟩:=hy
  obtain ⟨l39,rfl⟩:=map_of' (f:=CN.av) hx38 (fun y hy=>by
   obtain ⟨_,rfl,hy⟩:=hy
   obtain ⟨_,_,rfl,⟨s40,rfl,_⟩,_,_,rfl,⟨i41,rfl,_⟩,_,_,rfl,⟨_,_,rfl,⟨i42,rfl,_⟩,_,_,rfl,⟨s43,rfl,_⟩,rfl⟩,rfl⟩:=hy
   exact ⟨⟨s40.data.toList,i41,i42,s43.data.toList⟩,rfl⟩)
  exact ⟨⟨b37,l39⟩,rfl⟩)
 obtain ⟨l45,rfl⟩:=map_of' (f:=fun w=>vs (bs w)) ha43 (fun y hy=>by obtain ⟨s,hs,_⟩:=hy; cases hs; exact ⟨s.data.toList,rfl⟩)
 exact Q28.hands 1000002 (a0,a1,a2,((List.map FD.av) l5),((List.map KF.av) l11),a13,a14,a15,(Ws l18),((List.map LF.av) l20),((List.map JP.av) l25),((List.map KF.av) l31),a33,((List.map RL.av) l36),(Ws l45)) true (back_law (Nat.le_refl _) a0 a1 a2 l5 l11 a13 a14 a15 l18 l20 l25 l31 a33 l36 l45)
theorem spec (H:Type) (ds:List (DataW H)) (hl:ds.length=2):Rows.ddsBackSpec.fn H ds={ results:=[.lit (.bool true)],args:=ds }:=by
 match ds,hl with
 | [_,_],_=>rfl
theorem sented {W:World} (hQ:W.ShapedOpen Tryz.prog) (hL:laidMetH Tryz.prog Rows.ddsBackRow.laid W):Rooted.Q Tryz.prog W:=by
 have h0:laidMet Tryz.prog Rows.ddsBackRow.laid W:=by rw [← MakeChecks.laidMetH_plain _ _ _ (by kernel_rfl)]; exact hL
 have h1:=laidMet_tail h0
 have h2:=laidMet_tail h1
 have h3:=laidMet_tail h2
 have h4:=laidMet_tail h3
 have h5:=laidMet_tail h4
 have h6:=laidMet_tail h5
 have h7:=laidMet_tail h6
 have hd:Rows.laid_internal_strconv_uint64pow10 (H:=Unit)=Lib.tabData .u64 Lib.pow10Tab:=by rfl
 exact ⟨Sents.cons (Sents.cons (Sents.nil hQ) (sent_of_laid (n := "strconv.ErrRange") h4 (by kernel_rfl))) (sent_of_laid (n := "strconv.ErrSyntax") h5 (by kernel_rfl)), Tabs.cons (Lib.tabIs_of_head (g := 2) (t := 216) (e := 195) (n := 20) (by kernel_rfl) (by kernel_rfl) (by kernel_rfl) (by kernel_rfl) (by kernel_rfl) (by kernel_rfl) (by rw [← hd]; exact h2)) Tabs.nil, GlobsL.cons (glob_of_laid (G := G) cfg (k := 9) (t := 23) h6 (by kernel_rfl) (by kernel_rfl) (by kernel_rfl) (by kernel_rfl)) (GlobsL.nil)⟩
set_option maxRecDepth 100000 in
theorem lifted (os:Os) (started:os.Started) (H:Type) (enc:TypeId × Value→H) :
  ReturnsInHanded {} Tryz.checked os 7 .any (fun w args=>(Rows.ddsBackSpec.pre enc Tryz.prog Tryz.f7 Rows.ddsBackRow.domain false w args∧laidMetH Tryz.prog Rows.ddsBackRow.laid w)∧sizedMet enc Tryz.prog Tryz.f7 (OpenSpec.ofChange Rows.ddsBackSpec) false w args) (Rows.ddsBackSpec.post enc Tryz.prog Tryz.f7 false true false false):=by
 refine returns_of_laid (C:=Tryz.checked) (X:=fun w _=>laidMetH Tryz.prog Rows.ddsBackRow.laid w) (fun _ _ _ hh h=>h.of_heap hh) own started (by kernel_rfl) Tryz.func7
  (ChangeSpec.witness_shaped (enc:=enc) (C:=Tryz.checked) (os:=os) (X:=fun w _=>laidMetH Tryz.prog Rows.ddsBackRow.laid w) false (World.laidAll Tryz.prog os Rows.ddsBackRow.laid) #[.agg #[.bool false,.string ByteArray.empty,.string ByteArray.empty,.slice none 0 0,.slice none 0 0,.bool false,.string ByteArray.empty,.string ByteArray.empty,.slice none 0 0,.slice none 0 0,.slice none 0 0,.slice none 0 0,.bool false,.slice none 0 0],.slice none 0 0] 8 (World.laidAll_os _ _ _)
   (World.shaped_of_ZipB (by kernel_rfl) (by kernel_rfl)) (by kernel_rfl) (by kernel_rfl) (by kernel_rfl)
   (by rw [MakeChecks.laidMetH_plain _ _ _ (by kernel_rfl)]; exact laidMet_laidAll _ (by kernel_rfl) (by kernel_rfl))) ?_
 intro W base args ds gs before hval hW hQ hL
 exact law_calls (G:=G) (n:=9) cfg laidOut (by kernel_rfl) (by kernel_rfl) rfl Tryz.underlying4 rfl (fun ds hl=>spec H ds (hl.trans (congrArg Array.size Tryz.params7))) hval hW (sented hQ hL) plain
theorem over:Rows.ddsBackRow.holds Tryz.pinned (OpenSpec.ofChange Rows.ddsBackSpec):=
 OpenClaim.holds_of_wide 7 Tryz.f7 rfl rfl rfl rfl rfl rfl rfl ⟨rfl,rfl,rfl,rfl,rfl⟩ rfl rfl rfl rfl rfl (by kernel_rfl) Tryz.func7 (by kernel_rfl)
  (of_decide_eq_true (by kernel_rfl)) (by unfold Func.isWrapper; first | (rw [if_pos (by decide +kernel)]; kernel_rfl) | (rw [if_neg (by decide +kernel)]; exact ⟨rfl,rfl⟩))
  (fun os started H enc _=>lifted os started H enc)
theorem carded:Rows.DdsBackCardSaid:=
 Claim7.holds_tied_plain_at .later [] [.data, .data, .data, .data, .sentinel, .sentinel, .widerDeep, .pinned] true (true, "8470e0a86b50cc07e755685173884c839f38d682c1521856bcf08491a532a02b") true over (fun _ h => by cases h) (by kernel_rfl) (fun _ h => by cases h) ddsBack_row_tie rfl ⟨rfl, rfl⟩ (by kernel_rfl) rfl
  (fun f fn hf hfn=>by
   obtain rfl : f = 7 := Option.some.inj ((show Tryz.prog.funcNamed "midrange/midrangelaw25.DdsBack" = some 7 by kernel_rfl).symm.trans hf) |>.symm
   obtain rfl:fn=Tryz.f7:=(Option.some.inj (Tryz.func7.symm.trans hfn)).symm
   exact ⟨by kernel_rfl,fun j t ht=>by
    rw [Tryz.params7] at ht
    have hm:t∈[50,23]:=by simpa using Array.mem_of_getElem? ht
    have hall:([50,23].all fun u=>!Tryz.prog.wantsStandIn u)=true:=by kernel_rfl
    exact (show Tryz.prog.wantsStandIn t=false by simpa using List.all_eq_true.1 hall t hm)⟩)
  (by kernel_rfl)
end Go.Proofs.YtmpglmcjoelciaaGreatDoor.ddsBack
namespace Go.Proofs.YtmpglmcjoelciaaGreatDoor
theorem ddsBack_holds:Rows.DdsBackCardSaid:=ddsBack.carded
end Go.Proofs.YtmpglmcjoelciaaGreatDoor
end
