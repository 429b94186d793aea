import Derived.Test.YtnoldakbllfmnaaGreatDoorDFc
import Derived.Test.YtnoldakbllfmnaaGreatDoorRows
import Derived.Test.YtnoldakbllfmnaaGreatDoorCards
import Derived.Test.YtnoldakbllfmnaaGreatDoorTie
import Derived.Test.YtnoldakbllfmnaaGreatDoorDFVc
import Derived.Lay
import Derived.SevenTiedAt
noncomputable section
namespace Go.Proofs.YtnoldakbllfmnaaGreatDoor.programFlows
open Go Go.Proofs Go.Proofs.Ev Go.Proofs.YtnoldakbllfmnaaGreatDoor.Ev Go.ChangeShapes Go.WideShapes Go.ChangeAt Go.RowKit
set_option linter.unusedVariables false
theorem own:ownKnob Tryz.prog.godebug=none:=by kernel_rfl
theorem laidOut:laidOutB Tryz.prog=true:=by kernel_rfl
theorem plain (xs:List AV) (h:ArgL G 9 Tryz.f10.params.toList xs):HandsIn Tryz.prog 10 xs (vb true):=by
 rw [Tryz.params10] at h
 obtain ⟨x0,r0,rfl,hx0,x1,r1,rfl,hx1,rfl⟩:=h
 obtain ⟨zs0,hA0,rfl⟩:=hx0
 obtain ⟨zs1,hA1,rfl⟩:=hx1
 obtain ⟨p1,q2,rfl,⟨a0,rfl,_,ha0⟩,p3,q4,rfl,⟨a12,rfl,_,ha12⟩,p5,q6,rfl,⟨a17,rfl,_,ha17⟩,rfl⟩:=hA0
 obtain ⟨a23,rfl,_⟩:=hA1
 obtain ⟨l2,rfl⟩:=map_of' (f:=OP.av) ha0 (fun y hy=>by
  obtain ⟨_,rfl,hy⟩:=hy
  obtain ⟨_,_,rfl,⟨s3,rfl,_⟩,_,_,rfl,⟨i4,rfl,_⟩,_,_,rfl,⟨_,_,rfl,⟨i5,rfl,_⟩,_,_,rfl,⟨i6,rfl,_⟩,_,_,rfl,⟨i7,rfl,_⟩,rfl⟩,_,_,rfl,⟨_,_,rfl,⟨i8,rfl,_⟩,_,_,rfl,⟨s9,rfl,_⟩,rfl⟩,_,_,rfl,⟨s10,rfl,_⟩,_,_,rfl,⟨i11,rfl,_⟩,_,_,rfl,⟨i12,rfl,_⟩,rfl⟩:=hy
  exact ⟨⟨s3.data.toList,i4,i5,i6,i7,i8,s9.data.toList,s10.data.toList,i11,i12⟩,rfl⟩)
 obtain ⟨l14,rfl⟩:=map_of' (f:=IN.av) ha12 (fun y hy=>by
  obtain ⟨_,rfl,hy⟩:=hy
  obtain ⟨_,_,rfl,⟨i15,rfl,_⟩,_,_,rfl,⟨x16,rfl,_,hx16⟩,rfl⟩:=hy
  obtain ⟨l17,rfl⟩:=map_of' (f:=fun w=>vi w) hx16 (fun y hy=>by obtain ⟨s,hs,_⟩:=hy; cases hs; exact ⟨s,rfl⟩)
  exact ⟨⟨i15,l17⟩,rfl⟩)
 obtain ⟨l19,rfl⟩:=map_of' (f:=MN.av) ha17 (fun y hy=>by
  obtain ⟨_,rfl,hy⟩:=hy
  obtain ⟨_,_,rfl,⟨i20,rfl,_⟩,_,_,rfl,⟨i21,rfl,_⟩,_,_,rfl,⟨i22,rfl,_⟩,_,_,rfl,⟨i23,rfl,_⟩,rfl⟩:=hy
  exact ⟨⟨i20,i21,i22,i23⟩,rfl⟩)
 exact Q0n.hands 1000002 (((List.map OP.av) l2),((List.map IN.av) l14),((List.map MN.av) l19),a23) true (flows_law (Nat.le_refl _) l2 l14 l19 a23)
theorem spec (H:Type) (ds:List (DataW H)) (hl:ds.length=2):Rows.programFlowsSpec.fn H ds={ results:=[.lit (.bool true)],args:=ds }:=by
 match ds,hl with
 | [_,_],_=>rfl
theorem sented {W:World} (hQ:W.ShapedOpen Tryz.prog) (hL:laidMetH Tryz.prog Rows.programFlowsRow.laid W):Rooted.Q Tryz.prog W:=by
 have h0:laidMet Tryz.prog Rows.programFlowsRow.laid W:=by rw [← MakeChecks.laidMetH_plain _ _ _ (by kernel_rfl)]; exact hL
 have h1:=laidMet_tail h0
 have h2:=laidMet_tail h1
 have h3:=laidMet_tail h2
 have h4:=laidMet_tail h3
 have h5:=laidMet_tail h4
 have h6:=laidMet_tail h5
 have h7:=laidMet_tail h6
 have h8:=laidMet_tail h7
 have h9:=laidMet_tail h8
 have hd:Rows.laid_internal_strconv_uint64pow10 (H:=Unit)=Lib.tabData .u64 Lib.pow10Tab:=by rfl
 exact ⟨Sents.cons (Sents.cons (Sents.nil hQ) (sent_of_laid (n := "strconv.ErrRange") h4 (by kernel_rfl))) (sent_of_laid (n := "strconv.ErrSyntax") h5 (by kernel_rfl)), Tabs.cons (Lib.tabIs_of_head (g := 4) (t := 265) (e := 206) (n := 20) (by kernel_rfl) (by kernel_rfl) (by kernel_rfl) (by kernel_rfl) (by kernel_rfl) (by kernel_rfl) (by rw [← hd]; exact h2)) Tabs.nil, GlobsL.cons (glob_of_laid (G := G) cfg (k := 9) (t := 138) h6 (by kernel_rfl) (by kernel_rfl) (by kernel_rfl) (by kernel_rfl)) (GlobsL.cons (glob_of_laid (G := G) cfg (k := 9) (t := 144) h7 (by kernel_rfl) (by kernel_rfl) (by kernel_rfl) (by kernel_rfl)) (GlobsL.cons (glob_of_laid (G := G) cfg (k := 9) (t := 97) h8 (by kernel_rfl) (by kernel_rfl) (by kernel_rfl) (by kernel_rfl)) (GlobsL.nil)))⟩
set_option maxRecDepth 100000 in
theorem lifted (os:Os) (started:os.Started) (H:Type) (enc:TypeId × Value→H) :
  ReturnsInHanded {} Tryz.checked os 10 .any (fun w args=>(Rows.programFlowsSpec.pre enc Tryz.prog Tryz.f10 Rows.programFlowsRow.domain false w args∧laidMetH Tryz.prog Rows.programFlowsRow.laid w)∧sizedMet enc Tryz.prog Tryz.f10 (OpenSpec.ofChange Rows.programFlowsSpec) false w args) (Rows.programFlowsSpec.post enc Tryz.prog Tryz.f10 false true false false):=by
 refine returns_of_laid (C:=Tryz.checked) (X:=fun w _=>laidMetH Tryz.prog Rows.programFlowsRow.laid w) (fun _ _ _ hh h=>h.of_heap hh) own started (by kernel_rfl) Tryz.func10
  (ChangeSpec.witness_shaped (enc:=enc) (C:=Tryz.checked) (os:=os) (X:=fun w _=>laidMetH Tryz.prog Rows.programFlowsRow.laid w) false (World.laidAll Tryz.prog os Rows.programFlowsRow.laid) #[.agg #[.slice none 0 0,.slice none 0 0,.slice none 0 0],.int .i64 0] 8 (World.laidAll_os _ _ _)
   (World.shaped_of_ZipB (by kernel_rfl) (by kernel_rfl)) (by kernel_rfl) (by kernel_rfl) (by kernel_rfl)
   (by rw [MakeChecks.laidMetH_plain _ _ _ (by kernel_rfl)]; exact laidMet_laidAll _ (by kernel_rfl) (by kernel_rfl))) ?_
 intro W base args ds gs before hval hW hQ hL
 exact law_calls (G:=G) (n:=9) cfg laidOut (by kernel_rfl) (by kernel_rfl) rfl Tryz.underlying4 rfl (fun ds hl=>spec H ds (hl.trans (congrArg Array.size Tryz.params10))) hval hW (sented hQ hL) plain
theorem fact0:(laidOutB Tryz.pinned.checked.prog)=true:=by kernel_rfl
theorem fact1:(namedTie Tryz.pinned.checked.prog Rows.programFlowsRow.named Rows.programFlowsSpec.vars)=true:=by kernel_rfl
theorem fact2:((Rows.programFlowsRow.inPlace==Tryz.pinned.checked.prog.inPlace 10))=true:=by kernel_rfl
theorem fact3:((Rows.programFlowsRow.unfollowed==Tryz.pinned.checked.prog.unfollowed 10))=true:=by kernel_rfl
theorem fact4:((Rows.programFlowsRow.recurses==Tryz.pinned.checked.prog.recurses 10))=true:=by kernel_rfl
theorem fact5:((Rows.programFlowsRow.named==Tryz.pinned.checked.prog.varsNamed 10))=true:=by kernel_rfl
theorem fact6:((Rows.programFlowsRow.plainKeys==Tryz.pinned.checked.prog.plainKeys))=true:=by kernel_rfl
theorem fact7:(Tryz.pinned.checked.prog.stopsHeard)=true:=by kernel_rfl
theorem fact8:(Tryz.pinned.checked.prog.mayEnter)=true:=by kernel_rfl
theorem fact9:((Rows.programFlowsRow.lifted==Tryz.pinned.checked.prog.liftsFinal))=true:=by kernel_rfl
theorem joined:joinedFacts Tryz.pinned.checked.prog 10 Tryz.f10 Rows.programFlowsSpec Rows.programFlowsRow=true:=by
 unfold joinedFacts
 rw [fact0,fact1,fact2,fact3,fact4,fact5,fact6,fact7,fact8,fact9]
 kernel_rfl
theorem over:Rows.programFlowsRow.holds Tryz.pinned (OpenSpec.ofChange Rows.programFlowsSpec):=
 OpenClaim.holds_of_wide 10 Tryz.f10 rfl rfl rfl rfl rfl rfl rfl ⟨rfl,rfl,rfl,rfl,rfl⟩ rfl rfl rfl rfl rfl (by kernel_rfl) Tryz.func10 joined
  (of_decide_eq_true (by kernel_rfl)) (by unfold Func.isWrapper; first | (rw [if_pos (by decide +kernel)]; kernel_rfl) | (rw [if_neg (by decide +kernel)]; exact ⟨rfl,rfl⟩))
  (fun os started H enc _=>lifted os started H enc)
theorem carded:Rows.ProgramFlowsCardSaid:=
 Claim7.holds_tied_plain_at .later [] [.data, .data, .data, .data, .sentinel, .sentinel, .data, .widerDeep, .widerDeep, .pinned] true (true, "48d4e29f1c809b3cab36680b15902e4fc1bfe3a114a5356350fd5ff3f00873ca") true over (fun _ h => by cases h) (by kernel_rfl) (fun _ h => by cases h) programFlows_row_tie rfl ⟨rfl, rfl⟩ (by kernel_rfl) rfl
  (fun f fn hf hfn=>by
   obtain rfl : f = 10 := Option.some.inj ((show Tryz.prog.funcNamed "midrange/midrangelaw13.ProgramFlows" = some 10 by kernel_rfl).symm.trans hf) |>.symm
   obtain rfl:fn=Tryz.f10:=(Option.some.inj (Tryz.func10.symm.trans hfn)).symm
   exact ⟨by kernel_rfl,fun j t ht=>by
    rw [Tryz.params10] at ht
    have hm:t∈[26,3]:=by simpa using Array.mem_of_getElem? ht
    have hall:([26,3].all fun u=>!Tryz.prog.wantsStandIn u)=true:=by kernel_rfl
    exact (show Tryz.prog.wantsStandIn t=false by simpa using List.all_eq_true.1 hall t hm)⟩)
  (by kernel_rfl)
end Go.Proofs.YtnoldakbllfmnaaGreatDoor.programFlows
namespace Go.Proofs.YtnoldakbllfmnaaGreatDoor
theorem programFlows_holds:Rows.ProgramFlowsCardSaid:=programFlows.carded
end Go.Proofs.YtnoldakbllfmnaaGreatDoor
end
