import Derived.Test.YtnoldakbllfmnaaGreatDoorDYe
import Derived.Test.YtnoldakbllfmnaaGreatDoorRows
import Derived.Test.YtnoldakbllfmnaaGreatDoorCards
import Derived.Test.YtnoldakbllfmnaaGreatDoorTie
import Derived.Test.YtnoldakbllfmnaaGreatDoorDYVc
import Derived.Lay
import Derived.SevenTiedAt
set_option linter.all false
noncomputable section
namespace Go.Proofs.YtnoldakbllfmnaaGreatDoor.qg
open Go Go.Proofs Go.Proofs.Ev Go.Proofs.YtnoldakbllfmnaaGreatDoor.Ev Go.ChangeShapes Go.WideShapes Go.ChangeAt Go.RowKit
theorem own:ownKnob Tryz.prog.godebug=none:=by kernel_rfl
theorem laidOut:laidOutB Tryz.prog=true:=by kernel_rfl
theorem plain(xs:List AV)(h:M4 G 9 Tryz.f5.params.toList xs):dc Tryz.prog 5 xs (vb true):=by
 rw[Tryz.params5]at h;obtain⟨x0,r0,rfl,NR,rfl⟩:=h;obtain⟨zs0,hA0,rfl⟩:=NR;obtain⟨a0,rfl,_⟩:=hA0;exact ml.cW 1000002 a0 true (DJ (aH _) a0)
theorem spec(H:Type)(ds:List (DataW H))(hl:ds.length=1):Rows.programParsesSpec.fn H ds={ results:=[.lit (.bool true)],args:=ds }:=by
 match ds,hl with
 | [_],_=>rfl
theorem Oy{W:World}(hQ:W.ShapedOpen Tryz.prog)(hL:laidMetH Tryz.prog Rows.programParsesRow.laid W):eE.Q Tryz.prog W:=by
 have h0:laidMet Tryz.prog Rows.programParsesRow.laid W:=by rw[<-MakeChecks.laidMetH_plain _ _ _ (by kernel_rfl)];exact hL
 have h1:=gr h0;have h2:=gr h1;have h3:=gr h2;have h4:=gr h3;have h5:=gr h4;have h6:=gr h5;have h7:=gr h6;have h8:=gr h7;have h9:=gr h8;have hd:Rows.laid_internal_strconv_uint64pow10 (H:=Unit)=Lib.tabData .u64 Lib.pow10Tab:=by rfl
 exact ⟨mG.cons (mG.cons (mG.nil hQ) (rp (n := "strconv.ErrRange") h4 (by kernel_rfl))) (rp (n := "strconv.ErrSyntax") h5 (by kernel_rfl)), uA.cons (Lib.tabIs_of_head (g := 4) (t := 265) (e := 206) (n := 20) (by kernel_rfl) (by kernel_rfl) (by kernel_rfl) (by kernel_rfl) (by kernel_rfl) (by kernel_rfl) (by rw [← hd]; exact h2)) uA.nil, jK.cons (n8 (G := G) cfg (k := 9) (t := 138) h6 (by kernel_rfl) (by kernel_rfl) (by kernel_rfl) (by kernel_rfl)) (jK.cons (n8 (G := G) cfg (k := 9) (t := 144) h7 (by kernel_rfl) (by kernel_rfl) (by kernel_rfl) (by kernel_rfl)) (jK.cons (n8 (G := G) cfg (k := 9) (t := 97) h8 (by kernel_rfl) (by kernel_rfl) (by kernel_rfl) (by kernel_rfl)) (jK.nil)))⟩
set_option maxRecDepth 100000 in
theorem lifted(os:Os)(started:os.Started)(H:Type)(enc:TypeId × Value->H) :
  ReturnsInHanded {} Tryz.checked os 5 .any (λw args=>(Rows.programParsesSpec.pre enc Tryz.prog Tryz.f5 Rows.programParsesRow.domain false w args/\laidMetH Tryz.prog Rows.programParsesRow.laid w)/\sizedMet enc Tryz.prog Tryz.f5 (OpenSpec.ofChange Rows.programParsesSpec) false w args) (Rows.programParsesSpec.post enc Tryz.prog Tryz.f5 false true false false):=by
 refine uh (C:=Tryz.checked) (X:=λw _=>laidMetH Tryz.prog Rows.programParsesRow.laid w) (λ_ _ _ hh h=>h.of_heap hh) own started (by kernel_rfl) Tryz.func5
  (ChangeSpec.witness_shaped (enc:=enc) (C:=Tryz.checked) (os:=os) (X:=λw _=>laidMetH Tryz.prog Rows.programParsesRow.laid w) false (World.laidAll Tryz.prog os Rows.programParsesRow.laid) #[.string ByteArray.empty] 8 (World.laidAll_os _ _ _)
   (World.shaped_of_ZipB (by kernel_rfl) (by kernel_rfl)) (by kernel_rfl) (by kernel_rfl) (by kernel_rfl)
   (by rw[MakeChecks.laidMetH_plain _ _ _ (by kernel_rfl)];exact laidMet_laidAll _ (by kernel_rfl) (by kernel_rfl))) ?_
 intro W base args ds gs before mc hW hQ hL;exact Gw (G:=G) (n:=9) cfg laidOut (by kernel_rfl) (by kernel_rfl) rfl Tryz.underlying4 rfl (λds hl=>spec H ds (hl.trans (congrArg Array.size Tryz.params5))) mc hW (Oy hQ hL) plain
theorem Td:(laidOutB Tryz.pinned.checked.prog)=true:=by kernel_rfl
theorem Tc:(namedTie Tryz.pinned.checked.prog Rows.programParsesRow.named Rows.programParsesSpec.vars)=true:=by kernel_rfl
theorem Ta:((Rows.programParsesRow.inPlace==Tryz.pinned.checked.prog.inPlace 5))=true:=by kernel_rfl
theorem S_:((Rows.programParsesRow.unfollowed==Tryz.pinned.checked.prog.unfollowed 5))=true:=by kernel_rfl
theorem S9:((Rows.programParsesRow.recurses==Tryz.pinned.checked.prog.recurses 5))=true:=by kernel_rfl
theorem S8:((Rows.programParsesRow.named==Tryz.pinned.checked.prog.varsNamed 5))=true:=by kernel_rfl
theorem S7:((Rows.programParsesRow.plainKeys==Tryz.pinned.checked.prog.plainKeys))=true:=by kernel_rfl
theorem S6:(Tryz.pinned.checked.prog.stopsHeard)=true:=by kernel_rfl
theorem S5:(Tryz.pinned.checked.prog.mayEnter)=true:=by kernel_rfl
theorem S4:((Rows.programParsesRow.lifted==Tryz.pinned.checked.prog.liftsFinal))=true:=by kernel_rfl
theorem O2:joinedFacts Tryz.pinned.checked.prog 5 Tryz.f5 Rows.programParsesSpec Rows.programParsesRow=true:=by
 unfold joinedFacts;rw[Td,Tc,Ta,S_,S9,S8,S7,S6,S5,S4];kernel_rfl
theorem over:Rows.programParsesRow.holds Tryz.pinned (OpenSpec.ofChange Rows.programParsesSpec):=
 OpenClaim.holds_of_wide 5 Tryz.f5 rfl rfl rfl rfl rfl rfl rfl ⟨rfl,rfl,rfl,rfl,rfl⟩ rfl rfl rfl rfl rfl (by kernel_rfl) Tryz.func5 O2
  (bj (by kernel_rfl)) (by unfold Func.isWrapper;first|(rw[ag (by decide +kernel)];kernel_rfl)|(rw[af (by decide +kernel)];exact⟨rfl,rfl⟩))
  (λos started H enc _=>lifted os started H enc)
theorem PS:Rows.ProgramParsesCardSaid:=
 Claim7.holds_tied_plain_at .later [] [.data, .data, .data, .data, .sentinel, .sentinel, .data, .widerDeep, .widerDeep, .pinned] true (true, "48d4e29f1c809b3cab36680b15902e4fc1bfe3a114a5356350fd5ff3f00873ca") true over (fun _ h => by cases h) (by kernel_rfl) (fun _ h => by cases h) programParses_row_tie rfl ⟨rfl, rfl⟩ (by kernel_rfl) rfl
  (λf fn hf HW=>by
   obtain rfl : f = 5 := bQ ((show Tryz.prog.funcNamed "midrange/midrangelaw13.ProgramParses" = some 5 by kernel_rfl).symm.trans hf) |>.symm;obtain rfl : fn = Tryz.f5 := (bQ (Tryz.func5.symm.trans HW)).symm;exact ⟨by kernel_rfl, fun j t ht => by
    rw[Tryz.params5]at ht;have hm:t∈[9]:=by simpa using Array.mem_of_getElem? ht
    have ig:([9].all λu=>!Tryz.prog.wantsStandIn u)=true:=by kernel_rfl
    exact(show Tryz.prog.wantsStandIn t=false by simpa using aA.1 ig t hm)⟩)
  (by kernel_rfl)
end Go.Proofs.YtnoldakbllfmnaaGreatDoor.qg
namespace Go.Proofs.YtnoldakbllfmnaaGreatDoor
theorem programParses_holds:Rows.ProgramParsesCardSaid:=qg.PS
end Go.Proofs.YtnoldakbllfmnaaGreatDoor
end