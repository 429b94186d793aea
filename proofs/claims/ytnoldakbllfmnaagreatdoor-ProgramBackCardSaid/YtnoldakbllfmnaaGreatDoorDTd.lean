import Derived.Test.YtnoldakbllfmnaaGreatDoorDTc
import Derived.Test.YtnoldakbllfmnaaGreatDoorRows
import Derived.Test.YtnoldakbllfmnaaGreatDoorCards
import Derived.Test.YtnoldakbllfmnaaGreatDoorTie
import Derived.Test.YtnoldakbllfmnaaGreatDoorDTVc
import Derived.Lay
import Derived.SevenTiedAt
set_option linter.all false
noncomputable section
namespace Go.Proofs.YtnoldakbllfmnaaGreatDoor.qK
open Go Go.Proofs Go.Proofs.Ev Go.Proofs.YtnoldakbllfmnaaGreatDoor.Ev Go.ChangeShapes Go.WideShapes Go.ChangeAt Go.RowKit
theorem own:ownKnob Tryz.prog.godebug=none:=by kernel_rfl
theorem laidOut:laidOutB Tryz.prog=true:=by kernel_rfl
theorem plain(xs:List AV)(h:Kf G 9 Tryz.f6.params.toList xs):fD Tryz.prog 6 xs (vb true):=by
 rw[Tryz.params6]at h;obtain⟨x0,r0,rfl,KS,x1,r1,rfl,CT,rfl⟩:=h;obtain⟨Y5,Yp,rfl⟩:=KS;obtain⟨Y4,Yo,rfl⟩:=CT;obtain⟨p1,q2,rfl,⟨a0,rfl,_,OK⟩,p3,q4,rfl,⟨a12,rfl,_,SJ⟩,p5,q6,rfl,⟨EP,rfl,_,SI⟩,rfl⟩:=Yp;obtain⟨a23,rfl,_⟩:=Yo;obtain⟨l2,rfl⟩:=rP (f:=OP.av) OK (λy hy=>by
  obtain⟨_,rfl,hy⟩:=hy;obtain⟨_,_,rfl,⟨s3,rfl,_⟩,_,_,rfl,⟨i4,rfl,_⟩,_,_,rfl,⟨_,_,rfl,⟨i5,rfl,_⟩,_,_,rfl,⟨i6,rfl,_⟩,_,_,rfl,⟨i7,rfl,_⟩,rfl⟩,_,_,rfl,⟨_,_,rfl,⟨i8,rfl,_⟩,_,_,rfl,⟨s9,rfl,_⟩,rfl⟩,_,_,rfl,⟨Wb,rfl,_⟩,_,_,rfl,⟨i11,rfl,_⟩,_,_,rfl,⟨i12,rfl,_⟩,rfl⟩:=hy;exact⟨⟨s3.data.toList,i4,i5,i6,i7,i8,s9.data.toList,Wb.data.toList,i11,i12⟩,rfl⟩)
 obtain⟨Ug,rfl⟩:=rP (f:=IN.av) SJ (λy hy=>by
  obtain⟨_,rfl,hy⟩:=hy;obtain⟨_,_,rfl,⟨i15,rfl,_⟩,_,_,rfl,⟨Im,rfl,_,RN⟩,rfl⟩:=hy;obtain⟨W3,rfl⟩:=rP (f:=λw=>vi w) RN (λy hy=>by obtain⟨s,hs,_⟩:=hy;cases hs;exact⟨s,rfl⟩);exact⟨⟨i15,W3⟩,rfl⟩)
 obtain⟨Uf,rfl⟩:=rP (f:=MN.av) SI (λy hy=>by
  obtain⟨_,rfl,hy⟩:=hy;obtain⟨_,_,rfl,⟨i20,rfl,_⟩,_,_,rfl,⟨i21,rfl,_⟩,_,_,rfl,⟨i22,rfl,_⟩,_,_,rfl,⟨i23,rfl,_⟩,rfl⟩:=hy;exact⟨⟨i20,i21,i22,i23⟩,rfl⟩)
 exact n6.cZ 1000002 (((List.map OP.av) l2),((List.map IN.av) Ug),((List.map MN.av) Uf),a23) true (BY (aJ _) l2 Ug Uf a23)
theorem spec(H:Type)(ds:List (DataW H))(hl:ds.length=2):Rows.programBackSpec.fn H ds={ results:=[.lit (.bool true)],args:=ds }:=by
 match ds,hl with
 | [_,_],_=>rfl
theorem Lx{W:World}(hQ:W.ShapedOpen Tryz.prog)(hL:laidMetH Tryz.prog Rows.programBackRow.laid W):dH.Q Tryz.prog W:=by
 have h0:laidMet Tryz.prog Rows.programBackRow.laid W:=by rw[<-MakeChecks.laidMetH_plain _ _ _ (by kernel_rfl)];exact hL
 have h1:=fB h0;have h2:=fB h1;have h3:=fB h2;have h4:=fB h3;have h5:=fB h4;have h6:=fB h5;have h7:=fB h6;have h8:=fB h7;have h9:=fB h8;have hd:Rows.laid_internal_strconv_uint64pow10 (H:=Unit)=Lib.tabData .u64 Lib.pow10Tab:=by rfl
 exact ⟨kI.cons (kI.cons (kI.nil hQ) (oV (n := "strconv.ErrRange") h4 (by kernel_rfl))) (oV (n := "strconv.ErrSyntax") h5 (by kernel_rfl)), rz.cons (Lib.tabIs_of_head (g := 4) (t := 265) (e := 206) (n := 20) (by kernel_rfl) (by kernel_rfl) (by kernel_rfl) (by kernel_rfl) (by kernel_rfl) (by kernel_rfl) (by rw [← hd]; exact h2)) rz.nil, ik.cons (mf (G := G) cfg (k := 9) (t := 138) h6 (by kernel_rfl) (by kernel_rfl) (by kernel_rfl) (by kernel_rfl)) (ik.cons (mf (G := G) cfg (k := 9) (t := 144) h7 (by kernel_rfl) (by kernel_rfl) (by kernel_rfl) (by kernel_rfl)) (ik.cons (mf (G := G) cfg (k := 9) (t := 97) h8 (by kernel_rfl) (by kernel_rfl) (by kernel_rfl) (by kernel_rfl)) (ik.nil)))⟩
set_option maxRecDepth 100000 in
theorem lifted(os:Os)(started:os.Started)(H:Type)(enc:TypeId × Value->H) :
  ReturnsInHanded {} Tryz.checked os 6 .any (λw args=>(Rows.programBackSpec.pre enc Tryz.prog Tryz.f6 Rows.programBackRow.domain false w args/\laidMetH Tryz.prog Rows.programBackRow.laid w)/\sizedMet enc Tryz.prog Tryz.f6 (OpenSpec.ofChange Rows.programBackSpec) false w args) (Rows.programBackSpec.post enc Tryz.prog Tryz.f6 false true false false):=by
 refine rh (C:=Tryz.checked) (X:=λw _=>laidMetH Tryz.prog Rows.programBackRow.laid w) (λ_ _ _ hh h=>h.of_heap hh) own started (by kernel_rfl) Tryz.func6
  (ChangeSpec.witness_shaped (enc:=enc) (C:=Tryz.checked) (os:=os) (X:=λw _=>laidMetH Tryz.prog Rows.programBackRow.laid w) false (World.laidAll Tryz.prog os Rows.programBackRow.laid) #[.agg #[.slice none 0 0,.slice none 0 0,.slice none 0 0],.string ByteArray.empty] 8 (World.laidAll_os _ _ _)
   (World.shaped_of_ZipB (by kernel_rfl) (by kernel_rfl)) (by kernel_rfl) (by kernel_rfl) (by kernel_rfl)
   (by rw[MakeChecks.laidMetH_plain _ _ _ (by kernel_rfl)];exact laidMet_laidAll _ (by kernel_rfl) (by kernel_rfl))) ?_
 intro W base args ds gs before mI hW hQ hL;exact DR (G:=G) (n:=9) cfg laidOut (by kernel_rfl) (by kernel_rfl) rfl Tryz.underlying4 rfl (λds hl=>spec H ds (hl.trans (congrArg Array.size Tryz.params6))) mI hW (Lx hQ hL) plain
theorem Pj:(laidOutB Tryz.pinned.checked.prog)=true:=by kernel_rfl
theorem Ph:(namedTie Tryz.pinned.checked.prog Rows.programBackRow.named Rows.programBackSpec.vars)=true:=by kernel_rfl
theorem Pg:((Rows.programBackRow.inPlace==Tryz.pinned.checked.prog.inPlace 6))=true:=by kernel_rfl
theorem Pf:((Rows.programBackRow.unfollowed==Tryz.pinned.checked.prog.unfollowed 6))=true:=by kernel_rfl
theorem Pe:((Rows.programBackRow.recurses==Tryz.pinned.checked.prog.recurses 6))=true:=by kernel_rfl
theorem Pd:((Rows.programBackRow.named==Tryz.pinned.checked.prog.varsNamed 6))=true:=by kernel_rfl
theorem Pc:((Rows.programBackRow.plainKeys==Tryz.pinned.checked.prog.plainKeys))=true:=by kernel_rfl
theorem Pb:(Tryz.pinned.checked.prog.stopsHeard)=true:=by kernel_rfl
theorem Pa:(Tryz.pinned.checked.prog.mayEnter)=true:=by kernel_rfl
theorem O_:((Rows.programBackRow.lifted==Tryz.pinned.checked.prog.liftsFinal))=true:=by kernel_rfl
theorem LV:joinedFacts Tryz.pinned.checked.prog 6 Tryz.f6 Rows.programBackSpec Rows.programBackRow=true:=by
 unfold joinedFacts;rw[Pj,Ph,Pg,Pf,Pe,Pd,Pc,Pb,Pa,O_];kernel_rfl
theorem over:Rows.programBackRow.holds Tryz.pinned (OpenSpec.ofChange Rows.programBackSpec):=
 OpenClaim.holds_of_wide 6 Tryz.f6 rfl rfl rfl rfl rfl rfl rfl ⟨rfl,rfl,rfl,rfl,rfl⟩ rfl rfl rfl rfl rfl (by kernel_rfl) Tryz.func6 LV
  (bc (by kernel_rfl)) (by unfold Func.isWrapper;first|(rw[if_pos (by decide +kernel)];kernel_rfl)|(rw[if_neg (by decide +kernel)];exact⟨rfl,rfl⟩))
  (λos started H enc _=>lifted os started H enc)
theorem Mw:Rows.ProgramBackCardSaid:=
 Claim7.holds_tied_plain_at .later [] [.data, .data, .data, .data, .sentinel, .sentinel, .data, .widerDeep, .widerDeep, .pinned] true (true, "48d4e29f1c809b3cab36680b15902e4fc1bfe3a114a5356350fd5ff3f00873ca") true over (fun _ h => by cases h) (by kernel_rfl) (fun _ h => by cases h) programBack_row_tie rfl ⟨rfl, rfl⟩ (by kernel_rfl) rfl
  (λf fn hf E4=>by
   obtain rfl : f = 6 := cD ((show Tryz.prog.funcNamed "midrange/midrangelaw13.ProgramBack" = some 6 by kernel_rfl).symm.trans hf) |>.symm;obtain rfl : fn = Tryz.f6 := (cD (Tryz.func6.symm.trans E4)).symm;exact ⟨by kernel_rfl, fun j t ht => by
    rw[Tryz.params6]at ht;have hm:t∈[26,9]:=by simpa using Array.mem_of_getElem? ht
    have ic:([26,9].all λu=>!Tryz.prog.wantsStandIn u)=true:=by kernel_rfl
    exact(show Tryz.prog.wantsStandIn t=false by simpa using ay.1 ic t hm)⟩)
  (by kernel_rfl)
end Go.Proofs.YtnoldakbllfmnaaGreatDoor.qK
namespace Go.Proofs.YtnoldakbllfmnaaGreatDoor
theorem programBack_holds:Rows.ProgramBackCardSaid:=qK.Mw
end Go.Proofs.YtnoldakbllfmnaaGreatDoor
end