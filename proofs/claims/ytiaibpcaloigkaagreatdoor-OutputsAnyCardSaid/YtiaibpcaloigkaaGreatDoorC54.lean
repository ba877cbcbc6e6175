/- The statement OutputsAny is proved: for any cast, dealings and two first nodes that can be read as data, whichever shares open dealings, and whether they are shown, their secrets are the same, and so are the values; the arguments read as they did. No conditions beyond what errors.errorType holds, which the card ties. -/
import Derived.Test.YtiaibpcaloigkaaGreatDoorC53
set_option linter.unusedSimpArgs false
set_option linter.unusedVariables false
namespace Go.Proofs.YtiaibpcaloigkaaGreatDoor.outputsAny
section
open Go Go.RowKit Go.BigFrame Go.ChangeShapes Go.WideShapes Go.ChangeAt Sx Ou
set_option maxRecDepth 100000 in
theorem lifted (os:Os) (started:os.Started) (H:Type) (enc:TypeId × Value→H) :
  ReturnsInHanded {} Tryz.checked os 3 .any (fun w args=>(Rows.outputsAnySpec.pre enc Tryz.prog Tryz.f3 [] false w args∧laidMetH Tryz.prog fp w)∧sizedMet enc Tryz.prog Tryz.f3 (OpenSpec.ofChange Rows.outputsAnySpec) false w args)
   (Rows.outputsAnySpec.post enc Tryz.prog Tryz.f3 false true false false):=by
 refine returnsInHanded_of_change_and (C:=Tryz.checked) (X:=fun w _=>laidMetH Tryz.prog fp w) (fun _ _ _ hh h=>h.of_heap hh) own started (by kernel_rfl) Tryz.func3
  (ChangeSpec.witness_shaped (enc:=enc) (C:=Tryz.checked) (os:=os) (X:=fun w _=>laidMetH Tryz.prog fp w) false (World.doorLaid Tryz.prog 24 os) #[.agg #[.int .u64 0,.int .u64 0,.int .u64 0,.int .u64 0,.int .u64 0,.int .u64 0,.int .u64 0,.int .u64 0,.int .u64 0,.int .u64 0,.int .u64 0,.int .u64 0,.int .u64 0,.int .u64 0,.int .u64 0,.int .u64 0,.int .u64 0,.int .u64 0,.int .u64 0,.int .u64 0,.int .i64 0,.int .i64 0,.slice none 0 0],.agg #[.int .u64 0,.slice none 0 0,.int .u8 0],.agg #[.int .u8 0,.int .u8 0]] 8 rfl (World.shaped_of_RefB (by kernel_rfl) (by kernel_rfl)) (by kernel_rfl) (by kernel_rfl) (by kernel_rfl) (aap os _)) ?_
 intro W base args ds gs before hval0 hW _ _ hL _;have hval:∀ (j:Nat) t v,Tryz.f3.params[j]?=some t→args[j]?=some v→Value.okWide Tryz.prog W .any base t v:=hval0;have hW':=hW;have hlt:=hW.lt;obtain⟨p,q,hA0,hV,rfl,hfz,hnd⟩:=hW;have hA:DataW.TrodAll enc Tryz.prog W 0 (fun _=>true) true Tryz.f3.params.toList args.toList ds p:=hA0;rw[Tryz.params3] at hA hval;obtain⟨v0,v1,v2,d0,d1,d2,p0,p1,p2,rfl,rfl,rfl,h0,h1,h2⟩:=trodAll_three hA;obtain⟨rfl,rfl⟩:=trodVars_none hV;have k0:=hval 0 29 v0 rfl rfl;have k1:=hval 1 32 v1 rfl rfl;have k2:=hval 2 33 v2 rfl rfl;obtain⟨cs0,rfl,_⟩:=okWide_struct Tryz.underlying29 k0;obtain⟨f0,t0⟩:=id h0;obtain⟨zp,zq,zg,zu,za,zf,sec,pt,ks,c,⟨b1,b2,b3,b4,b5⟩,⟨b6,b7,b8,b9⟩,hks,e0,hR⟩:=ahc t0 (fun a l c e=>k9 Tryz.underlying29 gu acS.symm k0 (i:=22) (u:=27) rfl Tryz.underlying27 a l c (by simpa [Value.cells] using e));have q0:cs0.toList=csC zp zq zg zu za zf sec (.slice pt ks.length c):=by simpa [Value.cells] using e0
 have a0:Value.agg cs0=csV zp zq zg zu za zf sec (.slice pt ks.length c):=by rw[← Array.toArray_toList (xs:=cs0),q0]
 obtain⟨cs1,rfl,_⟩:=okWide_struct Tryz.underlying32 k1;obtain⟨f1,t1⟩:=id h1;obtain⟨ep,pP,PP,cP,many,hep,hmany,hPP,e1,rP⟩:=afP t1;have q1:cs1.toList=mxC ep (.slice pP PP.length cP) many:=by simpa [Value.cells] using e1
 have a1:Value.agg cs1=.agg (mxC ep (.slice pP PP.length cP) many).toArray:=by rw[← Array.toArray_toList (xs:=cs1),q1]
 obtain⟨cs2,rfl⟩:=lJ Tryz.underlying33 k2;obtain⟨f2,t2⟩:=id h2;obtain⟨fa,fb,hfa,hfb,e2⟩:=aeM t2;have q2:cs2.toList=[.int .u8 (fa:Int),.int .u8 (fb:Int)]:=by simpa [Value.cells] using e2
 have a2:Value.agg cs2=.agg #[.int .u8 (fa:Int),.int .u8 (fb:Int)]:=by rw[← Array.toArray_toList (xs:=cs2),q2]
 have hF:=afA zp zq zg zu za zf sec pt c ks ep pP cP PP many fa fb b1 b2 b3 b4 b5 hks b6 b7 b8 b9 hep hmany hfa hfb (fun x hx=>(hPP x hx).1) W ⟨hR,rP,fun x hx=>(hPP x hx).2,qy hL⟩;rw[← a0,← a1,← a2] at hF;clear hA0 hval0;simp only[List.append_nil] at hW' hlt;refine Calls.mono hF ?_;rintro e W' ⟨v,Nn,rfl,hb,_,hv⟩;have hv' : v=.bool true:=hv;subst hv';refine⟨_,rfl,[d0,d1,d2],[],p0++(p1++p2),[],p0++(p1++p2),[],?_,?_,?_,rfl,hb.frame _,fun h=>by cases h⟩
 ·rw[← List.append_assoc];exact hW'
 ·exact trodAll_mk1 (shut_bool Tryz.underlying4 true)
 ·exact trodAll_mk3 (WideElems.Trod_stays ahp abT (of_decide_eq_true (by kernel_rfl)) h0 (fun x hx=>hb.same (hlt x (by simp[hx]))) (fun x hx=>decide_eq_true (hlt x (by simp[hx]))))
   (WideElems.Trod_stays ahp aaL (of_decide_eq_true (by kernel_rfl)) h1 (fun x hx=>hb.same (hlt x (by simp[hx]))) (fun x hx=>decide_eq_true (hlt x (by simp[hx]))))
   (WideElems.Trod_stays ahp de (of_decide_eq_true (by kernel_rfl)) h2 (fun x hx=>hb.same (hlt x (by simp[hx]))) (fun x hx=>decide_eq_true (hlt x (by simp[hx]))))
theorem q1:(Rows.outputsAnyRow.inPlace == Tryz.pinned.checked.prog.inPlace 3)=true:=by kernel_rfl
theorem q2:(Rows.outputsAnyRow.unfollowed == Tryz.pinned.checked.prog.unfollowed 3)=true:=by kernel_rfl
theorem q3:(Rows.outputsAnyRow.recurses == Tryz.pinned.checked.prog.recurses 3)=true:=by kernel_rfl
theorem q4:(Rows.outputsAnyRow.named == Tryz.pinned.checked.prog.varsNamed 3)=true:=by kernel_rfl
theorem q5:laidOutB Tryz.pinned.checked.prog=true:=by kernel_rfl
theorem said:Rows.OutputsAnySaid :=
 OpenClaim.holds_of_wide 3 Tryz.f3 rfl rfl rfl rfl rfl rfl rfl ⟨rfl,rfl,rfl,rfl,rfl⟩ rfl rfl rfl rfl rfl (by kernel_rfl) Tryz.func3 (by unfold joinedFacts;rw[q1,q2,q3,q4,q5];kernel_rfl)
  (of_decide_eq_true (by kernel_rfl)) (by unfold Func.isWrapper;first|(rw[if_pos (by decide +kernel)];kernel_rfl)|(rw[if_neg (by decide +kernel)];exact⟨rfl,rfl⟩))
  (fun os started H enc _=>lifted os started H enc)
theorem proved:Rows.OutputsAnyCardSaid :=
 Claim7.holds_tied_plain_at .later [] [.handle] true (true,"371edef1aab442ec0aa39bb1d37a9cb9443f050943f855c91e5bbe0e3f5e417d") true
  said (fun _ h=>by cases h) (by kernel_rfl) (fun _ h=>by cases h) outputsAny_row_tie rfl ⟨rfl,rfl⟩ (by kernel_rfl) rfl
  (fun f fn hf hfn=>by
   obtain rfl:f=3:=Option.some.inj ((show Tryz.prog.funcNamed "balefire/balefirelaw25.OutputsAny"=some 3 by kernel_rfl).symm.trans hf) |>.symm
   obtain rfl:fn=Tryz.f3:=(Option.some.inj (Tryz.func3.symm.trans hfn)).symm;exact⟨by kernel_rfl,fun j t ht=>by
    rw[Tryz.params3] at ht;have hm:t∈[29,32,33]:=by simpa using Array.mem_of_getElem? ht
    have hall:([29,32,33].all fun u=>!Tryz.prog.wantsStandIn u)=true:=by kernel_rfl
    exact (show Tryz.prog.wantsStandIn t=false by simpa using List.all_eq_true.1 hall t hm)⟩)
  (by kernel_rfl)
end
end Go.Proofs.YtiaibpcaloigkaaGreatDoor.outputsAny
