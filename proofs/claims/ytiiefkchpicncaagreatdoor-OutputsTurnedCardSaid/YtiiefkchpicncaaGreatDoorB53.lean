/- The statement OutputsTurned is proved: for any cast, dealings and opened shares that can be read as data, in which order shares stand, and what else stands there, makes no difference; the arguments read as they did. No conditions beyond what errors.errorType holds, which the card ties. -/
import Derived.Test.YtiiefkchpicncaaGreatDoorB49
import Derived.Test.YtiiefkchpicncaaGreatDoorB52
set_option linter.unusedSimpArgs false
set_option linter.unusedVariables false
namespace Go.Proofs.YtiiefkchpicncaaGreatDoor.outputsTurned
section
open Go Go.RowKit Go.BigFrame Go.ChangeShapes Go.WideShapes Go.ChangeAt Sx Ou
set_option maxRecDepth 100000 in
theorem lifted (os:Os) (started:os.Started) (H:Type) (enc:TypeId × Value→H) :
  ReturnsInHanded {} Tryz.checked os 6 .any (fun w args=>(Rows.outputsTurnedSpec.pre enc Tryz.prog Tryz.f6 [] false w args∧laidMetH Tryz.prog oR w)∧sizedMet enc Tryz.prog Tryz.f6 (OpenSpec.ofChange Rows.outputsTurnedSpec) false w args)
   (Rows.outputsTurnedSpec.post enc Tryz.prog Tryz.f6 false true false false):=by
 refine returnsInHanded_of_change_and (C:=Tryz.checked) (X:=fun w _=>laidMetH Tryz.prog oR w) (fun _ _ _ hh h=>h.of_heap hh) own started (by kernel_rfl) Tryz.func6
  (ChangeSpec.witness_shaped (enc:=enc) (C:=Tryz.checked) (os:=os) (X:=fun w _=>laidMetH Tryz.prog oR w) false (World.doorLaid Tryz.prog 24 os) #[.agg #[.int .u64 0,.int .u64 0,.int .u64 0,.int .u64 0,.int .u64 0,.int .u64 0,.int .u64 0,.int .u64 0,.int .u64 0,.int .u64 0,.int .u64 0,.int .u64 0,.int .u64 0,.int .u64 0,.int .u64 0,.int .u64 0,.int .u64 0,.int .u64 0,.int .u64 0,.int .u64 0,.int .i64 0,.int .i64 0,.slice none 0 0],.agg #[.int .u64 0,.slice none 0 0,.int .u8 0],.slice none 0 0] 8 rfl (World.shaped_of_RefB (by kernel_rfl) (by kernel_rfl)) (by kernel_rfl) (by kernel_rfl) (by kernel_rfl) (iV os _)) ?_
 intro W base args ds gs before hval0 hW _ _ hL _;have hval:∀ (j:Nat) t v,Tryz.f6.params[j]?=some t→args[j]?=some v→Value.okWide Tryz.prog W .any base t v:=hval0;have hW':=hW;have hlt:=hW.lt;obtain⟨p,q,hA0,hV,rfl,hfz,hnd⟩:=hW;have hA:DataW.TrodAll enc Tryz.prog W 0 (fun _=>true) true Tryz.f6.params.toList args.toList ds p:=hA0;rw[Tryz.params6] at hA hval;obtain⟨v0,v1,v2,d0,d1,d2,p0,p1,p2,rfl,rfl,rfl,h0,h1,h2⟩:=trodAll_three hA;obtain⟨rfl,rfl⟩:=trodVars_none hV;have k0:=hval 0 29 v0 rfl rfl;have k1:=hval 1 67 v1 rfl rfl;have k2:=hval 2 77 v2 rfl rfl;obtain⟨cs0,rfl,_⟩:=okWide_struct Tryz.underlying29 k0;obtain⟨f0,t0⟩:=id h0;obtain⟨zp,zq,zg,zu,za,zf,sec,pt,ks,c,⟨b1,b2,b3,b4,b5⟩,⟨b6,b7,b8,b9⟩,hks,e0,hR⟩:=adw t0 (fun a l c e=>qb Tryz.underlying29 pU dO.symm k0 (i:=22) (u:=27) rfl Tryz.underlying27 a l c (by simpa [Value.cells] using e));have q0:cs0.toList=csC zp zq zg zu za zf sec (.slice pt ks.length c):=by simpa [Value.cells] using e0
 have a0:Value.agg cs0=csV zp zq zg zu za zf sec (.slice pt ks.length c):=by rw[← Array.toArray_toList (xs:=cs0),q0]
 obtain⟨cs1,rfl,_⟩:=okWide_struct Tryz.underlying67 k1;obtain⟨f1,t1⟩:=id h1;obtain⟨ep,pP,PP,cP,many,hep,hmany,hPP,e1,rP⟩:=adp t1;have q1:cs1.toList=mxC ep (.slice pP PP.length cP) many:=by simpa [Value.cells] using e1
 have a1:Value.agg cs1=.agg (mxC ep (.slice pP PP.length cP) many).toArray:=by rw[← Array.toArray_toList (xs:=cs1),q1]
 obtain⟨pz,lz,cz,rfl,hz⟩:=fy Tryz.underlying77 k2;obtain⟨f2,t2⟩:=id h2;obtain⟨pM,M,cM,e2,hM,rM⟩:=da t2;have a2:Value.slice pz lz cz=.slice pM M.length cM:=by simpa [Value.cells] using e2
 have hF:=ft zp zq zg zu za zf sec pt c ks ep pP cP PP many pM cM M b1 b2 b3 b4 b5 hks b6 b7 b8 b9 hep hmany (fun x hx=>(hPP x hx).1) hM W ⟨hR,rP,fun x hx=>(hPP x hx).2,rM,tm hL⟩;rw[← a0,← a1,← a2] at hF;clear hA0 hval0;simp only[List.append_nil] at hW' hlt;refine Calls.mono hF ?_;rintro e W' ⟨v,Nn,rfl,hb,_,hv⟩;have hv' : v=.bool true:=hv;subst hv';refine⟨_,rfl,[d0,d1,d2],[],p0++(p1++p2),[],p0++(p1++p2),[],?_,?_,?_,rfl,hb.frame _,fun h=>by cases h⟩
 ·rw[← List.append_assoc];exact hW'
 ·exact trodAll_mk1 (shut_bool Tryz.underlying4 true)
 ·exact trodAll_mk3 (WideElems.Trod_stays afN iX (of_decide_eq_true (by kernel_rfl)) h0 (fun x hx=>hb.same (hlt x (by simp[hx]))) (fun x hx=>decide_eq_true (hlt x (by simp[hx]))))
   (WideElems.Trod_stays afN ik (of_decide_eq_true (by kernel_rfl)) h1 (fun x hx=>hb.same (hlt x (by simp[hx]))) (fun x hx=>decide_eq_true (hlt x (by simp[hx]))))
   (WideElems.Trod_stays afN jA (of_decide_eq_true (by kernel_rfl)) h2 (fun x hx=>hb.same (hlt x (by simp[hx]))) (fun x hx=>decide_eq_true (hlt x (by simp[hx]))))
theorem said:Rows.OutputsTurnedSaid :=
 OpenClaim.holds_of_wide 6 Tryz.f6 rfl rfl rfl rfl rfl rfl rfl ⟨rfl,rfl,rfl,rfl,rfl⟩ rfl rfl rfl rfl rfl (by kernel_rfl) Tryz.func6 (by kernel_rfl)
  (of_decide_eq_true (by kernel_rfl)) (by unfold Func.isWrapper;first|(rw[if_pos (by decide +kernel)];kernel_rfl)|(rw[if_neg (by decide +kernel)];exact⟨rfl,rfl⟩))
  (fun os started H enc _=>lifted os started H enc)
theorem proved:Rows.OutputsTurnedCardSaid :=
 Claim7.holds_tied_plain_at .later [] [.handle] true (true,"aeb8402b88fdba79e3928dcfd1f78a489fe7e5c0cb48ac7550da1d4d44418f1f") true
  said (fun _ h=>by cases h) (by kernel_rfl) (fun _ h=>by cases h) outputsTurned_row_tie rfl ⟨rfl,rfl⟩ (by kernel_rfl) rfl
  (fun f fn hf hfn=>by
   obtain rfl:f=6:=Option.some.inj ((show Tryz.prog.funcNamed "balefire/balefirelaw25.OutputsTurned"=some 6 by kernel_rfl).symm.trans hf) |>.symm
   obtain rfl:fn=Tryz.f6:=(Option.some.inj (Tryz.func6.symm.trans hfn)).symm;exact⟨by kernel_rfl,fun j t ht=>by
    rw[Tryz.params6] at ht;have hm:t∈[29,67,77]:=by simpa using Array.mem_of_getElem? ht
    have hall:([29,67,77].all fun u=>!Tryz.prog.wantsStandIn u)=true:=by kernel_rfl
    exact (show Tryz.prog.wantsStandIn t=false by simpa using List.all_eq_true.1 hall t hm)⟩)
  (by kernel_rfl)
end
end Go.Proofs.YtiiefkchpicncaaGreatDoor.outputsTurned
