/- The statement PoolsRefuse is proved: for any Refuse that can be read as data, a dealing in which one number is another one, or of another epoch, does not come in, and what is there is as it was; the argument reads as it did. No conditions beyond what errors.errorType holds, which the card ties. -/
import Derived.Test.YteibfbjpkjkejaaGreatDoorM53
set_option linter.unusedSimpArgs false
set_option linter.unusedVariables false
namespace Go.Proofs.YteibfbjpkjkejaaGreatDoor.poolsRefuse
section
open Go Go.RowKit Go.BigFrame Go.ChangeShapes Go.WideShapes Go.ChangeAt Sx Ou
set_option maxRecDepth 100000 in
theorem lifted (os:Os) (started:os.Started) (H:Type) (enc:TypeId × Value→H) :
  ReturnsInHanded {} Tryz.checked os 3 .any (fun w args=>(Rows.poolsRefuseSpec.pre enc Tryz.prog Tryz.f3 [] false w args∧laidMetH Tryz.prog jx w)∧sizedMet enc Tryz.prog Tryz.f3 (OpenSpec.ofChange Rows.poolsRefuseSpec) false w args)
   (Rows.poolsRefuseSpec.post enc Tryz.prog Tryz.f3 false true false false):=by
 refine returnsInHanded_of_change_and (C:=Tryz.checked) (X:=fun w _=>laidMetH Tryz.prog jx w) (fun _ _ _ hh h=>h.of_heap hh) own started (by kernel_rfl) Tryz.func3
  (ChangeSpec.witness_shaped (enc:=enc) (C:=Tryz.checked) (os:=os) (X:=fun w _=>laidMetH Tryz.prog jx w) false (World.doorLaid Tryz.prog 24 os) #[.agg #[.int .u64 0,.int .u64 0,.int .u64 0,.int .u64 0,.int .u64 0,.int .u64 0,.int .u64 0,.int .u64 0,.int .u64 0,.int .u64 0,.int .u64 0,.int .u64 0,.int .u64 0,.int .u64 0,.int .u64 0,.int .u64 0,.int .u64 0,.int .u64 0,.int .u64 0,.int .u64 0,.int .i64 0,.int .i64 0,.slice none 0 0,.int .u8 0,.slice none 0 0,.int .u64 0,.int .u8 0,.int .u8 0]] 8 rfl (World.shaped_of_RefB (by kernel_rfl) (by kernel_rfl)) (by kernel_rfl) (by kernel_rfl) (by kernel_rfl) (cM os _)) ?_
 intro W base args ds gs before hval0 hW _ _ hL _;have hval:∀ (j:Nat) t v,Tryz.f3.params[j]?=some t→args[j]?=some v→Value.okWide Tryz.prog W .any base t v:=hval0;have hW':=hW;have hlt:=hW.lt;obtain⟨p,q,hA0,hV,rfl,hfz,hnd⟩:=hW;have hA:DataW.TrodAll enc Tryz.prog W 0 (fun _=>true) true Tryz.f3.params.toList args.toList ds p:=hA0;rw[Tryz.params3] at hA hval;obtain⟨v0,d0,rfl,rfl,h0⟩:=trodAll_one hA;obtain⟨rfl,rfl⟩:=trodVars_none hV;have k0:=hval 0 34 v0 rfl rfl;obtain⟨cs0,rfl,_⟩:=okWide_struct Tryz.underlying34 k0;obtain⟨f0,t0⟩:=id h0;obtain⟨zp,zq,zg,zu,za,zf,sec,pt,ks,c,d,pP,P,cP,ep,at',by',⟨b1,b2,b3,b4,b5⟩,⟨b6,b7,b8,b9⟩,hks,hP,hd,hep,hat,hby,e0,hR,hR2⟩:=af t0 (fun a l c e=>ln Tryz.underlying34 nn k8.symm k0 (i:=22) (u:=27) rfl Tryz.underlying27 a l c (by simpa [Value.cells] using e));have q0:cs0.toList=rfC (csC zp zq zg zu za zf sec (.slice pt ks.length c)) d (.slice pP P.length cP) ep at' by':=by simpa [Value.cells] using e0
 have a0:Value.agg cs0=.agg (rfC (csC zp zq zg zu za zf sec (.slice pt ks.length c)) d (.slice pP P.length cP) ep at' by').toArray:=by rw[← Array.toArray_toList (xs:=cs0),q0]
 have hF:=bC zp zq zg zu za zf sec pt c ks ep d pP cP P at' by' b1 b2 b3 b4 b5 hks b6 b7 b8 b9 hP hd hep hat hby W ⟨hR,hR2,qj hL⟩
 rw[← a0] at hF;clear hA0 hval0;simp only[List.append_nil] at hW' hlt;refine Calls.mono hF ?_;rintro e W' ⟨v,Nn,rfl,hb,_,hv⟩;have hv' : v=.bool true:=hv;subst hv';refine⟨_,rfl,[d0],[],p,[],p,[],?_,?_,?_,rfl,hb.frame _,fun h=>by cases h⟩
 ·exact hW'
 ·exact trodAll_mk1 (shut_bool Tryz.underlying4 true)
 ·exact trodAll_mk1 (WideElems.Trod_stays aeU iz (of_decide_eq_true (by kernel_rfl)) h0 (fun x hx=>hb.same (hlt x (by simp[hx]))) (fun x hx=>decide_eq_true (hlt x (by simp[hx]))))
theorem said:Rows.PoolsRefuseSaid :=
 OpenClaim.holds_of_wide 3 Tryz.f3 rfl rfl rfl rfl rfl rfl rfl ⟨rfl,rfl,rfl,rfl,rfl⟩ rfl rfl rfl rfl rfl (by kernel_rfl) Tryz.func3 (by kernel_rfl)
  (of_decide_eq_true (by kernel_rfl)) (by unfold Func.isWrapper;first|(rw[if_pos (by decide +kernel)];kernel_rfl)|(rw[if_neg (by decide +kernel)];exact⟨rfl,rfl⟩))
  (fun os started H enc _=>lifted os started H enc)
theorem proved:Rows.PoolsRefuseCardSaid :=
 Claim7.holds_tied_plain_at .later [] [.handle] true (true,"0a5f9fa93f9aed482452ba48ef38ee29a8c25d55c053cd0b1afdcd7a5a3478f3") true
  said (fun _ h=>by cases h) (by kernel_rfl) (fun _ h=>by cases h) poolsRefuse_row_tie rfl ⟨rfl,rfl⟩ (by kernel_rfl) rfl
  (fun f fn hf hfn=>by
   obtain rfl:f=3:=Option.some.inj ((show Tryz.prog.funcNamed "balefire/balefirelaw23.PoolsRefuse"=some 3 by kernel_rfl).symm.trans hf) |>.symm
   obtain rfl:fn=Tryz.f3:=(Option.some.inj (Tryz.func3.symm.trans hfn)).symm;exact⟨by kernel_rfl,fun j t ht=>by
    rw[Tryz.params3] at ht;have hm:t∈[34]:=by simpa using Array.mem_of_getElem? ht
    have hall:([34].all fun u=>!Tryz.prog.wantsStandIn u)=true:=by kernel_rfl
    exact (show Tryz.prog.wantsStandIn t=false by simpa using List.all_eq_true.1 hall t hm)⟩)
  (by kernel_rfl)
end
end Go.Proofs.YteibfbjpkjkejaaGreatDoor.poolsRefuse
