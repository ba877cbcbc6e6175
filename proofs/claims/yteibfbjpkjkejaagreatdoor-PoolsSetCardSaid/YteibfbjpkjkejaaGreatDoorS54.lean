/- The statement PoolsSet is proved: for any Sets that can be read as data, hashes that are in another order, one of which is there twice, or is none of a dealing, may not count, nor may too few; the argument reads as it did. No conditions beyond what errors.errorType holds, which the card ties. -/
import Derived.Test.YteibfbjpkjkejaaGreatDoorS53
set_option linter.unusedSimpArgs false
set_option linter.unusedVariables false
namespace Go.Proofs.YteibfbjpkjkejaaGreatDoor.poolsSet
section
open Go Go.RowKit Go.BigFrame Go.ChangeShapes Go.WideShapes Go.ChangeAt Sx Ou
set_option maxRecDepth 100000 in
theorem lifted (os:Os) (started:os.Started) (H:Type) (enc:TypeId × Value→H) :
  ReturnsInHanded {} Tryz.checked os 5 .any (fun w args=>(Rows.poolsSetSpec.pre enc Tryz.prog Tryz.f5 [] false w args∧laidMetH Tryz.prog jO w)∧sizedMet enc Tryz.prog Tryz.f5 (OpenSpec.ofChange Rows.poolsSetSpec) false w args)
   (Rows.poolsSetSpec.post enc Tryz.prog Tryz.f5 false true false false):=by
 refine returnsInHanded_of_change_and (C:=Tryz.checked) (X:=fun w _=>laidMetH Tryz.prog jO w) (fun _ _ _ hh h=>h.of_heap hh) own started (by kernel_rfl) Tryz.func5
  (ChangeSpec.witness_shaped (enc:=enc) (C:=Tryz.checked) (os:=os) (X:=fun w _=>laidMetH Tryz.prog jO w) false (World.doorLaid Tryz.prog 24 os) #[.agg #[.int .u64 0,.int .u64 0,.int .u64 0,.int .u64 0,.int .u64 0,.int .u64 0,.int .u64 0,.int .u64 0,.int .u64 0,.int .u64 0,.int .u64 0,.int .u64 0,.int .u64 0,.int .u64 0,.int .u64 0,.int .u64 0,.int .u64 0,.int .u64 0,.int .u64 0,.int .u64 0,.int .i64 0,.int .i64 0,.slice none 0 0,.slice none 0 0,.int .u8 0,.int .u8 0,.int .u8 0,.int .u8 0,.int .u8 0,.int .u8 0,.int .u8 0,.int .u8 0,.int .u8 0,.int .u8 0,.int .u8 0,.int .u8 0,.int .u8 0,.int .u8 0,.int .u8 0,.int .u8 0,.int .u8 0,.int .u8 0,.int .u8 0,.int .u8 0,.int .u8 0,.int .u8 0,.int .u8 0,.int .u8 0,.int .u8 0,.int .u8 0,.int .u8 0,.int .u8 0,.int .u8 0,.int .u8 0,.int .u8 0,.int .u8 0,.int .u8 0]] 8 rfl (World.shaped_of_RefB (by kernel_rfl) (by kernel_rfl)) (by kernel_rfl) (by kernel_rfl) (by kernel_rfl) (aP os _)) ?_
 intro W base args ds gs before hval0 hW _ _ hL _;have hval:∀ (j:Nat) t v,Tryz.f5.params[j]?=some t→args[j]?=some v→Value.okWide Tryz.prog W .any base t v:=hval0;have hW':=hW;have hlt:=hW.lt;obtain⟨p,q,hA0,hV,rfl,hfz,hnd⟩:=hW;have hA:DataW.TrodAll enc Tryz.prog W 0 (fun _=>true) true Tryz.f5.params.toList args.toList ds p:=hA0;rw[Tryz.params5] at hA hval;obtain⟨v0,d0,rfl,rfl,h0⟩:=trodAll_one hA;obtain⟨rfl,rfl⟩:=trodVars_none hV;have k0:=hval 0 70 v0 rfl rfl;obtain⟨cs0,rfl,_⟩:=okWide_struct Tryz.underlying70 k0;obtain⟨f0,t0⟩:=id h0;obtain⟨zp,zq,zg,zu,za,zf,sec,pt,ks,c,pl,dl,cl,A,at',⟨b1,b2,b3,b4,b5⟩,⟨b6,b7,b8,b9⟩,hks,hdl,hA1,hA2,hat,e0,hR,rm⟩:=ade t0 (fun a l c e=>kl Tryz.underlying70 jJ aaN.symm k0 (i:=22) (u:=27) rfl Tryz.underlying27 a l c (by simpa [Value.cells] using e));have q0:cs0.toList=seC (csC zp zq zg zu za zf sec (.slice pt ks.length c)) (.slice pl dl.length cl) A at':=by simpa [Value.cells] using e0
 have a0:Value.agg cs0=.agg (seC (csC zp zq zg zu za zf sec (.slice pt ks.length c)) (.slice pl dl.length cl) A at').toArray:=by rw[← Array.toArray_toList (xs:=cs0),q0]
 have hF:=abt zp zq zg zu za zf sec pt c ks pl cl dl A at' b1 b2 b3 b4 b5 hks b6 b7 b8 b9 hA1 hA2 hat W ⟨hR,rm,hdl,qK hL⟩;rw[← a0] at hF;clear hA0 hval0;simp only[List.append_nil] at hW' hlt;refine Calls.mono hF ?_;rintro e W' ⟨v,Nn,rfl,hb,_,hv⟩;have hv' : v=.bool true:=hv;subst hv';refine⟨_,rfl,[d0],[],p,[],p,[],?_,?_,?_,rfl,hb.frame _,fun h=>by cases h⟩
 ·exact hW'
 ·exact trodAll_mk1 (shut_bool Tryz.underlying4 true)
 ·exact trodAll_mk1 (WideElems.Trod_stays afo aW (of_decide_eq_true (by kernel_rfl)) h0 (fun x hx=>hb.same (hlt x (by simp[hx]))) (fun x hx=>decide_eq_true (hlt x (by simp[hx]))))
theorem said:Rows.PoolsSetSaid :=
 OpenClaim.holds_of_wide 5 Tryz.f5 rfl rfl rfl rfl rfl rfl rfl ⟨rfl,rfl,rfl,rfl,rfl⟩ rfl rfl rfl rfl rfl (by kernel_rfl) Tryz.func5 (by kernel_rfl)
  (of_decide_eq_true (by kernel_rfl)) (by unfold Func.isWrapper;first|(rw[if_pos (by decide +kernel)];kernel_rfl)|(rw[if_neg (by decide +kernel)];exact⟨rfl,rfl⟩))
  (fun os started H enc _=>lifted os started H enc)
theorem proved:Rows.PoolsSetCardSaid :=
 Claim7.holds_tied_plain_at .later [] [.handle] true (true,"0a5f9fa93f9aed482452ba48ef38ee29a8c25d55c053cd0b1afdcd7a5a3478f3") true
  said (fun _ h=>by cases h) (by kernel_rfl) (fun _ h=>by cases h) poolsSet_row_tie rfl ⟨rfl,rfl⟩ (by kernel_rfl) rfl
  (fun f fn hf hfn=>by
   obtain rfl:f=5:=Option.some.inj ((show Tryz.prog.funcNamed "balefire/balefirelaw23.PoolsSet"=some 5 by kernel_rfl).symm.trans hf) |>.symm
   obtain rfl:fn=Tryz.f5:=(Option.some.inj (Tryz.func5.symm.trans hfn)).symm;exact⟨by kernel_rfl,fun j t ht=>by
    rw[Tryz.params5] at ht;have hm:t∈[70]:=by simpa using Array.mem_of_getElem? ht
    have hall:([70].all fun u=>!Tryz.prog.wantsStandIn u)=true:=by kernel_rfl
    exact (show Tryz.prog.wantsStandIn t=false by simpa using List.all_eq_true.1 hall t hm)⟩)
  (by kernel_rfl)
end
end Go.Proofs.YteibfbjpkjkejaaGreatDoor.poolsSet
