/- The statement DealingsBack is proved: for any setting and any Given that can be read as data, what is dealt passes, its polynomial is shown, V and Y are powers of the shares, and dealt again it is the same; the arguments read as they did. No conditions beyond what errors.errorType holds, which the card ties. -/
import Derived.Test.YtegjemedanccoaaGreatDoorM50
set_option linter.unusedSimpArgs false
set_option linter.unusedVariables false
namespace Go.Proofs.YtegjemedanccoaaGreatDoor.dealingsBack
section
open Go Go.RowKit Go.BigFrame Go.ChangeShapes Go.WideShapes Go.ChangeAt Sx Ou
set_option maxRecDepth 100000 in
theorem lifted (os:Os) (started:os.Started) (H:Type) (enc:TypeId × Value→H) :
  ReturnsInHanded {} Tryz.checked os 4 .any (fun w args=>(Rows.dealingsBackSpec.pre enc Tryz.prog Tryz.f4 [] false w args∧laidMetH Tryz.prog sQ w)∧sizedMet enc Tryz.prog Tryz.f4 (OpenSpec.ofChange Rows.dealingsBackSpec) false w args)
   (Rows.dealingsBackSpec.post enc Tryz.prog Tryz.f4 false true false false):=by
 refine returnsInHanded_of_change_and (C:=Tryz.checked) (X:=fun w _=>laidMetH Tryz.prog sQ w) (fun _ _ _ hh h=>h.of_heap hh) own started (by kernel_rfl) Tryz.func4
  (ChangeSpec.witness_shaped (enc:=enc) (C:=Tryz.checked) (os:=os) (X:=fun w _=>laidMetH Tryz.prog sQ w) false (World.doorLaid Tryz.prog 24 os) #[.agg #[.int .u64 0,.int .u64 0,.int .u64 0,.int .u64 0,.int .u64 0,.int .u64 0,.int .u64 0,.int .u64 0,.int .u64 0,.int .u64 0,.int .u64 0,.int .u64 0,.int .u64 0,.int .u64 0,.int .u64 0,.int .u64 0,.int .i64 0,.int .i64 0,.slice none 0 0],.agg #[.int .u64 0,.int .u8 0,.slice none 0 0,.int .u64 0,.int .u64 0,.int .u64 0,.int .u64 0]] 8 rfl (World.shaped_of_RefB (by kernel_rfl) (by kernel_rfl)) (by kernel_rfl) (by kernel_rfl) (by kernel_rfl) (ou os _)) ?_
 intro W base args ds gs before hval0 hW _ _ hL _;have hval:∀ (j:Nat) t v,Tryz.f4.params[j]?=some t→args[j]?=some v→Value.okWide Tryz.prog W .any base t v:=hval0;have hW':=hW;have hlt:=hW.lt;obtain⟨p,q,hA0,hV,rfl,hfz,hnd⟩:=hW;have hA:DataW.TrodAll enc Tryz.prog W 0 (fun _=>true) true Tryz.f4.params.toList args.toList ds p:=hA0;rw[Tryz.params4] at hA hval;obtain⟨v0,v1,d0,d1,p0,p1,rfl,rfl,rfl,h0,h1⟩:=trodAll_two hA;obtain⟨rfl,rfl⟩:=trodVars_none hV;have k0:=hval 0 29 v0 rfl rfl;have k1:=hval 1 38 v1 rfl rfl;obtain⟨cs0,rfl,_⟩:=okWide_struct Tryz.underlying29 k0;obtain⟨f0,t0⟩:=id h0;obtain⟨pp,qq,gg,uu,ff,sec,pt,N,c,b1,b2,b3,b4,⟨b5,b6,b7,b8⟩,hN,e0,hR⟩:=rc t0 (fun a l c e=>vz Tryz.underlying29 yu vu.symm k0 (i:=18) (u:=27) rfl Tryz.underlying27 a l c (by simpa [Value.cells] using e));have q0:cs0.toList=stC pp qq gg uu ff sec (.slice pt N.length c):=by simpa [Value.cells] using e0
 have hcap:N.length≤c:=vS Tryz.underlying29 yu vu.symm k0 (i:=18) (u:=27) rfl Tryz.underlying27 (p:=pt) (by rw[← Array.getElem?_toList,q0];rfl);have a0:Value.agg cs0=stV pp qq gg uu ff sec (.slice pt N.length c):=by rw[← Array.toArray_toList (xs:=cs0),q0]
 obtain⟨cs1,rfl,_⟩:=okWide_struct Tryz.underlying38 k1;obtain⟨f1,t1⟩:=id h1;obtain⟨ep,d,pl,l,cl,u,g1,g2,g3,g4,e1,r1⟩:=az t1 (fun a l c e=>vz Tryz.underlying38 vY mb.symm k1 (i:=2) (u:=36) rfl Tryz.underlying36 a l c (by simpa [Value.cells] using e));have q1:cs1.toList=gdC ep d (.slice pl l.length cl) u:=by simpa [Value.cells] using e1
 have hcapl:l.length≤cl:=vS Tryz.underlying38 vY mb.symm k1 (i:=2) (u:=36) rfl Tryz.underlying36 (p:=pl) (by rw[← Array.getElem?_toList,q1];rfl);have a1:Value.agg cs1=gdV ep d (.slice pl l.length cl) u:=by rw[← Array.toArray_toList (xs:=cs1),q1]
 have hF:=sM pp qq gg uu ff sec pt c N ep d u pl cl l b1 b2 b3 b4 hN g3 b5 b6 b7 b8 g2 g4 g1 W ⟨⟨hR,r1⟩,vN hL⟩;rw[← a0,← a1] at hF;clear hA0 hval0;simp only[List.append_nil] at hW' hlt;refine Calls.mono hF ?_;rintro e W' ⟨v,Nn,rfl,hb,_,hv⟩;have hv' : v=.bool true:=hv;subst hv';refine⟨_,rfl,[d0,d1],[],p0++p1,[],p0++p1,[],?_,?_,?_,rfl,hb.frame _,fun h=>by cases h⟩
 ·exact hW'
 ·exact trodAll_mk1 (shut_bool Tryz.underlying4 true)
 ·exact trodAll_mk2 (WideElems.Trod_stays abk te (of_decide_eq_true (by kernel_rfl)) h0 (fun x hx=>hb.same (hlt x (by simp[hx]))) (fun x hx=>decide_eq_true (hlt x (by simp[hx]))))
   (WideElems.Trod_stays abk nE (of_decide_eq_true (by kernel_rfl)) h1 (fun x hx=>hb.same (hlt x (by simp[hx]))) (fun x hx=>decide_eq_true (hlt x (by simp[hx]))))
theorem said:Rows.DealingsBackSaid :=
 OpenClaim.holds_of_wide 4 Tryz.f4 rfl rfl rfl rfl rfl rfl rfl ⟨rfl,rfl,rfl,rfl,rfl⟩ rfl rfl rfl rfl rfl (by kernel_rfl) Tryz.func4 (by kernel_rfl)
  (of_decide_eq_true (by kernel_rfl)) (by unfold Func.isWrapper;first|(rw[if_pos (by decide +kernel)];kernel_rfl)|(rw[if_neg (by decide +kernel)];exact⟨rfl,rfl⟩))
  (fun os started H enc _=>lifted os started H enc)
theorem proved:Rows.DealingsBackCardSaid :=
 Claim7.holds_tied_plain_at .later [] [.handle] true (true,"6eb5e70cbb3c680ebf56ff6701894ce9fcde5930b8988b6a4e98bc0ada49810b") true
  said (fun _ h=>by cases h) (by kernel_rfl) (fun _ h=>by cases h) dealingsBack_row_tie rfl ⟨rfl,rfl⟩ (by kernel_rfl) rfl
  (fun f fn hf hfn=>by
   obtain rfl:f=4:=Option.some.inj ((show Tryz.prog.funcNamed "balefire/balefirelaw15.DealingsBack"=some 4 by kernel_rfl).symm.trans hf) |>.symm
   obtain rfl:fn=Tryz.f4:=(Option.some.inj (Tryz.func4.symm.trans hfn)).symm;exact⟨by kernel_rfl,fun j t ht=>by
    rw[Tryz.params4] at ht;have hm:t∈[29,38]:=by simpa using Array.mem_of_getElem? ht
    have hall:([29,38].all fun u=>!Tryz.prog.wantsStandIn u)=true:=by kernel_rfl
    exact (show Tryz.prog.wantsStandIn t=false by simpa using List.all_eq_true.1 hall t hm)⟩)
  (by kernel_rfl)
end
end Go.Proofs.YtegjemedanccoaaGreatDoor.dealingsBack
