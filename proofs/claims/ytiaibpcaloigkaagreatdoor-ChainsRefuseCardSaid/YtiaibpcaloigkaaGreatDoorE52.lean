/- The statement ChainsRefuse is proved: for any cast and numbers that can be read as data, a block that is another one in any of seven ways is refused, and the chain is as it was; the arguments read as they did. No conditions beyond what errors.errorType holds, which the card ties. -/
import Derived.Test.YtiaibpcaloigkaaGreatDoorE44
import Derived.Test.YtiaibpcaloigkaaGreatDoorE51
set_option linter.unusedSimpArgs false
set_option linter.unusedVariables false
namespace Go.Proofs.YtiaibpcaloigkaaGreatDoor.chainsRefuse
section
open Go Go.RowKit Go.BigFrame Go.ChangeShapes Go.WideShapes Go.ChangeAt Sx Ou
set_option maxRecDepth 100000 in
theorem lifted (os:Os) (started:os.Started) (H:Type) (enc:TypeId × Value→H) :
  ReturnsInHanded {} Tryz.checked os 5 .any (fun w args=>(Rows.chainsRefuseSpec.pre enc Tryz.prog Tryz.f5 [] false w args∧laidMetH Tryz.prog fy w)∧sizedMet enc Tryz.prog Tryz.f5 (OpenSpec.ofChange Rows.chainsRefuseSpec) false w args)
   (Rows.chainsRefuseSpec.post enc Tryz.prog Tryz.f5 false true false false):=by
 refine returnsInHanded_of_change_and (C:=Tryz.checked) (X:=fun w _=>laidMetH Tryz.prog fy w) (fun _ _ _ hh h=>h.of_heap hh) own started (by kernel_rfl) Tryz.func5
  (ChangeSpec.witness_shaped (enc:=enc) (C:=Tryz.checked) (os:=os) (X:=fun w _=>laidMetH Tryz.prog fy w) false (World.doorLaid Tryz.prog 24 os) #[.agg #[.int .u64 0,.int .u64 0,.int .u64 0,.int .u64 0,.int .u64 0,.int .u64 0,.int .u64 0,.int .u64 0,.int .u64 0,.int .u64 0,.int .u64 0,.int .u64 0,.int .u64 0,.int .u64 0,.int .u64 0,.int .u64 0,.int .u64 0,.int .u64 0,.int .u64 0,.int .u64 0,.int .i64 0,.int .i64 0,.slice none 0 0,.int .u32 0,.int .u8 0,.int .u8 0]] 8 rfl (World.shaped_of_RefB (by kernel_rfl) (by kernel_rfl)) (by kernel_rfl) (by kernel_rfl) (by kernel_rfl) (abI os _)) ?_
 intro W base args ds gs before hval0 hW _ _ hL _;have hval:∀ (j:Nat) t v,Tryz.f5.params[j]?=some t→args[j]?=some v→Value.okWide Tryz.prog W .any base t v:=hval0;have hW':=hW;have hlt:=hW.lt;obtain⟨p,q,hA0,hV,rfl,hfz,hnd⟩:=hW;have hA:DataW.TrodAll enc Tryz.prog W 0 (fun _=>true) true Tryz.f5.params.toList args.toList ds p:=hA0;rw[Tryz.params5] at hA hval;obtain⟨v0,d0,rfl,rfl,h0⟩:=trodAll_one hA;obtain⟨rfl,rfl⟩:=trodVars_none hV;have k0:=hval 0 89 v0 rfl rfl;obtain⟨cs0,rfl,_⟩:=okWide_struct Tryz.underlying89 k0;obtain⟨f0,t0⟩:=id h0;obtain⟨zp,zq,zg,zu,za,zf,sec,pt,ks,c,seed,by',at',⟨b1,b2,b3,b4,b5⟩,⟨b6,b7,b8,b9⟩,hks,hf1,hf2,hf3,e0,hR⟩:=aeE t0 (fun a l c e=>kG Tryz.underlying89 lq f9.symm k0 (i:=22) (u:=27) rfl Tryz.underlying27 a l c (by simpa [Value.cells] using e));have q0:cs0.toList=csC zp zq zg zu za zf sec (.slice pt ks.length c)++([.int .u32 (seed:Int),.int .u8 (by' : Int),.int .u8 (at' : Int)]:List Value):=by simpa [Value.cells] using e0
 have a0:Value.agg cs0=.agg (csC zp zq zg zu za zf sec (.slice pt ks.length c)++([.int .u32 (seed:Int),.int .u8 (by' : Int),.int .u8 (at' : Int)]:List Value)).toArray:=by rw[← Array.toArray_toList (xs:=cs0),q0]
 have hF:=ad6 zp zq zg zu za zf sec pt c ks seed by' at' b1 b2 b3 b4 b5 hks b6 b7 b8 b9 hf1 hf2 hf3 W ⟨hR,qq hL⟩
 rw[← a0] at hF;clear hA0 hval0;simp only[List.append_nil] at hW' hlt;refine Calls.mono hF ?_;rintro e W' ⟨v,Nn,rfl,hb,_,hv⟩;have hv' : v=.bool true:=hv;subst hv';refine⟨_,rfl,[d0],[],p,[],p,[],?_,?_,?_,rfl,hb.frame _,fun h=>by cases h⟩
 ·exact hW'
 ·exact trodAll_mk1 (shut_bool Tryz.underlying4 true)
 ·exact trodAll_mk1 (WideElems.Trod_stays ahB bd (of_decide_eq_true (by kernel_rfl)) h0 (fun x hx=>hb.same (hlt x (by simp[hx]))) (fun x hx=>decide_eq_true (hlt x (by simp[hx]))))
theorem q1:(Rows.chainsRefuseRow.inPlace == Tryz.pinned.checked.prog.inPlace 5)=true:=by kernel_rfl
theorem q2:(Rows.chainsRefuseRow.unfollowed == Tryz.pinned.checked.prog.unfollowed 5)=true:=by kernel_rfl
theorem q3:(Rows.chainsRefuseRow.recurses == Tryz.pinned.checked.prog.recurses 5)=true:=by kernel_rfl
theorem q4:(Rows.chainsRefuseRow.named == Tryz.pinned.checked.prog.varsNamed 5)=true:=by kernel_rfl
theorem q5:laidOutB Tryz.pinned.checked.prog=true:=by kernel_rfl
theorem said:Rows.ChainsRefuseSaid :=
 OpenClaim.holds_of_wide 5 Tryz.f5 rfl rfl rfl rfl rfl rfl rfl ⟨rfl,rfl,rfl,rfl,rfl⟩ rfl rfl rfl rfl rfl (by kernel_rfl) Tryz.func5 (by unfold joinedFacts;rw[q1,q2,q3,q4,q5];kernel_rfl)
  (of_decide_eq_true (by kernel_rfl)) (by unfold Func.isWrapper;first|(rw[if_pos (by decide +kernel)];kernel_rfl)|(rw[if_neg (by decide +kernel)];exact⟨rfl,rfl⟩))
  (fun os started H enc _=>lifted os started H enc)
theorem proved:Rows.ChainsRefuseCardSaid :=
 Claim7.holds_tied_plain_at .later [] [.handle] true (true,"371edef1aab442ec0aa39bb1d37a9cb9443f050943f855c91e5bbe0e3f5e417d") true
  said (fun _ h=>by cases h) (by kernel_rfl) (fun _ h=>by cases h) chainsRefuse_row_tie rfl ⟨rfl,rfl⟩ (by kernel_rfl) rfl
  (fun f fn hf hfn=>by
   obtain rfl:f=5:=Option.some.inj ((show Tryz.prog.funcNamed "balefire/balefirelaw26.ChainsRefuse"=some 5 by kernel_rfl).symm.trans hf) |>.symm
   obtain rfl:fn=Tryz.f5:=(Option.some.inj (Tryz.func5.symm.trans hfn)).symm;exact⟨by kernel_rfl,fun j t ht=>by
    rw[Tryz.params5] at ht;have hm:t∈[89]:=by simpa using Array.mem_of_getElem? ht
    have hall:([89].all fun u=>!Tryz.prog.wantsStandIn u)=true:=by kernel_rfl
    exact (show Tryz.prog.wantsStandIn t=false by simpa using List.all_eq_true.1 hall t hm)⟩)
  (by kernel_rfl)
end
end Go.Proofs.YtiaibpcaloigkaaGreatDoor.chainsRefuse
