/- The statement ChainsGrow is proved: for any cast and numbers that can be read as data, block behind block is let be, all values are there, each as its block has it, and no more; another chain of the same blocks tells the same; the arguments read as they did. No conditions beyond what errors.errorType holds, which the card ties. -/
import Derived.Test.YtiaibpcaloigkaaGreatDoorG43
import Derived.Test.YtiaibpcaloigkaaGreatDoorG51
set_option linter.unusedSimpArgs false
set_option linter.unusedVariables false
namespace Go.Proofs.YtiaibpcaloigkaaGreatDoor.chainsGrow
section
open Go Go.RowKit Go.BigFrame Go.ChangeShapes Go.WideShapes Go.ChangeAt Sx Ou
set_option maxRecDepth 100000 in
theorem lifted (os:Os) (started:os.Started) (H:Type) (enc:TypeId × Value→H) :
  ReturnsInHanded {} Tryz.checked os 4 .any (fun w args=>(Rows.chainsGrowSpec.pre enc Tryz.prog Tryz.f4 [] false w args∧laidMetH Tryz.prog iL w)∧sizedMet enc Tryz.prog Tryz.f4 (OpenSpec.ofChange Rows.chainsGrowSpec) false w args)
   (Rows.chainsGrowSpec.post enc Tryz.prog Tryz.f4 false true false false):=by
 refine returnsInHanded_of_change_and (C:=Tryz.checked) (X:=fun w _=>laidMetH Tryz.prog iL w) (fun _ _ _ hh h=>h.of_heap hh) own started (by kernel_rfl) Tryz.func4
  (ChangeSpec.witness_shaped (enc:=enc) (C:=Tryz.checked) (os:=os) (X:=fun w _=>laidMetH Tryz.prog iL w) false (World.doorLaid Tryz.prog 24 os) #[.agg #[.int .u64 0,.int .u64 0,.int .u64 0,.int .u64 0,.int .u64 0,.int .u64 0,.int .u64 0,.int .u64 0,.int .u64 0,.int .u64 0,.int .u64 0,.int .u64 0,.int .u64 0,.int .u64 0,.int .u64 0,.int .u64 0,.int .u64 0,.int .u64 0,.int .u64 0,.int .u64 0,.int .i64 0,.int .i64 0,.slice none 0 0],.slice none 0 0] 8 rfl (World.shaped_of_RefB (by kernel_rfl) (by kernel_rfl)) (by kernel_rfl) (by kernel_rfl) (by kernel_rfl) (abg os _)) ?_
 intro W base args ds gs before hval0 hW _ _ hL _;have hval:∀ (j:Nat) t v,Tryz.f4.params[j]?=some t→args[j]?=some v→Value.okWide Tryz.prog W .any base t v:=hval0;have hW':=hW;have hlt:=hW.lt;obtain⟨p,q,hA0,hV,rfl,hfz,hnd⟩:=hW;have hA:DataW.TrodAll enc Tryz.prog W 0 (fun _=>true) true Tryz.f4.params.toList args.toList ds p:=hA0;rw[Tryz.params4] at hA hval;obtain⟨v0,v1,d0,d1,p0,p1,rfl,rfl,rfl,h0,h1⟩:=trodAll_two hA;obtain⟨rfl,rfl⟩:=trodVars_none hV;have k0:=hval 0 29 v0 rfl rfl;have k1:=hval 1 65 v1 rfl rfl;obtain⟨cs0,rfl,_⟩:=okWide_struct Tryz.underlying29 k0;obtain⟨f0,t0⟩:=id h0;obtain⟨zp,zq,zg,zu,za,zf,sec,pt,ks,c,⟨b1,b2,b3,b4,b5⟩,⟨b6,b7,b8,b9⟩,hks,e0,hR⟩:=afd t0 (fun a l c e=>ko Tryz.underlying29 ft aci.symm k0 (i:=22) (u:=27) rfl Tryz.underlying27 a l c (by simpa [Value.cells] using e));have q0:cs0.toList=csC zp zq zg zu za zf sec (.slice pt ks.length c):=by simpa [Value.cells] using e0
 have a0:Value.agg cs0=csV zp zq zg zu za zf sec (.slice pt ks.length c):=by rw[← Array.toArray_toList (xs:=cs0),q0]
 obtain⟨pz,lz,cz,rfl,hz⟩:=fk Tryz.underlying65 k1;obtain⟨f1,t1⟩:=id h1;obtain⟨pm,dl,cm,e1,hdl,rm⟩:=agP t1;have a1:Value.slice pz lz cz=.slice pm dl.length cm:=by simpa [Value.cells] using e1
 have hF:=abj zp zq zg zu za zf sec pt c ks pm cm dl b1 b2 b3 b4 b5 hks b6 b7 b8 b9 hdl W ⟨hR,rm,qq hL⟩;rw[← a0,← a1] at hF;clear hA0 hval0;simp only[List.append_nil] at hW' hlt;refine Calls.mono hF ?_;rintro e W' ⟨v,Nn,rfl,hb,_,hv⟩;have hv' : v=.bool true:=hv;subst hv';refine⟨_,rfl,[d0,d1],[],p0++p1,[],p0++p1,[],?_,?_,?_,rfl,hb.frame _,fun h=>by cases h⟩
 ·exact hW'
 ·exact trodAll_mk1 (shut_bool Tryz.underlying4 true)
 ·exact trodAll_mk2 (WideElems.Trod_stays ahP abF (of_decide_eq_true (by kernel_rfl)) h0 (fun x hx=>hb.same (hlt x (by simp[hx]))) (fun x hx=>decide_eq_true (hlt x (by simp[hx]))))
   (WideElems.Trod_stays ahP aal (of_decide_eq_true (by kernel_rfl)) h1 (fun x hx=>hb.same (hlt x (by simp[hx]))) (fun x hx=>decide_eq_true (hlt x (by simp[hx]))))
theorem q1:(Rows.chainsGrowRow.inPlace == Tryz.pinned.checked.prog.inPlace 4)=true:=by kernel_rfl
theorem q2:(Rows.chainsGrowRow.unfollowed == Tryz.pinned.checked.prog.unfollowed 4)=true:=by kernel_rfl
theorem q3:(Rows.chainsGrowRow.recurses == Tryz.pinned.checked.prog.recurses 4)=true:=by kernel_rfl
theorem q4:(Rows.chainsGrowRow.named == Tryz.pinned.checked.prog.varsNamed 4)=true:=by kernel_rfl
theorem q5:laidOutB Tryz.pinned.checked.prog=true:=by kernel_rfl
theorem said:Rows.ChainsGrowSaid :=
 OpenClaim.holds_of_wide 4 Tryz.f4 rfl rfl rfl rfl rfl rfl rfl ⟨rfl,rfl,rfl,rfl,rfl⟩ rfl rfl rfl rfl rfl (by kernel_rfl) Tryz.func4 (by unfold joinedFacts;rw[q1,q2,q3,q4,q5];kernel_rfl)
  (of_decide_eq_true (by kernel_rfl)) (by unfold Func.isWrapper;first|(rw[if_pos (by decide +kernel)];kernel_rfl)|(rw[if_neg (by decide +kernel)];exact⟨rfl,rfl⟩))
  (fun os started H enc _=>lifted os started H enc)
theorem proved:Rows.ChainsGrowCardSaid :=
 Claim7.holds_tied_plain_at .later [] [.handle] true (true,"371edef1aab442ec0aa39bb1d37a9cb9443f050943f855c91e5bbe0e3f5e417d") true
  said (fun _ h=>by cases h) (by kernel_rfl) (fun _ h=>by cases h) chainsGrow_row_tie rfl ⟨rfl,rfl⟩ (by kernel_rfl) rfl
  (fun f fn hf hfn=>by
   obtain rfl:f=4:=Option.some.inj ((show Tryz.prog.funcNamed "balefire/balefirelaw26.ChainsGrow"=some 4 by kernel_rfl).symm.trans hf) |>.symm
   obtain rfl:fn=Tryz.f4:=(Option.some.inj (Tryz.func4.symm.trans hfn)).symm;exact⟨by kernel_rfl,fun j t ht=>by
    rw[Tryz.params4] at ht;have hm:t∈[29,65]:=by simpa using Array.mem_of_getElem? ht
    have hall:([29,65].all fun u=>!Tryz.prog.wantsStandIn u)=true:=by kernel_rfl
    exact (show Tryz.prog.wantsStandIn t=false by simpa using List.all_eq_true.1 hall t hm)⟩)
  (by kernel_rfl)
end
end Go.Proofs.YtiaibpcaloigkaaGreatDoor.chainsGrow
