/- The statement DealingsDeal is proved: for any setting and any Given that can be read as data, dealings.Deal and dealings.Setting answer as the document's references do, in memory of their own, and the arguments read as they did. No conditions beyond what the listed tables read as, which the card ties. -/
import Derived.Test.YtmhligfnchegdaaGreatDoorM49
import Derived.Test.YtmhligfnchegdaaGreatDoorCards
import Derived.Test.YtmhligfnchegdaaGreatDoorTie
import Derived.ProofKit
import Derived.LaidMore
import Derived.OpenShut
import Derived.Stop.Joined
import Derived.SevenTiedAt
set_option linter.unusedSimpArgs false
set_option linter.unusedVariables false
namespace Go.Proofs.YtmhligfnchegdaaGreatDoor.dealingsDeal
open Go Go.RowKit Go.BigFrame Go.ChangeShapes Go.WideShapes Go.ChangeAt Sx
theorem own:ownKnob Tryz.prog.godebug=none:=by kernel_rfl
theorem cells_setting:Tryz.prog.cellTypes Tryz.prog.depth 29=some (List.replicate 16 22++[3,3,27]):=by kernel_rfl
theorem cells_given:Tryz.prog.cellTypes Tryz.prog.depth 32=some ([22,5,30]++List.replicate 4 22):=by kernel_rfl
theorem laid:laidOutB Tryz.prog=true:=by kernel_rfl
theorem rec_setting:Tryz.prog.readableRec 29=true:=by kernel_rfl
theorem rec_given:Tryz.prog.readableRec 32=true:=by kernel_rfl
abbrev laidL:List (String × DataW Unit):=[("math/bits.deBruijn32tab",Rows.laid_math_bits_deBruijn32tab),("math/bits.deBruijn64tab",Rows.laid_math_bits_deBruijn64tab),("internal/strconv.uint64pow10",Rows.laid_internal_strconv_uint64pow10)]
set_option maxRecDepth 100000 in
theorem door_met (os:Os) (args:Array Value):laidMetH Tryz.prog laidL ((World.doorLaid Tryz.prog 24 os).forCall (fun _ _=>0) ⟨#[],args,[]⟩).memory :=
  laidMetH_of_parts3 (fuel:=8) (laidMet_of_run' 8 (by kernel_rfl) (by kernel_rfl)) (by kernel_rfl) (by kernel_rfl)
set_option maxRecDepth 100000 in
theorem lifted (os:Os) (started:os.Started) (H:Type) (enc:TypeId × Value→H) :
    ReturnsInHanded {} Tryz.checked os 3 .any (fun w args=>(Rows.dealingsDealSpec.pre enc Tryz.prog Tryz.f3 [] false w args∧laidMetH Tryz.prog laidL w)∧sizedMet enc Tryz.prog Tryz.f3 (OpenSpec.ofChange Rows.dealingsDealSpec) false w args)
      (Rows.dealingsDealSpec.post enc Tryz.prog Tryz.f3 false true false false):=by
  refine returnsInHanded_of_change_and (C:=Tryz.checked) (X:=fun w _=>laidMetH Tryz.prog laidL w) (fun _ _ _ hh h=>h.of_heap hh) own started (by kernel_rfl) Tryz.func3
    (ChangeSpec.witness_shaped (enc:=enc) (C:=Tryz.checked) (os:=os) (X:=fun w _=>laidMetH Tryz.prog laidL w) false (World.doorLaid Tryz.prog 24 os) #[.agg #[.int .u64 0,.int .u64 0,.int .u64 0,.int .u64 0,.int .u64 0,.int .u64 0,.int .u64 0,.int .u64 0,.int .u64 0,.int .u64 0,.int .u64 0,.int .u64 0,.int .u64 0,.int .u64 0,.int .u64 0,.int .u64 0,.int .i64 0,.int .i64 0,.slice none 0 0],
      .agg #[.int .u64 0,.int .u8 0,.slice none 0 0,.int .u64 0,.int .u64 0,.int .u64 0,.int .u64 0]] 8 rfl (World.shaped_of_RefB (by kernel_rfl) (by kernel_rfl)) (by kernel_rfl) (by kernel_rfl) (by kernel_rfl) (door_met os _)) ?_
  intro W base args ds gs before hval0 hW _ _ _ _
  have hval:∀ (j:Nat) t v,Tryz.f3.params[j]?=some t→args[j]?=some v→Value.okWide Tryz.prog W .any base t v:=hval0
  have hW':=hW
  have hlt:=hW.lt
  obtain⟨p,q,hA0,hV,rfl,hfz,hnd⟩:=hW
  have hA:DataW.TrodAll enc Tryz.prog W 0 (fun _=>true) true Tryz.f3.params.toList args.toList ds p:=hA0
  rw[Tryz.params3] at hA hval
  obtain⟨v0,v1,d0,d1,p0,p1,rfl,rfl,rfl,h0,h1⟩:=trodAll_two hA
  obtain⟨rfl,rfl⟩:=trodVars_none hV
  have k0:=hval 0 29 v0 rfl rfl
  have k1:=hval 1 32 v1 rfl rfl
  obtain⟨cs0,rfl,_⟩:=okWide_struct Tryz.underlying29 k0
  obtain⟨cs1,rfl,_⟩:=okWide_struct Tryz.underlying32 k1
  obtain⟨f0,t0⟩:=id h0
  obtain⟨f1,t1⟩:=id h1
  obtain⟨pp,qq,gg,uu,ff,sec,pt,N,c,b1,b2,b3,b4,⟨b5,b6,b7,b8⟩,hN,e0,hR⟩:=d_setting t0 (fun a l c e=>okWide_spot Tryz.underlying29 cells_setting z_setting.symm k0 (i:=18) (u:=27) rfl Tryz.underlying27 a l c (by simpa [Value.cells] using e))
  obtain⟨ep,d,pl,l,cl,u,g1,g2,g3,g4,e1,r1⟩:=d_deal t1 (fun a l c e=>okWide_spot Tryz.underlying32 cells_given z_deal.symm k1 (i:=2) (u:=30) rfl Tryz.underlying30 a l c (by simpa [Value.cells] using e))
  have a0:Value.agg cs0=stV pp qq gg uu ff sec (.slice pt N.length c):=by
    have:cs0.toList=stC pp qq gg uu ff sec (.slice pt N.length c):=by simpa [Value.cells] using e0
    rw[← Array.toArray_toList (xs:=cs0),this]
  have a1:Value.agg cs1=gdV ep d (.slice pl l.length cl) u:=by
    have:cs1.toList=gdC ep d (.slice pl l.length cl) u:=by simpa [Value.cells] using e1
    rw[← Array.toArray_toList (xs:=cs1),this]
  have hF:=u_DealingsDeal pp qq gg uu ff sec ep d u pt pl c cl N l b1 b2 b3 b4 hN g3 b5 b6 b7 b8 g1 g2 g4 W ⟨hR,r1⟩
  rw[← a0,← a1] at hF
  clear hA0 hval0
  simp only[List.append_nil] at hW' hlt
  refine Calls.mono hF ?_
  rintro e W' ⟨v,Nn,rfl,hb,_,hv⟩
  have hv' : v=.bool true:=hv
  subst hv'
  refine⟨_,rfl,[d0,d1],[],p0++p1,[],p0++p1,[],hW',?_,?_,rfl,hb.frame _,fun h=>by cases h⟩
  · exact trodAll_mk1 (shut_bool Tryz.underlying4 true)
  · exact trodAll_mk2 (WideElems.Trod_stays laid rec_setting (of_decide_eq_true (by kernel_rfl)) h0 (fun x hx=>hb.same (hlt x (List.mem_append_left _ hx))) (fun x hx=>decide_eq_true (hlt x (List.mem_append_left _ hx))))
      (WideElems.Trod_stays laid rec_given (of_decide_eq_true (by kernel_rfl)) h1 (fun x hx=>hb.same (hlt x (List.mem_append_right _ hx))) (fun x hx=>decide_eq_true (hlt x (List.mem_append_right _ hx))))
theorem said:Rows.DealingsDealSaid :=
  OpenClaim.holds_of_wide 3 Tryz.f3 rfl rfl rfl rfl rfl rfl rfl ⟨rfl,rfl,rfl,rfl,rfl⟩ rfl rfl rfl rfl rfl (by kernel_rfl) Tryz.func3 (by kernel_rfl)
    (of_decide_eq_true (by kernel_rfl)) (by unfold Func.isWrapper;first|(rw[if_pos (by decide +kernel)];kernel_rfl)|(rw[if_neg (by decide +kernel)];exact⟨rfl,rfl⟩))
    (fun os started H enc _=>lifted os started H enc)
theorem proved:Rows.DealingsDealCardSaid :=
  Claim7.holds_tied_plain_at .later [] [.data,.data,.data] true (true,"2bbd54b8abcb013118520eb7027cc7b7ee1db04197c45fb56ae85db6eebd978a") false
    said (fun _ h=>by cases h) (by kernel_rfl) (fun _ h=>by cases h) dealingsDeal_row_tie rfl ⟨rfl,rfl⟩ (by kernel_rfl) rfl
    (fun f fn hf hfn=>by
      obtain rfl:f=3:=Option.some.inj ((show Tryz.prog.funcNamed "balefire/balefirelaw15.DealingsDeal"=some 3 by kernel_rfl).symm.trans hf) |>.symm
      obtain rfl:fn=Tryz.f3:=(Option.some.inj (Tryz.func3.symm.trans hfn)).symm
      exact⟨by kernel_rfl,fun j t ht=>by
        rw[Tryz.params3] at ht
        have hm:t∈[29,32]:=by simpa using Array.mem_of_getElem? ht
        have hall:([29,32].all fun u=>!Tryz.prog.wantsStandIn u)=true:=by kernel_rfl
        exact (show Tryz.prog.wantsStandIn t=false by simpa using List.all_eq_true.1 hall t hm)⟩)
    (by kernel_rfl)
end Go.Proofs.YtmhligfnchegdaaGreatDoor.dealingsDeal
