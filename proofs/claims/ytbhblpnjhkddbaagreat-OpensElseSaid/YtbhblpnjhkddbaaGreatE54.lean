/- The statement OpensElse is proved: for any setting, any Dealt and any number below 256 that can be read as data, what a node opened passes for nothing else; the arguments read as they did. No conditions. -/
import Derived.Test.YtbhblpnjhkddbaaGreatE53
set_option linter.unusedSimpArgs false
set_option linter.unusedVariables false
namespace Go.Proofs.YtbhblpnjhkddbaaGreat.opensElse
section
open Go Go.RowKit Go.BigFrame Go.ChangeShapes Go.WideShapes Go.ChangeAt Sx Ou
set_option maxRecDepth 100000 in
theorem lifted (os:Os) (started:os.Started) (H:Type) (enc:TypeId × Value→H) :
  ReturnsInHanded {} Tryz.checked os 5 .any (Rows.opensElseSpec.pre6 enc Tryz.prog Tryz.f5 Rows.opensElseRow.domain false) (Rows.opensElseSpec.post enc Tryz.prog Tryz.f5 false true false false):=by
 refine returnsInHanded_of_change (C:=Tryz.checked) own started (by kernel_rfl) Tryz.func5
  (ChangeSpec.witness6 (enc:=enc) (C:=Tryz.checked) false ⟨#[],#[.agg #[.int .u64 0,.int .u64 0,.int .u64 0,.int .u64 0,.int .u64 0,.int .u64 0,.int .u64 0,.int .u64 0,.int .u64 0,.int .u64 0,.int .u64 0,.int .u64 0,.int .u64 0,.int .u64 0,.int .u64 0,.int .u64 0,.int .i64 0,.int .i64 0,.slice none 0 0],.agg #[.int .u64 0,.int .u8 0,.slice none 0 0,.int .u64 0,.int .u64 0,.int .u64 0,.int .u64 0,.slice none 0 0],.int .u8 0],[]⟩ 8 (by kernel_rfl) (by kernel_rfl) (by kernel_rfl) (by kernel_rfl)) ?_
 intro W base args ds gs before hval0 hW hcnd _;have hval:∀ (j:Nat) t v,Tryz.f5.params[j]?=some t→args[j]?=some v→Value.okWide Tryz.prog W .any base t v:=hval0;have hW':=hW;have hlt:=hW.lt;obtain⟨p,q,hA0,hV,rfl,hfz,hnd⟩:=hW;have hA:DataW.TrodAll enc Tryz.prog W 0 (fun _=>true) true Tryz.f5.params.toList args.toList ds p:=hA0;rw[Tryz.params5] at hA hval;obtain⟨v0,v1,v2,d0,d1,d2,p0,p1,p2,rfl,rfl,rfl,h0,h1,h2⟩:=trodAll_three hA;obtain⟨rfl,rfl⟩:=trodVars_none hV;have k0:=hval 0 29 v0 rfl rfl;have k1:=hval 1 32 v1 rfl rfl;have k2:=hval 2 5 v2 rfl rfl;obtain⟨cs0,rfl,_⟩:=okWide_struct Tryz.underlying29 k0;obtain⟨f0,t0⟩:=id h0;obtain⟨pp,qq,gg,uu,ff,sec,pt,N,c,b1,b2,b3,b4,⟨b5,b6,b7,b8⟩,hN,e0,hR⟩:=fj t0 (fun a l c e=>uW Tryz.underlying29 tz rA.symm k0 (i:=18) (u:=27) rfl Tryz.underlying27 a l c (by simpa [Value.cells] using e));have q0:cs0.toList=stC pp qq gg uu ff sec (.slice pt N.length c):=by simpa [Value.cells] using e0
 have hcap:N.length≤c:=jL Tryz.underlying29 tz rA.symm k0 (i:=18) (u:=27) rfl Tryz.underlying27 (p:=pt) (by rw[← Array.getElem?_toList,q0];rfl);have a0:Value.agg cs0=stV pp qq gg uu ff sec (.slice pt N.length c):=by rw[← Array.toArray_toList (xs:=cs0),q0]
 obtain⟨cs1,rfl,_⟩:=okWide_struct Tryz.underlying32 k1;obtain⟨f1,t1⟩:=id h1
 obtain⟨ep,d,pl,l,cl,u,px,X,cx,g1,g2,g3,g4,g5,e1,r1,r2⟩:=aaO t1 (fun i hi a l c e=>by
  have e' : cs1[i]?=some (.slice (some a) l c):=by simpa [Value.cells] using e
  rcases hi with rfl|rfl
  ·exact uW Tryz.underlying32 rI nZ.symm k1 (i:=2) (u:=30) rfl Tryz.underlying30 a l c e'
  ·exact uW Tryz.underlying32 rI nZ.symm k1 (i:=7) (u:=30) rfl Tryz.underlying30 a l c e')
 have q1:cs1.toList=dtC ep d (.slice pl l.length cl) u (.slice px X.length cx):=by simpa [Value.cells] using e1
 have a1:Value.agg cs1=dtV ep d (.slice pl l.length cl) u (.slice px X.length cx):=by rw[← Array.toArray_toList (xs:=cs1),q1]
 obtain⟨z,hz,rfl⟩:=ec Tryz.underlying5 k2;have hF:=cI pp qq gg uu ff sec pt c N ep d u pl cl l px cx X z it b1 b2 b3 b4 hN g3 g5 hz b5 b6 b7 b8 g2 g4 g1 W ⟨hR,r1,r2⟩;rw[← a0,← a1] at hF;clear hA0 hval0;simp only[List.append_nil] at hW' hlt;refine Calls.mono hF ?_;rintro e W' ⟨v,Nn,rfl,hb,_,hv⟩;have hv' : v=.bool true:=hv;subst hv';refine⟨_,rfl,[d0,d1,d2],[],p0++(p1++p2),[],p0++(p1++p2),[],?_,?_,?_,rfl,hb.frame _,fun h=>by cases h⟩
 ·rw[← List.append_assoc];exact hW'
 ·exact trodAll_mk1 (shut_bool Tryz.underlying4 true)
 ·exact trodAll_mk3 (WideElems.Trod_stays acx mF (of_decide_eq_true (by kernel_rfl)) h0 (fun x hx=>hb.same (hlt x (by simp[hx]))) (fun x hx=>decide_eq_true (hlt x (by simp[hx]))))
   (WideElems.Trod_stays acx io (of_decide_eq_true (by kernel_rfl)) h1 (fun x hx=>hb.same (hlt x (by simp[hx]))) (fun x hx=>decide_eq_true (hlt x (by simp[hx]))))
   (WideElems.Trod_stays acx ab8 (of_decide_eq_true (by kernel_rfl)) h2 (fun x hx=>hb.same (hlt x (by simp[hx]))) (fun x hx=>decide_eq_true (hlt x (by simp[hx]))))
theorem proved:Rows.OpensElseSaid :=
 OpenClaim.holds_of_wide 5 Tryz.f5 rfl rfl rfl rfl rfl rfl rfl ⟨rfl,rfl,rfl,rfl,rfl⟩ rfl rfl rfl rfl rfl (by kernel_rfl) Tryz.func5 (by kernel_rfl)
  (of_decide_eq_true (by kernel_rfl)) (by unfold Func.isWrapper;first|(rw[if_pos (by decide +kernel)];kernel_rfl)|(rw[if_neg (by decide +kernel)];exact⟨rfl,rfl⟩))
  (fun os started H enc _=>lifted os started H enc)
end
end Go.Proofs.YtbhblpnjhkddbaaGreat.opensElse
