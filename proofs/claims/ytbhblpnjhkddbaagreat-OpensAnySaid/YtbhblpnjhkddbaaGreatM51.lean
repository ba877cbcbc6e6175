/- The statement OpensAny is proved: for any setting, any Dealt and any list of nodes that can be read as data, enough opened shares raise what the polynomial shows and too few raise nothing; the arguments read as they did. No conditions. -/
import Derived.Test.YtbhblpnjhkddbaaGreatM49
set_option linter.unusedSimpArgs false
set_option linter.unusedVariables false
namespace Go.Proofs.YtbhblpnjhkddbaaGreat.opensAny
section
open Go Go.RowKit Go.BigFrame Go.ChangeShapes Go.WideShapes Go.ChangeAt Sx Ou
set_option maxRecDepth 100000 in
theorem lifted (os:Os) (started:os.Started) (H:Type) (enc:TypeId × Value→H) :
  ReturnsInHanded {} Tryz.checked os 4 .any (Rows.opensAnySpec.pre6 enc Tryz.prog Tryz.f4 Rows.opensAnyRow.domain false) (Rows.opensAnySpec.post enc Tryz.prog Tryz.f4 false true false false):=by
 refine returnsInHanded_of_change (C:=Tryz.checked) own started (by kernel_rfl) Tryz.func4
  (ChangeSpec.witness6 (enc:=enc) (C:=Tryz.checked) false ⟨#[],#[.agg #[.int .u64 0,.int .u64 0,.int .u64 0,.int .u64 0,.int .u64 0,.int .u64 0,.int .u64 0,.int .u64 0,.int .u64 0,.int .u64 0,.int .u64 0,.int .u64 0,.int .u64 0,.int .u64 0,.int .u64 0,.int .u64 0,.int .i64 0,.int .i64 0,.slice none 0 0],.agg #[.int .u64 0,.int .u8 0,.slice none 0 0,.int .u64 0,.int .u64 0,.int .u64 0,.int .u64 0,.slice none 0 0],.slice none 0 0],[]⟩ 8 (by kernel_rfl) (by kernel_rfl) (by kernel_rfl) (by kernel_rfl)) ?_
 intro W base args ds gs before hval0 hW hcnd _;have hval:∀ (j:Nat) t v,Tryz.f4.params[j]?=some t→args[j]?=some v→Value.okWide Tryz.prog W .any base t v:=hval0;have hW':=hW;have hlt:=hW.lt;obtain⟨p,q,hA0,hV,rfl,hfz,hnd⟩:=hW;have hA:DataW.TrodAll enc Tryz.prog W 0 (fun _=>true) true Tryz.f4.params.toList args.toList ds p:=hA0;rw[Tryz.params4] at hA hval;obtain⟨v0,v1,v2,d0,d1,d2,p0,p1,p2,rfl,rfl,rfl,h0,h1,h2⟩:=trodAll_three hA;obtain⟨rfl,rfl⟩:=trodVars_none hV;have k0:=hval 0 29 v0 rfl rfl;have k1:=hval 1 32 v1 rfl rfl;have k2:=hval 2 52 v2 rfl rfl;obtain⟨cs0,rfl,_⟩:=okWide_struct Tryz.underlying29 k0;obtain⟨f0,t0⟩:=id h0;obtain⟨pp,qq,gg,uu,ff,sec,pt,N,c,b1,b2,b3,b4,⟨b5,b6,b7,b8⟩,hN,e0,hR⟩:=tG t0 (fun a l c e=>zQ Tryz.underlying29 ya y4.symm k0 (i:=18) (u:=27) rfl Tryz.underlying27 a l c (by simpa [Value.cells] using e));have q0:cs0.toList=stC pp qq gg uu ff sec (.slice pt N.length c):=by simpa [Value.cells] using e0
 have hcap:N.length≤c:=td Tryz.underlying29 ya y4.symm k0 (i:=18) (u:=27) rfl Tryz.underlying27 (p:=pt) (by rw[← Array.getElem?_toList,q0];rfl);have a0:Value.agg cs0=stV pp qq gg uu ff sec (.slice pt N.length c):=by rw[← Array.toArray_toList (xs:=cs0),q0]
 obtain⟨cs1,rfl,_⟩:=okWide_struct Tryz.underlying32 k1;obtain⟨f1,t1⟩:=id h1
 obtain⟨ep,d,pl,l,cl,u,px,X,cx,g1,g2,g3,g4,g5,e1,r1,r2⟩:=oy t1 (fun i hi a l c e=>by
  have e' : cs1[i]?=some (.slice (some a) l c):=by simpa [Value.cells] using e
  rcases hi with rfl|rfl
  ·exact zQ Tryz.underlying32 yC uz.symm k1 (i:=2) (u:=30) rfl Tryz.underlying30 a l c e'
  ·exact zQ Tryz.underlying32 yC uz.symm k1 (i:=7) (u:=30) rfl Tryz.underlying30 a l c e')
 have q1:cs1.toList=dtC ep d (.slice pl l.length cl) u (.slice px X.length cx):=by simpa [Value.cells] using e1
 have a1:Value.agg cs1=dtV ep d (.slice pl l.length cl) u (.slice px X.length cx):=by rw[← Array.toArray_toList (xs:=cs1),q1]
 obtain⟨pz,lz,cz,rfl,hz⟩:=pk Tryz.underlying52 k2;obtain⟨f2,t2⟩:=id h2;obtain⟨pm,m,cm,e2,hmb,rm⟩:=ac1 t2 (fun a l c e=>hz a (by simp[Value.cells] at e;exact e.1));have a2:Value.slice pz lz cz=.slice pm m.length cm:=by simpa [Value.cells] using e2
 have hF:=abb pp qq gg uu ff sec pt c N ep d u pl cl l px cx X pm cm m tM b1 b2 b3 b4 hN g3 g5 hmb b5 b6 b7 b8 g2 g4 g1 W ⟨hR,r1,r2,rm⟩;rw[← a0,← a1,← a2] at hF;clear hA0 hval0;simp only[List.append_nil] at hW' hlt;refine Calls.mono hF ?_;rintro e W' ⟨v,Nn,rfl,hb,_,hv⟩;have hv' : v=.bool true:=hv;subst hv';refine⟨_,rfl,[d0,d1,d2],[],p0++(p1++p2),[],p0++(p1++p2),[],?_,?_,?_,rfl,hb.frame _,fun h=>by cases h⟩
 ·rw[← List.append_assoc];exact hW'
 ·exact trodAll_mk1 (shut_bool Tryz.underlying4 true)
 ·exact trodAll_mk3 (WideElems.Trod_stays iB uA (of_decide_eq_true (by kernel_rfl)) h0 (fun x hx=>hb.same (hlt x (by simp[hx]))) (fun x hx=>decide_eq_true (hlt x (by simp[hx]))))
   (WideElems.Trod_stays iB tO (of_decide_eq_true (by kernel_rfl)) h1 (fun x hx=>hb.same (hlt x (by simp[hx]))) (fun x hx=>decide_eq_true (hlt x (by simp[hx]))))
   (WideElems.Trod_stays iB abF (of_decide_eq_true (by kernel_rfl)) h2 (fun x hx=>hb.same (hlt x (by simp[hx]))) (fun x hx=>decide_eq_true (hlt x (by simp[hx]))))
theorem proved:Rows.OpensAnySaid :=
 OpenClaim.holds_of_wide 4 Tryz.f4 rfl rfl rfl rfl rfl rfl rfl ⟨rfl,rfl,rfl,rfl,rfl⟩ rfl rfl rfl rfl rfl (by kernel_rfl) Tryz.func4 (by kernel_rfl)
  (of_decide_eq_true (by kernel_rfl)) (by unfold Func.isWrapper;first|(rw[if_pos (by decide +kernel)];kernel_rfl)|(rw[if_neg (by decide +kernel)];exact⟨rfl,rfl⟩))
  (fun os started H enc _=>lifted os started H enc)
end
end Go.Proofs.YtbhblpnjhkddbaaGreat.opensAny
