/- Part 40 of the proof: SgB, DfB, DfC -/
import Derived.Test.YtmhligfnchegdaaGreatDoorM39
set_option linter.unusedSimpArgs false
set_option linter.unusedVariables false
namespace Go.Proofs.YtmhligfnchegdaaGreatDoor
open Go Go.RowKit Go.BigFrame
namespace Sx
attribute [local irreducible] wd DQ DQS WO WC WX
section
variable (p q g h:Nat)
theorem c_signs (key:Nat) (H:List Nat) (hl:H.length=32) :
    Fn Tryz.prog 124 [grpV p q g h,numV key,.agg (byC H).toArray] Tr
      (Ex (fun x=>.func (.func 208) #[] #[pt (x 0),pt (x 1),pt (x 2)]) (fun x=>[⟨x 2,82,byC H⟩,⟨x 1,24,numC key⟩,⟨x 0,26,grpC p q g h⟩]) (fun _=>True)):=by
  have hbH:(byC H).length=32:=by rw[byC_length,hl]
  refine Fn.enter Tryz.func124 rfl rfl rfl ?_
  intro w hw
  repeat (first|refine Ta ?_|(refine Tm ?_;intro _)|refine WO.does (does_func rfl rfl) ?_|refine Tc ?_|exact Tz)
  rename_i g3 g4 g5
  exact WX.ret1 rfl (by exact rv_tmp rfl) [⟨g5,82,byC H⟩,⟨g4,24,numC key⟩,⟨g3,26,grpC p q g h⟩] (Lle.cons (by repeat (first|exact Pk.here|apply Pk.there)) rfl (Lle.cons (by repeat (first|exact Pk.here|apply Pk.there)) rfl (Lle.cons (by repeat (first|exact Pk.here|apply Pk.there)) rfl Lle.nil))) ⟨fun i=>if i=0 then g3 else if i=1 then g4 else g5,rfl,rfl,trivial⟩
set_option maxHeartbeats 2000000 in
theorem c_SignN (x d c S:Nat) (H:List Nat) (hp:p<B256) (hq:q<B256) (hg:g<B256) (hx:x<B256) (hd:d<B256) (hl:H.length=32) (hB:sgB p q g x d=false) :
    Fn Tryz.prog 30 [grpV p q g h,numV x,.agg (byC H).toArray,numV d] Tr (Is (prV false c S)):=by
  have hE:=c_gExp p q g h g x hg hx hp
  have hX:=fun b=>c_exps p q g h [x,d] (some ⟨b,0,none⟩) 2 (by intro a ha;simp only[List.mem_cons,List.not_mem_nil,or_false] at ha;rcases ha with rfl|rfl<;>assumption) (by show 2≤1099511627776;omega) hq
  have hbH:(byC H).length=32:=by rw[byC_length,hl]
  unfold sgB at hB
  cases e1:gMay p g with
  | false =>
    rw[e1] at hE
    refine Fn.enter Tryz.func30 rfl rfl rfl ?_
    intro w hw
    repeat (first|refine Ta ?_|(refine Tm ?_;intro _)|refine WO.acall (hc:=hE) (k:=?_)|refine WO.does (does_neqY rfl rfl (by decide)) ?_|refine Tc ?_|exact Tz)
    done
  | true =>
  rw[e1] at hE hB
  generalize g ^ x%p=y at *
  cases e2:decide (x=0) with
  | true =>
    refine Fn.enter Tryz.func30 rfl rfl rfl ?_
    intro w hw
    repeat (first|refine Ta ?_|(refine Tm ?_;intro _)|refine WO.acall (hc:=hE) (k:=?_)|refine WO.does (does_neqN rfl rfl rfl) ?_|refine WO.does (a_eqNumV rfl rfl hx B256_zero e2) ?_|refine Tc ?_|exact Tz)
    done
  | false =>
  cases e3:decide (d=0) with
  | true =>
    refine Fn.enter Tryz.func30 rfl rfl rfl ?_
    intro w hw
    repeat (first|refine Ta ?_|(refine Tm ?_;intro _)|refine WO.acall (hc:=hE) (k:=?_)|refine WO.does (does_neqN rfl rfl rfl) ?_|refine WO.does (a_eqNumV rfl rfl hx B256_zero e2) ?_|refine WO.does (a_eqNumV rfl rfl hd B256_zero e3) ?_|refine Tc ?_|exact Tz)
    done
  | false =>
  have e4:([x,d].all fun x=>mayN x x q)=false:=by
    simp at e2 e3
    simpa [e2,e3] using hB
  rw[e4] at hX
  refine Fn.enter Tryz.func30 rfl rfl rfl ?_
  intro w hw
  repeat (first|refine Ta ?_|(refine Tm ?_;intro _)|refine WO.acall (hc:=hE) (k:=?_)|refine WO.does (does_neqN rfl rfl rfl) ?_|refine WO.does (a_eqNumV rfl rfl hx B256_zero e2) ?_|refine WO.does (a_eqNumV rfl rfl hd B256_zero e3) ?_|(refine WO.makes (makes_build (cs:=numC x++numC d) rfl (by decide) rfl) ?_;intro _)|refine WO.acallR (hc:=hX _) (hR:=fun w1 hm=>RdF.seg (f:=numC) (xs:=[x,d]) (r:=[]) (Hs.seg (by repeat (first|exact Hs.here|apply Hs.there)) hm)) (k:=?_)|refine Tc ?_|exact Tz)
  done
set_option maxHeartbeats 4000000 in
theorem c_SignY (x d c:Nat) (H:List Nat) (hp:p<B256) (hq:q<B256) (hg:g<B256) (hx:x<B256) (hd:d<B256) (hH:∀ b∈H,b<256) (hl:H.length=32) (hB:sgB p q g x d=true) (hc:sgC p q g x d H=c) :
    Fn Tryz.prog 30 [grpV p q g h,numV x,.agg (byC H).toArray,numV d] Tr (Is (prV true c ((d+x*c%q)%q))):=by
  have hE1:=c_gExp p q g h g x hg hx hp
  have hE2:=c_gExp p q g h g d hg hd hp
  have hX:=fun b=>c_exps p q g h [x,d] (some ⟨b,0,none⟩) 2 (by intro a ha;simp only[List.mem_cons,List.not_mem_nil,or_false] at ha;rcases ha with rfl|rfl<;>assumption) (by show 2≤1099511627776;omega) hq
  have hbH:(byC H).length=32:=by rw[byC_length,hl]
  unfold sgB at hB
  simp only[Bool.and_eq_true,decide_eq_true_eq] at hB
  obtain⟨⟨⟨⟨e1,e2⟩,e3⟩,e4⟩,e5⟩:=hB
  rw[e1] at hE1 hE2
  have d4:decide (x=0)=false:=decide_eq_false e4
  have d5:decide (d=0)=false:=decide_eq_false e5
  rw[show ([x,d].all fun x=>mayN x x q)=true by simp[e2,e3]] at hX
  have hq1:=(mayN_spec e2).1
  have hxq:=(mayN_spec e2).2.1
  have hdq:=(mayN_spec e3).2.1
  have hcl:c<q:=by rw[← hc];exact hNum_lt (by omega) _ _
  have hCh:=fun gG gK gH=>c_signs1 p q g h (g ^ x%p) (g ^ d%p) gG gK gH H hq (by omega) hH hl
  rw[show sgCh q (g ^ x%p) (g ^ d%p) H=c from hc] at hCh
  have hM:=c_SMul p q g h x c hx (Nat.lt_trans hcl hq) hq
  rw[show mayN x c q=true by simp[mayN,hq1,hxq,hcl]] at hM
  have hml:x*c%q<q:=Nat.mod_lt _ (by omega)
  have hA:=c_SAdd p q g h d (x*c%q) hd (Nat.lt_trans hml hq) hq
  rw[show mayN d (x*c%q) q=true by simp[mayN,hq1,hdq,hml]] at hA
  have hS:=c_signs p q g h (g ^ x%p) H hl
  clear hc
  generalize (d+x*c%q)%q=S at *
  generalize x*c%q=M at *
  generalize g ^ x%p=P1 at *
  generalize g ^ d%p=P2 at *
  refine Fn.enter Tryz.func30 rfl rfl rfl ?_
  intro w hw
  repeat (first|refine Ta ?_|(refine Tm ?_;intro _)|refine WO.acall (hc:=hE1) (k:=?_)|refine WO.acall (hc:=hE2) (k:=?_)|refine WO.does (does_neqN rfl rfl rfl) ?_|refine WO.does (a_eqNumV rfl rfl hx B256_zero d4) ?_|refine WO.does (a_eqNumV rfl rfl hd B256_zero d5) ?_|(refine WO.makes (makes_build (cs:=numC x++numC d) rfl (by decide) rfl) ?_;intro _)|refine WO.acallR (hc:=hX _) (hR:=fun w1 hm=>RdF.seg (f:=numC) (xs:=[x,d]) (r:=[]) (Hs.seg (by repeat (first|exact Hs.here|apply Hs.there)) hm)) (k:=?_)|refine Tc ?_|exact Tz)
  refine WC.adraw 7 (k:=?_)
  iterate 2 (refine DQ.auto (k:=?_))
  refine DQ.does (fun s _=>a_load (vs:=byC H) (hc:=cut_all hbH) (hl:=hbH)) Dp.const ?_
  refine DQ.callsE (fs:=fun _=>[]) (cs:=fun _=>[]) (R:=fun _=>Tr) (vf:=fun _ x=>.func (.func 208) #[] #[pt (x 0),pt (x 1),pt (x 2)]) (Nf:=fun _ x=>[⟨x 2,82,byC H⟩,⟨x 1,24,numC P1⟩,⟨x 0,26,grpC p q g h⟩]) (S:=fun _ _=>True) (fun _=>[]) (fun _=>.nil)
    (fun _=>⟨fun _=>0,trivial⟩) (fun _ _=>hS) (fun _=>rfl) (fun _=>rfl) (fun _=>rfl) (fun _ _ w hm=>trivial) Dp.const Dp.const Dp.const ?_
  try dsimp only[List.map_cons,List.map_nil,List.cons_append,List.nil_append]
  refine DQ.auto (k:=?_)
  refine DQ.callsE (fs:=fun _=>[]) (cs:=fun s=>[pt (s 3 0),pt (s 3 1),pt (s 3 2)]) (R:=fun s w=>Seg w (s 3 0) 0 (grpC p q g h)∧Seg w (s 3 1) 0 (numC P1)∧Seg w (s 3 2) 0 (byC H)) (vf:=fun _ _=>numV c) (Nf:=fun _ _=>[]) (S:=fun _ _=>True) (fun s=>[⟨s 3 2,82,byC H⟩,⟨s 3 1,24,numC P1⟩,⟨s 3 0,26,grpC p q g h⟩])
    (fun s=>.cons 3 (by repeat (first|exact .head _|apply List.Mem.tail)) (by decide +kernel) (.cons 3 (by repeat (first|exact .head _|apply List.Mem.tail)) (by decide +kernel) (.cons 3 (by repeat (first|exact .head _|apply List.Mem.tail)) (by decide +kernel) .nil)))
    (fun _=>⟨fun _=>0,trivial⟩) (fun s _=>(hCh (s 3 0) (s 3 1) (s 3 2)).ex) (fun _=>rfl) (fun _=>rfl) (fun _=>rfl) (fun s _ w hm=>⟨Hs.seg (.there (.there .here)) hm,Hs.seg (.there .here) hm,Hs.seg .here hm⟩) Dp.const Dp.const Dp.const ?_
  try dsimp only[List.map_cons,List.map_nil,List.cons_append,List.nil_append]
  refine DQ.autoM (k:=?_)
  refine DQ.anil (k:=?_)
  intro sx _
  generalize sx 6 0=gC
  repeat (first|refine Ta ?_|(refine Tm ?_;intro _)|refine WO.acall (hc:=hM) (k:=?_)|refine WO.acall (hc:=hA) (k:=?_)|refine Tc ?_|exact Tz)
  done
theorem c_Sign (x d:Nat) (H:List Nat) (hp:p<B256) (hq:q<B256) (hg:g<B256) (hx:x<B256) (hd:d<B256) (hH:∀ b∈H,b<256) (hl:H.length=32) :
    Fn Tryz.prog 30 [grpV p q g h,numV x,.agg (byC H).toArray,numV d] Tr (Is (prV (sgB p q g x d) (sgC p q g x d H) ((d+x*sgC p q g x d H%q)%q))):=by
  generalize hc:sgC p q g x d H=c
  cases hB:sgB p q g x d with
  | false=>exact c_SignN p q g h x d c _ H hp hq hg hx hd hl hB
  | true=>exact c_SignY p q g h x d c H hp hq hg hx hd hH hl hB hc
end
end Sx
end Go.Proofs.YtmhligfnchegdaaGreatDoor
namespace Go.Proofs.YtmhligfnchegdaaGreatDoor
open Go Go.RowKit Go.BigFrame
namespace Sx
attribute [local irreducible] wd DQ DQS WO WC WX
section
variable (p q g h:Nat)
theorem r13_Exponent (a:Nat) (ha:a<B256) (hq:q<B256):Fn Tryz.prog 33 [grpV p q g h,numV a] Tr (Is (.bool (mayN a a q))):=by
  have hA:=r9_Add p q g h a a ha ha hq
  rw[← okE_eq (mayN a a q)]
  simp only[rE] at hA
  generalize okV (mayN a a q) ((a+a)%q)=y at *
  generalize okE (mayN a a q)=e at *
  refine Fn.enter Tryz.func33 rfl rfl rfl ?_
  intro w hw
  repeat (first|refine Ta ?_|(refine Tm ?_;intro _)|refine WO.acall (hc:=hA) (k:=?_)|refine Tc ?_|exact Tz)
  done
theorem r15_power (a n:Nat) (ha:a<B256) (hn:n<B256) (hp:p<B256):Fn Tryz.prog 34 [grpV p q g h,numV a,numV n] Tr (Is (numV (exN p a n))):=by
  have hA:=r8_Exp p q g h a n ha hn hp
  simp only[rE] at hA
  rw[show okV (gMay p a) (a ^ n%p)=exN p a n from rfl] at hA
  generalize exN p a n=y at *
  generalize okE (gMay p a)=e at *
  refine Fn.enter Tryz.func34 rfl rfl rfl ?_
  intro w hw
  repeat (first|refine Ta ?_|(refine Tm ?_;intro _)|refine WO.acall (hc:=hA) (k:=?_)|refine Tc ?_|exact Tz)
  done
theorem r15_Poly (f sec:Int) (ns:Value) (l:List Nat) (pz:Option Addr) (c:Nat) (hl:∀ a∈l,a<B256) (hn:l.length≤1099511627776) (hq:q<B256) (hf:0≤f∧0≤sec∧f+sec≤5) :
    Fn Tryz.prog 32 [stV p q g h f sec ns,.slice pz l.length c] (RdF numC (.slice pz l.length c) l) (Is (.bool (decide ((l.length:Int)=f+sec) && allN q l))):=by
  have hadd:IntKind.i64.wrap (f+sec)=f+sec:=i64_in (by omega) (by omega)
  have hA:=r10_All p q g h l pz c hl hn hq
  generalize allN q l=b at *
  refine Fn.enter Tryz.func32 rfl rfl rfl ?_
  intro w hw
  by_cases he:(l.length:Int)=f+sec
  · have d:decide ((l.length:Int)=f+sec)=true:=decide_eq_true he
    rw[d,Bool.true_and]
    repeat (first|refine Ta ?_|(refine Tm ?_;intro _)|refine WO.does (does_add rfl rfl hadd) ?_|refine WO.does (does_eqlY rfl rfl he) ?_|refine WO.acallR (hc:=hA) (hR:=fun w1 hm=>hw.mod hm.mod) (k:=?_)|refine Tc ?_|exact Tz)
  · have d:decide ((l.length:Int)=f+sec)=false:=decide_eq_false he
    rw[d,Bool.false_and]
    repeat (first|refine Ta ?_|(refine Tm ?_;intro _)|refine WO.does (does_add rfl rfl hadd) ?_|refine WO.does (does_eqlN rfl rfl he) ?_|refine Tc ?_|exact Tz)
set_option maxHeartbeats 2000000 in
theorem r13_chal (key r:Nat) (H:List Nat) (hq:q<B256) (h0:0<q) (hH:∀ b∈H,b<256) (hl:H.length=32) :
    Fn Tryz.prog 138 [grpV p q g h,numV key,numV r,.agg (byC H).toArray] Tr (Is (numV (sgCh q key r H))):=by
  have hP:=fun x=>r_PutLong [] x 0 none (by decide)
  have hbl:∀ x,(be 32 x).length=32:=fun x=>be_length _ _
  simp only[List.nil_append] at hP
  have hP1:=hP key
  have hP2:=hP r
  clear hP
  have hN:=fun g3 c3 g5 c5 gH gR=>r6_Number q sSign [.slice (some ⟨g3,0,none⟩) 32 c3,.slice (some ⟨g5,0,none⟩) 32 c5,.slice (some ⟨gH,0,none⟩) 32 32] [be 32 key,be 32 r,H] gR 0 3 hq h0 (by
    intro X hX
    simp only[List.mem_cons,List.not_mem_nil,or_false] at hX
    rcases hX with rfl|rfl|rfl
    · exact be_lt
    · exact be_lt
    · exact hH) (by
    simp only[hBytes,hHead,hBody,List.flatMap_cons,List.flatMap_nil,List.length_append,be_length,strB_length,List.length_nil,hl]
    decide) (by simp)
  rw[show hNum q (strB sSign) [be 32 key,be 32 r,H]=sgCh q key r H from rfl] at hN
  generalize sgCh q key r H=R at *
  have hbH:(byC H).length=32:=by rw[byC_length,hl]
  have hrk:=hbl key
  have hrr:=hbl r
  clear hbl
  refine Fn.enter Tryz.func138 rfl rfl rfl ?_
  intro w hw
  repeat (first|refine Ta ?_|(refine Tm ?_;intro _)|refine Tc ?_|exact Tz)
  rename_i gG gK gR gH gO
  refine WC.adrawF [11] 13 (k:=?_)
  iterate 3 (refine DQ.auto (k:=?_))
  refine DQ.acallZ (hc:=hP1) (hR:=fun _=>Rd.nil) (hX:=by rw[hrk];decide) (k:=?_)
  refine DQ.auto (k:=?_)
  refine DQ.acallZ (hc:=hP2) (hR:=fun _=>Rd.nil) (hX:=by rw[hrr];decide) (k:=?_)
  refine DQ.does (v:=fun _=>.slice (some ⟨gH,0,none⟩) 32 32) (fun s _=>does_sliceA rfl) Dp.const ?_
  rw[hrk,hrr]
  refine DQ.makes (vf:=fun _ g=>.slice (some ⟨g,0,none⟩) 3 3) (t:=84) (cs:=fun s=>[.slice (some ⟨s 3 0,0,none⟩) 32 (s 3 1),.slice (some ⟨s 5 0,0,none⟩) 32 (s 5 1),.slice (some ⟨gH,0,none⟩) 32 32]) (fun s _=>makes_build rfl (by decide) rfl) Dp.const (by intro s s' h;dsimp only;rw[h,h]<;>decide +kernel) ?_
  refine DQ.callE (v:=fun _=>.tuple #[numV R,.int .i64 0]) (fun s=>[⟨s 7 0,84,[.slice (some ⟨s 3 0,0,none⟩) 32 (s 3 1),.slice (some ⟨s 5 0,0,none⟩) 32 (s 5 1),.slice (some ⟨gH,0,none⟩) 32 32]⟩,⟨s 5 0,5,byC (be 32 r++rz (s 5))⟩,⟨s 3 0,5,byC (be 32 key++rz (s 3))⟩])
    (fun s=>.cons 7 (.head _) (by decide +kernel) (.cons 5 (by repeat (first|exact .head _|apply List.Mem.tail)) (by decide +kernel) (.cons 3 (by repeat (first|exact .head _|apply List.Mem.tail)) (by decide +kernel) .nil))) (fun s _=>hN (s 3 0) (s 3 1) (s 5 0) (s 5 1) gH (s 7 0)) (fun s=>rfl)
    (fun s hC w hm=>⟨Hs.seg Hs.here hm,Parts.cons (by
        have hh:=RdP.own (g:=s 3 0) (c:=s 3 1) (X:=be 32 key) (r:=byC (rz (s 3))) (t:=5) hm (by rw[← byC_append];exact Hs.there (Hs.there Hs.here)) (by have h1:(be 32 key++rz (s 3)).length=s 3 1:=hC.1.2.1;rw[List.length_append] at h1;omega) hC.1.2.2
        rw[hrk] at hh;exact hh) (Parts.cons (by
        have hh:=RdP.own (g:=s 5 0) (c:=s 5 1) (X:=be 32 r) (r:=byC (rz (s 5))) (t:=5) hm (by rw[← byC_append];exact Hs.there Hs.here) (by have h1:(be 32 r++rz (s 5)).length=s 5 1:=hC.2.1;rw[List.length_append] at h1;omega) hC.2.2
        rw[hrr] at hh;exact hh)
      (Parts.cons (by have hh:=RdP.own0 (g:=gH) (c:=32) (X:=H) (t:=82) hm (by repeat (first|exact Hs.here|apply Hs.there)) (by omega) (by decide);rw[hl] at hh;exact hh) Parts.nil))⟩) Dp.const ?_
  repeat (first|refine Da ?_|refine Df ?_)
  refine DQ.anil (k:=?_)
  intro sx _
  repeat (first|refine Ta ?_|(refine Tm ?_;intro _)|refine Tc ?_|exact Tz)
  done
end
end Sx
end Go.Proofs.YtmhligfnchegdaaGreatDoor
namespace Go.Proofs.YtmhligfnchegdaaGreatDoor
open Go Go.RowKit Go.BigFrame
namespace Sx
attribute [local irreducible] wd DQ DQS WO WC WX
section
variable (p q g h:Nat)
set_option maxHeartbeats 2000000 in
theorem r13_SignN (x d c S:Nat) (H:List Nat) (hp:p<B256) (hq:q<B256) (hg:g<B256) (hx:x<B256) (hd:d<B256) (hl:H.length=32) (hB:sgB p q g x d=false) :
    Fn Tryz.prog 42 [grpV p q g h,numV x,.agg (byC H).toArray,numV d] Tr (Is (prV false c S)):=by
  have hM:=r8_May p q g h g hg hp
  have hX:=r13_Exponent p q g h x hx hq
  have hD:=r13_Exponent p q g h d hd hq
  have hbH:(byC H).length=32:=by rw[byC_length,hl]
  unfold sgB at hB
  cases e1:gMay p g with
  | false =>
    rw[e1] at hM
    refine Fn.enter Tryz.func42 rfl rfl rfl ?_
    intro w hw
    repeat (first|refine Ta ?_|(refine Tm ?_;intro _)|refine WO.acall (hc:=hM) (k:=?_)|refine Tc ?_|exact Tz)
    done
  | true =>
  rw[e1] at hM hB
  cases e2:mayN x x q with
  | false =>
    rw[e2] at hX
    refine Fn.enter Tryz.func42 rfl rfl rfl ?_
    intro w hw
    repeat (first|refine Ta ?_|(refine Tm ?_;intro _)|refine WO.acall (hc:=hM) (k:=?_)|refine WO.acall (hc:=hX) (k:=?_)|refine Tc ?_|exact Tz)
    done
  | true =>
  rw[e2] at hX hB
  cases e3:mayN d d q with
  | false =>
    rw[e3] at hD
    refine Fn.enter Tryz.func42 rfl rfl rfl ?_
    intro w hw
    repeat (first|refine Ta ?_|(refine Tm ?_;intro _)|refine WO.acall (hc:=hM) (k:=?_)|refine WO.acall (hc:=hX) (k:=?_)|refine WO.acall (hc:=hD) (k:=?_)|refine Tc ?_|exact Tz)
    done
  | true =>
  rw[e3] at hD hB
  cases e4:decide (x=0) with
  | true =>
    refine Fn.enter Tryz.func42 rfl rfl rfl ?_
    intro w hw
    repeat (first|refine Ta ?_|(refine Tm ?_;intro _)|refine WO.acall (hc:=hM) (k:=?_)|refine WO.acall (hc:=hX) (k:=?_)|refine WO.acall (hc:=hD) (k:=?_)|refine WO.does (a_eqNumV rfl rfl hx B256_zero e4) ?_|refine Tc ?_|exact Tz)
    done
  | false =>
  cases e5:decide (d=0) with
  | true =>
    refine Fn.enter Tryz.func42 rfl rfl rfl ?_
    intro w hw
    repeat (first|refine Ta ?_|(refine Tm ?_;intro _)|refine WO.acall (hc:=hM) (k:=?_)|refine WO.acall (hc:=hX) (k:=?_)|refine WO.acall (hc:=hD) (k:=?_)|refine WO.does (a_eqNumV rfl rfl hx B256_zero e4) ?_|refine WO.does (a_eqNumV rfl rfl hd B256_zero e5) ?_|refine Tc ?_|exact Tz)
    done
  | false =>
    exfalso
    simp at e4 e5
    simp[e4,e5] at hB
set_option maxHeartbeats 4000000 in
theorem r13_SignY (x d c:Nat) (H:List Nat) (hp:p<B256) (hq:q<B256) (hg:g<B256) (hx:x<B256) (hd:d<B256) (hH:∀ b∈H,b<256) (hl:H.length=32) (hB:sgB p q g x d=true) (hc:sgC p q g x d H=c) :
    Fn Tryz.prog 42 [grpV p q g h,numV x,.agg (byC H).toArray,numV d] Tr (Is (prV true c ((d+x*c%q)%q))):=by
  have hMy:=r8_May p q g h g hg hp
  have hX:=r13_Exponent p q g h x hx hq
  have hD:=r13_Exponent p q g h d hd hq
  have hE1:=r8_Exp p q g h g x hg hx hp
  have hE2:=r8_Exp p q g h g d hg hd hp
  have hbH:(byC H).length=32:=by rw[byC_length,hl]
  unfold sgB at hB
  simp only[Bool.and_eq_true,decide_eq_true_eq] at hB
  obtain⟨⟨⟨⟨e1,e2⟩,e3⟩,e4⟩,e5⟩:=hB
  rw[e1] at hMy hE1 hE2
  rw[e2] at hX
  rw[e3] at hD
  have d4:decide (x=0)=false:=decide_eq_false e4
  have d5:decide (d=0)=false:=decide_eq_false e5
  have hq1:=(mayN_spec e2).1
  have hxq:=(mayN_spec e2).2.1
  have hdq:=(mayN_spec e3).2.1
  have hcl:c<q:=by rw[← hc];exact hNum_lt (by omega) _ _
  have hCh:=r13_chal p q g h (g ^ x%p) (g ^ d%p) H hq (by omega) hH hl
  rw[show sgCh q (g ^ x%p) (g ^ d%p) H=c from hc] at hCh
  have hM:=r9_Mul p q g h x c hx (Nat.lt_trans hcl hq) hq
  rw[show mayN x c q=true by simp[mayN,hq1,hxq,hcl]] at hM
  have hml:x*c%q<q:=Nat.mod_lt _ (by omega)
  have hA:=r9_Add p q g h d (x*c%q) hd (Nat.lt_trans hml hq) hq
  rw[show mayN d (x*c%q) q=true by simp[mayN,hq1,hdq,hml]] at hA
  clear hc
  generalize (d+x*c%q)%q=S at *
  generalize x*c%q=M at *
  generalize g ^ x%p=P1 at *
  generalize g ^ d%p=P2 at *
  refine Fn.enter Tryz.func42 rfl rfl rfl ?_
  intro w hw
  repeat (first|refine Ta ?_|(refine Tm ?_;intro _)|refine WO.acall (hc:=hMy) (k:=?_)|refine WO.acall (hc:=hX) (k:=?_)|refine WO.acall (hc:=hD) (k:=?_)|refine WO.does (a_eqNumV rfl rfl hx B256_zero d4) ?_|refine WO.does (a_eqNumV rfl rfl hd B256_zero d5) ?_|refine WO.acall (hc:=hE1) (k:=?_)|refine WO.acall (hc:=hE2) (k:=?_)|refine WO.does (a_load (vs:=byC H) (hc:=cut_all hbH) (hl:=hbH)) ?_|refine WO.acall (hc:=hCh) (k:=?_)|refine WO.acall (hc:=hM) (k:=?_)|refine WO.acall (hc:=hA) (k:=?_)|refine Tc ?_|exact Tz)
  done
theorem r13_Sign (x d:Nat) (H:List Nat) (hp:p<B256) (hq:q<B256) (hg:g<B256) (hx:x<B256) (hd:d<B256) (hH:∀ b∈H,b<256) (hl:H.length=32) :
    Fn Tryz.prog 42 [grpV p q g h,numV x,.agg (byC H).toArray,numV d] Tr (Is (prV (sgB p q g x d) (sgC p q g x d H) ((d+x*sgC p q g x d H%q)%q))):=by
  generalize hc:sgC p q g x d H=c
  cases hB:sgB p q g x d with
  | false=>exact r13_SignN p q g h x d c _ H hp hq hg hx hd hl hB
  | true=>exact r13_SignY p q g h x d c H hp hq hg hx hd hH hl hB hc
end
end Sx
end Go.Proofs.YtmhligfnchegdaaGreatDoor
