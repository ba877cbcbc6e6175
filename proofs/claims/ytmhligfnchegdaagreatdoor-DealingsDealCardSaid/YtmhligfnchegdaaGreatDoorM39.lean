/- Part 39 of the proof: DeC, QlC, DfA, SgA -/
import Derived.Test.YtmhligfnchegdaaGreatDoorM38
import Derived.Test.YtmhligfnchegdaaGreatDoorM37
set_option linter.unusedSimpArgs false
set_option linter.unusedVariables false
namespace Go.Proofs.YtmhligfnchegdaaGreatDoor
open Go Go.RowKit Go.BigFrame
namespace Sx
attribute [local irreducible] wd DQ DQS WO WC WX
section
open Kp
variable {P:Program} {w0:World} {gs:List Nat} {n:Nat} {fl:List Nat} {Q:Exit→Act→World→Prop} {ops:List Oper} {L0:List Ent}
variable {tail rest:List Oper} {i:Nat} {C:Nums→Prop} {K:Nums→List (Nat × Value)} {N:Nums→List (Nat × Ent)}
variable {d:Nat} {op:Op} {ty:TypeId} {pos:String} {after:Array Edge} {gd:Option (Nat × Bool)}
theorem DQ.acallSR {f:FuncId} [Cal P f] {xs:Array Operand} {ats:Array TypeId} {vs:List Value} {Rq:World→Prop} {t m:Nat} {cs:List Value} (hc:Fn P f vs Rq (NewS t m cs)) (hR:∀ w,Mr w0 gs L0 w→Rq w) (ha:∀ s,evs (K s) xs.toList=some vs:=by (intro s;rfl))
    (k:DQ P w0 gs n fl Q ops L0 tail (i+1) rest (fun s=>C s∧True) (fun s=>(d,.slice (some ⟨s i 0,0,none⟩) m m)::K s) (fun s=>(i,⟨s i 0,t,cs⟩)::N s))
    (hfl:fl.contains i=false:=by rfl) (hw:∀ s,wk ops (K s) gd=some true:=by intro _;rfl) (hd:Nat.blt d n=true:=by rfl) :
    DQ P w0 gs n fl Q ops L0 tail i (⟨some d,.call { callee:=.value (.func f),args:=xs,argTypes:=ats },ty,pos,after,gd⟩::rest) C K N :=
  DQ.callsE (fs:=fun _=>[]) (cs:=fun _=>[]) (R:=fun _=>Rq) (vf:=fun _ x=>.slice (some ⟨x 0,0,none⟩) m m) (Nf:=fun _ x=>[⟨x 0,t,cs⟩]) (S:=fun _ _=>True) (fun _=>[]) (fun _=>.nil)
    (fun _=>⟨fun _=>0,trivial⟩) (fun _ _=>Fn.weak hc (fun _ h=>h) (fun v N ⟨g,e1,e2⟩=>⟨fun _=>g,e1,e2,trivial⟩)) (fun _=>rfl) ha (fun _=>by simp) (fun _ _ w h=>hR w h) Dp.const Dp.const Dp.const k hfl hw hd
end
theorem byC_one1 {d:Nat} (hd:d<256):byC (be 1 d)=[.int .u8 (d:Int)]:=by rw[be_one hd];simp[byC]
def agV (g c n:Nat):Nat→Value
  | 0=>.slice none 0 0
  | _+1=>.slice (some ⟨g,0,none⟩) n c
def agL (g:Nat) (B:List Nat) (r:List Value):Nat→List Ent
  | 0=>[]
  | _+1=>[⟨g,5,byC B++r⟩]
abbrev be2 (k:Nat × Nat):List Nat:=be 32 k.1++be 32 k.2
set_option maxHeartbeats 2000000 in
theorem c_dHash (ep d:Nat) (sC sS:Nat) (pV pY pP:Option Addr) (cV cY cP:Nat) (V Y:List Nat) (Pr:List (Nat × Nat)) (hd:d<256) (hV:V≠[]) (hY:Y≠[]) (hP:Pr≠[]) (hVl:V.length≤1000) (hYl:Y.length≤1000) (hPl:Pr.length≤1000) :
    Fn Tryz.prog 29 [dlV ep d (.slice pV V.length cV) (.slice pY Y.length cY) (.slice pP Pr.length cP) sC sS]
      (fun w=>RdF numC (.slice pV V.length cV) V w∧RdF numC (.slice pY Y.length cY) Y w∧RdF pfC (.slice pP Pr.length cP) Pr w) (Is (.agg (byC (dHash ep d V Y Pr)).toArray)):=by
  have hLV:=c_long V pV cV hV (by omega)
  have hLY:=c_long Y pY cY hY (by omega)
  have hP0:=c_Put [] ep 8 0 none (by decide) (by decide)
  rw[List.nil_append,be_length] at hP0
  have hHl:(hBytes (strB sDealing) [be 8 ep++be 1 d,V.flatMap (be 32),Y.flatMap (be 32),Pr.flatMap be2]).length≤1152921504606840000:=by
    simp only[hBytes,hHead,hBody,List.flatMap_cons,List.flatMap_nil,List.length_append,be_length,strB_length,List.length_nil,flat_be,flat_be2]
    have:sDealing.size=7:=by decide
    omega
  have hO:=fun g1 c1 g2 g3 gA cA gR=>c_hOf sDealing [.slice (some ⟨g1,0,none⟩) 9 c1,.slice (some ⟨g2,0,none⟩) (V.flatMap (be 32)).length (V.flatMap (be 32)).length,.slice (some ⟨g3,0,none⟩) (Y.flatMap (be 32)).length (Y.flatMap (be 32)).length,.slice (some ⟨gA,0,none⟩) (Pr.flatMap be2).length cA]
    [be 8 ep++be 1 d,V.flatMap (be 32),Y.flatMap (be 32),Pr.flatMap be2] gR 0 4 dHash_bytes hHl (by decide)
  rw[show hOf (strB sDealing) [be 8 ep++be 1 d,V.flatMap (be 32),Y.flatMap (be 32),Pr.flatMap be2]=dHash ep d V Y Pr from rfl] at hO
  have hHlen:(byC (dHash ep d V Y Pr)).length=32:=by rw[byC_length];exact hOf_len' _ _
  have hVc:(V.flatMap (be 32)).length<9223372036854775808:=by rw[flat_be];omega
  have hYc:(Y.flatMap (be 32)).length<9223372036854775808:=by rw[flat_be];omega
  generalize dHash ep d V Y Pr=H at *
  generalize V.flatMap (be 32)=VB at *
  generalize Y.flatMap (be 32)=YB at *
  have h9:byC (be 8 ep)++[Value.int .u8 (d:Int)]=byC (be 8 ep++be 1 d):=by rw[byC_append,byC_one1 hd]
  refine Fn.enter Tryz.func29 rfl rfl rfl ?_
  intro w hw
  obtain⟨wV,wY,wP⟩:=hw
  repeat (first|refine Ta ?_|(refine Tm ?_;intro _)|refine Tc ?_|exact Tz)
  rename_i gD gH
  refine WC.loopI (σ:=Nat × Nat × Nat × List Value) (fun s=>s.1≤Pr.length∧(0<s.1→(byC ((Pr.take s.1).flatMap be2)++s.2.2.2).length=s.2.2.1∧s.2.2.1<9223372036854775808)) (fun s=>[(1,pt gD),(2,pt gH),(3,agV s.2.1 s.2.2.1 (s.1*64) s.1),(7,.slice pP Pr.length cP),(8,.int .i64 (Pr.length:Int)),(9,.int .i64 (s.1:Int))])
    (fun s=>agL s.2.1 ((Pr.take s.1).flatMap be2) s.2.2.2 s.1++[⟨gH,82,byC (List.replicate 32 0)⟩,⟨gD,40,dlC ep d (.slice pV V.length cV) (.slice pY Y.length cY) (.slice pP Pr.length cP) sC sS⟩]) (fun s=>Pr.length - s.1) (0,0,0,[]) (fun s hi=>?_) ⟨Nat.zero_le _,fun h=>absurd h (by decide)⟩
  obtain⟨i,gA,cA,r⟩:=s
  try dsimp only at hi ⊢
  obtain⟨hi,hr⟩:=hi
  by_cases hlt:i<Pr.length
  · obtain⟨x,hx⟩ : ∃ x,Pr[i]?=some x:=⟨_,List.getElem?_eq_getElem hlt⟩
    obtain⟨b,o,rfl,_,hs⟩:=wP.get hx
    have hadd2:IntKind.i64.wrap ((i:Int)+1)=((i+1:Nat):Int):=i64_in' (by omega) (by omega) (by omega)
    have hcx:cut (Pr.flatMap pfC) (o+i*8 - o) 8=pfC x:=by rw[Nat.add_sub_cancel_left];exact cut_flat pfC_len hx
    have hst:(Pr.take i).flatMap be2++be2 x=(Pr.take (i+1)).flatMap be2:=by rw[List.take_add_one,hx];simp
    have hB1:((Pr.take i).flatMap be2).length=i*64:=by rw[flat_be2,List.length_take];omega
    have hL:=fun g=>c_long [x.1,x.2] (some ⟨g,0,none⟩) 2 (by simp) (by show 2≤8589934592;omega)
    rw[show [x.1,x.2].flatMap (be 32)=be2 x by simp] at hL
    have h64:(be2 x).length=64:=by rw[List.length_append,be_length,be_length]
    rw[h64] at hL
    have hyl:(byC (be2 x)).length=64 * [Value.int .u8 0].length:=by rw[byC_length,h64];rfl
    generalize hB2:(Pr.take (i+1)).flatMap be2=B2 at *
    rcases i with _|i
    · try dsimp only[agV,agL,List.nil_append]
      have hst' : be2 x=B2:=by rw[← hst];rfl
      repeat (first|refine Ta ?_|(refine Tm ?_;intro _)|refine Tc ?_|exact Tz)
      refine WC.dT rfl (by omega) ?_
      repeat (first|refine Ta ?_|(refine Tm ?_;intro _)|refine WO.does (does_indexSlice (o':=o+0*8) rfl rfl hlt rfl) ?_|refine WO.does (a_loadF (vs:=pfC x) (hs:=hs) (hle:=Nat.le_add_right _ _) (hc:=hcx)) ?_|(refine WO.makes (makes_build (cs:=numC x.1++numC x.2) rfl (by decide) rfl) ?_;intro _)|refine WO.acallN (hc:=hL _) (hR:=fun w1 hm=>RdF.seg (f:=numC) (xs:=[x.1,x.2]) (r:=[]) (Hs.seg (by repeat (first|exact Hs.here|apply Hs.there)) hm)) (k:=fun g'=>?_)|refine Tc ?_|exact Tz)
      refine WO.appN (z:=[Value.int .u8 0]) (m:=64) rfl rfl rfl (Rds.own (m:=64) Hs.here (cut_all (by rw[byC_length,h64]))) hyl (by decide) (by decide) (by decide) (by decide) (fun g1 c1 r1 a1 a2 a3=>?_)
      rw[hst']
      repeat (first|refine Ta ?_|(refine Tm ?_;intro _)|refine WO.does (does_add rfl rfl hadd2) ?_|refine Tc ?_|exact Tz)
      subst hB2
      exact WX.metI (1,g1,c1,r1) (hs:=⟨⟨by show 0+1≤Pr.length;omega,fun _=>⟨by rw[← hst',a1];exact Nat.mul_one _,a2⟩⟩,by show Pr.length - (0+1)<Pr.length - 0;omega⟩)
    · obtain⟨r1,r2⟩:=hr (by omega)
      generalize (Pr.take (i+1)).flatMap be2=B1 at *
      try dsimp only[agV,agL,List.cons_append,List.nil_append]
      repeat (first|refine Ta ?_|(refine Tm ?_;intro _)|refine Tc ?_|exact Tz)
      refine WC.dT rfl (by omega) ?_
      repeat (first|refine Ta ?_|(refine Tm ?_;intro _)|refine WO.does (does_indexSlice (o':=o+(i+1)*8) rfl rfl hlt rfl) ?_|refine WO.does (a_loadF (vs:=pfC x) (hs:=hs) (hle:=Nat.le_add_right _ _) (hc:=hcx)) ?_|(refine WO.makes (makes_build (cs:=numC x.1++numC x.2) rfl (by decide) rfl) ?_;intro _)|refine WO.acallN (hc:=hL _) (hR:=fun w1 hm=>RdF.seg (f:=numC) (xs:=[x.1,x.2]) (r:=[]) (Hs.seg (by repeat (first|exact Hs.here|apply Hs.there)) hm)) (k:=fun g'=>?_)|refine Tc ?_|exact Tz)
      refine WO.appK (z:=[Value.int .u8 0]) (m:=64) (l:=(i+1+1)*64) rfl rfl rfl (xs:=byC B1) (r:=r) (by rw[byC_length,hB1];exact (Nat.mul_one _).symm) (by rw[r1];exact (Nat.mul_one _).symm) (by repeat (first|exact Pk.here|apply Pk.there)) (Rds.own (m:=64) Hs.here (cut_all (by rw[byC_length,h64]))) hyl (byC_one _) (by omega) (by omega) r2 (by omega) (by decide) (by decide) (fun g1 c1 r1 a1 a2 a3=>?_)
      rw[← byC_append,hst] at a1 ⊢
      repeat (first|refine Ta ?_|(refine Tm ?_;intro _)|refine WO.does (does_add rfl rfl hadd2) ?_|refine Tc ?_|exact Tz)
      subst hB2
      exact WX.metI (i+1+1,g1,c1,r1) (hs:=⟨⟨by show i+1+1≤Pr.length;omega,fun _=>⟨by rw[a1];exact Nat.mul_one _,a2⟩⟩,by show Pr.length - (i+1+1)<Pr.length - (i+1);omega⟩)
  · have hi2:i=Pr.length:=by omega
    subst hi2
    have hPn:0<Pr.length:=List.length_pos_iff.2 hP
    obtain⟨r1,r2⟩:=hr hPn
    rw[List.take_length] at *
    have hBl:(Pr.flatMap be2).length=Pr.length*64:=flat_be2 _
    rw[← hBl]
    have hAV:agV gA cA (Pr.flatMap be2).length Pr.length=.slice (some ⟨gA,0,none⟩) (Pr.flatMap be2).length cA:=by
      obtain⟨k,hk⟩ : ∃ k,Pr.length=k+1:=⟨Pr.length - 1,by omega⟩
      rw[hk];rfl
    have hAL:agL gA (Pr.flatMap be2) r Pr.length=[⟨gA,5,byC (Pr.flatMap be2)++r⟩]:=by
      obtain⟨k,hk⟩ : ∃ k,Pr.length=k+1:=⟨Pr.length - 1,by omega⟩
      rw[hk];rfl
    have hcA:(Pr.flatMap be2).length≤cA:=by rw[← r1,List.length_append,byC_length];omega
    rw[hAV,hAL]
    generalize Pr.flatMap be2=PB at *
    try dsimp only[List.cons_append,List.nil_append]
    repeat (first|refine Ta ?_|(refine Tm ?_;intro _)|refine Tc ?_|exact Tz)
    refine WC.dF rfl (by omega) ?_
    repeat (first|refine Ta ?_|(refine Tm ?_;intro _)|refine Tc ?_|exact Tz)
    refine WC.adraw 16 (k:=?_)
    iterate 2 (refine DQ.auto (k:=?_))
    refine DQ.acallS (hc:=hP0) (hR:=fun _=>Rd.nil) (k:=?_)
    iterate 2 (refine DQ.auto (k:=?_))
    refine DQ.makes (vf:=fun _ g=>.slice (some ⟨g,0,none⟩) 1 1) (t:=5) (cs:=fun _=>[.int .u8 (d:Int)]) (fun s _=>makes_build rfl (by decide) rfl) Dp.const Dp.const ?_
    refine DQ.newsE (vf:=fun _ x=>.slice (some ⟨x 0,0,none⟩) 9 (x 1)) (Nf:=fun _ x=>[⟨x 0,5,byC (be 8 ep)++[.int .u8 (d:Int)]++mkz (x 1 - 9) [.int .u8 0]⟩]) (S:=fun _ x=>9≤x 1∧x 1<9223372036854775808)
      (fun s=>[⟨s 5 0,5,[.int .u8 (d:Int)]⟩,⟨s 2 0,5,byC (be 8 ep)⟩]) (fun s=>.cons 5 (.head _) (by decide +kernel) (.cons 2 (by repeat (first|exact .head _|apply List.Mem.tail)) (by decide +kernel) .nil)) (fun _=>⟨fun _=>9,by decide,by decide⟩)
      (fun s _=>app_new (z:=[Value.int .u8 0]) (len:=8) (n:=1) rfl rfl (ys:=byC (be 8 ep)) (Rds.own (m:=8) (Hs.there Hs.here) (cut_all (by rw[byC_length,be_length]))) (by rw[byC_length,be_length];rfl) (xs:=[.int .u8 (d:Int)]) (Rds.own (m:=1) Hs.here rfl) rfl (by decide) (by decide) (by decide) (by decide) rfl) Dp.const Dp.const Dp.const ?_
    try dsimp only[List.map_cons,List.map_nil,List.cons_append,List.nil_append]
    iterate 2 (refine DQ.auto (k:=?_))
    refine DQ.acallSR (hc:=hLV) (hR:=fun w hm=>wV.mod hm.mod) (k:=?_)
    iterate 2 (refine DQ.auto (k:=?_))
    refine DQ.acallSR (hc:=hLY) (hR:=fun w hm=>wY.mod hm.mod) (k:=?_)
    refine DQ.auto (k:=?_)
    refine DQ.makes (vf:=fun _ g=>.slice (some ⟨g,0,none⟩) 4 4) (t:=84) (cs:=fun s=>[.slice (some ⟨s 6 0,0,none⟩) 9 (s 6 1),.slice (some ⟨s 9 0,0,none⟩) VB.length VB.length,.slice (some ⟨s 12 0,0,none⟩) YB.length YB.length,.slice (some ⟨gA,0,none⟩) PB.length cA]) (fun s _=>makes_build rfl (by decide) rfl) Dp.const (by intro s s' h;dsimp only;rw[h,h,h]<;>decide +kernel) ?_
    refine DQ.callE (v:=fun _=>.agg (byC H).toArray) (fun s=>[⟨s 14 0,84,[.slice (some ⟨s 6 0,0,none⟩) 9 (s 6 1),.slice (some ⟨s 9 0,0,none⟩) VB.length VB.length,.slice (some ⟨s 12 0,0,none⟩) YB.length YB.length,.slice (some ⟨gA,0,none⟩) PB.length cA]⟩,⟨s 12 0,5,byC YB⟩,⟨s 9 0,5,byC VB⟩,⟨s 6 0,5,byC (be 8 ep)++[.int .u8 (d:Int)]++mkz (s 6 1 - 9) [.int .u8 0]⟩])
      (fun s=>.cons 14 (.head _) (by decide +kernel) (.cons 12 (by repeat (first|exact .head _|apply List.Mem.tail)) (by decide +kernel) (.cons 9 (by repeat (first|exact .head _|apply List.Mem.tail)) (by decide +kernel) (.cons 6 (by repeat (first|exact .head _|apply List.Mem.tail)) (by decide +kernel) .nil)))) (fun s _=>hO (s 6 0) (s 6 1) (s 9 0) (s 12 0) gA cA (s 14 0)) (fun s=>rfl)
      (fun s hC w hm=>⟨Hs.seg Hs.here hm,Parts.cons (by
          have hab:=RdP.own (g:=s 6 0) (c:=s 6 1) (X:=be 8 ep++be 1 d) (r:=mkz (s 6 1 - 9) [Value.int .u8 0]) (t:=5) hm (by rw[← h9];exact Hs.there (Hs.there (Hs.there Hs.here))) (by rw[List.length_append,be_length,be_length];exact hC.1.1.2.1) hC.1.1.2.2
          rw[List.length_append,be_length,be_length] at hab
          exact hab) (Parts.cons (RdP.own0 (g:=s 9 0) (X:=VB) (t:=5) hm (Hs.there (Hs.there Hs.here)) (Nat.le_refl _) hVc) (Parts.cons (RdP.own0 (g:=s 12 0) (X:=YB) (t:=5) hm (Hs.there Hs.here) (Nat.le_refl _) hYc) (Parts.cons (RdP.own (g:=gA) (X:=PB) (r:=r) (t:=5) hm (by repeat (first|exact Hs.here|apply Hs.there)) hcA r2) Parts.nil)))⟩) Dp.const ?_
    refine DQ.anil (k:=?_)
    intro sx _
    refine WO.stores (a_store (vs:=byC H) (cs':=byC H) (hl:=hHlen) (h1:=byC_one _) (hc:=over_all (by rw[hHlen];rfl)) (hle:=by rw[hHlen];rfl)) ?_
    repeat (first|refine Ta ?_|(refine Tm ?_;intro _)|refine Tc ?_|exact Tz)
    exact WX.aret1 (hr:=a_rvc (vs:=byC H) (hc:=cut_all hHlen) (hl:=hHlen)) (hp:=rfl)
end Sx
end Go.Proofs.YtmhligfnchegdaaGreatDoor
namespace Go.Proofs.YtmhligfnchegdaaGreatDoor
open Go Go.RowKit Go.BigFrame
namespace Sx
attribute [local irreducible] wd DQ DQS WO WC WX
section
variable (p q g h:Nat)
set_option maxHeartbeats 2000000 in
theorem r10_AtY (l:List Nat) (pz:Option Addr) (c x:Nat) (hl:∀ a∈l,a<B256) (hn:l.length≤1099511627776) (hq:q<B256) (hx:x<B256) (hb1:allN q l=true) (hxq:x<q) :
    Fn Tryz.prog 212 [grpV p q g h,.slice pz l.length c,numV x] (RdF numC (.slice pz l.length c) l) (Is (.tuple #[numV (polyN l x%q),.int .i64 0])):=by
  have hM1:=r10_All p q g h l pz c hl hn hq
  have hM2:=r10_below p q g h x hx hq
  obtain⟨h1,hlq⟩:=allN_spec hb1
  rw[mayN_self,decide_eq_true h1,decide_eq_true hxq] at hM2
  rw[hb1] at hM1
  have hOf:=r9_OfP p q g h 1 (by omega) hq
  rw[ofZ_nat q 1 (by omega)] at hOf
  have hT:=fun a b (ha:a<q) (hb:b<q)=>by
    have:=r10_times p q g h a b (Nat.lt_trans ha hq) (Nat.lt_trans hb hq) hq
    rw[show mayN a b q=true by simp[mayN,h1,ha,hb]] at this
    exact this
  have hP:=fun a b (ha:a<q) (hb:b<q)=>by
    have:=r10_plus p q g h a b (Nat.lt_trans ha hq) (Nat.lt_trans hb hq) hq
    rw[show mayN a b q=true by simp[mayN,h1,ha,hb]] at this
    exact this
  refine Fn.enter Tryz.func212 rfl rfl rfl ?_
  intro w hw
  have hwK:=hw
  obtain⟨pt',c',e,hpc⟩:=hw
  cases e
  repeat (first|refine Ta ?_|(refine Tm ?_;intro _)|refine WO.acall (hc:=hM2) (k:=?_)|refine WO.acall (hc:=hOf) (k:=?_)|refine WO.acallR (hc:=hM1) (hR:=fun w hm=>hwK.mod hm.mod) (k:=?_)|refine Tc ?_|exact Tz)
  rename_i g3 g5 g6 g8 g9
  refine WC.loopI (σ:=Nat) (fun i=>i≤l.length) (fun i=>[(1,.slice pz l.length c),(3,Sx.pt g3),(5,Sx.pt g5),(6,Sx.pt g6),(8,Sx.pt g8),(9,Sx.pt g9),(10,.int .i64 (i:Int))])
    (fun i=>[⟨g9,24,numC (x ^ i%q)⟩,⟨g8,24,numC (polyN (l.take i) x%q)⟩,⟨g6,24,numC 0⟩,⟨g5,24,numC x⟩,⟨g3,26,grpC p q g h⟩]) (fun i=>l.length - i) 0 (fun i hi=>?_) (Nat.zero_le _)
    (hl:=by simp only[Nat.pow_zero,List.take_zero,polyN,Nat.zero_mod];repeat (first|exact Lle.nil|refine Lle.cons (by repeat (first|exact Pk.here|apply Pk.there)) (by rfl) ?_))
  try dsimp only at hi ⊢
  by_cases hlt:i<l.length
  · obtain⟨y,hy⟩ : ∃ y,l[i]?=some y:=⟨_,List.getElem?_eq_getElem hlt⟩
    rcases hpc with ⟨_,h0⟩|⟨b,o,rfl,hs⟩
    · rw[h0] at hlt;simp at hlt
    have hadd2:IntKind.i64.wrap ((i:Int)+1)=((i+1:Nat):Int):=i64_in' (by omega) (by omega) (by omega)
    have hcx:cut (l.flatMap numC) (o+i*4 - o) 4=numC y:=by rw[Nat.add_sub_cancel_left];exact cut_flat numC_len hy
    have hyq:=hlq y (List.mem_of_getElem? hy)
    have hpw:x ^ i%q<q:=Nat.mod_lt _ (by omega)
    have hou:polyN (l.take i) x%q<q:=Nat.mod_lt _ (by omega)
    have hT1:=hT y (x ^ i%q) hyq hpw
    have hty:y*(x ^ i%q)%q<q:=Nat.mod_lt _ (by omega)
    have hP1:=hP (polyN (l.take i) x%q) (y*(x ^ i%q)%q) hou hty
    have hT2:=hT (x ^ i%q) x hpw hxq
    have hst:=polyN_step q x (l.take i) y
    rw[List.length_take,Nat.min_eq_left (Nat.le_of_lt hlt),show l.take i++[y]=l.take (i+1) by rw[List.take_add_one,hy];rfl] at hst
    simp only[okV] at hT1 hP1 hT2
    rw[hst] at hP1
    rw[pow_step] at hT2
    clear hT hP hst hlq hl hM1 hM2 hOf
    generalize hX2:x ^ (i+1)%q=X2 at *
    generalize hP2:polyN (l.take (i+1)) x%q=P2 at *
    generalize x ^ i%q=X1 at *
    generalize polyN (l.take i) x%q=P1 at *
    generalize y*X1%q=Y1 at *
    repeat (first|refine Ta ?_|(refine Tm ?_;intro _)|refine Tc ?_|exact Tz)
    refine WC.dT rfl (by omega) ?_
    repeat (first|refine Ta ?_|(refine Tm ?_;intro _)|refine Tc ?_|exact Tz)
    refine WC.adraw 10 (k:=?_)
    iterate 10 (first|refine Da ?_|refine DQ.does (fun s _=>does_indexSlice (o':=o+i*4) rfl rfl hlt rfl) Dp.const ?_|refine DQ.does (fun s _=>a_loadF (vs:=numC y) (hs:=hs) (hle:=Nat.le_add_right _ _) (hc:=hcx)) Dp.const ?_|refine DQ.acall (hc:=hT1) (k:=?_)|refine DQ.acall (hc:=hP1) (k:=?_)|refine Dc ?_)
    refine DQ.anil (k:=?_)
    intro sx _
    repeat (first|refine Ta ?_|(refine Tm ?_;intro _)|refine WO.acall (hc:=hT2) (k:=?_)|refine WO.does (does_add rfl rfl hadd2) ?_|refine Tc ?_|exact Tz)
    subst hX2 hP2
    exact WX.metI (i+1) (hs:=⟨by show i+1≤l.length;omega,by show l.length - (i+1)<l.length - i;omega⟩)
  · have hi2:i=l.length:=by omega
    subst hi2
    rw[List.take_length]
    repeat (first|refine Ta ?_|(refine Tm ?_;intro _)|refine Tc ?_|exact Tz)
    refine WC.dF rfl (by omega) ?_
    repeat (first|refine Ta ?_|(refine Tm ?_;intro _)|refine Tc ?_|exact Tz)
    done
end
end Sx
end Go.Proofs.YtmhligfnchegdaaGreatDoor
namespace Go.Proofs.YtmhligfnchegdaaGreatDoor
open Go Go.RowKit Go.BigFrame
namespace Sx
attribute [local irreducible] wd DQ DQS WO WC WX
def naL (g:Nat) (B r:List Value):Nat→List Ent
  | 0=>[]
  | _+1=>[⟨g,24,B++r⟩]
def NewT (m:Nat) (cs:List Value):Value→List Ent→Prop:=fun v N=>∃ g c r,v=.tuple #[.slice (some ⟨g,0,none⟩) m c,.int .i64 0]∧N=[⟨g,24,cs++r⟩]
section
variable (p q g h:Nat) (l:List Nat) (pz:Option Addr) (c m:Nat)
set_option maxHeartbeats 2000000 in
theorem r11_values (hl:∀ a∈l,a<B256) (hn:l.length≤1099511627776) (hq:q<B256) (hb1:allN q l=true) (h1:1≤m) (hm:m≤7) (hmq:m<q) :
    Fn Tryz.prog 128 [grpV p q g h,.slice pz l.length c,.int .i64 (m:Int),.int .i64 1] (RdF numC (.slice pz l.length c) l) (NewT m ((shL q l m).flatMap numC)):=by
  refine Fn.enter Tryz.func128 rfl rfl rfl ?_
  intro w hw
  repeat (first|refine Ta ?_|(refine Tm ?_;intro _)|refine Tc ?_|exact Tz)
  rename_i gG
  refine WC.loopI (σ:=Nat × Nat × Nat × List Value) (fun s=>s.1≤m∧(0<s.1→(((shL q l s.1).flatMap numC)++s.2.2.2).length=s.2.2.1*4∧s.2.2.1<9223372036854775808∧s.1≤s.2.2.1)) (fun s=>[(1,.slice pz l.length c),(2,.int .i64 (m:Int)),(3,.int .i64 1),(4,pt gG),(9,.int .i64 0),(10,agV s.2.1 s.2.2.1 s.1 s.1),(11,.int .i64 ((s.1+1:Nat):Int))])
    (fun s=>naL s.2.1 ((shL q l s.1).flatMap numC) s.2.2.2 s.1++[⟨gG,26,grpC p q g h⟩]) (fun s=>m - s.1) (0,0,0,[]) (fun s hi=>?_) ⟨Nat.zero_le _,fun h=>absurd h (by decide)⟩
  obtain⟨i,g0,c0,r⟩:=s
  try dsimp only at hi ⊢
  obtain⟨hi,hr⟩:=hi
  by_cases hlt:i<m
  · have hadd2:IntKind.i64.wrap (((i+1:Nat):Int)+1)=((i+1+1:Nat):Int):=i64_in' (by omega) (by omega) (by omega)
    have hmul:IntKind.i64.wrap ((1:Int)*((i+1:Nat):Int))=((i+1:Nat):Int):=by rw[Int.one_mul];exact i64_in (by omega) (by omega)
    have h2:=r9_OfP p q g h (i+1) (by omega) hq
    rw[ofZ_nat q (i+1) (by omega),Nat.mod_eq_of_lt (by omega)] at h2
    have h3:=r10_AtY p q g h l pz c (i+1) hl hn hq (Nat.lt_trans (by omega) hq) hb1 (by omega)
    rw[show polyN l (i+1)%q=shN q l i from rfl] at h3
    have hst:(shL q l i).flatMap numC++numC (shN q l i)=(shL q l (i+1)).flatMap numC:=by unfold shL;rw[range_take_succ,List.flatMap_append];simp
    have hBl:((shL q l i).flatMap numC).length=i*4:=by rw[flat_length numC_len,shL_length]
    generalize hB2:(shL q l (i+1)).flatMap numC=B2 at *
    generalize shN q l i=V at *
    rcases i with _|i
    · try dsimp only[agV,naL,List.nil_append]
      have hst' : numC V=B2:=by rw[← hst];rfl
      repeat (first|refine Ta ?_|(refine Tm ?_;intro _)|refine Tc ?_|exact Tz)
      refine WC.dT rfl (by omega) ?_
      repeat (first|refine Ta ?_|(refine Tm ?_;intro _)|refine Tc ?_|exact Tz)
      refine WC.adrawF [10] 12 (k:=?_)
      repeat (first|refine Da ?_|refine DQ.acall (hc:=h2) (k:=?_)|refine DQ.does (fun s _=>does_mul rfl rfl hmul) Dp.const ?_|refine DQ.acallM (hc:=h3) (hR:=fun w hm=>hw.mod hm.mod) (k:=?_)|refine Df ?_)
      refine DQ.anil (k:=?_)
      intro sx _
      repeat (first|refine Ta ?_|(refine Tm ?_;intro _)|refine WO.does (does_neqN rfl rfl rfl) ?_|(refine WO.makes (makes_build (cs:=numC V) rfl (by decide) rfl) ?_;intro _)|refine Tc ?_|exact Tz)
      refine WO.appN (z:=numC 0) (m:=1) rfl rfl rfl (Rds.own (m:=4) Hs.here rfl) rfl (by decide) (by decide) (by decide) (by decide) (fun g1 c1 r1 a1 a2 a3=>?_)
      rw[hst'] at a1 ⊢
      repeat (first|refine Ta ?_|(refine Tm ?_;intro _)|refine WO.does (does_add rfl rfl hadd2) ?_|refine Tc ?_|exact Tz)
      subst hB2
      exact WX.metI (1,g1,c1,r1) (hs:=⟨⟨by show 0+1≤m;omega,fun _=>⟨a1,a2,a3⟩⟩,by show m - (0+1)<m - 0;omega⟩)
    · obtain⟨r1,r2,r3⟩:=hr (by omega)
      generalize (shL q l (i+1)).flatMap numC=B1 at *
      try dsimp only[agV,naL,List.cons_append,List.nil_append]
      repeat (first|refine Ta ?_|(refine Tm ?_;intro _)|refine Tc ?_|exact Tz)
      refine WC.dT rfl (by omega) ?_
      repeat (first|refine Ta ?_|(refine Tm ?_;intro _)|refine Tc ?_|exact Tz)
      refine WC.adrawF [10] 12 (k:=?_)
      repeat (first|refine Da ?_|refine DQ.acall (hc:=h2) (k:=?_)|refine DQ.does (fun s _=>does_mul rfl rfl hmul) Dp.const ?_|refine DQ.acallM (hc:=h3) (hR:=fun w hm=>hw.mod hm.mod) (k:=?_)|refine Df ?_)
      refine DQ.anil (k:=?_)
      intro sx _
      repeat (first|refine Ta ?_|(refine Tm ?_;intro _)|refine WO.does (does_neqN rfl rfl rfl) ?_|(refine WO.makes (makes_build (cs:=numC V) rfl (by decide) rfl) ?_;intro _)|refine Tc ?_|exact Tz)
      refine WO.appK (z:=numC 0) (m:=1) (l:=i+1+1) rfl rfl rfl (xs:=B1) (r:=r) (ys:=numC V) hBl r1 (by repeat (first|exact Pk.here|apply Pk.there)) (Rds.own (m:=4) Hs.here rfl) rfl rfl rfl (by omega) r2 (by omega) (by decide) (by decide) (fun g1 c1 r1 a1 a2 a3=>?_)
      rw[hst] at a1 ⊢
      repeat (first|refine Ta ?_|(refine Tm ?_;intro _)|refine WO.does (does_add rfl rfl hadd2) ?_|refine Tc ?_|exact Tz)
      subst hB2
      exact WX.metI (i+1+1,g1,c1,r1) (hs:=⟨⟨by show i+1+1≤m;omega,fun _=>⟨a1,a2,a3⟩⟩,by show m - (i+1+1)<m - (i+1);omega⟩)
  · have hi2:i=m:=by omega
    subst hi2
    generalize (shL q l i).flatMap numC=B at *
    obtain⟨i,rfl⟩ : ∃ k,i=k+1:=⟨i - 1,by omega⟩
    try dsimp only[agV,naL,List.cons_append,List.nil_append]
    repeat (first|refine Ta ?_|(refine Tm ?_;intro _)|refine Tc ?_|exact Tz)
    refine WC.dF rfl (by omega) ?_
    repeat (first|refine Ta ?_|(refine Tm ?_;intro _)|refine Tc ?_|exact Tz)
    exact WX.ret2 rfl (by exact rv_tmp rfl) (by exact rv_tmp rfl) [⟨g0,24,B++r⟩] (Lle.cons (by repeat (first|exact Pk.here|apply Pk.there)) rfl Lle.nil) ⟨g0,c0,r,rfl,rfl⟩
theorem r11_Of (hl:∀ a∈l,a<B256) (hn:l.length≤1099511627776) (hq:q<B256) (hb1:allN q l=true) (h1:1≤m) (hm:m≤7) (hmq:m<q) :
    Fn Tryz.prog 35 [grpV p q g h,.slice pz l.length c,.int .i64 (m:Int)] (RdF numC (.slice pz l.length c) l) (NewT m ((shL q l m).flatMap numC)):=by
  have hV:=r11_values p q g h l pz c m hl hn hq hb1 h1 hm hmq
  generalize (shL q l m).flatMap numC=B at *
  refine Fn.enter Tryz.func35 rfl rfl rfl ?_
  intro w hw
  repeat (first|refine Ta ?_|(refine Tm ?_;intro _)|refine WO.does (does_lssN rfl rfl (by omega)) ?_|refine WO.does (does_gtrN rfl rfl (by omega)) ?_|refine Tc ?_|exact Tz)
  refine WO.calls (fs:=[]) (cs:=[]) hV rfl rfl rfl (fun w1 hm=>hw.mod hm.mod) (fun u N ⟨g0,c0,r,e1,e2⟩=>?_)
  subst e1 e2
  try dsimp only[List.cons_append,List.nil_append]
  repeat (first|refine Ta ?_|(refine Tm ?_;intro _)|refine Tc ?_|exact Tz)
  exact WX.ret2 rfl (by exact rv_tmp rfl) (by exact rv_tmp rfl) [⟨g0,24,B++r⟩] (Lle.cons (by repeat (first|exact Pk.here|apply Pk.there)) rfl Lle.nil) ⟨g0,c0,r,rfl,rfl⟩
end
end Sx
end Go.Proofs.YtmhligfnchegdaaGreatDoor
namespace Go.Proofs.YtmhligfnchegdaaGreatDoor
open Go Go.RowKit Go.BigFrame
namespace Sx
attribute [local irreducible] wd DQ DQS WO WC WX
section
variable {w0:World} {gs:List Nat} {K:List (Nat × Value)} {L:List Ent}
theorem a_eqNumV {x y:Operand} {yt ty:TypeId} {a b:Nat} {r:Bool} (hx:ev K x=some (numV a)) (hy:ev K y=some (numV b)) (ha:a<B256) (hb:b<B256) (hr:decide (a=b)=r) :
    Does Tryz.prog w0 gs K L (.binOp .eql 24 x y yt) ty (.bool r):=by
  subst hr
  exact a_eqNum (hx:=hx) (hy:=hy) (ha:=ha) (hb:=hb)
end
section
variable (p q g h:Nat)
theorem c_exps (l:List Nat) (pz:Option Addr) (c:Nat) (hl:∀ a∈l,a<B256) (hn:l.length≤1099511627776) (hq:q<B256) :
    Fn Tryz.prog 123 [grpV p q g h,.slice pz l.length c] (RdF numC (.slice pz l.length c) l) (Is (.bool (l.all fun x=>mayN x x q))):=by
  refine Fn.enter Tryz.func123 rfl rfl rfl ?_
  intro w hw
  repeat (first|refine Ta ?_|(refine Tm ?_;intro _)|refine Tc ?_|exact Tz)
  rename_i gG
  refine WC.loopI (σ:=Nat) (fun i=>i≤l.length∧∀ j,j<i→∀ x,l[j]?=some x→mayN x x q=true) (fun i=>[(2,pt gG),(9,.slice pz l.length c),(10,.int .i64 (l.length:Int)),(11,.int .i64 (i:Int))]) (fun _=>[⟨gG,26,grpC p q g h⟩]) (fun i=>l.length - i) 0 (fun i hi=>?_) ⟨Nat.zero_le _,fun j hj=>by omega⟩
  try dsimp only at hi ⊢
  obtain⟨hi,h0⟩:=hi
  by_cases hlt:i<l.length
  · obtain⟨x,hx⟩ : ∃ x,l[i]?=some x:=⟨_,List.getElem?_eq_getElem hlt⟩
    obtain⟨b,o,rfl,_,hs⟩:=hw.get hx
    have hadd2:IntKind.i64.wrap ((i:Int)+1)=((i+1:Nat):Int):=i64_in' (by omega) (by omega) (by omega)
    have hcx:cut (l.flatMap numC) (o+i*4 - o) 4=numC x:=by rw[Nat.add_sub_cancel_left];exact cut_flat numC_len hx
    have hxb:=hl x (List.mem_of_getElem? hx)
    have hA:=c_SAdd p q g h x x hxb hxb hq
    cases hm:mayN x x q with
    | true =>
      rw[hm] at hA
      repeat (first|refine Ta ?_|(refine Tm ?_;intro _)|refine Tc ?_|exact Tz)
      refine WC.dT rfl (by omega) ?_
      repeat (first|refine Ta ?_|(refine Tm ?_;intro _)|refine WO.does (does_indexSlice (o':=o+i*4) rfl rfl hlt rfl) ?_|refine WO.does (a_loadF (vs:=numC x) (hs:=hs) (hle:=Nat.le_add_right _ _) (hc:=hcx)) ?_|refine WO.acall (hc:=hA) (k:=?_)|refine WO.does (does_neqN rfl rfl rfl) ?_|refine WO.does (does_add rfl rfl hadd2) ?_|refine Tc ?_|exact Tz)
      refine WX.metI (i+1) (hs:=⟨⟨by show i+1≤l.length;omega,fun j hj y hy=>by
        rcases Nat.lt_or_ge j i with h|h
        · exact h0 j h y hy
        · have:j=i:=by omega
          subst this
          rw[hx] at hy;cases hy;exact hm⟩,by show l.length - (i+1)<l.length - i;omega⟩)
    | false =>
      rw[hm] at hA
      rw[all_false hx hm]
      repeat (first|refine Ta ?_|(refine Tm ?_;intro _)|refine Tc ?_|exact Tz)
      refine WC.dT rfl (by omega) ?_
      repeat (first|refine Ta ?_|(refine Tm ?_;intro _)|refine WO.does (does_indexSlice (o':=o+i*4) rfl rfl hlt rfl) ?_|refine WO.does (a_loadF (vs:=numC x) (hs:=hs) (hle:=Nat.le_add_right _ _) (hc:=hcx)) ?_|refine WO.acall (hc:=hA) (k:=?_)|refine WO.does (does_neqY rfl rfl (by decide)) ?_|refine Tc ?_|exact Tz)
      done
  · have hi2:i=l.length:=by omega
    rw[all_true (P:=fun x=>mayN x x q) (by rw[← hi2];exact h0)]
    repeat (first|refine Ta ?_|(refine Tm ?_;intro _)|refine Tc ?_|exact Tz)
    refine WC.dF rfl (by omega) ?_
    repeat (first|refine Ta ?_|(refine Tm ?_;intro _)|refine Tc ?_|exact Tz)
    done
def sgCh (q key r:Nat) (H:List Nat):Nat:=hNum q (strB sSign) [be 32 key,be 32 r,H]
set_option maxHeartbeats 2000000 in
theorem c_signs1 (key r gG gK gH:Nat) (H:List Nat) (hq:q<B256) (h0:0<q) (hH:∀ b∈H,b<256) (hl:H.length=32) :
    Fn Tryz.prog 208 ([numV r]++[pt gG,pt gK,pt gH]) (fun w=>Seg w gG 0 (grpC p q g h)∧Seg w gK 0 (numC key)∧Seg w gH 0 (byC H)) (Is (numV (sgCh q key r H))):=by
  have hP:=fun x=>c_PutLong [] x 0 none (by decide)
  have hbl:∀ x,(be 32 x).length=32:=fun x=>be_length _ _
  simp only[List.nil_append,hbl] at hP
  have hP1:=hP key
  have hP2:=hP r
  clear hP
  have hN:=fun g3 g5 gR=>c_Number q sSign [.slice (some ⟨g3,0,none⟩) 32 32,.slice (some ⟨g5,0,none⟩) 32 32,.slice (some ⟨gH,0,none⟩) 32 32] [be 32 key,be 32 r,H] gR 0 3 hq h0 (by
    intro X hX
    simp only[List.mem_cons,List.not_mem_nil,or_false] at hX
    rcases hX with rfl|rfl|rfl
    · exact be_lt
    · exact be_lt
    · exact hH) (by
    simp only[hBytes,hHead,hBody,List.flatMap_cons,List.flatMap_nil,List.length_append,be_length,strB_length,List.length_nil,hl]
    decide) (by decide)
  rw[show hNum q (strB sSign) [be 32 key,be 32 r,H]=sgCh q key r H from rfl] at hN
  generalize sgCh q key r H=R at *
  have hbH:(byC H).length=32:=by rw[byC_length,hl]
  have hrk:=hbl key
  have hrr:=hbl r
  clear hbl
  refine Fn.enter Tryz.func208 rfl rfl rfl ?_
  intro w hw
  obtain⟨wG,wK,wH⟩:=hw
  repeat (first|refine Ta ?_|(refine Tm ?_;intro _)|refine Tc ?_|exact Tz)
  refine WC.adrawF [11] 13 (k:=?_)
  refine DQ.auto (k:=?_)
  refine DQ.does (fun s _=>a_loadF (hs:=wG) (hle:=Nat.zero_le _) (vs:=numC q)) Dp.const ?_
  refine DQ.does (fun s _=>a_loadF (hs:=wK) (hle:=Nat.le_refl _) (vs:=numC key)) Dp.const ?_
  refine DQ.acallS (hc:=hP1) (hR:=fun _=>Rd.nil) (k:=?_)
  refine DQ.auto (k:=?_)
  refine DQ.acallS (hc:=hP2) (hR:=fun _=>Rd.nil) (k:=?_)
  refine DQ.does (v:=fun _=>.slice (some ⟨gH,0,none⟩) 32 32) (fun s _=>does_sliceA rfl) Dp.const ?_
  refine DQ.makes (vf:=fun _ g=>.slice (some ⟨g,0,none⟩) 3 3) (t:=84) (cs:=fun s=>[.slice (some ⟨s 3 0,0,none⟩) 32 32,.slice (some ⟨s 5 0,0,none⟩) 32 32,.slice (some ⟨gH,0,none⟩) 32 32]) (fun s _=>makes_build rfl (by decide) rfl) Dp.const (by intro s s' h;dsimp only;rw[h,h]<;>decide +kernel) ?_
  refine DQ.callE (v:=fun _=>.tuple #[numV R,.int .i64 0]) (fun s=>[⟨s 7 0,84,[.slice (some ⟨s 3 0,0,none⟩) 32 32,.slice (some ⟨s 5 0,0,none⟩) 32 32,.slice (some ⟨gH,0,none⟩) 32 32]⟩,⟨s 5 0,5,byC (be 32 r)⟩,⟨s 3 0,5,byC (be 32 key)⟩])
    (fun s=>.cons 7 (.head _) (by decide +kernel) (.cons 5 (by repeat (first|exact .head _|apply List.Mem.tail)) (by decide +kernel) (.cons 3 (by repeat (first|exact .head _|apply List.Mem.tail)) (by decide +kernel) .nil))) (fun s _=>hN (s 3 0) (s 5 0) (s 7 0)) (fun s=>rfl)
    (fun s hC w hm=>⟨Hs.seg Hs.here hm,Parts.cons (by have:=RdP.own0 (g:=s 3 0) (c:=32) (X:=be 32 key) (t:=5) hm (Hs.there (Hs.there Hs.here)) (by omega) (by decide);rw[hrk] at this;exact this) (Parts.cons (by have:=RdP.own0 (g:=s 5 0) (c:=32) (X:=be 32 r) (t:=5) hm (Hs.there Hs.here) (by omega) (by decide);rw[hrr] at this;exact this)
      (Parts.cons ⟨some ⟨gH,0,none⟩,32,by rw[hl],by omega,by decide,.inr ⟨gH,0,rfl,by
        have h1:(byC H)[0]?=some (.int .u8 ((H[0]'(by omega):Nat):Int)):=byC_get (by omega)
        exact cell_lt ((wH.mod hm.mod (by simp)) 0 _ h1),wH.mod hm.mod (by simp)⟩⟩ Parts.nil))⟩) Dp.const ?_
  repeat (first|refine Da ?_|refine Df ?_)
  refine DQ.anil (k:=?_)
  intro sx _
  repeat (first|refine Ta ?_|(refine Tm ?_;intro _)|refine Tc ?_|exact Tz)
  done
end
end Sx
end Go.Proofs.YtmhligfnchegdaaGreatDoor
