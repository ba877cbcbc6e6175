/- Part 37 of the proof. -/
import Derived.Test.YtbhblpnjhkddbaaGreatE36
set_option linter.unusedSimpArgs false
set_option linter.unusedVariables false
set_option maxHeartbeats 8000000
namespace Go.Proofs.YtbhblpnjhkddbaaGreat
section
open Go Go.RowKit Go.BigFrame
namespace Sx
attribute [local irreducible] DQ DQS WC WO WX wd
section
open Kp
variable {P:Program} {w0:World} {gs:List Nat} {n:Nat} {fl:List Nat} {Q:Exit→Act→World→Prop} {ops:List Oper} {L0:List Ent}
variable {tail rest:List Oper} {i:Nat} {C:zC→Prop} {K:zC→List (Nat × Value)} {N:zC→List (Nat × Ent)}
variable {d:Nat} {op:Op} {ty:TypeId} {pos:String} {after:Array Edge} {gd:Option (Nat × Bool)}
theorem DQ.acallSR {f:FuncId} [Cal P f] {xs:Array Operand} {ats:Array TypeId} {vs:List Value} {Rq:World→Prop} {t m:Nat} {cs:List Value} (hc:Fn P f vs Rq (eo t m cs)) (hR:∀ w,Mr w0 gs L0 w→Rq w) (ha:∀ s,evs (K s) xs.toList=some vs:=by (intro s;rfl))
  (k:DQ P w0 gs n fl Q ops L0 tail (i+1) rest (fun s=>C s∧True) (fun s=>(d,.slice (some ⟨s i 0,0,none⟩) m m)::K s) (fun s=>(i,⟨s i 0,t,cs⟩)::N s))
  (hfl:fl.contains i=false:=by rfl) (hw:∀ s,wk ops (K s) gd=some true:=by intro _;rfl) (hd:Nat.blt d n=true:=by rfl) :
  DQ P w0 gs n fl Q ops L0 tail i (⟨some d,.call { callee:=.value (.func f),args:=xs,argTypes:=ats },ty,pos,after,gd⟩::rest) C K N :=
 DQ.callsE (fs:=fun _=>[]) (cs:=fun _=>[]) (R:=fun _=>Rq) (vf:=fun _ x=>.slice (some ⟨x 0,0,none⟩) m m) (Nf:=fun _ x=>[⟨x 0,t,cs⟩]) (S:=fun _ _=>True) (fun _=>[]) (fun _=>.nil)
  (fun _=>⟨fun _=>0,trivial⟩) (fun _ _=>Fn.weak hc (fun _ h=>h) (fun v N ⟨g,e1,e2⟩=>⟨fun _=>g,e1,e2,trivial⟩)) (fun _=>rfl) ha (fun _=>by simp) (fun _ _ w h=>hR w h) Dp.const Dp.const Dp.const k hfl hw hd
end
theorem cu {d:Nat} (hd:d<256):byC (be 1 d)=[.int .u8 (d:Int)]:=by rw[iD hd];simp[byC]
def agV (g c n:Nat):Nat→Value
 | 0=>.slice none 0 0
 | _+1=>.slice (some ⟨g,0,none⟩) n c
def agL (g:Nat) (B:List Nat) (r:List Value):Nat→List Ent
 | 0=>[]
 | _+1=>[⟨g,5,byC B++r⟩]
abbrev be2 (k:Nat × Nat):List Nat:=be 32 k.1++be 32 k.2
theorem aaa (ep d:Nat) (sC sS:Nat) (pV pY pP:Option Addr) (cV cY cP:Nat) (V Y:List Nat) (Pr:List (Nat × Nat)) (hd:d<256) (hV:V≠[]) (hY:Y≠[]) (hP:Pr≠[]) (hVl:V.length≤1000) (hYl:Y.length≤1000) (hPl:Pr.length≤1000) :
  Fn Tryz.prog 48 [dlV ep d (.slice pV V.length cV) (.slice pY Y.length cY) (.slice pP Pr.length cP) sC sS]
   (fun w=>RdF zb (.slice pV V.length cV) V w∧RdF zb (.slice pY Y.length cY) Y w∧RdF pfC (.slice pP Pr.length cP) Pr w) (Is (.agg (byC (kO ep d V Y Pr)).toArray)):=by
 have hLV:=lh V pV cV hV (by omega);have hLY:=lh Y pY cY hY (by omega);have hP0:=jB [] ep 8 0 none (by decide) (by decide);rw[List.nil_append,zh] at hP0;have hHl:(yM (zW tg) [be 8 ep++be 1 d,V.flatMap (be 32),Y.flatMap (be 32),Pr.flatMap be2]).length≤1152921504606840000:=by
  simp only[yM,uS,yT,List.flatMap_cons,List.flatMap_nil,List.length_append,zh,yv,List.length_nil,pW,oa];have:tg.size=7:=by decide
  omega
 have hO:=fun g1 c1 g2 g3 gA cA gR=>db tg [.slice (some ⟨g1,0,none⟩) 9 c1,.slice (some ⟨g2,0,none⟩) (V.flatMap (be 32)).length (V.flatMap (be 32)).length,.slice (some ⟨g3,0,none⟩) (Y.flatMap (be 32)).length (Y.flatMap (be 32)).length,.slice (some ⟨gA,0,none⟩) (Pr.flatMap be2).length cA]
  [be 8 ep++be 1 d,V.flatMap (be 32),Y.flatMap (be 32),Pr.flatMap be2] gR 0 4 nL hHl (by decide)
 rw[show hOf (zW tg) [be 8 ep++be 1 d,V.flatMap (be 32),Y.flatMap (be 32),Pr.flatMap be2]=kO ep d V Y Pr from rfl] at hO;have hHlen:(byC (kO ep d V Y Pr)).length=32:=by rw[zf];exact uf _ _
 have hVc:(V.flatMap (be 32)).length<9223372036854775808:=by rw[pW];omega
 have hYc:(Y.flatMap (be 32)).length<9223372036854775808:=by rw[pW];omega
 generalize kO ep d V Y Pr=H at *;generalize V.flatMap (be 32)=VB at *;generalize Y.flatMap (be 32)=YB at *;have h9:byC (be 8 ep)++[Value.int .u8 (d:Int)]=byC (be 8 ep++be 1 d):=by rw[yd,cu hd]
 refine Fn.enter Tryz.func48 rfl rfl rfl ?_;intro w hw;obtain⟨wV,wY,wP⟩:=hw
 repeat (first|refine Tw ?_|(refine Tm ?_;intro _)|exact Tz)
 rename_i gD gH
 refine WC.loopI (σ:=Nat × Nat × Nat × List Value) (fun s=>s.1≤Pr.length∧(0<s.1→(byC ((Pr.take s.1).flatMap be2)++s.2.2.2).length=s.2.2.1∧s.2.2.1<9223372036854775808)) (fun s=>[(1,pt gD),(2,pt gH),(3,agV s.2.1 s.2.2.1 (s.1*64) s.1),(7,.slice pP Pr.length cP),(8,.int .i64 (Pr.length:Int)),(9,.int .i64 (s.1:Int))])
  (fun s=>agL s.2.1 ((Pr.take s.1).flatMap be2) s.2.2.2 s.1++[⟨gH,86,byC (List.replicate 32 0)⟩,⟨gD,37,dlC ep d (.slice pV V.length cV) (.slice pY Y.length cY) (.slice pP Pr.length cP) sC sS⟩]) (fun s=>Pr.length - s.1) (0,0,0,[]) (fun s hi=>?_) ⟨Nat.zero_le _,fun h=>absurd h (by decide)⟩
 obtain⟨i,gA,cA,r⟩:=s
 try dsimp only at hi ⊢
 obtain⟨hi,hr⟩:=hi
 by_cases hlt:i<Pr.length
 ·obtain⟨x,hx⟩ : ∃ x,Pr[i]?=some x:=⟨_,List.getElem?_eq_getElem hlt⟩;obtain⟨b,o,rfl,_,hs⟩:=wP.get hx;have hadd2:IntKind.i64.wrap ((i:Int)+1)=((i+1:Nat):Int):=zn (by omega) (by omega) (by omega);have hcx:cut (Pr.flatMap pfC) (o+i*8 - o) 8=pfC x:=by rw[Nat.add_sub_cancel_left];exact zN mi hx
  have hst:(Pr.take i).flatMap be2++be2 x=(Pr.take (i+1)).flatMap be2:=by rw[List.take_add_one,hx];simp
  have hB1:((Pr.take i).flatMap be2).length=i*64:=by rw[oa,List.length_take];omega
  have hL:=fun g=>lh [x.1,x.2] (some ⟨g,0,none⟩) 2 (by simp) (by show 2≤8589934592;omega);rw[show [x.1,x.2].flatMap (be 32)=be2 x by simp] at hL;have h64:(be2 x).length=64:=by rw[List.length_append,zh,zh]
  rw[h64] at hL;have hyl:(byC (be2 x)).length=64 * [Value.int .u8 0].length:=by rw[zf,h64];rfl
  generalize hB2:(Pr.take (i+1)).flatMap be2=B2 at *
  rcases i with _|i
  ·try dsimp only[agV,agL,List.nil_append]
   have hst' : be2 x=B2:=by rw[← hst];rfl
   repeat (first|refine Tw ?_|(refine Tm ?_;intro _)|exact Tz)
   refine WC.dT rfl (by omega) ?_
   repeat (first|refine Ta ?_|(refine Tm ?_;intro _)|refine WO.does (za (o':=o+0*8) rfl rfl hlt rfl) ?_|refine WO.does (zk (vs:=pfC x) (hs:=hs) (hle:=Nat.le_add_right _ _) (hc:=hcx)) ?_|(refine WO.makes (zd (cs:=zb x.1++zb x.2) rfl (by decide) rfl) ?_;intro _)|refine WO.acallN (hc:=hL _) (hR:=fun w1 hm=>RdF.seg (f:=zb) (xs:=[x.1,x.2]) (r:=[]) (Hs.sg hm)) (k:=fun g'=>?_)|refine Tc ?_|exact Tz)
   refine WO.appN (z:=[Value.int .u8 0]) (m:=64) rfl rfl rfl (Rds.own (m:=64) Hs.here (yw (by rw[zf,h64]))) hyl (by decide) (by decide) (by decide) (by decide) (fun g1 c1 r1 a1 a2 a3=>?_);rw[hst']
   repeat (first|refine Ta ?_|(refine Tm ?_;intro _)|refine WO.does (zg rfl rfl hadd2) ?_|refine Tc ?_|exact Tz)
   subst hB2;exact WX.metI (1,g1,c1,r1) (hs:=⟨⟨by show 0+1≤Pr.length;omega,fun _=>⟨by rw[← hst',a1];exact Nat.mul_one _,a2⟩⟩,by show Pr.length - (0+1)<Pr.length - 0;omega⟩)
  ·obtain⟨r1,r2⟩:=hr (by omega);generalize (Pr.take (i+1)).flatMap be2=B1 at *
   try dsimp only[agV,agL,List.cons_append,List.nil_append]
   repeat (first|refine Tw ?_|(refine Tm ?_;intro _)|exact Tz)
   refine WC.dT rfl (by omega) ?_
   repeat (first|refine Ta ?_|(refine Tm ?_;intro _)|refine WO.does (za (o':=o+(i+1)*8) rfl rfl hlt rfl) ?_|refine WO.does (zk (vs:=pfC x) (hs:=hs) (hle:=Nat.le_add_right _ _) (hc:=hcx)) ?_|(refine WO.makes (zd (cs:=zb x.1++zb x.2) rfl (by decide) rfl) ?_;intro _)|refine WO.acallN (hc:=hL _) (hR:=fun w1 hm=>RdF.seg (f:=zb) (xs:=[x.1,x.2]) (r:=[]) (Hs.sg hm)) (k:=fun g'=>?_)|refine Tc ?_|exact Tz)
   refine WO.appK (z:=[Value.int .u8 0]) (m:=64) (l:=(i+1+1)*64) rfl rfl rfl (xs:=byC B1) (r:=r) (by rw[zf,hB1];exact (Nat.mul_one _).symm) (by rw[r1];exact (Nat.mul_one _).symm) Pk.a (Rds.own (m:=64) Hs.here (yw (by rw[zf,h64]))) hyl (vm _) (by omega) (by omega) r2 (by omega) (by decide) (by decide) (fun g1 c1 r1 a1 a2 a3=>?_);rw[← yd,hst] at a1 ⊢
   repeat (first|refine Ta ?_|(refine Tm ?_;intro _)|refine WO.does (zg rfl rfl hadd2) ?_|refine Tc ?_|exact Tz)
   subst hB2;exact WX.metI (i+1+1,g1,c1,r1) (hs:=⟨⟨by show i+1+1≤Pr.length;omega,fun _=>⟨by rw[a1];exact Nat.mul_one _,a2⟩⟩,by show Pr.length - (i+1+1)<Pr.length - (i+1);omega⟩)
 ·have hi2:i=Pr.length:=by omega
  subst hi2;have hPn:0<Pr.length:=List.length_pos_iff.2 hP;obtain⟨r1,r2⟩:=hr hPn;rw[List.take_length] at *;have hBl:(Pr.flatMap be2).length=Pr.length*64:=oa _;rw[← hBl];have hAV:agV gA cA (Pr.flatMap be2).length Pr.length=.slice (some ⟨gA,0,none⟩) (Pr.flatMap be2).length cA:=by
   obtain⟨k,hk⟩ : ∃ k,Pr.length=k+1:=⟨Pr.length - 1,by omega⟩;rw[hk];rfl
  have hAL:agL gA (Pr.flatMap be2) r Pr.length=[⟨gA,5,byC (Pr.flatMap be2)++r⟩]:=by
   obtain⟨k,hk⟩ : ∃ k,Pr.length=k+1:=⟨Pr.length - 1,by omega⟩;rw[hk];rfl
  have hcA:(Pr.flatMap be2).length≤cA:=by rw[← r1,List.length_append,zf];omega
  rw[hAV,hAL];generalize Pr.flatMap be2=PB at *
  try dsimp only[List.cons_append,List.nil_append]
  repeat (first|refine Tw ?_|(refine Tm ?_;intro _)|exact Tz)
  refine WC.dF rfl (by omega) ?_
  repeat (first|refine Tw ?_|(refine Tm ?_;intro _)|exact Tz)
  refine WC.adraw 16 (k:=?_)
  iterate 2 (refine DQ.auto (k:=?_))
  refine DQ.acallS (hc:=hP0) (hR:=fun _=>Rd.nil) (k:=?_)
  iterate 2 (refine DQ.auto (k:=?_))
  refine DQ.makes (vf:=fun _ g=>.slice (some ⟨g,0,none⟩) 1 1) (t:=5) (cs:=fun _=>[.int .u8 (d:Int)]) (fun s _=>zd rfl (by decide) rfl) Dp.const Dp.const ?_
  refine DQ.newsE (vf:=fun _ x=>.slice (some ⟨x 0,0,none⟩) 9 (x 1)) (Nf:=fun _ x=>[⟨x 0,5,byC (be 8 ep)++[.int .u8 (d:Int)]++mkz (x 1 - 9) [.int .u8 0]⟩]) (S:=fun _ x=>9≤x 1∧x 1<9223372036854775808)
   (fun s=>[⟨s 5 0,5,[.int .u8 (d:Int)]⟩,⟨s 2 0,5,byC (be 8 ep)⟩]) (fun s=>.cons 5 (.head _) (by decide +kernel) (.cons 2 (by repeat (first|exact .head _|apply List.Mem.tail)) (by decide +kernel) .nil)) (fun _=>⟨fun _=>9,by decide,by decide⟩)
   (fun s _=>ux (z:=[Value.int .u8 0]) (len:=8) (n:=1) rfl rfl (ys:=byC (be 8 ep)) (Rds.own (m:=8) (Hs.there Hs.here) (yw (by rw[zf,zh]))) (by rw[zf,zh];rfl) (xs:=[.int .u8 (d:Int)]) (Rds.own (m:=1) Hs.here rfl) rfl (by decide) (by decide) (by decide) (by decide) rfl) Dp.const Dp.const Dp.const ?_
  try dsimp only[List.map_cons,List.map_nil,List.cons_append,List.nil_append]
  iterate 2 (refine DQ.auto (k:=?_))
  refine DQ.acallSR (hc:=hLV) (hR:=fun w hm=>wV.mod hm.mod) (k:=?_)
  iterate 2 (refine DQ.auto (k:=?_))
  refine DQ.acallSR (hc:=hLY) (hR:=fun w hm=>wY.mod hm.mod) (k:=?_);refine DQ.auto (k:=?_);refine DQ.makes (vf:=fun _ g=>.slice (some ⟨g,0,none⟩) 4 4) (t:=52) (cs:=fun s=>[.slice (some ⟨s 6 0,0,none⟩) 9 (s 6 1),.slice (some ⟨s 9 0,0,none⟩) VB.length VB.length,.slice (some ⟨s 12 0,0,none⟩) YB.length YB.length,.slice (some ⟨gA,0,none⟩) PB.length cA]) (fun s _=>zd rfl (by decide) rfl) Dp.const (by intro s s' h;dsimp only;rw[h,h,h]<;>decide +kernel) ?_
  refine DQ.callE (v:=fun _=>.agg (byC H).toArray) (fun s=>[⟨s 14 0,52,[.slice (some ⟨s 6 0,0,none⟩) 9 (s 6 1),.slice (some ⟨s 9 0,0,none⟩) VB.length VB.length,.slice (some ⟨s 12 0,0,none⟩) YB.length YB.length,.slice (some ⟨gA,0,none⟩) PB.length cA]⟩,⟨s 12 0,5,byC YB⟩,⟨s 9 0,5,byC VB⟩,⟨s 6 0,5,byC (be 8 ep)++[.int .u8 (d:Int)]++mkz (s 6 1 - 9) [.int .u8 0]⟩])
   (fun s=>.cons 14 (.head _) (by decide +kernel) (.cons 12 (by repeat (first|exact .head _|apply List.Mem.tail)) (by decide +kernel) (.cons 9 (by repeat (first|exact .head _|apply List.Mem.tail)) (by decide +kernel) (.cons 6 (by repeat (first|exact .head _|apply List.Mem.tail)) (by decide +kernel) .nil)))) (fun s _=>hO (s 6 0) (s 6 1) (s 9 0) (s 12 0) gA cA (s 14 0)) (fun s=>rfl)
   (fun s hC w hm=>⟨Hs.seg Hs.here hm,zS.cons (by
     have hab:=RdP.own (g:=s 6 0) (c:=s 6 1) (X:=be 8 ep++be 1 d) (r:=mkz (s 6 1 - 9) [Value.int .u8 0]) (t:=5) hm (by rw[← h9];exact Hs.there (Hs.there (Hs.there Hs.here))) (by rw[List.length_append,zh,zh];exact hC.1.1.2.1) hC.1.1.2.2;rw[List.length_append,zh,zh] at hab;exact hab) (zS.cons (RdP.own0 (g:=s 9 0) (X:=VB) (t:=5) hm (Hs.there (Hs.there Hs.here)) (Nat.le_refl _) hVc) (zS.cons (RdP.own0 (g:=s 12 0) (X:=YB) (t:=5) hm (Hs.there Hs.here) (Nat.le_refl _) hYc) (zS.cons (RdP.own (g:=gA) (X:=PB) (r:=r) (t:=5) hm Hs.a hcA r2) zS.nil)))⟩) Dp.const ?_
  refine DQ.anil (k:=?_);intro sx _;refine WO.stores (zw (vs:=byC H) (cs':=byC H) (hl:=hHlen) (h1:=vm _) (hc:=vN (by rw[hHlen];rfl)) (hle:=by rw[hHlen];rfl)) ?_
  repeat (first|refine Tw ?_|(refine Tm ?_;intro _)|exact Tz)
  exact WX.aret1 (hr:=yU (vs:=byC H) (hc:=yw hHlen) (hl:=hHlen)) (hp:=rfl)
def pwL {p:Nat}:(l:List (Nat × Nat))→(∀ x∈l,x.1<zc∧x.2<zc∧yD p x.1=true)→List (PwT p)
 | [],_=>[]
 | x::r,h=>⟨x,h x (List.mem_cons_self ..)⟩::pwL r (fun y hy=>h y (List.mem_cons_of_mem _ hy))
theorem pQ {p:Nat}:∀ (l:List (Nat × Nat)) (h:∀ x∈l,x.1<zc∧x.2<zc∧yD p x.1=true),(pwL l h).map (fun x=>x.1)=l
 | [],_=>rfl
 | x::r,h=>by rw[pwL,List.map_cons,pQ r]
def prD (p:Nat) (zs ws:List Nat):Nat:=(zs.zip ws).foldl (fun r x=>r*(x.1 ^ x.2%p)%p) 1
theorem fU {p:Nat} (zs ws:List Nat) (h):vW p (pwL (zs.zip ws) h)=prD p zs ws:=by
 unfold vW prD;rw[← List.foldl_map (f:=fun x:PwT p=>x.1) (g:=fun r x=>r*(x.1 ^ x.2%p)%p),pQ]
theorem aa8 {p:Nat} (l:List (Nat × Nat)) (h):(pwL (p:=p) l h).length=l.length:=by
 have:=congrArg List.length (pQ (p:=p) l h);rwa [List.length_map] at this
structure aaY (p:Nat) (zs:List Nat):Prop where
 lt:∀ z∈zs,z<zc
 may:∀ z∈zs,yD p z=true
theorem aaY.zip {p:Nat} {zs ws:List Nat} (h:aaY p zs) (hw:∀ v∈ws,v<zc):∀ x∈zs.zip ws,x.1<zc∧x.2<zc∧yD p x.1=true:=fun x hx=>by
 obtain⟨a,b⟩:=x;have:=List.of_mem_zip hx;exact⟨h.lt _ this.1,hw _ this.2,h.may _ this.1⟩
section
variable (p q g h:Nat)
theorem jz (hp:p<zc) (h1:1<p) (zs ws:List Nat) (hz:aaY p zs) (hw:∀ v∈ws,v<zc) (hl:ws.length=zs.length) (hne:zs≠[]) (pa pn:Option Addr) (cA cN:Nat) (hn:zs.length≤100) :
  Fn Tryz.prog 89 [yR p q g h,.slice pa zs.length cA,.slice pn zs.length cN]
   (fun w=>RdF zb (.slice pa zs.length cA) zs w∧RdF zb (.slice pn zs.length cN) ws w) (Is (.tuple #[ze (prD p zs ws),.int .i64 0])):=by
 intro w ⟨hA,hN⟩;have hwne:ws≠[]:=fun e=>hne (List.length_eq_zero_iff.1 (by rw[← hl,e];rfl));obtain⟨a0,ha0⟩ : ∃ y,zs[0]?=some y:=⟨_,List.getElem?_eq_getElem (List.length_pos_iff.2 hne)⟩;obtain⟨b0,hb0⟩ : ∃ y,ws[0]?=some y:=⟨_,List.getElem?_eq_getElem (List.length_pos_iff.2 hwne)⟩;obtain⟨bA,oA,e1,_,hsA⟩:=hA.get ha0;obtain⟨bN,oN,e2,_,hsN⟩:=hN.get hb0;subst e1 e2;have hxl:(pwL (p:=p) (zs.zip ws) (hz.zip hw)).length=zs.length:=by rw[aa8,List.length_zip];omega
 have hP:=np p q g h hp h1 (pwL (zs.zip ws) (hz.zip hw)) bA oA bN oN cA cN (by omega);rw[fU,hxl] at hP;have hm:=pQ (p:=p) (zs.zip ws) (hz.zip hw);have f1:(pwL (p:=p) (zs.zip ws) (hz.zip hw)).map (fun x=>x.1.1)=zs:=by
  have:=congrArg (List.map Prod.fst) hm;rw[List.map_map,List.map_fst_zip (by omega)] at this;exact this
 have f2:(pwL (p:=p) (zs.zip ws) (hz.zip hw)).map (fun x=>x.1.2)=ws:=by
  have:=congrArg (List.map Prod.snd) hm;rw[List.map_map,List.map_snd_zip (by omega)] at this;exact this
 refine hP w ⟨RdF.lt (k:=3) (fun _=>rfl) hA hne,RdF.lt (k:=3) (fun _=>rfl) hN hwne,fun k x hx=>?_,fun k x hx=>?_⟩
 ·have:zs[k]?=some x.1.1:=by
   have e:=congrArg (fun l=>l[k]?) f1;simp only[List.getElem?_map,hx] at e;exact e.symm
  have hc:=yb (f:=zb) (k:=4) (fun _=>rfl) this;exact hsA.sub hc
 ·have:ws[k]?=some x.1.2:=by
   have e:=congrArg (fun l=>l[k]?) f2;simp only[List.getElem?_map,hx] at e;exact e.symm
  have hc:=yb (f:=zb) (k:=4) (fun _=>rfl) this;exact hsN.sub hc
end
end Sx
end
section
open Go Go.RowKit Go.BigFrame
namespace Sx
def Pri (q:Nat):Prop:=1<q∧∀ m,0<m→m<q→Nat.gcd m q=1
theorem bi (a m p:Nat):(a%p) ^ m%p=a ^ m%p:=(Nat.pow_mod a m p).symm
theorem yJ (a m k p:Nat):(a ^ m%p) ^ k%p=a ^ (m*k)%p:=by rw[bi,← Nat.pow_mul]
theorem rF (a m k p:Nat):a ^ m%p*(a ^ k%p)%p=a ^ (m+k)%p:=by rw[← Nat.mul_mod,← Nat.pow_add]
theorem vK {p q a:Nat} (h:gIn p q a=true):(1<p∧a≠0∧a<p)∧a ^ q%p=1:=by
 unfold gIn at h;simp only[Bool.and_eq_true,decide_eq_true_eq] at h;exact⟨yF h.1,h.2⟩
theorem j6 {p q a:Nat} (h:gIn p q a=true) (m:Nat):a ^ m%p=a ^ (m%q)%p:=by
 obtain⟨⟨h1,_,_⟩,h2⟩:=vK h;have e:a ^ m=(a ^ q) ^ (m / q)*a ^ (m%q):=by rw[← Nat.pow_mul,← Nat.pow_add,Nat.div_add_mod]
 rw[e,Nat.mul_mod,Nat.pow_mod,h2,Nat.one_pow,Nat.mod_eq_of_lt h1,Nat.one_mul,Nat.mod_mod]
theorem iw {p q a m k:Nat} (h:gIn p q a=true) (e:m%q=k%q):a ^ m%p=a ^ k%p:=by rw[j6 h m,j6 h k,e]
theorem eg {p a:Nat} (h1:1<p) (h2:a≠0) (h3:a<p):yD p a=true:=by
 unfold yD;simp[h1,h2,h3]
theorem tU {p q a:Nat} (h:gIn p q a=true) (hq:0<q) (m:Nat):gIn p q (a ^ m%p)=true:=by
 obtain⟨⟨h1,_,_⟩,h2⟩:=vK h;have e:(a ^ m%p) ^ q%p=1:=by
  rw[yJ,Nat.mul_comm,Nat.pow_mul,Nat.pow_mod,h2,Nat.one_pow,Nat.mod_eq_of_lt h1]
 have h0:a ^ m%p≠0:=by
  intro h0;rw[h0,Nat.zero_pow hq] at e;simp at e
 unfold gIn;rw[eg h1 h0 (Nat.mod_lt _ (by omega)),e];rfl
theorem gr {p q a:Nat} (h:gIn p q a=true) (n:Nat):exN p a n=a ^ n%p:=by
 obtain⟨⟨h1,h2,h3⟩,_⟩:=vK h;unfold exN;rw[eg h1 h2 h3];rfl
def bL:List Nat→List Nat→Nat
 | a::r,b::s=>a*b+bL r s
 | _,_=>0
theorem mY {p g:Nat} (h1:1<p):∀ (es ws:List Nat) (m:Nat),(es.length=ws.length) →
  ((es.map fun e=>g ^ e%p).zip ws).foldl (fun r x=>r*(x.1 ^ x.2%p)%p) (g ^ m%p)=g ^ (m+bL es ws)%p
 | [],_,m,_=>by simp[bL]
 | e::es,[],m,h=>by simp at h
 | e::es,w::ws,m,h=>by
  simp only[List.map_cons,List.zip_cons_cons,List.foldl_cons,bL];rw[yJ,rF,mY h1 es ws (m+e*w) (by simpa using h),Nat.add_assoc]
theorem aaI {p g:Nat} (h1:1<p) {es ws:List Nat} (h:es.length=ws.length):prD p (es.map fun e=>g ^ e%p) ws=g ^ bL es ws%p:=by
 have:=mY (g:=g) h1 es ws 0 h;rw[Nat.pow_zero,Nat.mod_eq_of_lt h1,Nat.zero_add] at this;exact this
theorem kD (f g:Nat→Nat):∀ l:List Nat,((bL (l.map f) (l.map g):Nat):Int)=(l.map fun i=>(f i:Int)*(g i:Int)).sum
 | []=>rfl
 | a::r=>by
  simp only[List.map_cons,bL,List.sum_cons];have:=kD f g r;push_cast;omega
theorem bo {q r x c:Nat} (hc:c<q) (hr:r<q):((r+x*c%q)%q+x*((0+q - c)%q))%q=r%q:=by
 have h0:(0+q - c)=q - c:=by omega
 rw[h0,Nat.add_mod_mod,Nat.mod_add_mod,← Nat.add_mod_mod,Nat.mul_mod_mod,Nat.add_mod_mod];have:r+x*c+x*(q - c)=r+x*q:=by rw[Nat.add_assoc,← Nat.mul_add];congr 2;omega
 rw[this,Nat.add_mul_mod_self_right]
theorem lj {p q a r x c:Nat} (h:gIn p q a=true) (hc:c<q) (hr:r<q) :
  a ^ ((r+x*c%q)%q)%p*((a ^ x%p) ^ ((0+q - c)%q)%p)%p=a ^ r%p:=by
 rw[yJ,rF];exact iw h (bo hc hr)
theorem sI {q:Nat} (a:Nat):(q:Int) ∣ (a:Int) - ((a%q:Nat):Int):=by
 rw[Int.natCast_emod];exact Int.dvd_self_sub_emod
end Sx
end
section
open Go Go.RowKit Go.BigFrame
namespace Sx
attribute [local irreducible] DQ DQS WC WO WX wd
end Sx
end
section
open Go Go.RowKit Go.BigFrame
namespace Sx
theorem hZ {n d:Nat} (h2:2≤n) (hd:n<d*d) (h:∀ e,2≤e→e<d→n%e≠0):Pri n:=by
 refine⟨by omega,fun m h0 hm=>?_⟩;have hgn:Nat.gcd m n ∣ n:=Nat.gcd_dvd_right m n;have hgm:Nat.gcd m n≤m:=Nat.le_of_dvd h0 (Nat.gcd_dvd_left m n);have hg0:0<Nat.gcd m n:=Nat.gcd_pos_of_pos_left n h0;generalize Nat.gcd m n=g at *
 rcases Nat.lt_or_ge 1 g with hg|hg
 ·exfalso;obtain⟨k,rfl⟩:=hgn;have hk:1<k:=by
   rcases Nat.lt_or_ge 1 k with h1|h1
   ·exact h1
   ·have:g*k≤g*1:=Nat.mul_le_mul_left g h1;omega
  rcases Nat.lt_or_ge g d with h1|h1
  ·exact h g (by omega) h1 (Nat.mul_mod_right g k)
  ·rcases Nat.lt_or_ge k d with h3|h3
   ·exact h k (by omega) h3 (Nat.mul_mod_left g k)
   ·have:=Nat.mul_le_mul h1 h3;omega
 ·omega
end Sx
end
section
open Go Go.RowKit Go.BigFrame
namespace Sx
attribute [local irreducible] DQ DQS WC WO WX wd
end Sx
end
end Go.Proofs.YtbhblpnjhkddbaaGreat
