/- Part 14 of the proof. -/
import Derived.Test.YteibfbjpkjkejaaGreatDoorS09
import Derived.Test.YteibfbjpkjkejaaGreatDoorS13
set_option linter.unusedSimpArgs false
set_option linter.unusedVariables false
set_option maxHeartbeats 8000000
namespace Go.Proofs.YteibfbjpkjkejaaGreatDoor
section
open Go Go.RowKit
namespace Sx
attribute [local irreducible] DQ DQS WC WO WX wd
theorem aeF (x n:Nat) (hx:x<4294967296) (h0:0<n) (hn:n<32):Fn Tryz.prog 174 [.int .u32 (x:Int),.int .i64 (-((n:Nat):Int))] Tr (Is (.int .u32 ((Sha.rotr n x:Nat):Int))):=by
 have h1:=ab2 h0 hn;have h2:=aeD h0 hn;have h3:IntKind.u64.wrap (32 - ((32 - n:Nat):Int))=((n:Nat):Int):=v7 (by omega) (by omega) (by omega);have h4:IntKind.u32.wrap (((BitVec.ofInt IntKind.u32.bits ((x*2 ^ (32 - n)%4294967296:Nat):Int) ||| BitVec.ofInt IntKind.u32.bits ((x / 2 ^ n:Nat):Int)).toNat:Nat):Int)=((Sha.rotr n x:Nat):Int):=by
  rw[aaF (Nat.mod_lt _ (by omega)) (Nat.lt_of_le_of_lt (Nat.div_le_self _ _) hx),Sha.rotr,Nat.or_comm]
 refine Fn.enter Tryz.func174 rfl rfl rfl ?_;intro w hw
 repeat (first|refine Ta ?_|(refine Tm ?_;intro _)|refine WO.does (zN rfl h1) ?_|refine WO.does (rl rfl rfl h2) ?_|refine WO.does (zH rfl rfl h3) ?_|refine WO.does (oT rfl rfl (by omega) (e9 x (32 - n) (by omega))) ?_|refine WO.does (vB rfl rfl (by omega) (tu (by show n≤32;omega))) ?_|refine WO.does (tp rfl rfl h4) ?_|refine Tc ?_|exact Tz)
theorem bX (x b c:Nat) (ns:List Nat) (hx:x<4294967296) (hns:∀ n∈ns,0<n∧n<32) (hl:ns.length≤100) :
  Fn Tryz.prog 166 [.int .u32 (x:Int),.slice (some ⟨b,0,none⟩) ns.length c] (fun w=>Seg w b 0 (inC ns)) (Is (.int .u32 ((qW x ns:Nat):Int))):=by
 refine Fn.enter Tryz.func166 rfl rfl rfl ?_;intro w hw
 repeat (first|refine Tw ?_|(refine Tm ?_;intro _)|exact Tz)
 refine WC.loopI (σ:=Nat) (fun i=>i≤ns.length) (fun i=>[(0,.int .u32 (x:Int)),(4,.int .u32 ((qW x (ns.take i):Nat):Int)),(7,.slice (some ⟨b,0,none⟩) ns.length c),(8,.int .i64 (ns.length:Int)),(9,.int .i64 (i:Int))]) (fun _=>[]) (fun i=>ns.length - i) 0 (fun i hi=>?_) (Nat.zero_le _)
 try dsimp only at hi ⊢
 by_cases hlt:i<ns.length
 ·have hget:(inC ns)[i - 0]?=some (.int .i64 ((ns[i]:Nat):Int)):=by rw[Nat.sub_zero];exact acz hlt
  have hn:=hns _ (List.getElem_mem hlt);have hR:=aeF x ns[i] hx hn.1 hn.2;have hnext:qW x (ns.take i) ^^^ Sha.rotr ns[i] x=qW x (ns.take (i+1)):=by rw[List.take_succ_eq_append_getElem hlt,fo]
  have hneg:IntKind.i64.wrap (0 - ((ns[i]:Nat):Int)) = -((ns[i]:Nat):Int):=zr (by omega) (by omega) (by omega);have hxor:=ez (mX hx (ns.take i)) (fx (n:=ns[i]) hx);rw[hnext] at hxor
  repeat (first|refine Tw ?_|(refine Tm ?_;intro _)|exact Tz)
  refine WC.dT rfl (by omega) ?_
  repeat (first|refine Ta ?_|(refine Tm ?_;intro _)|refine WO.acall (hc:=hR) (k:=?_)|(refine WO.does (jG rfl) ?_;rw[hneg])|refine WO.does (kF rfl rfl hxor) ?_|refine Tc ?_|exact Tz)
  refine WX.metI (i+1) (hs:=⟨by show i+1≤ns.length;omega,by show ns.length - (i+1)<ns.length - i;omega⟩)
 ·have hii:i=ns.length:=by omega
  have hv:qW x (ns.take i)=qW x ns:=by rw[hii,List.take_length]
  rw[hv]
  repeat (first|refine Tw ?_|(refine Tm ?_;intro _)|exact Tz)
  refine WC.dF rfl (by omega) ?_
  repeat (first|refine Tw ?_|(refine Tm ?_;intro _)|exact Tz)
end Sx
end
section
open Go Go.RowKit Go.BigFrame
namespace Sx
attribute [local irreducible] DQ DQS WC WO WX wd
section
open Kp
variable {P:Program} {w0:World} {gs:List Nat} {n:Nat} {fl:List Nat} {Q:Exit→Act→World→Prop} {ops:List Oper} {L0:List Ent}
variable {tail rest:List Oper} {i:Nat} {C:zE→Prop} {K:zE→List (Nat × Value)} {N:zE→List (Nat × Ent)}
variable {d:Nat} {op:Op} {ty:TypeId} {pos:String} {after:Array Edge} {gd:Option (Nat × Bool)}
theorem DQ.acallB {f:FuncId} [Cal P f] {xs:Array Operand} {ats:Array TypeId} {vs:zE→List Value} {R:zE→World→Prop} {v:Value} (j:Nat) (e:zE→Ent) (hc:∀ s,Fn P f (vs s) (R s) (Is v)) (hR:∀ s w,Mr w0 gs (e s::L0) w→R s w)
  (k:DQ P w0 gs n fl Q ops L0 tail (i+1) rest C (fun s=>(d,v)::K s) N) (ha:∀ s,evs (K s) xs.toList=some (vs s):=by (intro s;rfl)) (hm:∀ s,(j,e s)∈N s:=by (intro s;repeat (first|exact .head _|apply List.Mem.tail)))
  (hanc:anc ops i j=true:=by decide +kernel) (hfl:fl.contains i=false:=by rfl) (hw:∀ s,wk ops (K s) gd=some true:=by intro _;rfl) (hd:Nat.blt d n=true:=by rfl) :
  DQ P w0 gs n fl Q ops L0 tail i (⟨some d,.call { callee:=.value (.func f),args:=xs,argTypes:=ats },ty,pos,after,gd⟩::rest) C K N :=
 DQ.callE (v:=fun _=>v) (fun s=>[e s]) (fun s=>.cons j (hm s) hanc .nil) (fun s _=>hc s) ha (fun s _ w h=>hR s w h) Dp.const k hfl hw hd
end
theorem abC:Fn Tryz.prog 112 [] Tr (Is (.agg (w3C Sha.H0).toArray)):=by
 refine Fn.enter Tryz.func112 rfl rfl rfl ?_;intro w hw
 repeat (first|refine Tw ?_|(refine Tm ?_;intro _)|exact Tz)
set_option maxRecDepth 100000 in
theorem abx:Fn Tryz.prog 167 [] Tr (Is (.agg (w3C Sha.K).toArray)):=by
 refine Fn.enter Tryz.func167 rfl rfl rfl ?_;intro w hw
 repeat (first|refine Ta ?_|(refine Tm ?_;intro _)|refine WO.does (zB (cs:=w3C Sha.K) rfl rfl (by kernel_rfl)) ?_|refine Tc ?_|exact Tz)
theorem adp (s0 s1 s2 s3 s4 s5 s6 s7:Nat) (b:List Nat) (hb:∀ x∈b,x<256) (hbl:b.length=64) (hs:∀ x∈[s0,s1,s2,s3,s4,s5,s6,s7],x<4294967296) :
  Fn Tryz.prog 145 [.agg (w3C [s0,s1,s2,s3,s4,s5,s6,s7]).toArray,.agg (byC b).toArray] Tr (Is (.agg (w3C (Sha.take [s0,s1,s2,s3,s4,s5,s6,s7] b)).toArray)):=by
 generalize hS:[s0,s1,s2,s3,s4,s5,s6,s7]=S at *;have hS8:S.length=8:=by rw[← hS];rfl
 refine Fn.enter Tryz.func145 rfl rfl rfl ?_;intro w hw
 repeat (first|refine Tw ?_|(refine Tm ?_;intro _)|exact Tz)
 rename_i g2 g3 g4 g5
 refine WC.loopI (σ:=Nat) (fun i=>i≤64) (fun i=>[(2,pt g2),(3,pt g3),(4,pt g4),(5,pt g5),(22,.int .i64 (i:Int))])
  (fun i=>[⟨g2,187,w3C S⟩,⟨g3,189,byC b⟩,⟨g4,187,w3C [0,0,0,0,0,0,0,0]⟩,⟨g5,258,d7 (Sha.words b i) 64⟩]) (fun i=>64 - i) 0 (fun i hi=>?_) (Nat.zero_le _)
 try dsimp only at hi ⊢
 by_cases hlt:i<64
 ·have hwl:=uM b i;have hwords:Sha.words b (i+1)=Sha.words b i++[if i<16 then Sha.w16 b i else Sha.wnext (Sha.words b i) i]:=rfl
  repeat (first|refine Tw ?_|(refine Tm ?_;intro _)|exact Tz)
  refine WC.dT rfl (by omega) ?_
  repeat (first|refine Tw ?_|(refine Tm ?_;intro _)|exact Tz)
  by_cases h16:i<16
  ·rw[if_pos h16] at hwords;have hm4:IntKind.i64.wrap (4*(i:Int))=((4*i:Nat):Int):=zr (by omega) (by omega) (by omega);have ha1:IntKind.i64.wrap (((4*i:Nat):Int)+1)=((4*i+1:Nat):Int):=zr (by omega) (by omega) (by omega);have ha2:IntKind.i64.wrap (((4*i:Nat):Int)+2)=((4*i+2:Nat):Int):=zr (by omega) (by omega) (by omega);have ha3:IntKind.i64.wrap (((4*i:Nat):Int)+3)=((4*i+3:Nat):Int):=zr (by omega) (by omega) (by omega);have hb0:=rx (b:=b) (i:=4*i) (by omega);have hb1:=rx (b:=b) (i:=4*i+1) (by omega);have hb2:=rx (b:=b) (i:=4*i+2) (by omega);have hb3:=rx (b:=b) (i:=4*i+3) (by omega);have hl0:=getD_lt hb (by omega) (4*i);have hl1:=getD_lt hb (by omega) (4*i+1);have hl2:=getD_lt hb (by omega) (4*i+2);have hl3:=getD_lt hb (by omega) (4*i+3);have hw16:Sha.w16 b i=b.getD (4*i) 0*16777216+b.getD (4*i+1) 0*65536+b.getD (4*i+2) 0*256+b.getD (4*i+3) 0:=rfl;rw[hw16] at hwords;generalize b.getD (4*i) 0=b0 at *;generalize b.getD (4*i+1) 0=b1 at *;generalize b.getD (4*i+2) 0=b2 at *;generalize b.getD (4*i+3) 0=b3 at *;have hs0:=acw b0 24 24 rfl (by omega);have hs1:=acw b1 16 16 rfl (by omega);have hs2:=acw b2 8 8 rfl (by omega);rw[show b0*2 ^ 24%4294967296=b0*16777216 by omega] at hs0;rw[show b1*2 ^ 16%4294967296=b1*65536 by omega] at hs1;rw[show b2*2 ^ 8%4294967296=b2*256 by omega] at hs2;have ho1:=aeS (a:=b0*16777216) (b:=b1*65536) (by omega) (by omega);have ho1l:=bL (a:=b0*16777216) (b:=b1*65536) (by omega) (by omega);have ho2:=aeS (b:=b2*256) ho1l (by omega);have ho2l:=bL (b:=b2*256) ho1l (by omega);have ho3:=aeS (b:=b3) ho2l (by omega);rw[acP b0 b1 b2 b3 hl1 hl2 hl3] at ho3;have hov:=nH (l:=Sha.words b i) (n:=64) (x:=b0*16777216+b1*65536+b2*256+b3) (by omega);rw[hwl,← hwords] at hov;refine WC.dT rfl (by omega) ?_
   repeat (first|refine Tw ?_|(refine Tm ?_;intro _)|exact Tz)
   refine WC.adraw 31 (k:=?_)
   repeat (first|refine Da ?_|refine DQ.does (fun s _=>vg rfl rfl hm4) Dp.const ?_|refine DQ.does (fun s _=>zl rfl rfl ha1) Dp.const ?_|refine DQ.does (fun s _=>zl rfl rfl ha2) Dp.const ?_|refine DQ.does (fun s _=>zl rfl rfl ha3) Dp.const ?_|refine DQ.does (fun s _=>zR (hc:=hb0)) Dp.const ?_|refine DQ.does (fun s _=>zR (hc:=hb1)) Dp.const ?_|refine DQ.does (fun s _=>zR (hc:=hb2)) Dp.const ?_|refine DQ.does (fun s _=>zR (hc:=hb3)) Dp.const ?_|refine DQ.does (fun s _=>aa5 rfl rfl hs0 (by decide)) Dp.const ?_|refine DQ.does (fun s _=>aa5 rfl rfl hs1 (by decide)) Dp.const ?_|refine DQ.does (fun s _=>aa5 rfl rfl hs2 (by decide)) Dp.const ?_|refine DQ.does (fun s _=>aew rfl rfl ho1) Dp.const ?_|refine DQ.does (fun s _=>aew rfl rfl ho2) Dp.const ?_|refine DQ.does (fun s _=>aew rfl rfl ho3) Dp.const ?_|refine Dc ?_)
   refine DQ.anil (k:=?_);intro sx _
   repeat (first|refine Ta ?_|(refine Tm ?_;intro _)|refine WO.stores (zC (hc:=hov) (hle:=by rw[qp (by omega)];simp;omega)) ?_|refine Tc ?_|exact Tz)
   refine WX.metI (i+1) (hs:=⟨by show i+1≤64;omega,by show 64 - (i+1)<64 - i;omega⟩)
  ·rw[if_neg h16] at hwords;have hc15:IntKind.i64.wrap ((i:Int) - 15)=((i - 15:Nat):Int):=zr (by omega) (by omega) (by omega);have hc2:IntKind.i64.wrap ((i:Int) - 2)=((i - 2:Nat):Int):=zr (by omega) (by omega) (by omega);have hc16:IntKind.i64.wrap ((i:Int) - 16)=((i - 16:Nat):Int):=zr (by omega) (by omega) (by omega);have hc7:IntKind.i64.wrap ((i:Int) - 7)=((i - 7:Nat):Int):=zr (by omega) (by omega) (by omega);have hwlt:=nb hb i;have hx15:=rf (n:=64) (getD_get (l:=Sha.words b i) (i:=i - 15) (by omega));have hx2:=rf (n:=64) (getD_get (l:=Sha.words b i) (i:=i - 2) (by omega));have hx16:=rf (n:=64) (getD_get (l:=Sha.words b i) (i:=i - 16) (by omega));have hx7:=rf (n:=64) (getD_get (l:=Sha.words b i) (i:=i - 7) (by omega));have hl15:=getD_lt hwlt (by omega) (i - 15);have hl2:=getD_lt hwlt (by omega) (i - 2);have hwn:Sha.wnext (Sha.words b i) i=((Sha.words b i).getD (i - 16) 0+(Sha.words b i).getD (i - 7) 0+Sha.sig0 ((Sha.words b i).getD (i - 15) 0)+Sha.sig1 ((Sha.words b i).getD (i - 2) 0))%4294967296:=rfl;rw[hwn] at hwords;generalize (Sha.words b i).getD (i - 15) 0=x15 at *;generalize (Sha.words b i).getD (i - 2) 0=x2 at *;generalize (Sha.words b i).getD (i - 16) 0=x16 at *;generalize (Sha.words b i).getD (i - 7) 0=x7 at *;have hq1:=qo x16 x7;have hq2:=adt x15 3 3 rfl (by omega);have hq3:=jZ (mX hl15 [7,18]) (Nat.lt_of_le_of_lt (Nat.div_le_self x15 (2 ^ 3)) hl15);rw[show qW x15 [7,18] ^^^ x15 / 2 ^ 3=Sha.sig0 x15 from cq] at hq3;have hq4:=qo ((x16+x7)%4294967296) (Sha.sig0 x15);have hq5:=adt x2 10 10 rfl (by omega);have hq6:=jZ (mX hl2 [17,19]) (Nat.lt_of_le_of_lt (Nat.div_le_self x2 (2 ^ 10)) hl2);rw[show qW x2 [17,19] ^^^ x2 / 2 ^ 10=Sha.sig1 x2 from ao] at hq6;have hq7:=qo (((x16+x7)%4294967296+Sha.sig0 x15)%4294967296) (Sha.sig1 x2);rw[show ((((x16+x7)%4294967296+Sha.sig0 x15)%4294967296)+Sha.sig1 x2)%4294967296=(x16+x7+Sha.sig0 x15+Sha.sig1 x2)%4294967296 by omega] at hq7;have hm1:=fun g=>bX x15 g 2 [7,18] hl15 (by decide) (by decide);have hm2:=fun g=>bX x2 g 2 [17,19] hl2 (by decide) (by decide);have hov:=nH (l:=Sha.words b i) (n:=64) (x:=(x16+x7+Sha.sig0 x15+Sha.sig1 x2)%4294967296) (by omega);rw[hwl,← hwords] at hov;refine WC.dF rfl (by omega) ?_
   repeat (first|refine Tw ?_|(refine Tm ?_;intro _)|exact Tz)
   refine WC.adraw 10 (k:=?_)
   repeat (first|refine Da ?_|refine DQ.does (fun s _=>zH rfl rfl hc15) Dp.const ?_|refine DQ.does (fun s _=>zH rfl rfl hc2) Dp.const ?_|refine DQ.does (fun s _=>zR (hc:=hx15)) Dp.const ?_|refine DQ.does (fun s _=>zR (hc:=hx2)) Dp.const ?_|refine Dc ?_)
   refine DQ.anil (k:=?_);intro sx _
   repeat (first|refine Tw ?_|(refine Tm ?_;intro _)|exact Tz)
   refine WC.adraw 25 (k:=?_)
   repeat (first|refine Da ?_|refine DQ.does (fun s _=>zH rfl rfl hc16) Dp.const ?_|refine DQ.does (fun s _=>zH rfl rfl hc7) Dp.const ?_|refine DQ.does (fun s _=>zR (hc:=hx16)) Dp.const ?_|refine DQ.does (fun s _=>zR (hc:=hx7)) Dp.const ?_|refine DQ.does (fun s _=>qy rfl rfl hq1) Dp.const ?_|refine DQ.does (fun s _=>qy rfl rfl hq4) Dp.const ?_|refine DQ.does (fun s _=>qy rfl rfl hq7) Dp.const ?_|refine DQ.does (fun s _=>adW rfl rfl hq2 (by decide)) Dp.const ?_|refine DQ.does (fun s _=>adW rfl rfl hq5 (by decide)) Dp.const ?_|refine DQ.does (fun s _=>iP rfl rfl hq3) Dp.const ?_|refine DQ.does (fun s _=>iP rfl rfl hq6) Dp.const ?_|refine DQ.makes (fun s _=>ze (cs:=inC [7,18]) rfl (by decide) rfl) Dp.const Dp.const ?_|refine DQ.makes (fun s _=>ze (cs:=inC [17,19]) rfl (by decide) rfl) Dp.const Dp.const ?_|refine DQ.acallB 11 (fun s=>⟨s 11 0,3,inC [7,18]⟩) (fun s=>hm1 (s 11 0)) (fun s w hm=>Hs.here.seg hm) ?_|refine DQ.acallB 18 (fun s=>⟨s 18 0,3,inC [17,19]⟩) (fun s=>hm2 (s 18 0)) (fun s w hm=>Hs.here.seg hm) ?_|refine Dc ?_)
   refine DQ.anil (k:=?_);intro sx _
   repeat (first|refine Ta ?_|(refine Tm ?_;intro _)|refine WO.stores (zC (hc:=hov) (hle:=by rw[qp (by omega)];simp;omega)) ?_|refine Tc ?_|exact Tz)
   refine WX.metI (i+1) (hs:=⟨by show i+1≤64;omega,by show 64 - (i+1)<64 - i;omega⟩)
 ·have hi64:i=64:=by omega
  subst hi64;have hWl:=uM b 64;have hWlt:=nb hb 64;have hwp:d7 (Sha.words b 64) 64=w3C (Sha.words b 64):=by unfold d7;rw[hWl];simp
  have htk:Sha.take S b=Sha.addW (Sha.rnds S (Sha.words b 64) 64) S:=rfl;rw[hwp,htk];generalize Sha.words b 64=W at *;have hcut:cut (w3C S) 0 8=w3C S:=by unfold cut;rw[List.drop_zero,List.take_of_length_le (by rw[zw,hS8];omega)]
  have hov8:over [.int .u32 0,.int .u32 0,.int .u32 0,.int .u32 0,.int .u32 0,.int .u32 0,.int .u32 0,.int .u32 0] 0 (w3C S)=w3C S:=by simp[over,zw,hS8]
  repeat (first|refine Ta ?_|(refine Tm ?_;intro _)|refine WO.does (zy (vs:=w3C S) (hc:=hcut) (hl:=by rw[zw,hS8])) ?_|refine WO.stores (zC (vs:=w3C S) (hl:=by rw[zw,hS8]) (h1:=lR S) (hc:=hov8) (hle:=by rw[zw,hS8];rfl)) ?_|refine WO.acall (hc:=abx) (k:=?_)|refine Tc ?_|exact Tz)
  rename_i g9
  refine WC.loopI (σ:=Nat) (fun i=>i≤64) (fun i=>[(2,pt g2),(4,pt g4),(5,pt g5),(9,pt g9),(93,.agg (w3C Sha.K).toArray),(94,.int .i64 (i:Int))])
   (fun i=>[⟨g2,187,w3C S⟩,⟨g4,187,w3C [0,0,0,0,0,0,0,0]⟩,⟨g5,258,w3C W⟩,⟨g9,187,w3C (Sha.rnds S W i)⟩]) (fun i=>64 - i) 0 (fun i hi=>?_) (Nat.zero_le _)
  try dsimp only at hi ⊢
  by_cases hlt:i<64
  ·have hr8:=vF (w:=W) hS8 i;have hrl:=eB (w:=W) hs hS8 i;have hnext:Sha.rnds S W (i+1)=Sha.rnd (Sha.rnds S W i) (Sha.K.getD i 0) (W.getD i 0):=rfl;have hk:=rH (getD_get (l:=Sha.K) (i:=i) (by show i<64;exact hlt));have hw0:=rH (getD_get (l:=W) (i:=i) (by omega));obtain⟨a,bb,c,d,e,f,g,h,hr⟩:=eight hr8;rw[hr] at hnext hrl;have hla:a<4294967296:=hrl a (by simp);have hlb:bb<4294967296:=hrl bb (by simp);have hlc:c<4294967296:=hrl c (by simp);have hle:e<4294967296:=hrl e (by simp);have hlf:f<4294967296:=hrl f (by simp);have hlg:g<4294967296:=hrl g (by simp);clear hrl;generalize Sha.K.getD i 0=k at *;generalize W.getD i 0=x at *;have hm1:=fun q=>bX e q 3 [6,11,25] hle (by decide) (by decide);have hm2:=fun q=>bX a q 3 [2,13,22] hla (by decide) (by decide);rw[cx] at hm1;rw[az] at hm2;have hq1:=qo h (Sha.Sig1 e);have hq2:=jZ hlf hlg;have hq3:=bF hle (jo hlf hlg);have hq4:=jZ hlg (qv (b:=f ^^^ g) hle);rw[show g ^^^ e &&& (f ^^^ g)=Sha.ch e f g from rfl] at hq4;have hq5:=qo ((h+Sha.Sig1 e)%4294967296) (Sha.ch e f g);have hq6:=qo (((h+Sha.Sig1 e)%4294967296+Sha.ch e f g)%4294967296) k;have hq7:=qo ((((h+Sha.Sig1 e)%4294967296+Sha.ch e f g)%4294967296+k)%4294967296) x;rw[show (((((h+Sha.Sig1 e)%4294967296+Sha.ch e f g)%4294967296+k)%4294967296)+x)%4294967296=(h+Sha.Sig1 e+Sha.ch e f g+k+x)%4294967296 by omega] at hq7;have hst:Sha.rnd [a,bb,c,d,e,f,g,h] k x=[((h+Sha.Sig1 e+Sha.ch e f g+k+x)%4294967296+Sha.Sig0 a+Sha.maj a bb c)%4294967296,a,bb,c,(d+(h+Sha.Sig1 e+Sha.ch e f g+k+x)%4294967296)%4294967296,e,f,g]:=rfl;rw[hst] at hnext;generalize (h+Sha.Sig1 e+Sha.ch e f g+k+x)%4294967296=T at *;have hp1:=qo T (Sha.Sig0 a);have hp2:=bF hla hlb;have hp3:=bF hla hlc;have hp4:=jZ (qv (b:=bb) hla) (qv (b:=c) hla);have hp5:=bF hlb hlc;have hp6:=jZ (jo (qv (b:=bb) hla) (qv (b:=c) hla)) (qv (b:=c) hlb);rw[show a &&& bb ^^^ a &&& c ^^^ bb &&& c=Sha.maj a bb c from rfl] at hp6;have hp7:=qo ((T+Sha.Sig0 a)%4294967296) (Sha.maj a bb c);rw[show ((T+Sha.Sig0 a)%4294967296+Sha.maj a bb c)%4294967296=(T+Sha.Sig0 a+Sha.maj a bb c)%4294967296 by omega] at hp7;have hp8:=qo d T;have hov:over [.int .u32 (a:Int),.int .u32 (bb:Int),.int .u32 (c:Int),.int .u32 (d:Int),.int .u32 (e:Int),.int .u32 (f:Int),.int .u32 (g:Int),.int .u32 (h:Int)] 0 (w3C [(T+Sha.Sig0 a+Sha.maj a bb c)%4294967296,a,bb,c,(d+T)%4294967296,e,f,g])=w3C (Sha.rnds S W (i+1)):=by rw[hnext];rfl
   rw[hr,show w3C [a,bb,c,d,e,f,g,h]=[.int .u32 (a:Int),.int .u32 (bb:Int),.int .u32 (c:Int),.int .u32 (d:Int),.int .u32 (e:Int),.int .u32 (f:Int),.int .u32 (g:Int),.int .u32 (h:Int)] from rfl]
   repeat (first|refine Tw ?_|(refine Tm ?_;intro _)|exact Tz)
   refine WC.dT rfl (by omega) ?_
   repeat (first|refine Ta ?_|(refine Tm ?_;intro _)|refine WO.does (rM rfl rfl hlt rfl hk) ?_|refine Tc ?_|exact Tz)
   refine WC.adraw 24 (k:=?_)
   repeat (first|refine Da ?_|refine Dc ?_)
   refine DQ.anil (k:=?_);intro sx _
   repeat (first|refine Tw ?_|(refine Tm ?_;intro _)|exact Tz)
   refine WC.adraw 20 (k:=?_)
   repeat (first|refine Da ?_|refine DQ.does (fun s _=>qy rfl rfl hq1) Dp.const ?_|refine DQ.does (fun s _=>qy rfl rfl hq5) Dp.const ?_|refine DQ.does (fun s _=>qy rfl rfl hq6) Dp.const ?_|refine DQ.does (fun s _=>qy rfl rfl hq7) Dp.const ?_|refine DQ.does (fun s _=>iP rfl rfl hq2) Dp.const ?_|refine DQ.does (fun s _=>cu rfl rfl hq3) Dp.const ?_|refine DQ.does (fun s _=>iP rfl rfl hq4) Dp.const ?_|refine DQ.does (fun s _=>zR (hc:=hw0)) Dp.const ?_|refine DQ.makes (fun s _=>ze (cs:=inC [6,11,25]) rfl (by decide) rfl) Dp.const Dp.const ?_|refine DQ.acallB 2 (fun s=>⟨s 2 0,3,inC [6,11,25]⟩) (fun s=>hm1 (s 2 0)) (fun s w hm=>Hs.here.seg hm) ?_|refine Dc ?_)
   refine DQ.anil (k:=?_);intro sx _
   repeat (first|refine WO.stores (zC (vs:=w3C [(T+Sha.Sig0 a+Sha.maj a bb c)%4294967296,a,bb,c,(d+T)%4294967296,e,f,g]) (hc:=hov)) ?_|refine Ta ?_|(refine Tm ?_;intro _)|refine WO.does (qy rfl rfl hp1) ?_|refine WO.does (qy rfl rfl hp7) ?_|refine WO.does (qy rfl rfl hp8) ?_|refine WO.does (cu rfl rfl hp2) ?_|refine WO.does (cu rfl rfl hp3) ?_|refine WO.does (cu rfl rfl hp5) ?_|refine WO.does (iP rfl rfl hp4) ?_|refine WO.does (iP rfl rfl hp6) ?_|(refine WO.makes (ze (cs:=inC [2,13,22]) rfl (by decide) rfl) ?_;intro q)|refine WO.acallR (hc:=hm2 _) (hR:=fun w' hm=>Hs.here.seg hm) (k:=?_)|refine WO.does (zB (cs:=w3C [(T+Sha.Sig0 a+Sha.maj a bb c)%4294967296,a,bb,c,(d+T)%4294967296,e,f,g]) rfl rfl rfl) ?_|refine Tc ?_|exact Tz)
   refine WX.metI (i+1) (hs:=⟨by show i+1≤64;omega,by show 64 - (i+1)<64 - i;omega⟩)
  ·have hi64:i=64:=by omega
   subst hi64;have hR8:=vF (w:=W) hS8 64;generalize Sha.rnds S W 64=R at *;have hRS:R.length=S.length:=by omega
   have hR0:w3C R=w3C (mxW R S 0):=by simp[mxW]
   rw[hR0]
   repeat (first|refine Tw ?_|(refine Tm ?_;intro _)|exact Tz)
   refine WC.loopI (σ:=Nat) (fun i=>i≤8) (fun i=>[(2,pt g2),(4,pt g4),(9,pt g9),(161,.int .i64 (i:Int))])
    (fun i=>[⟨g2,187,w3C S⟩,⟨g4,187,w3C [0,0,0,0,0,0,0,0]⟩,⟨g9,187,w3C (mxW R S i)⟩]) (fun i=>8 - i) 0 (fun i hi=>?_) (Nat.zero_le _)
   try dsimp only at hi ⊢
   by_cases hlt:i<8
   ·have h1:=abk hRS (i:=i) (by omega);have h2:=rH (getD_get (l:=S) (i:=i) (by omega));have h3:=qo (R.getD i 0) (S.getD i 0);have hov:=af hRS (i:=i) (by omega);have hml:(mxW R S i).length=8:=by unfold mxW;rw[List.length_append,List.length_take,List.length_drop,yK hRS];omega
    generalize R.getD i 0=r at *;generalize S.getD i 0=y at *
    repeat (first|refine Tw ?_|(refine Tm ?_;intro _)|exact Tz)
    refine WC.dT rfl (by omega) ?_
    repeat (first|refine Tw ?_|(refine Tm ?_;intro _)|exact Tz)
    refine WC.adraw 8 (k:=?_)
    repeat (first|refine Da ?_|refine DQ.does (fun s _=>zR (hc:=h1)) Dp.const ?_|refine DQ.does (fun s _=>zR (hc:=h2)) Dp.const ?_|refine DQ.does (fun s _=>qy rfl rfl h3) Dp.const ?_|refine Dc ?_)
    refine DQ.anil (k:=?_);intro sx _
    repeat (first|refine Ta ?_|(refine Tm ?_;intro _)|refine WO.stores (zC (hc:=hov) (hle:=by rw[zw,hml];simp;omega)) ?_|refine Tc ?_|exact Tz)
    refine WX.metI (i+1) (hs:=⟨by show i+1≤8;omega,by show 8 - (i+1)<8 - i;omega⟩)
   ·have hi8:i=8:=by omega
    subst hi8;have hfull:mxW R S 8=Sha.addW R S:=by have:=ax hRS;rwa [hR8] at this
    have hA8:(Sha.addW R S).length=8:=by rw[yK hRS,hR8]
    rw[hfull];generalize Sha.addW R S=A at *;have hcut:cut (w3C A) 0 8=w3C A:=by unfold cut;rw[List.drop_zero,List.take_of_length_le (by rw[zw,hA8];omega)]
    have hovA:over (w3C [0,0,0,0,0,0,0,0]) 0 (w3C A)=w3C A:=by simp[over,zw,hA8]
    repeat (first|refine Ta ?_|(refine Tm ?_;intro _)|refine WO.does (zy (vs:=w3C A) (hc:=hcut) (hl:=by rw[zw,hA8])) ?_|refine WO.stores (zC (vs:=w3C A) (hl:=by rw[zw,hA8]) (h1:=lR A) (hc:=hovA) (hle:=by rw[zw,hA8];rfl)) ?_|refine Tc ?_|exact Tz)
    exact WX.aret1 (hr:=uC (vs:=w3C A) (hc:=hcut) (hl:=by rw[zw,hA8])) (hp:=rfl)
end Sx
end
end Go.Proofs.YteibfbjpkjkejaaGreatDoor
