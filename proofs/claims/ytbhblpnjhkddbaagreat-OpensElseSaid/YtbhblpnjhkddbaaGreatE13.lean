/- Part 13 of the proof. -/
import Derived.Test.YtbhblpnjhkddbaaGreatE08
import Derived.Test.YtbhblpnjhkddbaaGreatE12
set_option linter.unusedSimpArgs false
set_option linter.unusedVariables false
set_option maxHeartbeats 8000000
namespace Go.Proofs.YtbhblpnjhkddbaaGreat
section
open Go Go.RowKit
namespace Sx
attribute [local irreducible] DQ DQS WC WO WX wd
theorem ach (x n:Nat) (hx:x<4294967296) (h0:0<n) (hn:n<32):Fn Tryz.prog 177 [.int .u32 (x:Int),.int .i64 (-((n:Nat):Int))] Tr (Is (.int .u32 ((Sha.rotr n x:Nat):Int))):=by
 have h1:=aao h0 hn;have h2:=acK h0 hn;have h3:IntKind.u64.wrap (32 - ((32 - n:Nat):Int))=((n:Nat):Int):=yW (by omega) (by omega) (by omega);have h4:IntKind.u32.wrap (((BitVec.ofInt IntKind.u32.bits ((x*2 ^ (32 - n)%4294967296:Nat):Int) ||| BitVec.ofInt IntKind.u32.bits ((x / 2 ^ n:Nat):Int)).toNat:Nat):Int)=((Sha.rotr n x:Nat):Int):=by
  rw[bQ (Nat.mod_lt _ (by omega)) (Nat.lt_of_le_of_lt (Nat.div_le_self _ _) hx),Sha.rotr,Nat.or_comm]
 refine Fn.enter Tryz.func177 rfl rfl rfl ?_;intro w hw
 repeat (first|refine Ta ?_|(refine Tm ?_;intro _)|refine WO.does (zD rfl h1) ?_|refine WO.does (sM rfl rfl h2) ?_|refine WO.does (zp rfl rfl h3) ?_|refine WO.does (pJ rfl rfl (by omega) (iN x (32 - n) (by omega))) ?_|refine WO.does (vx rfl rfl (by omega) (tc (by show n≤32;omega))) ?_|refine WO.does (uY rfl rfl h4) ?_|refine Tc ?_|exact Tz)
theorem dz (x b c:Nat) (ns:List Nat) (hx:x<4294967296) (hns:∀ n∈ns,0<n∧n<32) (hl:ns.length≤100) :
  Fn Tryz.prog 171 [.int .u32 (x:Int),.slice (some ⟨b,0,none⟩) ns.length c] (fun w=>Seg w b 0 (inC ns)) (Is (.int .u32 ((qU x ns:Nat):Int))):=by
 refine Fn.enter Tryz.func171 rfl rfl rfl ?_;intro w hw
 repeat (first|refine Tw ?_|(refine Tm ?_;intro _)|exact Tz)
 refine WC.loopI (σ:=Nat) (fun i=>i≤ns.length) (fun i=>[(0,.int .u32 (x:Int)),(4,.int .u32 ((qU x (ns.take i):Nat):Int)),(7,.slice (some ⟨b,0,none⟩) ns.length c),(8,.int .i64 (ns.length:Int)),(9,.int .i64 (i:Int))]) (fun _=>[]) (fun i=>ns.length - i) 0 (fun i hi=>?_) (Nat.zero_le _)
 try dsimp only at hi ⊢
 by_cases hlt:i<ns.length
 ·have hget:(inC ns)[i - 0]?=some (.int .i64 ((ns[i]:Nat):Int)):=by rw[Nat.sub_zero];exact aG hlt
  have hn:=hns _ (List.getElem_mem hlt);have hR:=ach x ns[i] hx hn.1 hn.2;have hnext:qU x (ns.take i) ^^^ Sha.rotr ns[i] x=qU x (ns.take (i+1)):=by rw[List.take_succ_eq_append_getElem hlt,fq]
  have hneg:IntKind.i64.wrap (0 - ((ns[i]:Nat):Int)) = -((ns[i]:Nat):Int):=zn (by omega) (by omega) (by omega);have hxor:=gn (mC hx (ns.take i)) (ij (n:=ns[i]) hx);rw[hnext] at hxor
  repeat (first|refine Tw ?_|(refine Tm ?_;intro _)|exact Tz)
  refine WC.dT rfl (by omega) ?_
  repeat (first|refine Ta ?_|(refine Tm ?_;intro _)|refine WO.acall (hc:=hR) (k:=?_)|(refine WO.does (m5 rfl) ?_;rw[hneg])|refine WO.does (kv rfl rfl hxor) ?_|refine Tc ?_|exact Tz)
  refine WX.metI (i+1) (hs:=⟨by show i+1≤ns.length;omega,by show ns.length - (i+1)<ns.length - i;omega⟩)
 ·have hii:i=ns.length:=by omega
  have hv:qU x (ns.take i)=qU x ns:=by rw[hii,List.take_length]
  rw[hv]
  repeat (first|refine Tw ?_|(refine Tm ?_;intro _)|exact Tz)
  refine WC.dF rfl (by omega) ?_
  repeat (first|refine Tw ?_|(refine Tm ?_;intro _)|exact Tz)
end Sx
end
section
open Go Go.RowKit Go.BigFrame
namespace Sx
attribute [local irreducible] DQ DQS WC WO WX wd
section
open Kp
variable {P:Program} {w0:World} {gs:List Nat} {n:Nat} {fl:List Nat} {Q:Exit→Act→World→Prop} {ops:List Oper} {L0:List Ent}
variable {tail rest:List Oper} {i:Nat} {C:zC→Prop} {K:zC→List (Nat × Value)} {N:zC→List (Nat × Ent)}
variable {d:Nat} {op:Op} {ty:TypeId} {pos:String} {after:Array Edge} {gd:Option (Nat × Bool)}
theorem DQ.acallB {f:FuncId} [Cal P f] {xs:Array Operand} {ats:Array TypeId} {vs:zC→List Value} {R:zC→World→Prop} {v:Value} (j:Nat) (e:zC→Ent) (hc:∀ s,Fn P f (vs s) (R s) (Is v)) (hR:∀ s w,Mr w0 gs (e s::L0) w→R s w)
  (k:DQ P w0 gs n fl Q ops L0 tail (i+1) rest C (fun s=>(d,v)::K s) N) (ha:∀ s,evs (K s) xs.toList=some (vs s):=by (intro s;rfl)) (hm:∀ s,(j,e s)∈N s:=by (intro s;repeat (first|exact .head _|apply List.Mem.tail)))
  (hanc:anc ops i j=true:=by decide +kernel) (hfl:fl.contains i=false:=by rfl) (hw:∀ s,wk ops (K s) gd=some true:=by intro _;rfl) (hd:Nat.blt d n=true:=by rfl) :
  DQ P w0 gs n fl Q ops L0 tail i (⟨some d,.call { callee:=.value (.func f),args:=xs,argTypes:=ats },ty,pos,after,gd⟩::rest) C K N :=
 DQ.callE (v:=fun _=>v) (fun s=>[e s]) (fun s=>.cons j (hm s) hanc .nil) (fun s _=>hc s) ha (fun s _ w h=>hR s w h) Dp.const k hfl hw hd
end
theorem aK:Fn Tryz.prog 119 [] Tr (Is (.agg (w3C Sha.H0).toArray)):=by
 refine Fn.enter Tryz.func119 rfl rfl rfl ?_;intro w hw
 repeat (first|refine Tw ?_|(refine Tm ?_;intro _)|exact Tz)
set_option maxRecDepth 100000 in
theorem aaA:Fn Tryz.prog 172 [] Tr (Is (.agg (w3C Sha.K).toArray)):=by
 refine Fn.enter Tryz.func172 rfl rfl rfl ?_;intro w hw
 repeat (first|refine Ta ?_|(refine Tm ?_;intro _)|refine WO.does (zJ (cs:=w3C Sha.K) rfl rfl (by kernel_rfl)) ?_|refine Tc ?_|exact Tz)
theorem abN (s0 s1 s2 s3 s4 s5 s6 s7:Nat) (b:List Nat) (hb:∀ x∈b,x<256) (hbl:b.length=64) (hs:∀ x∈[s0,s1,s2,s3,s4,s5,s6,s7],x<4294967296) :
  Fn Tryz.prog 154 [.agg (w3C [s0,s1,s2,s3,s4,s5,s6,s7]).toArray,.agg (byC b).toArray] Tr (Is (.agg (w3C (Sha.take [s0,s1,s2,s3,s4,s5,s6,s7] b)).toArray)):=by
 generalize hS:[s0,s1,s2,s3,s4,s5,s6,s7]=S at *;have hS8:S.length=8:=by rw[← hS];rfl
 refine Fn.enter Tryz.func154 rfl rfl rfl ?_;intro w hw
 repeat (first|refine Tw ?_|(refine Tm ?_;intro _)|exact Tz)
 rename_i g2 g3 g4 g5
 refine WC.loopI (σ:=Nat) (fun i=>i≤64) (fun i=>[(2,pt g2),(3,pt g3),(4,pt g4),(5,pt g5),(22,.int .i64 (i:Int))])
  (fun i=>[⟨g2,176,w3C S⟩,⟨g3,178,byC b⟩,⟨g4,176,w3C [0,0,0,0,0,0,0,0]⟩,⟨g5,231,em (Sha.words b i) 64⟩]) (fun i=>64 - i) 0 (fun i hi=>?_) (Nat.zero_le _)
 try dsimp only at hi ⊢
 by_cases hlt:i<64
 ·have hwl:=uB b i;have hwords:Sha.words b (i+1)=Sha.words b i++[if i<16 then Sha.w16 b i else Sha.wnext (Sha.words b i) i]:=rfl
  repeat (first|refine Tw ?_|(refine Tm ?_;intro _)|exact Tz)
  refine WC.dT rfl (by omega) ?_
  repeat (first|refine Tw ?_|(refine Tm ?_;intro _)|exact Tz)
  by_cases h16:i<16
  ·rw[if_pos h16] at hwords;have hm4:IntKind.i64.wrap (4*(i:Int))=((4*i:Nat):Int):=zn (by omega) (by omega) (by omega);have ha1:IntKind.i64.wrap (((4*i:Nat):Int)+1)=((4*i+1:Nat):Int):=zn (by omega) (by omega) (by omega);have ha2:IntKind.i64.wrap (((4*i:Nat):Int)+2)=((4*i+2:Nat):Int):=zn (by omega) (by omega) (by omega);have ha3:IntKind.i64.wrap (((4*i:Nat):Int)+3)=((4*i+3:Nat):Int):=zn (by omega) (by omega) (by omega);have hb0:=sQ (b:=b) (i:=4*i) (by omega);have hb1:=sQ (b:=b) (i:=4*i+1) (by omega);have hb2:=sQ (b:=b) (i:=4*i+2) (by omega);have hb3:=sQ (b:=b) (i:=4*i+3) (by omega);have hl0:=getD_lt hb (by omega) (4*i);have hl1:=getD_lt hb (by omega) (4*i+1);have hl2:=getD_lt hb (by omega) (4*i+2);have hl3:=getD_lt hb (by omega) (4*i+3);have hw16:Sha.w16 b i=b.getD (4*i) 0*16777216+b.getD (4*i+1) 0*65536+b.getD (4*i+2) 0*256+b.getD (4*i+3) 0:=rfl;rw[hw16] at hwords;generalize b.getD (4*i) 0=b0 at *;generalize b.getD (4*i+1) 0=b1 at *;generalize b.getD (4*i+2) 0=b2 at *;generalize b.getD (4*i+3) 0=b3 at *;have hs0:=aI b0 24 24 rfl (by omega);have hs1:=aI b1 16 16 rfl (by omega);have hs2:=aI b2 8 8 rfl (by omega);rw[show b0*2 ^ 24%4294967296=b0*16777216 by omega] at hs0;rw[show b1*2 ^ 16%4294967296=b1*65536 by omega] at hs1;rw[show b2*2 ^ 8%4294967296=b2*256 by omega] at hs2;have ho1:=acJ (a:=b0*16777216) (b:=b1*65536) (by omega) (by omega);have ho1l:=da (a:=b0*16777216) (b:=b1*65536) (by omega) (by omega);have ho2:=acJ (b:=b2*256) ho1l (by omega);have ho2l:=da (b:=b2*256) ho1l (by omega);have ho3:=acJ (b:=b3) ho2l (by omega);rw[aam b0 b1 b2 b3 hl1 hl2 hl3] at ho3;have hov:=nB (l:=Sha.words b i) (n:=64) (x:=b0*16777216+b1*65536+b2*256+b3) (by omega);rw[hwl,← hwords] at hov;refine WC.dT rfl (by omega) ?_
   repeat (first|refine Tw ?_|(refine Tm ?_;intro _)|exact Tz)
   refine WC.adraw 31 (k:=?_)
   repeat (first|refine Da ?_|refine DQ.does (fun s _=>zU rfl rfl hm4) Dp.const ?_|refine DQ.does (fun s _=>zg rfl rfl ha1) Dp.const ?_|refine DQ.does (fun s _=>zg rfl rfl ha2) Dp.const ?_|refine DQ.does (fun s _=>zg rfl rfl ha3) Dp.const ?_|refine DQ.does (fun s _=>zP (hc:=hb0)) Dp.const ?_|refine DQ.does (fun s _=>zP (hc:=hb1)) Dp.const ?_|refine DQ.does (fun s _=>zP (hc:=hb2)) Dp.const ?_|refine DQ.does (fun s _=>zP (hc:=hb3)) Dp.const ?_|refine DQ.does (fun s _=>aaQ rfl rfl hs0 (by decide)) Dp.const ?_|refine DQ.does (fun s _=>aaQ rfl rfl hs1 (by decide)) Dp.const ?_|refine DQ.does (fun s _=>aaQ rfl rfl hs2 (by decide)) Dp.const ?_|refine DQ.does (fun s _=>acF rfl rfl ho1) Dp.const ?_|refine DQ.does (fun s _=>acF rfl rfl ho2) Dp.const ?_|refine DQ.does (fun s _=>acF rfl rfl ho3) Dp.const ?_|refine Dc ?_)
   refine DQ.anil (k:=?_);intro sx _
   repeat (first|refine Ta ?_|(refine Tm ?_;intro _)|refine WO.stores (zw (hc:=hov) (hle:=by rw[rc (by omega)];simp;omega)) ?_|refine Tc ?_|exact Tz)
   refine WX.metI (i+1) (hs:=⟨by show i+1≤64;omega,by show 64 - (i+1)<64 - i;omega⟩)
  ·rw[if_neg h16] at hwords;have hc15:IntKind.i64.wrap ((i:Int) - 15)=((i - 15:Nat):Int):=zn (by omega) (by omega) (by omega);have hc2:IntKind.i64.wrap ((i:Int) - 2)=((i - 2:Nat):Int):=zn (by omega) (by omega) (by omega);have hc16:IntKind.i64.wrap ((i:Int) - 16)=((i - 16:Nat):Int):=zn (by omega) (by omega) (by omega);have hc7:IntKind.i64.wrap ((i:Int) - 7)=((i - 7:Nat):Int):=zn (by omega) (by omega) (by omega);have hwlt:=pd hb i;have hx15:=sU (n:=64) (getD_get (l:=Sha.words b i) (i:=i - 15) (by omega));have hx2:=sU (n:=64) (getD_get (l:=Sha.words b i) (i:=i - 2) (by omega));have hx16:=sU (n:=64) (getD_get (l:=Sha.words b i) (i:=i - 16) (by omega));have hx7:=sU (n:=64) (getD_get (l:=Sha.words b i) (i:=i - 7) (by omega));have hl15:=getD_lt hwlt (by omega) (i - 15);have hl2:=getD_lt hwlt (by omega) (i - 2);have hwn:Sha.wnext (Sha.words b i) i=((Sha.words b i).getD (i - 16) 0+(Sha.words b i).getD (i - 7) 0+Sha.sig0 ((Sha.words b i).getD (i - 15) 0)+Sha.sig1 ((Sha.words b i).getD (i - 2) 0))%4294967296:=rfl;rw[hwn] at hwords;generalize (Sha.words b i).getD (i - 15) 0=x15 at *;generalize (Sha.words b i).getD (i - 2) 0=x2 at *;generalize (Sha.words b i).getD (i - 16) 0=x16 at *;generalize (Sha.words b i).getD (i - 7) 0=x7 at *;have hq1:=rb x16 x7;have hq2:=abd x15 3 3 rfl (by omega);have hq3:=kQ (mC hl15 [7,18]) (Nat.lt_of_le_of_lt (Nat.div_le_self x15 (2 ^ 3)) hl15);rw[show qU x15 [7,18] ^^^ x15 / 2 ^ 3=Sha.sig0 x15 from dM] at hq3;have hq4:=rb ((x16+x7)%4294967296) (Sha.sig0 x15);have hq5:=abd x2 10 10 rfl (by omega);have hq6:=kQ (mC hl2 [17,19]) (Nat.lt_of_le_of_lt (Nat.div_le_self x2 (2 ^ 10)) hl2);rw[show qU x2 [17,19] ^^^ x2 / 2 ^ 10=Sha.sig1 x2 from bk] at hq6;have hq7:=rb (((x16+x7)%4294967296+Sha.sig0 x15)%4294967296) (Sha.sig1 x2);rw[show ((((x16+x7)%4294967296+Sha.sig0 x15)%4294967296)+Sha.sig1 x2)%4294967296=(x16+x7+Sha.sig0 x15+Sha.sig1 x2)%4294967296 by omega] at hq7;have hm1:=fun g=>dz x15 g 2 [7,18] hl15 (by decide) (by decide);have hm2:=fun g=>dz x2 g 2 [17,19] hl2 (by decide) (by decide);have hov:=nB (l:=Sha.words b i) (n:=64) (x:=(x16+x7+Sha.sig0 x15+Sha.sig1 x2)%4294967296) (by omega);rw[hwl,← hwords] at hov;refine WC.dF rfl (by omega) ?_
   repeat (first|refine Tw ?_|(refine Tm ?_;intro _)|exact Tz)
   refine WC.adraw 10 (k:=?_)
   repeat (first|refine Da ?_|refine DQ.does (fun s _=>zp rfl rfl hc15) Dp.const ?_|refine DQ.does (fun s _=>zp rfl rfl hc2) Dp.const ?_|refine DQ.does (fun s _=>zP (hc:=hx15)) Dp.const ?_|refine DQ.does (fun s _=>zP (hc:=hx2)) Dp.const ?_|refine Dc ?_)
   refine DQ.anil (k:=?_);intro sx _
   repeat (first|refine Tw ?_|(refine Tm ?_;intro _)|exact Tz)
   refine WC.adraw 25 (k:=?_)
   repeat (first|refine Da ?_|refine DQ.does (fun s _=>zp rfl rfl hc16) Dp.const ?_|refine DQ.does (fun s _=>zp rfl rfl hc7) Dp.const ?_|refine DQ.does (fun s _=>zP (hc:=hx16)) Dp.const ?_|refine DQ.does (fun s _=>zP (hc:=hx7)) Dp.const ?_|refine DQ.does (fun s _=>r6 rfl rfl hq1) Dp.const ?_|refine DQ.does (fun s _=>r6 rfl rfl hq4) Dp.const ?_|refine DQ.does (fun s _=>r6 rfl rfl hq7) Dp.const ?_|refine DQ.does (fun s _=>abj rfl rfl hq2 (by decide)) Dp.const ?_|refine DQ.does (fun s _=>abj rfl rfl hq5 (by decide)) Dp.const ?_|refine DQ.does (fun s _=>jO rfl rfl hq3) Dp.const ?_|refine DQ.does (fun s _=>jO rfl rfl hq6) Dp.const ?_|refine DQ.makes (fun s _=>zd (cs:=inC [7,18]) rfl (by decide) rfl) Dp.const Dp.const ?_|refine DQ.makes (fun s _=>zd (cs:=inC [17,19]) rfl (by decide) rfl) Dp.const Dp.const ?_|refine DQ.acallB 11 (fun s=>⟨s 11 0,3,inC [7,18]⟩) (fun s=>hm1 (s 11 0)) (fun s w hm=>Hs.here.seg hm) ?_|refine DQ.acallB 18 (fun s=>⟨s 18 0,3,inC [17,19]⟩) (fun s=>hm2 (s 18 0)) (fun s w hm=>Hs.here.seg hm) ?_|refine Dc ?_)
   refine DQ.anil (k:=?_);intro sx _
   repeat (first|refine Ta ?_|(refine Tm ?_;intro _)|refine WO.stores (zw (hc:=hov) (hle:=by rw[rc (by omega)];simp;omega)) ?_|refine Tc ?_|exact Tz)
   refine WX.metI (i+1) (hs:=⟨by show i+1≤64;omega,by show 64 - (i+1)<64 - i;omega⟩)
 ·have hi64:i=64:=by omega
  subst hi64;have hWl:=uB b 64;have hWlt:=pd hb 64;have hwp:em (Sha.words b 64) 64=w3C (Sha.words b 64):=by unfold em;rw[hWl];simp
  have htk:Sha.take S b=Sha.addW (Sha.rnds S (Sha.words b 64) 64) S:=rfl;rw[hwp,htk];generalize Sha.words b 64=W at *;have hcut:cut (w3C S) 0 8=w3C S:=by unfold cut;rw[List.drop_zero,List.take_of_length_le (by rw[zo,hS8];omega)]
  have hov8:over [.int .u32 0,.int .u32 0,.int .u32 0,.int .u32 0,.int .u32 0,.int .u32 0,.int .u32 0,.int .u32 0] 0 (w3C S)=w3C S:=by simp[over,zo,hS8]
  repeat (first|refine Ta ?_|(refine Tm ?_;intro _)|refine WO.does (zq (vs:=w3C S) (hc:=hcut) (hl:=by rw[zo,hS8])) ?_|refine WO.stores (zw (vs:=w3C S) (hl:=by rw[zo,hS8]) (h1:=mR S) (hc:=hov8) (hle:=by rw[zo,hS8];rfl)) ?_|refine WO.acall (hc:=aaA) (k:=?_)|refine Tc ?_|exact Tz)
  rename_i g9
  refine WC.loopI (σ:=Nat) (fun i=>i≤64) (fun i=>[(2,pt g2),(4,pt g4),(5,pt g5),(9,pt g9),(93,.agg (w3C Sha.K).toArray),(94,.int .i64 (i:Int))])
   (fun i=>[⟨g2,176,w3C S⟩,⟨g4,176,w3C [0,0,0,0,0,0,0,0]⟩,⟨g5,231,w3C W⟩,⟨g9,176,w3C (Sha.rnds S W i)⟩]) (fun i=>64 - i) 0 (fun i hi=>?_) (Nat.zero_le _)
  try dsimp only at hi ⊢
  by_cases hlt:i<64
  ·have hr8:=vz (w:=W) hS8 i;have hrl:=gv (w:=W) hs hS8 i;have hnext:Sha.rnds S W (i+1)=Sha.rnd (Sha.rnds S W i) (Sha.K.getD i 0) (W.getD i 0):=rfl;have hk:=rY (getD_get (l:=Sha.K) (i:=i) (by show i<64;exact hlt));have hw0:=rY (getD_get (l:=W) (i:=i) (by omega));obtain⟨a,bb,c,d,e,f,g,h,hr⟩:=eight hr8;rw[hr] at hnext hrl;have hla:a<4294967296:=hrl a (by simp);have hlb:bb<4294967296:=hrl bb (by simp);have hlc:c<4294967296:=hrl c (by simp);have hle:e<4294967296:=hrl e (by simp);have hlf:f<4294967296:=hrl f (by simp);have hlg:g<4294967296:=hrl g (by simp);clear hrl;generalize Sha.K.getD i 0=k at *;generalize W.getD i 0=x at *;have hm1:=fun q=>dz e q 3 [6,11,25] hle (by decide) (by decide);have hm2:=fun q=>dz a q 3 [2,13,22] hla (by decide) (by decide);rw[ew] at hm1;rw[eI] at hm2;have hq1:=rb h (Sha.Sig1 e);have hq2:=kQ hlf hlg;have hq3:=cn hle (kq hlf hlg);have hq4:=kQ hlg (rQ (b:=f ^^^ g) hle);rw[show g ^^^ e &&& (f ^^^ g)=Sha.ch e f g from rfl] at hq4;have hq5:=rb ((h+Sha.Sig1 e)%4294967296) (Sha.ch e f g);have hq6:=rb (((h+Sha.Sig1 e)%4294967296+Sha.ch e f g)%4294967296) k;have hq7:=rb ((((h+Sha.Sig1 e)%4294967296+Sha.ch e f g)%4294967296+k)%4294967296) x;rw[show (((((h+Sha.Sig1 e)%4294967296+Sha.ch e f g)%4294967296+k)%4294967296)+x)%4294967296=(h+Sha.Sig1 e+Sha.ch e f g+k+x)%4294967296 by omega] at hq7;have hst:Sha.rnd [a,bb,c,d,e,f,g,h] k x=[((h+Sha.Sig1 e+Sha.ch e f g+k+x)%4294967296+Sha.Sig0 a+Sha.maj a bb c)%4294967296,a,bb,c,(d+(h+Sha.Sig1 e+Sha.ch e f g+k+x)%4294967296)%4294967296,e,f,g]:=rfl;rw[hst] at hnext;generalize (h+Sha.Sig1 e+Sha.ch e f g+k+x)%4294967296=T at *;have hp1:=rb T (Sha.Sig0 a);have hp2:=cn hla hlb;have hp3:=cn hla hlc;have hp4:=kQ (rQ (b:=bb) hla) (rQ (b:=c) hla);have hp5:=cn hlb hlc;have hp6:=kQ (kq (rQ (b:=bb) hla) (rQ (b:=c) hla)) (rQ (b:=c) hlb);rw[show a &&& bb ^^^ a &&& c ^^^ bb &&& c=Sha.maj a bb c from rfl] at hp6;have hp7:=rb ((T+Sha.Sig0 a)%4294967296) (Sha.maj a bb c);rw[show ((T+Sha.Sig0 a)%4294967296+Sha.maj a bb c)%4294967296=(T+Sha.Sig0 a+Sha.maj a bb c)%4294967296 by omega] at hp7;have hp8:=rb d T;have hov:over [.int .u32 (a:Int),.int .u32 (bb:Int),.int .u32 (c:Int),.int .u32 (d:Int),.int .u32 (e:Int),.int .u32 (f:Int),.int .u32 (g:Int),.int .u32 (h:Int)] 0 (w3C [(T+Sha.Sig0 a+Sha.maj a bb c)%4294967296,a,bb,c,(d+T)%4294967296,e,f,g])=w3C (Sha.rnds S W (i+1)):=by rw[hnext];rfl
   rw[hr,show w3C [a,bb,c,d,e,f,g,h]=[.int .u32 (a:Int),.int .u32 (bb:Int),.int .u32 (c:Int),.int .u32 (d:Int),.int .u32 (e:Int),.int .u32 (f:Int),.int .u32 (g:Int),.int .u32 (h:Int)] from rfl]
   repeat (first|refine Tw ?_|(refine Tm ?_;intro _)|exact Tz)
   refine WC.dT rfl (by omega) ?_
   repeat (first|refine Ta ?_|(refine Tm ?_;intro _)|refine WO.does (mw rfl rfl hlt rfl hk) ?_|refine Tc ?_|exact Tz)
   refine WC.adraw 24 (k:=?_)
   repeat (first|refine Da ?_|refine Dc ?_)
   refine DQ.anil (k:=?_);intro sx _
   repeat (first|refine Tw ?_|(refine Tm ?_;intro _)|exact Tz)
   refine WC.adraw 20 (k:=?_)
   repeat (first|refine Da ?_|refine DQ.does (fun s _=>r6 rfl rfl hq1) Dp.const ?_|refine DQ.does (fun s _=>r6 rfl rfl hq5) Dp.const ?_|refine DQ.does (fun s _=>r6 rfl rfl hq6) Dp.const ?_|refine DQ.does (fun s _=>r6 rfl rfl hq7) Dp.const ?_|refine DQ.does (fun s _=>jO rfl rfl hq2) Dp.const ?_|refine DQ.does (fun s _=>dy rfl rfl hq3) Dp.const ?_|refine DQ.does (fun s _=>jO rfl rfl hq4) Dp.const ?_|refine DQ.does (fun s _=>zP (hc:=hw0)) Dp.const ?_|refine DQ.makes (fun s _=>zd (cs:=inC [6,11,25]) rfl (by decide) rfl) Dp.const Dp.const ?_|refine DQ.acallB 2 (fun s=>⟨s 2 0,3,inC [6,11,25]⟩) (fun s=>hm1 (s 2 0)) (fun s w hm=>Hs.here.seg hm) ?_|refine Dc ?_)
   refine DQ.anil (k:=?_);intro sx _
   repeat (first|refine WO.stores (zw (vs:=w3C [(T+Sha.Sig0 a+Sha.maj a bb c)%4294967296,a,bb,c,(d+T)%4294967296,e,f,g]) (hc:=hov)) ?_|refine Ta ?_|(refine Tm ?_;intro _)|refine WO.does (r6 rfl rfl hp1) ?_|refine WO.does (r6 rfl rfl hp7) ?_|refine WO.does (r6 rfl rfl hp8) ?_|refine WO.does (dy rfl rfl hp2) ?_|refine WO.does (dy rfl rfl hp3) ?_|refine WO.does (dy rfl rfl hp5) ?_|refine WO.does (jO rfl rfl hp4) ?_|refine WO.does (jO rfl rfl hp6) ?_|(refine WO.makes (zd (cs:=inC [2,13,22]) rfl (by decide) rfl) ?_;intro q)|refine WO.acallR (hc:=hm2 _) (hR:=fun w' hm=>Hs.here.seg hm) (k:=?_)|refine WO.does (zJ (cs:=w3C [(T+Sha.Sig0 a+Sha.maj a bb c)%4294967296,a,bb,c,(d+T)%4294967296,e,f,g]) rfl rfl rfl) ?_|refine Tc ?_|exact Tz)
   refine WX.metI (i+1) (hs:=⟨by show i+1≤64;omega,by show 64 - (i+1)<64 - i;omega⟩)
  ·have hi64:i=64:=by omega
   subst hi64;have hR8:=vz (w:=W) hS8 64;generalize Sha.rnds S W 64=R at *;have hRS:R.length=S.length:=by omega
   have hR0:w3C R=w3C (mxW R S 0):=by simp[mxW]
   rw[hR0]
   repeat (first|refine Tw ?_|(refine Tm ?_;intro _)|exact Tz)
   refine WC.loopI (σ:=Nat) (fun i=>i≤8) (fun i=>[(2,pt g2),(4,pt g4),(9,pt g9),(161,.int .i64 (i:Int))])
    (fun i=>[⟨g2,176,w3C S⟩,⟨g4,176,w3C [0,0,0,0,0,0,0,0]⟩,⟨g9,176,w3C (mxW R S i)⟩]) (fun i=>8 - i) 0 (fun i hi=>?_) (Nat.zero_le _)
   try dsimp only at hi ⊢
   by_cases hlt:i<8
   ·have h1:=aQ hRS (i:=i) (by omega);have h2:=rY (getD_get (l:=S) (i:=i) (by omega));have h3:=rb (R.getD i 0) (S.getD i 0);have hov:=e8 hRS (i:=i) (by omega);have hml:(mxW R S i).length=8:=by unfold mxW;rw[List.length_append,List.length_take,List.length_drop,yK hRS];omega
    generalize R.getD i 0=r at *;generalize S.getD i 0=y at *
    repeat (first|refine Tw ?_|(refine Tm ?_;intro _)|exact Tz)
    refine WC.dT rfl (by omega) ?_
    repeat (first|refine Tw ?_|(refine Tm ?_;intro _)|exact Tz)
    refine WC.adraw 8 (k:=?_)
    repeat (first|refine Da ?_|refine DQ.does (fun s _=>zP (hc:=h1)) Dp.const ?_|refine DQ.does (fun s _=>zP (hc:=h2)) Dp.const ?_|refine DQ.does (fun s _=>r6 rfl rfl h3) Dp.const ?_|refine Dc ?_)
    refine DQ.anil (k:=?_);intro sx _
    repeat (first|refine Ta ?_|(refine Tm ?_;intro _)|refine WO.stores (zw (hc:=hov) (hle:=by rw[zo,hml];simp;omega)) ?_|refine Tc ?_|exact Tz)
    refine WX.metI (i+1) (hs:=⟨by show i+1≤8;omega,by show 8 - (i+1)<8 - i;omega⟩)
   ·have hi8:i=8:=by omega
    subst hi8;have hfull:mxW R S 8=Sha.addW R S:=by have:=eC hRS;rwa [hR8] at this
    have hA8:(Sha.addW R S).length=8:=by rw[yK hRS,hR8]
    rw[hfull];generalize Sha.addW R S=A at *;have hcut:cut (w3C A) 0 8=w3C A:=by unfold cut;rw[List.drop_zero,List.take_of_length_le (by rw[zo,hA8];omega)]
    have hovA:over (w3C [0,0,0,0,0,0,0,0]) 0 (w3C A)=w3C A:=by simp[over,zo,hA8]
    repeat (first|refine Ta ?_|(refine Tm ?_;intro _)|refine WO.does (zq (vs:=w3C A) (hc:=hcut) (hl:=by rw[zo,hA8])) ?_|refine WO.stores (zw (vs:=w3C A) (hl:=by rw[zo,hA8]) (h1:=mR A) (hc:=hovA) (hle:=by rw[zo,hA8];rfl)) ?_|refine Tc ?_|exact Tz)
    exact WX.aret1 (hr:=yU (vs:=w3C A) (hc:=hcut) (hl:=by rw[zo,hA8])) (hp:=rfl)
def vP (s buf:List Nat) (n:Nat):List Value:=[.int .i64 1]++w3C s++(byC buf++[.int .u64 (n:Int)])
theorem nN {A M B y:List Value} {off:Nat} (h:off+y.length≤M.length):over (A++M++B) (A.length+off) y=A++over M off y++B:=by
 unfold over;have h1:(A++M++B).take (A.length+off)=A++M.take off:=by
  rw[List.append_assoc,List.take_append,List.take_of_length_le (by omega),show A.length+off - A.length=off by omega,List.take_append_of_le_length (by omega)]
 have h2:(A++M++B).drop (A.length+off+y.length)=M.drop (off+y.length)++B:=by
  rw[List.append_assoc,List.drop_append,List.drop_of_length_le (by omega),show A.length+off+y.length - A.length=off+y.length by omega,List.drop_append_of_le_length (by omega),List.nil_append]
 rw[h1,h2];simp
theorem bB {A M B:List Value}:cut (A++M++B) A.length M.length=M:=by
 unfold cut;rw[List.append_assoc,List.drop_left,List.take_left]
theorem vb {s buf:List Nat} {n:Nat} (h1:s.length=8) (h2:buf.length=64):(vP s buf n).length=74:=by simp[vP,zo,zf,h1,h2]
theorem aa7 {s buf:List Nat} {n:Nat} (h1:s.length=8):cut (vP s buf n) 1 8=w3C s:=by
 have:=bB (A:=[.int .i64 1]) (M:=w3C s) (B:=byC buf++[.int .u64 (n:Int)]);rwa [zo,h1] at this
theorem bg {s buf:List Nat} {n:Nat} (h1:s.length=8) (h2:buf.length=64):cut (vP s buf n) 9 64=byC buf:=by
 have:=bB (A:=[.int .i64 1]++w3C s) (M:=byC buf) (B:=[.int .u64 (n:Int)]);rw[zf,h2,List.length_append,zo,h1,List.append_assoc _ (byC buf)] at this;exact this
theorem fE {s buf:List Nat} {n:Nat} (h1:s.length=8) (h2:buf.length=64):(vP s buf n)[73]?=some (.int .u64 (n:Int)):=by
 unfold vP;rw[List.getElem?_append_right (by simp[zo,h1]),List.getElem?_append_right (by simp[zo,zf,h1,h2])];simp[zo,zf,h1,h2]
theorem jk {s buf Y:List Nat} {n off:Nat} (h1:s.length=8) (h2:buf.length=64) (h:off+Y.length≤64):over (vP s buf n) (9+off) (byC Y)=vP s (ovN buf off Y) n:=by
 have:=nN (A:=[.int .i64 1]++w3C s) (M:=byC buf) (B:=[.int .u64 (n:Int)]) (y:=byC Y) (off:=off) (by rw[zf,zf];omega);rw[aaS,List.length_append,zo,h1,List.append_assoc _ (byC buf),List.append_assoc _ (byC _)] at this;exact this
theorem dq {s s' buf:List Nat} {n:Nat} (h1:s.length=8) (h2:s'.length=8):over (vP s buf n) 1 (w3C s')=vP s' buf n:=by
 have:=nN (A:=[.int .i64 1]) (M:=w3C s) (B:=byC buf++[.int .u64 (n:Int)]) (y:=w3C s') (off:=0) (by rw[zo,zo];omega);have e:over (w3C s) 0 (w3C s')=w3C s':=by simp[over,zo,h1,h2]
 rw[e] at this;exact this
theorem dS {s buf:List Nat} {n m:Nat} (h1:s.length=8) (h2:buf.length=64):over (vP s buf n) 73 [.int .u64 (m:Int)]=vP s buf m:=by
 have:=nN (A:=[.int .i64 1]++w3C s++byC buf) (M:=[.int .u64 (n:Int)]) (B:=[]) (y:=[.int .u64 (m:Int)]) (off:=0) (by simp);rw[List.length_append,List.length_append,zo,zf,h1,h2] at this;simp only[List.append_nil,List.append_assoc] at this;unfold vP;simp only[List.append_assoc];exact this
theorem aa9 (n:Nat):((n:Nat):Int).tmod 64=((n%64:Nat):Int):=by
 rw[Int.tmod_eq_emod_of_nonneg (by omega)];rfl
theorem take_len {s b:List Nat} (h:s.length=8):(Sha.take s b).length=8:=by
 unfold Sha.take;rw[yK (by rw[vz h,h]),vz h]
theorem gx {r s:List Nat}:∀ x∈Sha.addW r s,x<4294967296:=by
 intro x hx;unfold Sha.addW at hx;obtain⟨i,hi,rfl⟩:=List.getElem_of_mem hx;rw[List.getElem_zipWith];exact Nat.mod_lt _ (by omega)
theorem lM (g c:Nat) (p:Option Addr) (s0 b0:List Nat) (n0:Nat) (X:List Nat) (hX:∀ x∈X,x<256) (hs8:s0.length=8) (hsl:∀ x∈s0,x<4294967296) (hb64:b0.length=64) (hbl:∀ x∈b0,x<256) (hn:n0+X.length≤1152921504606846976) :
  FnM Tryz.prog 120 [pt g,.slice p X.length c] g 180 (vP s0 b0 n0) (vP (wr s0 b0 n0 X).1 (wr s0 b0 n0 X).2.1 (wr s0 b0 n0 X).2.2) (RdN g (.slice p X.length c) X.length (byC X)) (.tuple #[]):=by
 refine FnM.enter Tryz.func120 rfl rfl rfl ?_;intro w hw;generalize hF:wr s0 b0 n0 X=F
 repeat (first|refine Tw ?_|(refine Tm ?_;intro _)|exact Tz)
 refine WC.loopI (σ:=List Nat × List Nat × Nat × Nat × Value) (fun x=>x.2.2.2.1≤X.length∧wr x.1 x.2.1 x.2.2.1 (X.drop x.2.2.2.1)=F∧x.1.length=8∧(∀ y∈x.1,y<4294967296)∧x.2.1.length=64∧(∀ y∈x.2.1,y<256)∧x.2.2.1+(X.length - x.2.2.2.1)≤1152921504606846976∧RdN g x.2.2.2.2 (X.length - x.2.2.2.1) (byC (X.drop x.2.2.2.1)) w)
  (fun x=>[(0,pt g),(1,x.2.2.2.2)]) (fun x=>[⟨g,180,vP x.1 x.2.1 x.2.2.1⟩]) (fun x=>X.length - x.2.2.2.1) (s0,b0,n0,0,.slice p X.length c) (fun x hx=>?_) ⟨Nat.zero_le _,hF,hs8,hsl,hb64,hbl,hn,hw⟩
 obtain⟨s,buf,n,j,v⟩:=x;obtain⟨hj,hwr,h8,hsl,h64,hbl,hn,hv⟩:=hx;dsimp only at hj hwr h8 hsl h64 hbl hn hv ⊢
 by_cases hlt:j<X.length
 ·have hD:X.drop j≠[]:=by intro h;have:=congrArg List.length h;rw[List.length_drop] at this;simp at this;omega
  have hDl:(X.drop j).length=X.length - j:=List.length_drop;have hDb:∀ x∈X.drop j,x<256:=vC hX j;rw[nX hD] at hwr;have hkp:=pR (n:=n) hD;have hkle:wrK n (X.drop j)≤X.length - j:=by unfold wrK;omega
  have hoff:=Nat.mod_lt n (show 0<64 by omega);have hk64:n%64+wrK n (X.drop j)≤64:=by unfold wrK;omega
  have hkd:wrK n (X.drop j)=min (X.length - j) (64 - n%64):=by unfold wrK;rw[hDl]
  rw[List.drop_drop] at hwr;have hYl:((X.drop j).take (wrK n (X.drop j))).length=wrK n (X.drop j):=by rw[List.length_take];omega
  have hYb:=tk hDb (wrK n (X.drop j));have hYt:(byC (X.drop j)).take (wrK n (X.drop j))=byC ((X.drop j).take (wrK n (X.drop j))):=lP _ _;generalize hk:wrK n (X.drop j)=k at *;generalize (X.drop j).take k=Y at *;have hBl:(ovN buf (n%64) Y).length=64:=by rw[qR (by omega),h64]
  have hBb:∀ y∈ovN buf (n%64) Y,y<256:=by
   intro y hy;unfold ovN at hy
   rcases List.mem_append.1 hy with hy|hy
   ·rcases List.mem_append.1 hy with hy|hy
    ·exact hbl y (List.mem_of_mem_take hy)
    ·exact hYb y hy
   ·exact hbl y (List.mem_of_mem_drop hy)
  have hov:=jk (s:=s) (n:=n) h8 h64 (show n%64+Y.length≤64 by omega);generalize hB:ovN buf (n%64) Y=B at *;have hovn:=dS (s:=s) (buf:=B) (n:=n) (m:=n+k) h8 hBl;have hgn:=fE (n:=n) h8 h64;have hgn2:=fE (n:=n) h8 hBl;have hl74:=vb (n:=n) h8 h64;have hl74b:=vb (n:=n) h8 hBl;have hvv:=hv;obtain⟨q,cc,rfl,hcc⟩:=hv;have hnext:=hvv.from (l:=k) (by omega);rw[pu,List.drop_drop,Nat.sub_sub] at hnext;have hrem:((n:Nat):Int).tmod 64=((n%64:Nat):Int):=aa9 n;have hadd:IntKind.u64.wrap ((n:Int)+(k:Int))=((n+k:Nat):Int):=yW (by omega) (by omega) (by omega);have hsum:IntKind.i64.wrap (((n%64:Nat):Int)+(k:Int))=((n%64+k:Nat):Int):=zn (by omega) (by omega) (by omega);have hgt:(((0:Int))<((X.length - j:Nat):Int)):=by omega
  repeat (first|refine Tw ?_|(refine Tm ?_;intro _)|exact Tz)
  refine WC.dT rfl hgt ?_
  repeat (first|refine WO.does (zP (hc:=hgn)) ?_|refine WO.does (zP (hc:=hgn2)) ?_|refine WO.does (zg rfl rfl hadd) ?_|refine WO.does (zg rfl rfl hsum) ?_|refine WO.stores (zw (hc:=hovn) (hle:=by rw[hl74b];rfl)) ?_|refine Ta ?_|(refine Tm ?_;intro _)|refine WO.does (uO rfl rfl (by decide) hrem) ?_|refine WO.does (rL rfl rfl hoff (by rw[Nat.mul_one])) ?_|refine WO.both (rk (st:=52) rfl rfl rfl hvv.rds (by rw[zf,hDl,Nat.mul_one]) (m:=k) hkd.symm (ys:=byC Y) (by rw[Nat.mul_one];exact hYt) (vm Y) .here hov (by rw[hl74,zf];omega) (by decide)) ?_|refine WO.does (rp rfl rfl (by omega)) ?_|refine Tc ?_|exact Tz)
  by_cases hf:n%64+k=64
  ·rw[if_pos hf] at hwr;have hcs:=aa7 (buf:=B) (n:=n+k) h8;have hcb:=bg (n:=n+k) h8 hBl;have htl:=take_len (b:=B) h8;have hovs:=dq (buf:=B) (n:=n+k) h8 htl;have hl74c:=vb (n:=n+k) h8 hBl;obtain⟨s0',s1',s2',s3',s4',s5',s6',s7',rfl⟩:=eight h8;have hT:=abN s0' s1' s2' s3' s4' s5' s6' s7' B hBb hBl hsl;have htlt:∀ x∈Sha.take [s0',s1',s2',s3',s4',s5',s6',s7'] B,x<4294967296:=gx;generalize Sha.take [s0',s1',s2',s3',s4',s5',s6',s7'] B=s' at *;generalize [s0',s1',s2',s3',s4',s5',s6',s7']=sv at *;refine WC.dT rfl (by omega) ?_
   repeat (first|refine Tw ?_|(refine Tm ?_;intro _)|exact Tz)
   refine WC.adraw 12 (k:=?_)
   repeat (first|refine Da ?_|refine DQ.acall (hc:=hT) (k:=?_)|refine DQ.does (fun s _=>zq (vs:=w3C sv) (hc:=hcs) (hl:=by rw[zo,h8])) Dp.const ?_|refine DQ.does (fun s _=>zq (vs:=byC B) (hc:=hcb) (hl:=by rw[zf,hBl])) Dp.const ?_|refine Dc ?_)
   refine DQ.anil (k:=?_);intro sx _
   repeat (first|refine WO.stores (zw (vs:=w3C s') (hl:=by rw[zo,htl]) (h1:=mR s') (hc:=hovs) (hle:=by rw[hl74c,zo,htl];rfl)) ?_|refine Ta ?_|(refine Tm ?_;intro _)|refine Tc ?_|exact Tz)
   refine WX.metI (s',B,n+k,j+k,.slice (aae q cc k 1) (X.length - j - k) (cc - k)) (hs:=⟨⟨by show j+k≤X.length;omega,hwr,htl,htlt,hBl,hBb,by show n+k+(X.length - (j+k))≤_;omega,by rw[Nat.sub_sub];exact hnext⟩,by show X.length - (j+k)<X.length - j;omega⟩)
  ·rw[if_neg hf] at hwr;refine WC.dF rfl (by omega) ?_
   repeat (first|refine Tw ?_|(refine Tm ?_;intro _)|exact Tz)
   refine WX.metI (s,B,n+k,j+k,.slice (aae q cc k 1) (X.length - j - k) (cc - k)) (hs:=⟨⟨by show j+k≤X.length;omega,hwr,h8,hsl,hBl,hBb,by show n+k+(X.length - (j+k))≤_;omega,by rw[Nat.sub_sub];exact hnext⟩,by show X.length - (j+k)<X.length - j;omega⟩)
 ·have hj2:j=X.length:=by omega
  have hdr:X.drop j=[]:=by rw[hj2,List.drop_length]
  rw[hdr,nv] at hwr;obtain⟨q,cc,rfl,hcc⟩:=hv;subst hwr
  repeat (first|refine Tw ?_|(refine Tm ?_;intro _)|exact Tz)
  refine WC.dF rfl (by omega) ?_
  repeat (first|refine Tw ?_|(refine Tm ?_;intro _)|exact Tz)
  exact WX.retM_ofN (acn rfl) Hs.here
section
variable {P:Program} {w0:World} {gs:List Nat} {K:List (Nat × Value)} {L:List Ent}
theorem rr {x y:Operand} {t yt ty e:TypeId} {p:Addr} (hu:P.underlying t=some (.pointer e)) (hx:ev K x=some (.pointer (some p))) (hy:ev K y=some (.pointer none)):Does P w0 gs K L (.binOp .eql t x y yt) ty (.bool false):=by
 intro a w hk _ o ho _;have h1:(eqGuard .eql t x y (.pointer (some p)) (.pointer none)).run P w=.ok () w:=by unfold eqGuard;rfl
 have h4:∀ d,(Op.equalIn (d+1) t (.pointer (some p)) (.pointer none)).run P w=.ok false w:=fun d=>by
  simp[Op.equalIn,underlying,hu]
 have h3:(Op.equalIn 10000 t (.pointer (some p)) (.pointer none)).run P w=.ok false w:=h4 9999;have h2:(binOp .eql t (.pointer (some p)) (.pointer none)).run P w=.ok (.bool false) w:=by
  simp only[binOp,Op.equal,Op.maxDepth,Sem.run_bind,h3,Result.andThen_ok,Sem.run_pure]
 simp only[execOp,ho,hk.eval hx,hk.eval hy,Sem.run_bind,h1,Result.andThen_ok,h2,Sem.run_pure]
end
theorem RdN.mr {g:Nat} {v:Value} {n:Nat} {xs:List Value} {w0 w:World} {L:List Ent} (h:RdN g v n xs w0) (hm:Mr w0 [g] L w):RdN g v n xs w:=by
 obtain⟨p,c,e,h1,h2,h3,h4⟩:=h;exact⟨p,c,e,h1,h2,h3,h4.imp id fun ⟨b,o,e,hb,hs⟩=>⟨b,o,e,hb,hs.mod hm.mod (by simpa using hb)⟩⟩
theorem jK (g c:Nat) (p:Option Addr) (s0 b0:List Nat) (n0:Nat) (X:List Nat) (hX:∀ x∈X,x<256) (hs8:s0.length=8) (hsl:∀ x∈s0,x<4294967296) (hb64:b0.length=64) (hbl:∀ x∈b0,x<256) (hn:n0+X.length≤1152921504606846976) :
  FnM Tryz.prog 69 [pt g,.slice p X.length c] g 180 (vP s0 b0 n0) (vP (wr s0 b0 n0 X).1 (wr s0 b0 n0 X).2.1 (wr s0 b0 n0 X).2.2) (RdN g (.slice p X.length c) X.length (byC X)) (.int .i64 0):=by
 have hW:=lM g c p s0 b0 n0 X hX hs8 hsl hb64 hbl hn;refine FnM.enter Tryz.func69 rfl rfl rfl ?_;intro w hw;generalize vP (wr s0 b0 n0 X).1 (wr s0 b0 n0 X).2.1 (wr s0 b0 n0 X).2.2=cs' at *
 repeat (first|refine Ta ?_|(refine Tm ?_;intro _)|refine WO.does (rr (t:=124) (e:=180) (by kernel_rfl) rfl rfl) ?_|refine Tc ?_|exact Tz)
 refine WO.callM (hc:=hW) rfl Rp.here (fun w' hm=>hw.mr hm) (by decide) ?_ rfl rfl
 repeat (first|refine Tw ?_|(refine Tm ?_;intro _)|exact Tz)
 exact WX.retM_of (il rfl (zr rfl)) Hs.here
theorem cF:Fn Tryz.prog 68 [] Tr (Ex (fun s=>pt (s 0)) (fun s=>[⟨s 0,180,vP Sha.H0 (List.replicate 64 0) 0⟩]) (fun _=>True)):=by
 refine Fn.enter Tryz.func68 rfl rfl rfl ?_;intro w hw
 repeat (first|refine Ta ?_|(refine Tm ?_;intro _)|refine WO.acall (hc:=aK) (k:=?_)|refine WO.does (ub (cs:=vP Sha.H0 (List.replicate 64 0) 0) (h2:=rfl)) ?_|refine Tc ?_|exact Tz)
 rename_i g;exact WX.ret1 rfl (zr rfl) [⟨g,180,vP Sha.H0 (List.replicate 64 0) 0⟩] (Lle.cons Pk.here rfl Lle.nil) ⟨fun _=>g,rfl,rfl,trivial⟩
end Sx
end
end Go.Proofs.YtbhblpnjhkddbaaGreat
