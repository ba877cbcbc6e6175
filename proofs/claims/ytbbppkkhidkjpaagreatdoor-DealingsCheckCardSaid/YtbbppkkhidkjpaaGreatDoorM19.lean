/- Part 19 of the proof. -/
import Derived.Test.YtbbppkkhidkjpaaGreatDoorM18
import Derived.Test.YtbbppkkhidkjpaaGreatDoorM14
set_option linter.unusedSimpArgs false
set_option linter.unusedVariables false
set_option maxHeartbeats 8000000
namespace Go.Proofs.YtbbppkkhidkjpaaGreatDoor
section
open Go Go.RowKit
namespace Sx
attribute [local irreducible] DQ DQS WC WO WX wd
theorem aee (x n:Nat) (hx:x<4294967296) (h0:0<n) (hn:n<32):Fn Tryz.prog 223 [.int .u32 (x:Int),.int .i64 (-((n:Nat):Int))] Tr (Is (.int .u32 ((Sha.rotr n x:Nat):Int))):=by
 have h1:=aa9 h0 hn;have h2:=aep h0 hn;have h3:IntKind.u64.wrap (32 - ((32 - n:Nat):Int))=((n:Nat):Int):=tg (by omega) (by omega) (by omega);have h4:IntKind.u32.wrap (((BitVec.ofInt IntKind.u32.bits ((x*2 ^ (32 - n)%4294967296:Nat):Int) ||| BitVec.ofInt IntKind.u32.bits ((x / 2 ^ n:Nat):Int)).toNat:Nat):Int)=((Sha.rotr n x:Nat):Int):=by
  rw[aay (Nat.mod_lt _ (by omega)) (Nat.lt_of_le_of_lt (Nat.div_le_self _ _) hx),Sha.rotr,Nat.or_comm]
 refine Fn.enter Tryz.func223 rfl rfl rfl ?_;intro w hw
 repeat (first|refine Ta ?_|(refine Tm ?_;intro _)|refine WO.does (zu rfl h1) ?_|refine WO.does (sR rfl rfl h2) ?_|refine WO.does (zA rfl rfl h3) ?_|refine WO.does (uN rfl rfl (by omega) (eH x (32 - n) (by omega))) ?_|refine WO.does (yW rfl rfl (by omega) (uG (by show n≤32;omega))) ?_|refine WO.does (tS rfl rfl h4) ?_|refine Tc ?_|exact Tz)
theorem ao (x b c:Nat) (ns:List Nat) (hx:x<4294967296) (hns:∀ n∈ns,0<n∧n<32) (hl:ns.length≤100) :
  Fn Tryz.prog 218 [.int .u32 (x:Int),.slice (some ⟨b,0,none⟩) ns.length c] (fun w=>Seg w b 0 (inC ns)) (Is (.int .u32 ((oM x ns:Nat):Int))):=by
 refine Fn.enter Tryz.func218 rfl rfl rfl ?_;intro w hw
 repeat (first|refine Tw ?_|(refine Tm ?_;intro _)|exact Tz)
 refine WC.loopI (σ:=Nat) (fun i=>i≤ns.length) (fun i=>[(0,.int .u32 (x:Int)),(4,.int .u32 ((oM x (ns.take i):Nat):Int)),(7,.slice (some ⟨b,0,none⟩) ns.length c),(8,.int .i64 (ns.length:Int)),(9,.int .i64 (i:Int))]) (fun _=>[]) (fun i=>ns.length - i) 0 (fun i hi=>?_) (Nat.zero_le _)
 try dsimp only at hi ⊢
 by_cases hlt:i<ns.length
 ·have hget:(inC ns)[i - 0]?=some (.int .i64 ((ns[i]:Nat):Int)):=by rw[Nat.sub_zero];exact abi hlt
  have hn:=hns _ (List.getElem_mem hlt);have hR:=aee x ns[i] hx hn.1 hn.2;have hnext:oM x (ns.take i) ^^^ Sha.rotr ns[i] x=oM x (ns.take (i+1)):=by rw[List.take_succ_eq_append_getElem hlt,dn]
  have hneg:IntKind.i64.wrap (0 - ((ns[i]:Nat):Int)) = -((ns[i]:Nat):Int):=zl (by omega) (by omega) (by omega);have hxor:=kD (kc hx (ns.take i)) (yv (n:=ns[i]) hx);rw[hnext] at hxor
  repeat (first|refine Tw ?_|(refine Tm ?_;intro _)|exact Tz)
  refine WC.dT rfl (by omega) ?_
  repeat (first|refine Ta ?_|(refine Tm ?_;intro _)|refine WO.acall (hc:=hR) (k:=?_)|(refine WO.does (ii rfl) ?_;rw[hneg])|refine WO.does (j5 rfl rfl hxor) ?_|refine Tc ?_|exact Tz)
  refine WX.metI (i+1) (hs:=⟨by show i+1≤ns.length;omega,by show ns.length - (i+1)<ns.length - i;omega⟩)
 ·have hii:i=ns.length:=by omega
  have hv:oM x (ns.take i)=oM x ns:=by rw[hii,List.take_length]
  rw[hv]
  repeat (first|refine Tw ?_|(refine Tm ?_;intro _)|exact Tz)
  refine WC.dF rfl (by omega) ?_
  repeat (first|refine Tw ?_|(refine Tm ?_;intro _)|exact Tz)
end Sx
end
section
open Go Go.RowKit Go.BigFrame
namespace Sx
attribute [local irreducible] DQ DQS WC WO WX wd
section
open Kp
variable {P:Program} {w0:World} {gs:List Nat} {n:Nat} {fl:List Nat} {Q:Exit→Act→World→Prop} {ops:List Oper} {L0:List Ent}
variable {tail rest:List Oper} {i:Nat} {C:zF→Prop} {K:zF→List (Nat × Value)} {N:zF→List (Nat × Ent)}
variable {d:Nat} {op:Op} {ty:TypeId} {pos:String} {after:Array Edge} {gd:Option (Nat × Bool)}
theorem DQ.acallB {f:FuncId} [Cal P f] {xs:Array Operand} {ats:Array TypeId} {vs:zF→List Value} {R:zF→World→Prop} {v:Value} (j:Nat) (e:zF→Ent) (hc:∀ s,Fn P f (vs s) (R s) (Is v)) (hR:∀ s w,Mr w0 gs (e s::L0) w→R s w)
  (k:DQ P w0 gs n fl Q ops L0 tail (i+1) rest C (fun s=>(d,v)::K s) N) (ha:∀ s,evs (K s) xs.toList=some (vs s):=by (intro s;rfl)) (hm:∀ s,(j,e s)∈N s:=by (intro s;repeat (first|exact .head _|apply List.Mem.tail)))
  (hanc:anc ops i j=true:=by decide +kernel) (hfl:fl.contains i=false:=by rfl) (hw:∀ s,wk ops (K s) gd=some true:=by intro _;rfl) (hd:Nat.blt d n=true:=by rfl) :
  DQ P w0 gs n fl Q ops L0 tail i (⟨some d,.call { callee:=.value (.func f),args:=xs,argTypes:=ats },ty,pos,after,gd⟩::rest) C K N :=
 DQ.callE (v:=fun _=>v) (fun s=>[e s]) (fun s=>.cons j (hm s) hanc .nil) (fun s _=>hc s) ha (fun s _ w h=>hR s w h) Dp.const k hfl hw hd
end
theorem abF:Fn Tryz.prog 149 [] Tr (Is (.agg (w3C Sha.H0).toArray)):=by
 refine Fn.enter Tryz.func149 rfl rfl rfl ?_;intro w hw
 repeat (first|refine Tw ?_|(refine Tm ?_;intro _)|exact Tz)
set_option maxRecDepth 100000 in
theorem abD:Fn Tryz.prog 219 [] Tr (Is (.agg (w3C Sha.K).toArray)):=by
 refine Fn.enter Tryz.func219 rfl rfl rfl ?_;intro w hw
 repeat (first|refine Ta ?_|(refine Tm ?_;intro _)|refine WO.does (zM (cs:=w3C Sha.K) rfl rfl (by kernel_rfl)) ?_|refine Tc ?_|exact Tz)
theorem adm (s0 s1 s2 s3 s4 s5 s6 s7:Nat) (b:List Nat) (hb:∀ x∈b,x<256) (hbl:b.length=64) (hs:∀ x∈[s0,s1,s2,s3,s4,s5,s6,s7],x<4294967296) :
  Fn Tryz.prog 196 [.agg (w3C [s0,s1,s2,s3,s4,s5,s6,s7]).toArray,.agg (byC b).toArray] Tr (Is (.agg (w3C (Sha.take [s0,s1,s2,s3,s4,s5,s6,s7] b)).toArray)):=by
 generalize hS:[s0,s1,s2,s3,s4,s5,s6,s7]=S at *;have hS8:S.length=8:=by rw[← hS];rfl
 refine Fn.enter Tryz.func196 rfl rfl rfl ?_;intro w hw
 repeat (first|refine Tw ?_|(refine Tm ?_;intro _)|exact Tz)
 rename_i g2 g3 g4 g5
 refine WC.loopI (σ:=Nat) (fun i=>i≤64) (fun i=>[(2,pt g2),(3,pt g3),(4,pt g4),(5,pt g5),(22,.int .i64 (i:Int))])
  (fun i=>[⟨g2,174,w3C S⟩,⟨g3,176,byC b⟩,⟨g4,174,w3C [0,0,0,0,0,0,0,0]⟩,⟨g5,226,jP (Sha.words b i) 64⟩]) (fun i=>64 - i) 0 (fun i hi=>?_) (Nat.zero_le _)
 try dsimp only at hi ⊢
 by_cases hlt:i<64
 ·have hwl:=y8 b i;have hwords:Sha.words b (i+1)=Sha.words b i++[if i<16 then Sha.w16 b i else Sha.wnext (Sha.words b i) i]:=rfl
  repeat (first|refine Tw ?_|(refine Tm ?_;intro _)|exact Tz)
  refine WC.dT rfl (by omega) ?_
  repeat (first|refine Tw ?_|(refine Tm ?_;intro _)|exact Tz)
  by_cases h16:i<16
  ·rw[if_pos h16] at hwords;have hm4:IntKind.i64.wrap (4*(i:Int))=((4*i:Nat):Int):=zl (by omega) (by omega) (by omega);have ha1:IntKind.i64.wrap (((4*i:Nat):Int)+1)=((4*i+1:Nat):Int):=zl (by omega) (by omega) (by omega);have ha2:IntKind.i64.wrap (((4*i:Nat):Int)+2)=((4*i+2:Nat):Int):=zl (by omega) (by omega) (by omega);have ha3:IntKind.i64.wrap (((4*i:Nat):Int)+3)=((4*i+3:Nat):Int):=zl (by omega) (by omega) (by omega);have hb0:=se (b:=b) (i:=4*i) (by omega);have hb1:=se (b:=b) (i:=4*i+1) (by omega);have hb2:=se (b:=b) (i:=4*i+2) (by omega);have hb3:=se (b:=b) (i:=4*i+3) (by omega);have hl0:=getD_lt hb (by omega) (4*i);have hl1:=getD_lt hb (by omega) (4*i+1);have hl2:=getD_lt hb (by omega) (4*i+2);have hl3:=getD_lt hb (by omega) (4*i+3);have hw16:Sha.w16 b i=b.getD (4*i) 0*16777216+b.getD (4*i+1) 0*65536+b.getD (4*i+2) 0*256+b.getD (4*i+3) 0:=rfl;rw[hw16] at hwords;generalize b.getD (4*i) 0=b0 at *;generalize b.getD (4*i+1) 0=b1 at *;generalize b.getD (4*i+2) 0=b2 at *;generalize b.getD (4*i+3) 0=b3 at *;have hs0:=ji b0 24 24 rfl (by omega);have hs1:=ji b1 16 16 rfl (by omega);have hs2:=ji b2 8 8 rfl (by omega);rw[show b0*2 ^ 24%4294967296=b0*16777216 by omega] at hs0;rw[show b1*2 ^ 16%4294967296=b1*65536 by omega] at hs1;rw[show b2*2 ^ 8%4294967296=b2*256 by omega] at hs2;have ho1:=bj (a:=b0*16777216) (b:=b1*65536) (by omega) (by omega);have ho1l:=jn (a:=b0*16777216) (b:=b1*65536) (by omega) (by omega);have ho2:=bj (b:=b2*256) ho1l (by omega);have ho2l:=jn (b:=b2*256) ho1l (by omega);have ho3:=bj (b:=b3) ho2l (by omega);rw[eE b0 b1 b2 b3 hl1 hl2 hl3] at ho3;have hov:=sn (l:=Sha.words b i) (n:=64) (x:=b0*16777216+b1*65536+b2*256+b3) (by omega);rw[hwl,← hwords] at hov;refine WC.dT rfl (by omega) ?_
   repeat (first|refine Tw ?_|(refine Tm ?_;intro _)|exact Tz)
   refine WC.adraw 31 (k:=?_)
   repeat (first|refine Da ?_|refine DQ.does (fun s _=>z6 rfl rfl hm4) Dp.const ?_|refine DQ.does (fun s _=>zh rfl rfl ha1) Dp.const ?_|refine DQ.does (fun s _=>zh rfl rfl ha2) Dp.const ?_|refine DQ.does (fun s _=>zh rfl rfl ha3) Dp.const ?_|refine DQ.does (fun s _=>zJ (hc:=hb0)) Dp.const ?_|refine DQ.does (fun s _=>zJ (hc:=hb1)) Dp.const ?_|refine DQ.does (fun s _=>zJ (hc:=hb2)) Dp.const ?_|refine DQ.does (fun s _=>zJ (hc:=hb3)) Dp.const ?_|refine DQ.does (fun s _=>kX rfl rfl hs0 (by decide)) Dp.const ?_|refine DQ.does (fun s _=>kX rfl rfl hs1 (by decide)) Dp.const ?_|refine DQ.does (fun s _=>kX rfl rfl hs2 (by decide)) Dp.const ?_|refine DQ.does (fun s _=>bT rfl rfl ho1) Dp.const ?_|refine DQ.does (fun s _=>bT rfl rfl ho2) Dp.const ?_|refine DQ.does (fun s _=>bT rfl rfl ho3) Dp.const ?_|refine Dc ?_)
   refine DQ.anil (k:=?_);intro sx _
   repeat (first|refine Ta ?_|(refine Tm ?_;intro _)|refine WO.stores (zB (hc:=hov) (hle:=by rw[uP (by omega)];simp;omega)) ?_|refine Tc ?_|exact Tz)
   refine WX.metI (i+1) (hs:=⟨by show i+1≤64;omega,by show 64 - (i+1)<64 - i;omega⟩)
  ·rw[if_neg h16] at hwords;have hc15:IntKind.i64.wrap ((i:Int) - 15)=((i - 15:Nat):Int):=zl (by omega) (by omega) (by omega);have hc2:IntKind.i64.wrap ((i:Int) - 2)=((i - 2:Nat):Int):=zl (by omega) (by omega) (by omega);have hc16:IntKind.i64.wrap ((i:Int) - 16)=((i - 16:Nat):Int):=zl (by omega) (by omega) (by omega);have hc7:IntKind.i64.wrap ((i:Int) - 7)=((i - 7:Nat):Int):=zl (by omega) (by omega) (by omega);have hwlt:=sj hb i;have hx15:=ul (n:=64) (getD_get (l:=Sha.words b i) (i:=i - 15) (by omega));have hx2:=ul (n:=64) (getD_get (l:=Sha.words b i) (i:=i - 2) (by omega));have hx16:=ul (n:=64) (getD_get (l:=Sha.words b i) (i:=i - 16) (by omega));have hx7:=ul (n:=64) (getD_get (l:=Sha.words b i) (i:=i - 7) (by omega));have hl15:=getD_lt hwlt (by omega) (i - 15);have hl2:=getD_lt hwlt (by omega) (i - 2);have hwn:Sha.wnext (Sha.words b i) i=((Sha.words b i).getD (i - 16) 0+(Sha.words b i).getD (i - 7) 0+Sha.sig0 ((Sha.words b i).getD (i - 15) 0)+Sha.sig1 ((Sha.words b i).getD (i - 2) 0))%4294967296:=rfl;rw[hwn] at hwords;generalize (Sha.words b i).getD (i - 15) 0=x15 at *;generalize (Sha.words b i).getD (i - 2) 0=x2 at *;generalize (Sha.words b i).getD (i - 16) 0=x16 at *;generalize (Sha.words b i).getD (i - 7) 0=x7 at *;have hq1:=ui x16 x7;have hq2:=d6 x15 3 3 rfl (by omega);have hq3:=tQ (kc hl15 [7,18]) (Nat.lt_of_le_of_lt (Nat.div_le_self x15 (2 ^ 3)) hl15);rw[show oM x15 [7,18] ^^^ x15 / 2 ^ 3=Sha.sig0 x15 from cU] at hq3;have hq4:=ui ((x16+x7)%4294967296) (Sha.sig0 x15);have hq5:=d6 x2 10 10 rfl (by omega);have hq6:=tQ (kc hl2 [17,19]) (Nat.lt_of_le_of_lt (Nat.div_le_self x2 (2 ^ 10)) hl2);rw[show oM x2 [17,19] ^^^ x2 / 2 ^ 10=Sha.sig1 x2 from aao] at hq6;have hq7:=ui (((x16+x7)%4294967296+Sha.sig0 x15)%4294967296) (Sha.sig1 x2);rw[show ((((x16+x7)%4294967296+Sha.sig0 x15)%4294967296)+Sha.sig1 x2)%4294967296=(x16+x7+Sha.sig0 x15+Sha.sig1 x2)%4294967296 by omega] at hq7;have hm1:=fun g=>ao x15 g 2 [7,18] hl15 (by decide) (by decide);have hm2:=fun g=>ao x2 g 2 [17,19] hl2 (by decide) (by decide);have hov:=sn (l:=Sha.words b i) (n:=64) (x:=(x16+x7+Sha.sig0 x15+Sha.sig1 x2)%4294967296) (by omega);rw[hwl,← hwords] at hov;refine WC.dF rfl (by omega) ?_
   repeat (first|refine Tw ?_|(refine Tm ?_;intro _)|exact Tz)
   refine WC.adraw 10 (k:=?_)
   repeat (first|refine Da ?_|refine DQ.does (fun s _=>zA rfl rfl hc15) Dp.const ?_|refine DQ.does (fun s _=>zA rfl rfl hc2) Dp.const ?_|refine DQ.does (fun s _=>zJ (hc:=hx15)) Dp.const ?_|refine DQ.does (fun s _=>zJ (hc:=hx2)) Dp.const ?_|refine Dc ?_)
   refine DQ.anil (k:=?_);intro sx _
   repeat (first|refine Tw ?_|(refine Tm ?_;intro _)|exact Tz)
   refine WC.adraw 25 (k:=?_)
   repeat (first|refine Da ?_|refine DQ.does (fun s _=>zA rfl rfl hc16) Dp.const ?_|refine DQ.does (fun s _=>zA rfl rfl hc7) Dp.const ?_|refine DQ.does (fun s _=>zJ (hc:=hx16)) Dp.const ?_|refine DQ.does (fun s _=>zJ (hc:=hx7)) Dp.const ?_|refine DQ.does (fun s _=>ug rfl rfl hq1) Dp.const ?_|refine DQ.does (fun s _=>ug rfl rfl hq4) Dp.const ?_|refine DQ.does (fun s _=>ug rfl rfl hq7) Dp.const ?_|refine DQ.does (fun s _=>eO rfl rfl hq2 (by decide)) Dp.const ?_|refine DQ.does (fun s _=>eO rfl rfl hq5 (by decide)) Dp.const ?_|refine DQ.does (fun s _=>tL rfl rfl hq3) Dp.const ?_|refine DQ.does (fun s _=>tL rfl rfl hq6) Dp.const ?_|refine DQ.makes (fun s _=>ze (cs:=inC [7,18]) rfl (by decide) rfl) Dp.const Dp.const ?_|refine DQ.makes (fun s _=>ze (cs:=inC [17,19]) rfl (by decide) rfl) Dp.const Dp.const ?_|refine DQ.acallB 11 (fun s=>⟨s 11 0,3,inC [7,18]⟩) (fun s=>hm1 (s 11 0)) (fun s w hm=>Hs.here.seg hm) ?_|refine DQ.acallB 18 (fun s=>⟨s 18 0,3,inC [17,19]⟩) (fun s=>hm2 (s 18 0)) (fun s w hm=>Hs.here.seg hm) ?_|refine Dc ?_)
   refine DQ.anil (k:=?_);intro sx _
   repeat (first|refine Ta ?_|(refine Tm ?_;intro _)|refine WO.stores (zB (hc:=hov) (hle:=by rw[uP (by omega)];simp;omega)) ?_|refine Tc ?_|exact Tz)
   refine WX.metI (i+1) (hs:=⟨by show i+1≤64;omega,by show 64 - (i+1)<64 - i;omega⟩)
 ·have hi64:i=64:=by omega
  subst hi64;have hWl:=y8 b 64;have hWlt:=sj hb 64;have hwp:jP (Sha.words b 64) 64=w3C (Sha.words b 64):=by unfold jP;rw[hWl];simp
  have htk:Sha.take S b=Sha.addW (Sha.rnds S (Sha.words b 64) 64) S:=rfl;rw[hwp,htk];generalize Sha.words b 64=W at *;have hcut:cut (w3C S) 0 8=w3C S:=by unfold cut;rw[List.drop_zero,List.take_of_length_le (by rw[zm,hS8];omega)]
  have hov8:over [.int .u32 0,.int .u32 0,.int .u32 0,.int .u32 0,.int .u32 0,.int .u32 0,.int .u32 0,.int .u32 0] 0 (w3C S)=w3C S:=by simp[over,zm,hS8]
  repeat (first|refine Ta ?_|(refine Tm ?_;intro _)|refine WO.does (zz (vs:=w3C S) (hc:=hcut) (hl:=by rw[zm,hS8])) ?_|refine WO.stores (zB (vs:=w3C S) (hl:=by rw[zm,hS8]) (h1:=rb S) (hc:=hov8) (hle:=by rw[zm,hS8];rfl)) ?_|refine WO.acall (hc:=abD) (k:=?_)|refine Tc ?_|exact Tz)
  rename_i g9
  refine WC.loopI (σ:=Nat) (fun i=>i≤64) (fun i=>[(2,pt g2),(4,pt g4),(5,pt g5),(9,pt g9),(93,.agg (w3C Sha.K).toArray),(94,.int .i64 (i:Int))])
   (fun i=>[⟨g2,174,w3C S⟩,⟨g4,174,w3C [0,0,0,0,0,0,0,0]⟩,⟨g5,226,w3C W⟩,⟨g9,174,w3C (Sha.rnds S W i)⟩]) (fun i=>64 - i) 0 (fun i hi=>?_) (Nat.zero_le _)
  try dsimp only at hi ⊢
  by_cases hlt:i<64
  ·have hr8:=y5 (w:=W) hS8 i;have hrl:=jq (w:=W) hs hS8 i;have hnext:Sha.rnds S W (i+1)=Sha.rnd (Sha.rnds S W i) (Sha.K.getD i 0) (W.getD i 0):=rfl;have hk:=uV (getD_get (l:=Sha.K) (i:=i) (by show i<64;exact hlt));have hw0:=uV (getD_get (l:=W) (i:=i) (by omega));obtain⟨a,bb,c,d,e,f,g,h,hr⟩:=eight hr8;rw[hr] at hnext hrl;have hla:a<4294967296:=hrl a (by simp);have hlb:bb<4294967296:=hrl bb (by simp);have hlc:c<4294967296:=hrl c (by simp);have hle:e<4294967296:=hrl e (by simp);have hlf:f<4294967296:=hrl f (by simp);have hlg:g<4294967296:=hrl g (by simp);clear hrl;generalize Sha.K.getD i 0=k at *;generalize W.getD i 0=x at *;have hm1:=fun q=>ao e q 3 [6,11,25] hle (by decide) (by decide);have hm2:=fun q=>ao a q 3 [2,13,22] hla (by decide) (by decide);rw[aP] at hm1;rw[aK] at hm2;have hq1:=ui h (Sha.Sig1 e);have hq2:=tQ hlf hlg;have hq3:=nq hle (rR hlf hlg);have hq4:=tQ hlg (uo (b:=f ^^^ g) hle);rw[show g ^^^ e &&& (f ^^^ g)=Sha.ch e f g from rfl] at hq4;have hq5:=ui ((h+Sha.Sig1 e)%4294967296) (Sha.ch e f g);have hq6:=ui (((h+Sha.Sig1 e)%4294967296+Sha.ch e f g)%4294967296) k;have hq7:=ui ((((h+Sha.Sig1 e)%4294967296+Sha.ch e f g)%4294967296+k)%4294967296) x;rw[show (((((h+Sha.Sig1 e)%4294967296+Sha.ch e f g)%4294967296+k)%4294967296)+x)%4294967296=(h+Sha.Sig1 e+Sha.ch e f g+k+x)%4294967296 by omega] at hq7;have hst:Sha.rnd [a,bb,c,d,e,f,g,h] k x=[((h+Sha.Sig1 e+Sha.ch e f g+k+x)%4294967296+Sha.Sig0 a+Sha.maj a bb c)%4294967296,a,bb,c,(d+(h+Sha.Sig1 e+Sha.ch e f g+k+x)%4294967296)%4294967296,e,f,g]:=rfl;rw[hst] at hnext;generalize (h+Sha.Sig1 e+Sha.ch e f g+k+x)%4294967296=T at *;have hp1:=ui T (Sha.Sig0 a);have hp2:=nq hla hlb;have hp3:=nq hla hlc;have hp4:=tQ (uo (b:=bb) hla) (uo (b:=c) hla);have hp5:=nq hlb hlc;have hp6:=tQ (rR (uo (b:=bb) hla) (uo (b:=c) hla)) (uo (b:=c) hlb);rw[show a &&& bb ^^^ a &&& c ^^^ bb &&& c=Sha.maj a bb c from rfl] at hp6;have hp7:=ui ((T+Sha.Sig0 a)%4294967296) (Sha.maj a bb c);rw[show ((T+Sha.Sig0 a)%4294967296+Sha.maj a bb c)%4294967296=(T+Sha.Sig0 a+Sha.maj a bb c)%4294967296 by omega] at hp7;have hp8:=ui d T;have hov:over [.int .u32 (a:Int),.int .u32 (bb:Int),.int .u32 (c:Int),.int .u32 (d:Int),.int .u32 (e:Int),.int .u32 (f:Int),.int .u32 (g:Int),.int .u32 (h:Int)] 0 (w3C [(T+Sha.Sig0 a+Sha.maj a bb c)%4294967296,a,bb,c,(d+T)%4294967296,e,f,g])=w3C (Sha.rnds S W (i+1)):=by rw[hnext];rfl
   rw[hr,show w3C [a,bb,c,d,e,f,g,h]=[.int .u32 (a:Int),.int .u32 (bb:Int),.int .u32 (c:Int),.int .u32 (d:Int),.int .u32 (e:Int),.int .u32 (f:Int),.int .u32 (g:Int),.int .u32 (h:Int)] from rfl]
   repeat (first|refine Tw ?_|(refine Tm ?_;intro _)|exact Tz)
   refine WC.dT rfl (by omega) ?_
   repeat (first|refine Ta ?_|(refine Tm ?_;intro _)|refine WO.does (kJ rfl rfl hlt rfl hk) ?_|refine Tc ?_|exact Tz)
   refine WC.adraw 24 (k:=?_)
   repeat (first|refine Da ?_|refine Dc ?_)
   refine DQ.anil (k:=?_);intro sx _
   repeat (first|refine Tw ?_|(refine Tm ?_;intro _)|exact Tz)
   refine WC.adraw 20 (k:=?_)
   repeat (first|refine Da ?_|refine DQ.does (fun s _=>ug rfl rfl hq1) Dp.const ?_|refine DQ.does (fun s _=>ug rfl rfl hq5) Dp.const ?_|refine DQ.does (fun s _=>ug rfl rfl hq6) Dp.const ?_|refine DQ.does (fun s _=>ug rfl rfl hq7) Dp.const ?_|refine DQ.does (fun s _=>tL rfl rfl hq2) Dp.const ?_|refine DQ.does (fun s _=>o6 rfl rfl hq3) Dp.const ?_|refine DQ.does (fun s _=>tL rfl rfl hq4) Dp.const ?_|refine DQ.does (fun s _=>zJ (hc:=hw0)) Dp.const ?_|refine DQ.makes (fun s _=>ze (cs:=inC [6,11,25]) rfl (by decide) rfl) Dp.const Dp.const ?_|refine DQ.acallB 2 (fun s=>⟨s 2 0,3,inC [6,11,25]⟩) (fun s=>hm1 (s 2 0)) (fun s w hm=>Hs.here.seg hm) ?_|refine Dc ?_)
   refine DQ.anil (k:=?_);intro sx _
   repeat (first|refine WO.stores (zB (vs:=w3C [(T+Sha.Sig0 a+Sha.maj a bb c)%4294967296,a,bb,c,(d+T)%4294967296,e,f,g]) (hc:=hov)) ?_|refine Ta ?_|(refine Tm ?_;intro _)|refine WO.does (ug rfl rfl hp1) ?_|refine WO.does (ug rfl rfl hp7) ?_|refine WO.does (ug rfl rfl hp8) ?_|refine WO.does (o6 rfl rfl hp2) ?_|refine WO.does (o6 rfl rfl hp3) ?_|refine WO.does (o6 rfl rfl hp5) ?_|refine WO.does (tL rfl rfl hp4) ?_|refine WO.does (tL rfl rfl hp6) ?_|(refine WO.makes (ze (cs:=inC [2,13,22]) rfl (by decide) rfl) ?_;intro q)|refine WO.acallR (hc:=hm2 _) (hR:=fun w' hm=>Hs.here.seg hm) (k:=?_)|refine WO.does (zM (cs:=w3C [(T+Sha.Sig0 a+Sha.maj a bb c)%4294967296,a,bb,c,(d+T)%4294967296,e,f,g]) rfl rfl rfl) ?_|refine Tc ?_|exact Tz)
   refine WX.metI (i+1) (hs:=⟨by show i+1≤64;omega,by show 64 - (i+1)<64 - i;omega⟩)
  ·have hi64:i=64:=by omega
   subst hi64;have hR8:=y5 (w:=W) hS8 64;generalize Sha.rnds S W 64=R at *;have hRS:R.length=S.length:=by omega
   have hR0:w3C R=w3C (mxW R S 0):=by simp[mxW]
   rw[hR0]
   repeat (first|refine Tw ?_|(refine Tm ?_;intro _)|exact Tz)
   refine WC.loopI (σ:=Nat) (fun i=>i≤8) (fun i=>[(2,pt g2),(4,pt g4),(9,pt g9),(161,.int .i64 (i:Int))])
    (fun i=>[⟨g2,174,w3C S⟩,⟨g4,174,w3C [0,0,0,0,0,0,0,0]⟩,⟨g9,174,w3C (mxW R S i)⟩]) (fun i=>8 - i) 0 (fun i hi=>?_) (Nat.zero_le _)
   try dsimp only at hi ⊢
   by_cases hlt:i<8
   ·have h1:=fS hRS (i:=i) (by omega);have h2:=uV (getD_get (l:=S) (i:=i) (by omega));have h3:=ui (R.getD i 0) (S.getD i 0);have hov:=ij hRS (i:=i) (by omega);have hml:(mxW R S i).length=8:=by unfold mxW;rw[List.length_append,List.length_take,List.length_drop,yw hRS];omega
    generalize R.getD i 0=r at *;generalize S.getD i 0=y at *
    repeat (first|refine Tw ?_|(refine Tm ?_;intro _)|exact Tz)
    refine WC.dT rfl (by omega) ?_
    repeat (first|refine Tw ?_|(refine Tm ?_;intro _)|exact Tz)
    refine WC.adraw 8 (k:=?_)
    repeat (first|refine Da ?_|refine DQ.does (fun s _=>zJ (hc:=h1)) Dp.const ?_|refine DQ.does (fun s _=>zJ (hc:=h2)) Dp.const ?_|refine DQ.does (fun s _=>ug rfl rfl h3) Dp.const ?_|refine Dc ?_)
    refine DQ.anil (k:=?_);intro sx _
    repeat (first|refine Ta ?_|(refine Tm ?_;intro _)|refine WO.stores (zB (hc:=hov) (hle:=by rw[zm,hml];simp;omega)) ?_|refine Tc ?_|exact Tz)
    refine WX.metI (i+1) (hs:=⟨by show i+1≤8;omega,by show 8 - (i+1)<8 - i;omega⟩)
   ·have hi8:i=8:=by omega
    subst hi8;have hfull:mxW R S 8=Sha.addW R S:=by have:=ju hRS;rwa [hR8] at this
    have hA8:(Sha.addW R S).length=8:=by rw[yw hRS,hR8]
    rw[hfull];generalize Sha.addW R S=A at *;have hcut:cut (w3C A) 0 8=w3C A:=by unfold cut;rw[List.drop_zero,List.take_of_length_le (by rw[zm,hA8];omega)]
    have hovA:over (w3C [0,0,0,0,0,0,0,0]) 0 (w3C A)=w3C A:=by simp[over,zm,hA8]
    repeat (first|refine Ta ?_|(refine Tm ?_;intro _)|refine WO.does (zz (vs:=w3C A) (hc:=hcut) (hl:=by rw[zm,hA8])) ?_|refine WO.stores (zB (vs:=w3C A) (hl:=by rw[zm,hA8]) (h1:=rb A) (hc:=hovA) (hle:=by rw[zm,hA8];rfl)) ?_|refine Tc ?_|exact Tz)
    exact WX.aret1 (hr:=uh (vs:=w3C A) (hc:=hcut) (hl:=by rw[zm,hA8])) (hp:=rfl)
def uj (s buf:List Nat) (n:Nat):List Value:=[.int .i64 1]++w3C s++(byC buf++[.int .u64 (n:Int)])
theorem kK {A M B y:List Value} {off:Nat} (h:off+y.length≤M.length):over (A++M++B) (A.length+off) y=A++over M off y++B:=by
 unfold over;have h1:(A++M++B).take (A.length+off)=A++M.take off:=by
  rw[List.append_assoc,List.take_append,List.take_of_length_le (by omega),show A.length+off - A.length=off by omega,List.take_append_of_le_length (by omega)]
 have h2:(A++M++B).drop (A.length+off+y.length)=M.drop (off+y.length)++B:=by
  rw[List.append_assoc,List.drop_append,List.drop_of_length_le (by omega),show A.length+off+y.length - A.length=off+y.length by omega,List.drop_append_of_le_length (by omega),List.nil_append]
 rw[h1,h2];simp
theorem aaK {A M B:List Value}:cut (A++M++B) A.length M.length=M:=by
 unfold cut;rw[List.append_assoc,List.drop_left,List.take_left]
theorem vw {s buf:List Nat} {n:Nat} (h1:s.length=8) (h2:buf.length=64):(uj s buf n).length=74:=by simp[uj,zm,zd,h1,h2]
theorem adx {s buf:List Nat} {n:Nat} (h1:s.length=8):cut (uj s buf n) 1 8=w3C s:=by
 have:=aaK (A:=[.int .i64 1]) (M:=w3C s) (B:=byC buf++[.int .u64 (n:Int)]);rwa [zm,h1] at this
theorem bd {s buf:List Nat} {n:Nat} (h1:s.length=8) (h2:buf.length=64):cut (uj s buf n) 9 64=byC buf:=by
 have:=aaK (A:=[.int .i64 1]++w3C s) (M:=byC buf) (B:=[.int .u64 (n:Int)]);rw[zd,h2,List.length_append,zm,h1,List.append_assoc _ (byC buf)] at this;exact this
theorem de {s buf:List Nat} {n:Nat} (h1:s.length=8) (h2:buf.length=64):(uj s buf n)[73]?=some (.int .u64 (n:Int)):=by
 unfold uj;rw[List.getElem?_append_right (by simp[zm,h1]),List.getElem?_append_right (by simp[zm,zd,h1,h2])];simp[zm,zd,h1,h2]
theorem i2 {s buf Y:List Nat} {n off:Nat} (h1:s.length=8) (h2:buf.length=64) (h:off+Y.length≤64):over (uj s buf n) (9+off) (byC Y)=uj s (ovN buf off Y) n:=by
 have:=kK (A:=[.int .i64 1]++w3C s) (M:=byC buf) (B:=[.int .u64 (n:Int)]) (y:=byC Y) (off:=off) (by rw[zd,zd];omega);rw[abT,List.length_append,zm,h1,List.append_assoc _ (byC buf),List.append_assoc _ (byC _)] at this;exact this
theorem aV {s s' buf:List Nat} {n:Nat} (h1:s.length=8) (h2:s'.length=8):over (uj s buf n) 1 (w3C s')=uj s' buf n:=by
 have:=kK (A:=[.int .i64 1]) (M:=w3C s) (B:=byC buf++[.int .u64 (n:Int)]) (y:=w3C s') (off:=0) (by rw[zm,zm];omega);have e:over (w3C s) 0 (w3C s')=w3C s':=by simp[over,zm,h1,h2]
 rw[e] at this;exact this
theorem aJ {s buf:List Nat} {n m:Nat} (h1:s.length=8) (h2:buf.length=64):over (uj s buf n) 73 [.int .u64 (m:Int)]=uj s buf m:=by
 have:=kK (A:=[.int .i64 1]++w3C s++byC buf) (M:=[.int .u64 (n:Int)]) (B:=[]) (y:=[.int .u64 (m:Int)]) (off:=0) (by simp);rw[List.length_append,List.length_append,zm,zd,h1,h2] at this;simp only[List.append_nil,List.append_assoc] at this;unfold uj;simp only[List.append_assoc];exact this
theorem ads (n:Nat):((n:Nat):Int).tmod 64=((n%64:Nat):Int):=by
 rw[Int.tmod_eq_emod_of_nonneg (by omega)];rfl
theorem take_len {s b:List Nat} (h:s.length=8):(Sha.take s b).length=8:=by
 unfold Sha.take;rw[yw (by rw[y5 h,h]),y5 h]
theorem eT {r s:List Nat}:∀ x∈Sha.addW r s,x<4294967296:=by
 intro x hx;unfold Sha.addW at hx;obtain⟨i,hi,rfl⟩:=List.getElem_of_mem hx;rw[List.getElem_zipWith];exact Nat.mod_lt _ (by omega)
theorem jA (g c:Nat) (p:Option Addr) (s0 b0:List Nat) (n0:Nat) (X:List Nat) (hX:∀ x∈X,x<256) (hs8:s0.length=8) (hsl:∀ x∈s0,x<4294967296) (hb64:b0.length=64) (hbl:∀ x∈b0,x<256) (hn:n0+X.length≤1152921504606846976) :
  FnM Tryz.prog 150 [pt g,.slice p X.length c] g 178 (uj s0 b0 n0) (uj (wr s0 b0 n0 X).1 (wr s0 b0 n0 X).2.1 (wr s0 b0 n0 X).2.2) (RdN g (.slice p X.length c) X.length (byC X)) (.tuple #[]):=by
 refine FnM.enter Tryz.func150 rfl rfl rfl ?_;intro w hw;generalize hF:wr s0 b0 n0 X=F
 repeat (first|refine Tw ?_|(refine Tm ?_;intro _)|exact Tz)
 refine WC.loopI (σ:=List Nat × List Nat × Nat × Nat × Value) (fun x=>x.2.2.2.1≤X.length∧wr x.1 x.2.1 x.2.2.1 (X.drop x.2.2.2.1)=F∧x.1.length=8∧(∀ y∈x.1,y<4294967296)∧x.2.1.length=64∧(∀ y∈x.2.1,y<256)∧x.2.2.1+(X.length - x.2.2.2.1)≤1152921504606846976∧RdN g x.2.2.2.2 (X.length - x.2.2.2.1) (byC (X.drop x.2.2.2.1)) w)
  (fun x=>[(0,pt g),(1,x.2.2.2.2)]) (fun x=>[⟨g,178,uj x.1 x.2.1 x.2.2.1⟩]) (fun x=>X.length - x.2.2.2.1) (s0,b0,n0,0,.slice p X.length c) (fun x hx=>?_) ⟨Nat.zero_le _,hF,hs8,hsl,hb64,hbl,hn,hw⟩
 obtain⟨s,buf,n,j,v⟩:=x;obtain⟨hj,hwr,h8,hsl,h64,hbl,hn,hv⟩:=hx;dsimp only at hj hwr h8 hsl h64 hbl hn hv ⊢
 by_cases hlt:j<X.length
 ·have hD:X.drop j≠[]:=by intro h;have:=congrArg List.length h;rw[List.length_drop] at this;simp at this;omega
  have hDl:(X.drop j).length=X.length - j:=List.length_drop;have hDb:∀ x∈X.drop j,x<256:=yz hX j;rw[jl hD] at hwr;have hkp:=ml (n:=n) hD;have hkle:wrK n (X.drop j)≤X.length - j:=by unfold wrK;omega
  have hoff:=Nat.mod_lt n (show 0<64 by omega);have hk64:n%64+wrK n (X.drop j)≤64:=by unfold wrK;omega
  have hkd:wrK n (X.drop j)=min (X.length - j) (64 - n%64):=by unfold wrK;rw[hDl]
  rw[List.drop_drop] at hwr;have hYl:((X.drop j).take (wrK n (X.drop j))).length=wrK n (X.drop j):=by rw[List.length_take];omega
  have hYb:=u9 hDb (wrK n (X.drop j));have hYt:(byC (X.drop j)).take (wrK n (X.drop j))=byC ((X.drop j).take (wrK n (X.drop j))):=mi _ _;generalize hk:wrK n (X.drop j)=k at *;generalize (X.drop j).take k=Y at *;have hBl:(ovN buf (n%64) Y).length=64:=by rw[p9 (by omega),h64]
  have hBb:∀ y∈ovN buf (n%64) Y,y<256:=by
   intro y hy;unfold ovN at hy
   rcases List.mem_append.1 hy with hy|hy
   ·rcases List.mem_append.1 hy with hy|hy
    ·exact hbl y (List.mem_of_mem_take hy)
    ·exact hYb y hy
   ·exact hbl y (List.mem_of_mem_drop hy)
  have hov:=i2 (s:=s) (n:=n) h8 h64 (show n%64+Y.length≤64 by omega);generalize hB:ovN buf (n%64) Y=B at *;have hovn:=aJ (s:=s) (buf:=B) (n:=n) (m:=n+k) h8 hBl;have hgn:=de (n:=n) h8 h64;have hgn2:=de (n:=n) h8 hBl;have hl74:=vw (n:=n) h8 h64;have hl74b:=vw (n:=n) h8 hBl;have hvv:=hv;obtain⟨q,cc,rfl,hcc⟩:=hv;have hnext:=hvv.from (l:=k) (by omega);rw[tv,List.drop_drop,Nat.sub_sub] at hnext;have hrem:((n:Nat):Int).tmod 64=((n%64:Nat):Int):=ads n;have hadd:IntKind.u64.wrap ((n:Int)+(k:Int))=((n+k:Nat):Int):=tg (by omega) (by omega) (by omega);have hsum:IntKind.i64.wrap (((n%64:Nat):Int)+(k:Int))=((n%64+k:Nat):Int):=zl (by omega) (by omega) (by omega);have hgt:(((0:Int))<((X.length - j:Nat):Int)):=by omega
  repeat (first|refine Tw ?_|(refine Tm ?_;intro _)|exact Tz)
  refine WC.dT rfl hgt ?_
  repeat (first|refine WO.does (zJ (hc:=hgn)) ?_|refine WO.does (zJ (hc:=hgn2)) ?_|refine WO.does (zh rfl rfl hadd) ?_|refine WO.does (zh rfl rfl hsum) ?_|refine WO.stores (zB (hc:=hovn) (hle:=by rw[hl74b];rfl)) ?_|refine Ta ?_|(refine Tm ?_;intro _)|refine WO.does (zP rfl rfl (by decide) hrem) ?_|refine WO.does (u6 rfl rfl hoff (by rw[Nat.mul_one])) ?_|refine WO.both (qI (st:=75) rfl rfl rfl hvv.rds (by rw[zd,hDl,Nat.mul_one]) (m:=k) hkd.symm (ys:=byC Y) (by rw[Nat.mul_one];exact hYt) (yF Y) .here hov (by rw[hl74,zd];omega) (by decide)) ?_|refine WO.does (pm rfl rfl (by omega)) ?_|refine Tc ?_|exact Tz)
  by_cases hf:n%64+k=64
  ·rw[if_pos hf] at hwr;have hcs:=adx (buf:=B) (n:=n+k) h8;have hcb:=bd (n:=n+k) h8 hBl;have htl:=take_len (b:=B) h8;have hovs:=aV (buf:=B) (n:=n+k) h8 htl;have hl74c:=vw (n:=n+k) h8 hBl;obtain⟨s0',s1',s2',s3',s4',s5',s6',s7',rfl⟩:=eight h8;have hT:=adm s0' s1' s2' s3' s4' s5' s6' s7' B hBb hBl hsl;have htlt:∀ x∈Sha.take [s0',s1',s2',s3',s4',s5',s6',s7'] B,x<4294967296:=eT;generalize Sha.take [s0',s1',s2',s3',s4',s5',s6',s7'] B=s' at *;generalize [s0',s1',s2',s3',s4',s5',s6',s7']=sv at *;refine WC.dT rfl (by omega) ?_
   repeat (first|refine Tw ?_|(refine Tm ?_;intro _)|exact Tz)
   refine WC.adraw 12 (k:=?_)
   repeat (first|refine Da ?_|refine DQ.acall (hc:=hT) (k:=?_)|refine DQ.does (fun s _=>zz (vs:=w3C sv) (hc:=hcs) (hl:=by rw[zm,h8])) Dp.const ?_|refine DQ.does (fun s _=>zz (vs:=byC B) (hc:=hcb) (hl:=by rw[zd,hBl])) Dp.const ?_|refine Dc ?_)
   refine DQ.anil (k:=?_);intro sx _
   repeat (first|refine WO.stores (zB (vs:=w3C s') (hl:=by rw[zm,htl]) (h1:=rb s') (hc:=hovs) (hle:=by rw[hl74c,zm,htl];rfl)) ?_|refine Ta ?_|(refine Tm ?_;intro _)|refine Tc ?_|exact Tz)
   refine WX.metI (s',B,n+k,j+k,.slice (acq q cc k 1) (X.length - j - k) (cc - k)) (hs:=⟨⟨by show j+k≤X.length;omega,hwr,htl,htlt,hBl,hBb,by show n+k+(X.length - (j+k))≤_;omega,by rw[Nat.sub_sub];exact hnext⟩,by show X.length - (j+k)<X.length - j;omega⟩)
  ·rw[if_neg hf] at hwr;refine WC.dF rfl (by omega) ?_
   repeat (first|refine Tw ?_|(refine Tm ?_;intro _)|exact Tz)
   refine WX.metI (s,B,n+k,j+k,.slice (acq q cc k 1) (X.length - j - k) (cc - k)) (hs:=⟨⟨by show j+k≤X.length;omega,hwr,h8,hsl,hBl,hBb,by show n+k+(X.length - (j+k))≤_;omega,by rw[Nat.sub_sub];exact hnext⟩,by show X.length - (j+k)<X.length - j;omega⟩)
 ·have hj2:j=X.length:=by omega
  have hdr:X.drop j=[]:=by rw[hj2,List.drop_length]
  rw[hdr,m7] at hwr;obtain⟨q,cc,rfl,hcc⟩:=hv;subst hwr
  repeat (first|refine Tw ?_|(refine Tm ?_;intro _)|exact Tz)
  refine WC.dF rfl (by omega) ?_
  repeat (first|refine Tw ?_|(refine Tm ?_;intro _)|exact Tz)
  exact WX.retM_ofN (aes rfl) Hs.here
section
variable {P:Program} {w0:World} {gs:List Nat} {K:List (Nat × Value)} {L:List Ent}
theorem qz {x y:Operand} {t yt ty e:TypeId} {p:Addr} (hu:P.underlying t=some (.pointer e)) (hx:ev K x=some (.pointer (some p))) (hy:ev K y=some (.pointer none)):Does P w0 gs K L (.binOp .eql t x y yt) ty (.bool false):=by
 intro a w hk _ o ho _;have h1:(eqGuard .eql t x y (.pointer (some p)) (.pointer none)).run P w=.ok () w:=by unfold eqGuard;rfl
 have h4:∀ d,(Op.equalIn (d+1) t (.pointer (some p)) (.pointer none)).run P w=.ok false w:=fun d=>by
  simp[Op.equalIn,underlying,hu]
 have h3:(Op.equalIn 10000 t (.pointer (some p)) (.pointer none)).run P w=.ok false w:=h4 9999;have h2:(binOp .eql t (.pointer (some p)) (.pointer none)).run P w=.ok (.bool false) w:=by
  simp only[binOp,Op.equal,Op.maxDepth,Sem.run_bind,h3,Result.andThen_ok,Sem.run_pure]
 simp only[execOp,ho,hk.eval hx,hk.eval hy,Sem.run_bind,h1,Result.andThen_ok,h2,Sem.run_pure]
end
theorem RdN.mr {g:Nat} {v:Value} {n:Nat} {xs:List Value} {w0 w:World} {L:List Ent} (h:RdN g v n xs w0) (hm:Mr w0 [g] L w):RdN g v n xs w:=by
 obtain⟨p,c,e,h1,h2,h3,h4⟩:=h;exact⟨p,c,e,h1,h2,h3,h4.imp id fun ⟨b,o,e,hb,hs⟩=>⟨b,o,e,hb,hs.mod hm.mod (by simpa using hb)⟩⟩
theorem iE (g c:Nat) (p:Option Addr) (s0 b0:List Nat) (n0:Nat) (X:List Nat) (hX:∀ x∈X,x<256) (hs8:s0.length=8) (hsl:∀ x∈s0,x<4294967296) (hb64:b0.length=64) (hbl:∀ x∈b0,x<256) (hn:n0+X.length≤1152921504606846976) :
  FnM Tryz.prog 95 [pt g,.slice p X.length c] g 178 (uj s0 b0 n0) (uj (wr s0 b0 n0 X).1 (wr s0 b0 n0 X).2.1 (wr s0 b0 n0 X).2.2) (RdN g (.slice p X.length c) X.length (byC X)) (.int .i64 0):=by
 have hW:=jA g c p s0 b0 n0 X hX hs8 hsl hb64 hbl hn;refine FnM.enter Tryz.func95 rfl rfl rfl ?_;intro w hw;generalize uj (wr s0 b0 n0 X).1 (wr s0 b0 n0 X).2.1 (wr s0 b0 n0 X).2.2=cs' at *
 repeat (first|refine Ta ?_|(refine Tm ?_;intro _)|refine WO.does (qz (t:=120) (e:=178) (by kernel_rfl) rfl rfl) ?_|refine Tc ?_|exact Tz)
 refine WO.callM (hc:=hW) rfl Rp.here (fun w' hm=>hw.mr hm) (by decide) ?_ rfl rfl
 repeat (first|refine Tw ?_|(refine Tm ?_;intro _)|exact Tz)
 exact WX.retM_of (abS rfl (zt rfl)) Hs.here
theorem bz:Fn Tryz.prog 94 [] Tr (Ex (fun s=>pt (s 0)) (fun s=>[⟨s 0,178,uj Sha.H0 (List.replicate 64 0) 0⟩]) (fun _=>True)):=by
 refine Fn.enter Tryz.func94 rfl rfl rfl ?_;intro w hw
 repeat (first|refine Ta ?_|(refine Tm ?_;intro _)|refine WO.acall (hc:=abF) (k:=?_)|refine WO.does (uS (cs:=uj Sha.H0 (List.replicate 64 0) 0) (h2:=rfl)) ?_|refine Tc ?_|exact Tz)
 rename_i g;exact WX.ret1 rfl (zt rfl) [⟨g,178,uj Sha.H0 (List.replicate 64 0) 0⟩] (Lle.cons Pk.here rfl Lle.nil) ⟨fun _=>g,rfl,rfl,trivial⟩
end Sx
end
section
open Go Go.RowKit Go.BigFrame
namespace Sx
theorem aC {s buf:List Nat} {n:Nat} (h1:s.length=8) (h2:buf.length=64):cut (uj s buf n) 0 74=uj s buf n:=by
 unfold cut;rw[List.drop_zero,List.take_of_length_le (by rw[vw h1 h2];omega)]
theorem ai (s buf:List Nat) (n:Nat):(uj s buf n).all Value.oneCell'=true:=by
 simp[uj,List.all_append,w3C,byC,Value.oneCell']
theorem ve {cs vs:List Value} (h:cs.length=vs.length):over cs 0 vs=vs:=by
 unfold over;rw[List.take_zero,Nat.zero_add,List.drop_of_length_le (by omega)];simp
theorem WC.ndp {P:Program} {w0:World} {gs:List Nat} {n:Nat} {c:Code} {Q:Exit→Act→World→Prop} {K:List (Nat × Value)} {L:List Ent} (k:(L.map Ent.g).Nodup→WC P w0 gs n c Q K L):WC P w0 gs n c Q K L:=fun a w h1 h2 h3 h4=>k h4.nodup a w h1 h2 h3 h4
attribute [local irreducible] wd DQ DQS WO WC WX
theorem vj {s b:List Nat} (h:s.length=8):∀ q,(Sha.takes s b q).length=8
 | 0=>h
 | q+1=>take_len (vj h q)
theorem acJ {s buf:List Nat} {n i:Nat} (h1:s.length=8) (hi:i<8):(uj s buf n)[1+i]?=some (.int .u32 ((s.getD i 0:Nat):Int)):=by
 unfold uj;rw[List.append_assoc,List.getElem?_append_right (by simp),List.getElem?_append_left (by simp[zm,h1];omega)];simp[w3C,List.getD,show i<s.length by omega]
theorem yl {cs:List Value} {n:Nat} (h:cs.length=n):cut cs 0 n=cs:=by
 unfold cut;rw[List.drop_zero,List.take_of_length_le (by omega)]
theorem da (g:Nat) (m s buf:List Nat) (n:Nat) (hH:iu m s buf n) (hs8:s.length=8) (hsl:∀ x∈s,x<4294967296) (hbl:∀ x∈buf,x<256) (hn:n≤1152921504606846000) :
  Fn Tryz.prog 97 [pt g] (fun w=>Seg w g 0 (uj s buf n)) (Is (.agg (byC (Sha.sum m)).toArray)):=by
 have hb64:=hH.len;have hcut:=aC (n:=n) hs8 hb64;have hl74:=vw (n:=n) hs8 hb64;have hgn:=de (n:=n) hs8 hb64;have h8n:IntKind.u64.wrap (8*(n:Int))=((8*n:Nat):Int):=tg (by omega) (by omega) (by omega);have hpl:Sha.pad n<64:=Nat.mod_lt _ (by omega);have h88:=zj 8 (8*n);refine Fn.enter Tryz.func97 rfl rfl rfl ?_;intro w hw
 repeat (first|refine WO.does (zk (vs:=uj s buf n) (hs:=hw) (hc:=hcut) (hl:=hl74)) ?_|refine WO.stores (zB (vs:=uj s buf n) (cs':=uj s buf n) (hl:=hl74) (h1:=ai s buf n) (hc:=ve (by rw[hl74];simp)) (hle:=by rw[hl74];rfl)) ?_|refine WO.does (zi (hs:=hw) (hc:=hgn)) ?_|refine WO.does (z6 rfl rfl h8n) ?_|refine Ta ?_|(refine Tm ?_;intro _)|refine WO.does (qz (t:=120) (e:=178) (by kernel_rfl) rfl rfl) ?_|(refine WO.makes (zY (l:=1) (c:=64) rfl rfl (by decide) (by decide) (by decide)) ?_;intro q)|refine Tc ?_|exact Tz)
 rename_i g2 g3
 refine WC.loopI (σ:=Nat × Nat × Nat × List Value) (fun x=>1≤x.1∧x.1≤Sha.pad n+1∧(byC (128::List.replicate (x.1 - 1) 0)++x.2.2.2).length=x.2.2.1∧x.2.2.1<9223372036854775808)
  (fun x=>[(0,pt g),(2,pt g2),(3,pt g3),(4,.int .u64 ((8*n:Nat):Int)),(5,.slice (some ⟨x.2.1,0,none⟩) x.1 x.2.2.1)])
  (fun x=>[⟨x.2.1,5,byC (128::List.replicate (x.1 - 1) 0)++x.2.2.2⟩,⟨g3,178,uj s buf n⟩,⟨g2,45,List.replicate 32 (.int .u8 0)⟩]) (fun x=>Sha.pad n+1 - x.1)
  (1,q,64,(mkz 64 [Value.int .u8 0]).drop 1) (fun x hx=>?_) ⟨Nat.le_refl _,by show 1≤Sha.pad n+1;omega,by simp[zd,zC],by show 64<9223372036854775808;omega⟩
 obtain⟨l,q',c,r⟩:=x;obtain⟨hl1,hl2,hlc,hc⟩:=hx;dsimp only at hl1 hl2 hlc hc ⊢;have hst:=j9 (n:=n) hl1 hl2;have ha:IntKind.u64.wrap ((n:Int)+((l:Nat):Int))=((n+l:Nat):Int):=tg (by omega) (by omega) (by omega);have hcv:IntKind.u64.wrap ((l:Nat):Int)=((l:Nat):Int):=u64_in (by omega) (by omega);have hrm:((n+l:Nat):Int).tmod 64=(((n+l)%64:Nat):Int):=ads (n+l);have hbl1:(byC (128::List.replicate (l - 1) 0)).length=l:=by rw[zd];simp;omega
 repeat (first|refine WO.does (zi (hs:=hw) (hc:=hgn)) ?_|refine WO.does (zh rfl rfl ha) ?_|refine WO.does (zu rfl hcv) ?_|refine WO.does (zP rfl rfl (by decide) hrm) ?_|refine Ta ?_|(refine Tm ?_;intro _)|refine Tc ?_|exact Tz)
 by_cases hs:l=Sha.pad n+1
 ·have h56:(n+l)%64=56:=hst.2 hs;subst hs;refine WC.dF rfl (by rw[h56];decide) ?_
  repeat (first|refine Tw ?_|(refine Tm ?_;intro _)|exact Tz)
  have hsh:∀ k,k<8→(((8*n:Nat):Int)).fdiv (2 ^ min (((56 - 8*k:Nat):Int)).toNat IntKind.u64.bits)=((8*n / 2 ^ (8*(7 - k)):Nat):Int):=fun k hk=>by
   rw[uG (by show 56 - 8*k≤64;omega),show 56 - 8*k=8*(7 - k) by omega]
  refine WC.loopI (σ:=Nat × Nat × Nat × List Value) (fun x=>x.1≤8∧(byC (128::List.replicate (Sha.pad n) 0++(be 8 (8*n)).take x.1)++x.2.2.2).length=x.2.2.1∧x.2.2.1<9223372036854775808)
   (fun x=>[(0,pt g),(2,pt g2),(3,pt g3),(4,.int .u64 ((8*n:Nat):Int)),(5,.slice (some ⟨x.2.1,0,none⟩) (Sha.pad n+1+x.1) x.2.2.1),(42,.int .i64 (x.1:Int))])
   (fun x=>[⟨x.2.1,5,byC (128::List.replicate (Sha.pad n) 0++(be 8 (8*n)).take x.1)++x.2.2.2⟩,⟨g3,178,uj s buf n⟩,⟨g2,45,List.replicate 32 (.int .u8 0)⟩]) (fun x=>8 - x.1)
   (0,q',c,r) (hl:=(by repeat (first|exact Lle.nil|refine Lle.cons Pk.a (by first|rfl|simp) ?_))) (fun x hx=>?_) ⟨Nat.zero_le _,by simpa using hlc,hc⟩
  clear hlc hc r c q' ha hcv hrm;obtain⟨k,q',c,r⟩:=x;obtain⟨hk8,hlc,hc⟩:=hx;dsimp only at hk8 hlc hc ⊢;have hbl2:(byC (128::List.replicate (Sha.pad n) 0++(be 8 (8*n)).take k)).length=Sha.pad n+1+k:=by rw[zd];simp;omega
  repeat (first|refine Tw ?_|(refine Tm ?_;intro _)|exact Tz)
  by_cases hk:k<8
  ·refine WC.dT rfl (by omega) ?_;have hm:IntKind.i64.wrap (8*((k:Nat):Int))=((8*k:Nat):Int):=zl (by omega) (by omega) (by omega);have hsb:IntKind.i64.wrap (56 - ((8*k:Nat):Int))=((56 - 8*k:Nat):Int):=zl (by omega) (by omega) (by omega);have hk1:IntKind.i64.wrap (((k:Nat):Int)+1)=((k+1:Nat):Int):=zl (by omega) (by omega) (by omega);have hgt:(be 8 (8*n)).take (k+1)=(be 8 (8*n)).take k++[8*n / 2 ^ (8*(7 - k))%256]:=by
    rw[List.take_add_one,iq hk,show 8 - 1 - k=7 - k by omega];rfl
   have hbk:byC (128::List.replicate (Sha.pad n) 0++(be 8 (8*n)).take (k+1))=byC (128::List.replicate (Sha.pad n) 0++(be 8 (8*n)).take k)++[.int .u8 ((8*n / 2 ^ (8*(7 - k))%256:Nat):Int)]:=by
    rw[hgt,← List.append_assoc,zp];rfl
   repeat (first|refine WO.does (z6 rfl rfl hm) ?_|refine WO.does (zA rfl rfl hsb) ?_|refine WO.does (yW rfl rfl (by omega) (hsh k hk)) ?_|refine WO.does (zu rfl (oq _)) ?_|refine Ta ?_|(refine Tm ?_;intro _)|(refine WO.makes (ze (cs:=[.int .u8 ((8*n / 2 ^ (8*(7 - k))%256:Nat):Int)]) rfl (by decide) rfl) ?_;intro gb)|refine Tc ?_|exact Tz)
   refine WO.appB (m:=1) (l:=Sha.pad n+1+(k+1)) rfl rfl hbl2 hlc (Pk.there Pk.here) (Rds.own (m:=1) Hs.here rfl) rfl rfl (by omega) (by omega) hc (by omega) (by decide) (by decide) (fun q2 c2 r2 hr2 hc2=>?_)
   repeat (first|refine WO.does (zh rfl rfl hk1) ?_|refine Ta ?_|(refine Tm ?_;intro _)|refine Tc ?_|exact Tz)
   exact WX.metI (k+1,q2,c2,r2) (hl:=(by repeat (first|exact Lle.nil|refine Lle.cons Pk.a (by first|rfl|(rw[hbk];rfl)) ?_))) (hs:=⟨⟨by show k+1≤8;omega,by dsimp only;rw[hbk];exact hr2,hc2⟩,by show 8 - (k+1)<8 - k;omega⟩)
  ·have hk8:k=8:=by omega
   subst hk8;have htk:(be 8 (8*n)).take 8=be 8 (8*n):=List.take_of_length_le (by rw[h88];omega);refine WC.dF rfl (by omega) ?_;have hW:=jA g3 c (some ⟨q',0,none⟩) s buf n (mN n) (eI n) hs8 hsl hb64 hbl (by rw[yE];omega);have hHw:=iu.wr (mN n).length (Nat.le_refl _) hH (X:=mN n);have hT:Sha.sum m=Sha.outs (wr s buf n (mN n)).1:=by
    unfold Sha.sum;have:=hH.n;rw[cq (by omega),← this,← hHw.s]
   have hs8' : (wr s buf n (mN n)).1.length=8:=by rw[hHw.s];exact vj rfl _
   have hb64':=hHw.len;rw[yE] at hW;rw[hT];have hrow:byC (128::List.replicate (Sha.pad n) 0++(be 8 (8*n)).take 8)=byC (mN n):=by rw[htk];rfl
   rw[hrow] at hlc ⊢;clear hHw hT hH hrow htk hsh;generalize (wr s buf n (mN n)).1=s' at *;generalize (wr s buf n (mN n)).2.1=b' at *;generalize (wr s buf n (mN n)).2.2=n' at *;have hl74':=vw (n:=n') hs8' hb64';refine WC.ndp (fun hnd=>?_);have hne:q'≠g3:=by simp at hnd;exact hnd.1.1
   repeat (first|refine Tw ?_|(refine Tm ?_;intro _)|exact Tz)
   refine WO.callM (hc:=hW) rfl (Rp.there Rp.here) (fun w' hm=>⟨some ⟨q',0,none⟩,c,rfl,by rw[← hlc,List.length_append,zd,yE];omega,hc,by rw[zd,yE],.inr ⟨q',0,rfl,hne,((Hs.here).seg hm).sub (k:=0) (m:=Sha.pad n+9) (by unfold cut;rw[List.drop_zero,List.take_append_of_le_length (by rw[zd,yE];omega),List.take_of_length_le (by rw[zd,yE];omega)])⟩⟩) (by decide) ?_ rfl rfl
   repeat (first|refine Tw ?_|(refine Tm ?_;intro _)|exact Tz)
   have hT32:(Sha.outs s').length=32:=by rw[vW,hs8']
   refine WC.loopI (σ:=Nat) (fun i=>i≤32) (fun i=>[(2,pt g2),(3,pt g3),(57,.int .i64 (i:Int))]) (fun i=>[⟨g3,178,uj s' b' n'⟩,⟨g2,45,pad (Sha.outs s') i⟩]) (fun i=>32 - i) 0 (hl:=(by repeat (first|exact Lle.nil|refine Lle.cons Pk.a (by first|rfl|(unfold pad;rw[hT32];rfl)) ?_))) (fun i hi=>?_) (Nat.zero_le _)
   repeat (first|refine Tw ?_|(refine Tm ?_;intro _)|exact Tz)
   by_cases hi2:i<32
   ·refine WC.dT rfl (by omega) ?_;have hT1:=j6 (s:=s') (i:=i) (by omega);have hov:=nJ hT1;have hq:IntKind.i64.wrap (((i:Nat):Int).tdiv 4)=((i / 4:Nat):Int):=zl (by rw[Int.tdiv_eq_ediv_of_nonneg (by omega)];omega) (by rw[Int.tdiv_eq_ediv_of_nonneg (by omega)];omega) (by rw[Int.tdiv_eq_ediv_of_nonneg (by omega)];omega);have hr:((i:Nat):Int).tmod 4=((i%4:Nat):Int):=by rw[Int.tmod_eq_emod_of_nonneg (by omega)];omega
    have hm:IntKind.i64.wrap (((i%4:Nat):Int)*8)=((8*(i%4):Nat):Int):=zl (by omega) (by omega) (by omega);have hsb:IntKind.i64.wrap (24 - ((8*(i%4):Nat):Int))=((8*(3 - i%4):Nat):Int):=zl (by omega) (by omega) (by omega);have hi1:IntKind.i64.wrap (((i:Nat):Int)+1)=((i+1:Nat):Int):=zl (by omega) (by omega) (by omega);have hw1:=acJ (s:=s') (buf:=b') (n:=n') hs8' (show i / 4<8 by omega);have hsh:((s'.getD (i / 4) 0:Nat):Int).fdiv (2 ^ min (((8*(3 - i%4):Nat):Int)).toNat IntKind.u32.bits)=((s'.getD (i / 4) 0 / 2 ^ (8*(3 - i%4)):Nat):Int):=uG (by show 8*(3 - i%4)≤32;omega);have hpl1:(pad (Sha.outs s') i).length=32:=by rw[rh (by omega),hT32]
    generalize s'.getD (i / 4) 0 / 2 ^ (8*(3 - i%4))=vv at *
    repeat (first|refine WO.does (yy rfl rfl (by decide) hq) ?_|refine WO.does (vA (o':=1+i / 4) rfl rfl (by omega) (by omega)) ?_|refine WO.does (zJ (hc:=hw1)) ?_|refine WO.does (zP rfl rfl (by decide) hr) ?_|refine WO.does (z6 rfl rfl hm) ?_|refine WO.does (zA rfl rfl hsb) ?_|refine WO.does (yW rfl rfl (by omega) hsh) ?_|refine WO.does (zu rfl (oq _)) ?_|refine WO.does (vA (o':=i) rfl rfl (by omega) (by omega)) ?_|refine WO.stores (zB (hc:=hov) (hle:=by rw[hpl1];exact Nat.ble_eq_true_of_le hi2)) ?_|refine WO.does (zh rfl rfl hi1) ?_|refine Ta ?_|(refine Tm ?_;intro _)|refine Tc ?_|exact Tz)
    exact WX.metI (i+1) (hs:=⟨by omega,by omega⟩)
   ·have hi3:i=32:=by omega
    subst hi3;have hpf:pad (Sha.outs s') 32=byC (Sha.outs s'):=by rw[← hT32];exact o5 _
    have hbl32:(byC (Sha.outs s')).length=32:=by rw[zd,hT32]
    rw[hpf];refine WC.dF rfl (by omega) ?_
    repeat (first|refine WO.does (zz (vs:=byC (Sha.outs s')) (hc:=yl hbl32) (hl:=hbl32)) ?_|refine WO.stores (zB (vs:=byC (Sha.outs s')) (cs':=byC (Sha.outs s')) (hl:=hbl32) (h1:=yF _) (hc:=ve rfl) (hle:=by rw[hbl32];rfl)) ?_|refine Ta ?_|(refine Tm ?_;intro _)|refine Tc ?_|exact Tz)
    exact WX.aret1 (hr:=uh (vs:=byC (Sha.outs s')) (hc:=yl hbl32) (hl:=hbl32)) (hp:=rfl)
 ·refine WC.dT rfl (by omega) ?_;have hbk:byC (128::List.replicate (l+1 - 1) 0)=byC (128::List.replicate (l - 1) 0)++[.int .u8 0]:=by
   rw[show l+1 - 1=l - 1+1 by omega,List.replicate_succ',← List.cons_append,zp];rfl
  repeat (first|refine Ta ?_|(refine Tm ?_;intro _)|(refine WO.makes (ze (cs:=[.int .u8 0]) rfl (by decide) rfl) ?_;intro gb)|refine Tc ?_|exact Tz)
  refine WO.appB (m:=1) (l:=l+1) rfl rfl hbl1 hlc (Pk.there Pk.here) (Rds.own (m:=1) Hs.here rfl) rfl rfl (by omega) (by omega) hc (by omega) (by decide) (by decide) (fun q2 c2 r2 hr2 hc2=>?_)
  repeat (first|refine Tw ?_|(refine Tm ?_;intro _)|exact Tz)
  exact WX.metI (l+1,q2,c2,r2) (hl:=(by repeat (first|exact Lle.nil|refine Lle.cons Pk.a (by first|rfl|(rw[hbk];rfl)) ?_))) (hs:=⟨⟨by show 1≤l+1;omega,by show l+1≤Sha.pad n+1;omega,by dsimp only;rw[hbk];exact hr2,hc2⟩,by show Sha.pad n+1 - (l+1)<Sha.pad n+1 - l;omega⟩)
end Sx
end
section
open Go Go.RowKit Go.BigFrame
namespace Sx
def rz (x:Nat→Nat):List Nat:=(List.range (x 2)).map fun j=>x (3+j)
def zr (g c:Nat) (R:List Nat):Nat→Nat
 | 0=>g
 | 1=>c
 | 2=>R.length
 | j+3=>R.getD j 0
theorem aS (g c:Nat) (R:List Nat):rz (zr g c R)=R:=by
 unfold rz;apply List.ext_getElem
 ·simp[zr]
 ·intro i h1 h2;simp[zr,show 3+i=i+3 by omega,List.getD,h2]
theorem Fn.exZ {P:Program} {f:FuncId} {fs:List Value} {R:World→Prop} {t:Nat} {X:List Nat} (h:Fn P f fs R (aax t X)) :
  Fn P f fs R (Ex (fun x=>.slice (some ⟨x 0,0,none⟩) X.length (x 1)) (fun x=>[⟨x 0,t,byC (X++rz x)⟩]) (fun x=>(X++rz x).length=x 1∧x 1<9223372036854775808)) :=
 Fn.weak h (fun _ h=>h) (fun v N ⟨g,c,R,e1,e2,h1,h2⟩=>⟨zr g c R,e1,by show N=[⟨g,t,byC (X++rz (zr g c R))⟩];rw[aS];exact e2,by show (X++rz (zr g c R)).length=c∧c<9223372036854775808;rw[aS];exact⟨h1,h2⟩⟩)
section
open Kp
variable {P:Program} {w0:World} {gs:List Nat} {n:Nat} {fl:List Nat} {Q:Exit→Act→World→Prop} {ops:List Oper} {L0:List Ent}
variable {tail rest:List Oper} {i:Nat} {C:zF→Prop} {K:zF→List (Nat × Value)} {N:zF→List (Nat × Ent)}
variable {d:Nat} {op:Op} {ty:TypeId} {pos:String} {after:Array Edge} {gd:Option (Nat × Bool)}
theorem DQ.acallZ {f:FuncId} [Cal P f] {xs:Array Operand} {ats:Array TypeId} {vs:List Value} {Rq:World→Prop} {t:Nat} {X:List Nat} (hc:Fn P f vs Rq (aax t X)) (hR:∀ w,Rq w) (hX:X.length<9223372036854775808) (ha:∀ s,evs (K s) xs.toList=some vs:=by (intro s;rfl))
  (k:DQ P w0 gs n fl Q ops L0 tail (i+1) rest (fun s=>C s∧((X++rz (s i)).length=s i 1∧s i 1<9223372036854775808)) (fun s=>(d,.slice (some ⟨s i 0,0,none⟩) X.length (s i 1))::K s) (fun s=>(i,⟨s i 0,t,byC (X++rz (s i))⟩)::N s))
  (hfl:fl.contains i=false:=by rfl) (hw:∀ s,wk ops (K s) gd=some true:=by intro _;rfl) (hd:Nat.blt d n=true:=by rfl) :
  DQ P w0 gs n fl Q ops L0 tail i (⟨some d,.call { callee:=.value (.func f),args:=xs,argTypes:=ats },ty,pos,after,gd⟩::rest) C K N :=
 DQ.callsE (fs:=fun _=>[]) (cs:=fun _=>[]) (R:=fun _=>Rq) (vf:=fun _ x=>.slice (some ⟨x 0,0,none⟩) X.length (x 1)) (Nf:=fun _ x=>[⟨x 0,t,byC (X++rz x)⟩]) (S:=fun _ x=>(X++rz x).length=x 1∧x 1<9223372036854775808) (fun _=>[]) (fun _=>.nil)
  (fun _=>⟨zr 0 X.length [],by show (X++rz (zr 0 X.length [])).length=X.length∧X.length<9223372036854775808;rw[aS];exact⟨by simp,hX⟩⟩) (fun _ _=>hc.exZ) (fun _=>rfl) ha (fun _=>by simp) (fun _ _ w _=>hR w) Dp.const Dp.const Dp.const k hfl hw hd
end
def RdF {α:Type} (f:α→List Value) (v:Value) (xs:List α) (w:World):Prop :=
 ∃ pt c,v=.slice pt xs.length c∧((pt=none∧xs=[])∨∃ b o,pt=some ⟨b,o,none⟩∧Seg w b o (xs.flatMap f))
theorem RdF.mod {α:Type} {f:α→List Value} {v:Value} {xs:List α} {w w' : World} (h:RdF f v xs w) (hm:Mod [] w w'):RdF f v xs w':=by
 obtain⟨pt,c,e,h⟩:=h;exact⟨pt,c,e,h.imp id (fun ⟨b,o,e2,hs⟩=>⟨b,o,e2,hs.mod hm (by simp)⟩)⟩
theorem RdF.seg {α:Type} {f:α→List Value} {xs:List α} {w:World} {b o c:Nat} {r:List Value} (h:Seg w b o (xs.flatMap f++r)):RdF f (.slice (some ⟨b,o,none⟩) xs.length c) xs w :=
 ⟨_,c,rfl,.inr ⟨b,o,rfl,fun i v hv=>h i v (by rw[List.getElem?_append_left (by rcases Nat.lt_or_ge i (xs.flatMap f).length with h1|h1;exact h1;rw[List.getElem?_eq_none h1] at hv;cases hv)];exact hv)⟩⟩
theorem RdF.lt {α:Type} {f:α→List Value} {k:Nat} (hk:∀ x,(f x).length=k+1) {xs:List α} {w:World} {b o n c:Nat} (h:RdF f (.slice (some ⟨b,o,none⟩) n c) xs w) (hne:xs≠[]):b<w.heap.size:=by
 obtain⟨pt,c',e,h⟩:=h;cases e
 rcases h with ⟨h1,_⟩|⟨b',o',e2,hs⟩
 ·cases h1
 ·cases e2;cases xs with
  | nil=>exact absurd rfl hne
  | cons x r =>
   have hx:=hk x;cases hfx:f x with
   | nil=>rw[hfx] at hx;cases hx
   | cons v vs =>
    exact kI (hs 0 v (by simp[hfx]))
def abO (t n c:Nat) (cs:List Value):Value→List Ent→Prop:=fun v N=>∃ g,v=.slice (some ⟨g,0,none⟩) n c∧N=[⟨g,t,cs⟩]
theorem Fn.exC {P:Program} {f:FuncId} {fs:List Value} {R:World→Prop} {t n c:Nat} {cs:List Value} (h:Fn P f fs R (abO t n c cs)) :
  Fn P f fs R (Ex (fun x=>.slice (some ⟨x 0,0,none⟩) n c) (fun x=>[⟨x 0,t,cs⟩]) (fun _=>True)) :=
 Fn.weak h (fun _ h=>h) (fun v N ⟨g,e1,e2⟩=>⟨fun _=>g,e1,e2,trivial⟩)
section
variable {P:Program} {w0:World} {gs:List Nat} {n:Nat} {ops:List Oper} {Q:Exit→Act→World→Prop} {K:List (Nat × Value)} {L:List Ent} {rest:List Oper}
variable {d:Nat} {op:Op} {ty:TypeId} {pos:String} {after:Array Edge} {gd:Option (Nat × Bool)}
theorem WO.acallC {f:FuncId} [Cal P f] {xs:Array Operand} {ats:Array TypeId} {fs:List Value} {R:World→Prop} {t m c:Nat} {cs:List Value} (hc:Fn P f fs R (abO t m c cs)) (hR:∀ w,Mr w0 gs L w→R w)
  (k:∀ g,WO P w0 gs n ops Q ((d,.slice (some ⟨g,0,none⟩) m c)::K) (⟨g,t,cs⟩::L) rest) (ha:evs K xs.toList=some fs:=by rfl) (hd:Nat.blt d n=true:=by rfl) (hw:wk ops K gd=some true:=by rfl) :
  WO P w0 gs n ops Q K L (⟨some d,.call { callee:=.value (.func f),args:=xs,argTypes:=ats },ty,pos,after,gd⟩::rest) :=
 WO.calls (fs:=[]) (cs:=[]) hc rfl ha (by simp) hR (fun u N ⟨g,e1,e2⟩=>by subst e1;subst e2;exact k g) hd hw
theorem WX.retC {fn:Func} {r:ResultVar} {g t m c:Nat} {cs:List Value} {L' : List Ent} (hfn:fn.results=#[r]:=by rfl) (hr:Rv P w0 [] K L r (.slice (some ⟨g,0,none⟩) m c):=by exact zt rfl) (hN:Pk L g t cs L':=by (repeat (first|exact Pk.here|apply Pk.there))) :
  WX w0 [] n .ret (bodyPost P fn (ut w0 (abO t m c cs))) K L:=WX.ret1 hfn hr [⟨g,t,cs⟩] ⟨cs,L',hN,rfl,trivial⟩ ⟨g,rfl,rfl⟩
end
section
open Kp
variable {P:Program} {w0:World} {gs:List Nat} {n:Nat} {fl:List Nat} {Q:Exit→Act→World→Prop} {ops:List Oper} {L0:List Ent}
variable {tail rest:List Oper} {i:Nat} {C:zF→Prop} {K:zF→List (Nat × Value)} {N:zF→List (Nat × Ent)}
variable {d:Nat} {op:Op} {ty:TypeId} {pos:String} {after:Array Edge} {gd:Option (Nat × Bool)}
theorem DQ.acallC {f:FuncId} [Cal P f] {xs:Array Operand} {ats:Array TypeId} {vs:List Value} {Rq:World→Prop} {t m c:Nat} {cs:List Value} (hc:Fn P f vs Rq (abO t m c cs)) (hR:∀ w,Mr w0 gs L0 w→Rq w)
  (k:DQ P w0 gs n fl Q ops L0 tail (i+1) rest (fun s=>C s∧True) (fun s=>(d,.slice (some ⟨s i 0,0,none⟩) m c)::K s) (fun s=>(i,⟨s i 0,t,cs⟩)::N s)) (ha:∀ s,evs (K s) xs.toList=some vs:=by (intro s;rfl))
  (hfl:fl.contains i=false:=by rfl) (hw:∀ s,wk ops (K s) gd=some true:=by intro _;rfl) (hd:Nat.blt d n=true:=by rfl) :
  DQ P w0 gs n fl Q ops L0 tail i (⟨some d,.call { callee:=.value (.func f),args:=xs,argTypes:=ats },ty,pos,after,gd⟩::rest) C K N :=
 DQ.callsE (fs:=fun _=>[]) (cs:=fun _=>[]) (R:=fun _=>Rq) (vf:=fun _ x=>.slice (some ⟨x 0,0,none⟩) m c) (Nf:=fun _ x=>[⟨x 0,t,cs⟩]) (S:=fun _ _=>True) (fun _=>[]) (fun _=>.nil)
  (fun _=>⟨fun _=>0,trivial⟩) (fun _ _=>hc.exC) (fun _=>rfl) ha (fun _=>by simp) (fun _ _ w h=>hR w h) Dp.const Dp.const Dp.const k hfl hw hd
theorem DQ.acallM {f:FuncId} [Cal P f] {xs:Array Operand} {ats:Array TypeId} {vs:List Value} {Rq:World→Prop} {v:Value} (hc:Fn P f vs Rq (Is v)) (hR:∀ w,Mr w0 gs L0 w→Rq w)
  (k:DQ P w0 gs n fl Q ops L0 tail (i+1) rest C (fun s=>(d,v)::K s) N) (ha:∀ s,evs (K s) xs.toList=some vs:=by (intro s;rfl))
  (hfl:fl.contains i=false:=by rfl) (hw:∀ s,wk ops (K s) gd=some true:=by intro _;rfl) (hd:Nat.blt d n=true:=by rfl) :
  DQ P w0 gs n fl Q ops L0 tail i (⟨some d,.call { callee:=.value (.func f),args:=xs,argTypes:=ats },ty,pos,after,gd⟩::rest) C K N :=
 DQ.callE (v:=fun _=>v) (fun _=>[]) (fun _=>.nil) (fun _ _=>hc) ha (fun _ _ w h=>hR w h) Dp.const k hfl hw hd
end
theorem zG {α:Type} {f:α→List Value} {k:Nat} (hk:∀ x,(f x).length=k):∀ xs:List α,(xs.flatMap f).length=xs.length*k
 | []=>by simp
 | x::r=>by simp[hk,zG hk r,Nat.add_mul];omega
theorem aj {z:List Value} (m:Nat):(mkz (m+1) z).drop z.length=mkz m z:=by
 unfold mkz;rw[List.replicate_succ,List.flatten_cons,List.drop_left]
theorem sT {α:Type} {f:α→List Value} {xs:List α} {i m k:Nat} {x:α} {z:List Value} (hk:∀ x,(f x).length=k) (hz:z.length=k) (hx:xs[i]?=some x) (hm:0<m) :
  over ((xs.take i).flatMap f++mkz m z) (i*z.length) (f x)=(xs.take (i+1)).flatMap f++mkz (m - 1) z:=by
 have hi:i<xs.length:=by
  rcases Nat.lt_or_ge i xs.length with h|h
  ·exact h
  ·rw[List.getElem?_eq_none h] at hx;cases hx
 have hl:((xs.take i).flatMap f).length=i*z.length:=by
  rw[zG hk,List.length_take,hz,Nat.min_eq_left (by omega)]
 have e:=sF (xs:=(xs.take i).flatMap f) (r:=mkz m z) (ys:=f x);rw[hl] at e;rw[e,List.take_add_one,hx];obtain⟨m',rfl⟩ : ∃ m',m=m' + 1:=⟨m - 1,by omega⟩;have hd:=aj (z:=z) m';rw[show z.length=(f x).length by rw[hk,hz]] at hd;rw[hd];simp
theorem rv {α:Type} {f:α→List Value} {xs:List α} {k:Nat} {z s:List Value} (hk:∀ x,(f x).length=k) (hz:z.length=k) (hs:s.length=k) :
  over (xs.flatMap f++mkz 1 z) (xs.length*z.length) s=xs.flatMap f++s:=by
 have hl:(xs.flatMap f).length=xs.length*z.length:=by rw[zG hk,hz]
 have e:=sF (xs:=xs.flatMap f) (r:=mkz 1 z) (ys:=s);rw[hl] at e;rw[e];have:(mkz 1 z).drop s.length=[]:=by
  apply List.drop_of_length_le;rw[zC,hs,hz];omega
 rw[this,List.append_nil]
theorem d8 {α:Type} {f:α→List Value} {k:Nat} {xs:List α} {r:List Value}:cut (xs.flatMap f++r) (xs.flatMap f).length r.length=r:=by
 unfold cut;rw[List.drop_left,List.take_of_length_le (Nat.le_refl _)]
section
variable {P:Program}
def ab6 (w:World) (gs:List Nat) (post:Value→List Ent→Prop):Ending→World→Prop:=fun e w'=>∃ v N,e=.returned v∧Me w gs N w'∧post v N
def FnL (P:Program) (f:FuncId) (args:List Value) (L:List Ent) (R:World→Prop) (post:Value→List Ent→Prop):Prop :=
 ∀ w,(∀ e∈L,e.ok w)→(L.map Ent.g).Nodup→R w→Calls P f args.toArray w (ab6 w (L.map Ent.g) post)
theorem FnM.toL {f:FuncId} {args:List Value} {g t:Nat} {cs cs' : List Value} {R:World→Prop} {v:Value} (h:FnM P f args g t cs cs' R v):FnL P f args [⟨g,t,cs⟩] R (fun u N=>u=v∧N=[⟨g,t,cs'⟩]):=fun w h1 _ hw =>
 (h w (h1 _ (by simp)) hw).mono fun _ _ ⟨e,hm,hok⟩=>⟨v,[⟨g,t,cs'⟩],e,⟨hm,by simpa using hok,by simp,by simp⟩,rfl,rfl⟩
inductive Pks:List Ent→List Ent→List Ent→Prop
 | nil {L:List Ent}:Pks L [] L
 | cons {L L1 M R:List Ent} {g t:Nat} {cs:List Value}:Pk L g t cs L1→Pks L1 M R→Pks L (⟨g,t,cs⟩::M) R
theorem Pks.perm {L M R:List Ent} (h:Pks L M R):L.Perm (M++R):=by
 induction h with
 | nil=>exact .refl _
 | cons h1 _ ih=>exact h1.perm.trans (ih.cons _)
theorem Me.callL {w0 w w' : World} {gs:List Nat} {M R N:List Ent} (h:Me w0 gs (M++R) w) (hm:Me w (M.map Ent.g) N w'):Me w0 gs (N++R) w':=by
 have hnd:=h.nodup;rw[List.map_append,List.nodup_append] at hnd;have hR:∀ e∈R,e.ok w':=fun e he=>(h.ok e (List.mem_append_right _ he)).keep (hm.mod.block e.g (h.ok e (List.mem_append_right _ he)).lt (fun hg=>hnd.2.2 _ hg _ (List.mem_map.2 ⟨e,he,rfl⟩) rfl));refine⟨⟨hm.mod.os.trans h.mod.os,hm.mod.tape.trans h.mod.tape,hm.mod.output.trans h.mod.output,Nat.le_trans h.mod.size hm.mod.size,fun k hk hn=>?_⟩,fun e he=>?_,fun e he=>?_,?_⟩
 ·refine (hm.mod.block k (Nat.lt_of_lt_of_le hk h.mod.size) (fun hg=>?_)).trans (h.mod.block k hk hn);obtain⟨e,he,rfl⟩:=List.mem_map.1 hg
  rcases h.mine e (List.mem_append_left _ he) with h1|h1
  ·omega
  ·exact hn h1
 ·rcases List.mem_append.1 he with he|he
  ·exact hm.ok e he
  ·exact hR e he
 ·rcases List.mem_append.1 he with he|he
  ·rcases hm.mine e he with h1|h1
   ·exact .inl (Nat.le_trans h.mod.size h1)
   ·obtain⟨e',he',hg⟩:=List.mem_map.1 h1;rw[← hg];exact h.mine e' (List.mem_append_left _ he')
  ·exact h.mine e (List.mem_append_right _ he)
 ·rw[List.map_append,List.nodup_append];refine⟨hm.nodup,hnd.2.1,fun x hx y hy e=>?_⟩;obtain⟨e1,he1,rfl⟩:=List.mem_map.1 hx;obtain⟨e2,he2,rfl⟩:=List.mem_map.1 hy;have h2:=(h.ok e2 (List.mem_append_right _ he2)).lt
  rcases hm.mine e1 he1 with h1|h1
  ·omega
  ·exact hnd.2.2 _ h1 _ (List.mem_map.2 ⟨e2,he2,rfl⟩) e
end
section
variable {P:Program} {w0:World} {gs:List Nat} {n:Nat} {ops:List Oper} {Q:Exit→Act→World→Prop} {K:List (Nat × Value)} {L:List Ent} {rest:List Oper}
variable {d:Nat} {op:Op} {ty:TypeId} {pos:String} {after:Array Edge} {gd:Option (Nat × Bool)}
theorem WO.callsLV {f:FuncId} [Cal P f] {x:Operand} {xs:Array Operand} {ats:Array TypeId} {ar fs cs ar' : List Value} {M R:List Ent} {Rq:World→Prop} {post:Value→List Ent→Prop} (hc:FnL P f ar' M Rq post) (hx:ev K x=some (.func (.func f) fs.toArray cs.toArray)) (ha:evs K xs.toList=some ar) (hh:fs++ar++cs=ar')
  (hp:Pks L M R) (hR:∀ w,Mr w0 gs L w→Rq w) (k:∀ v N,post v N→WO P w0 gs n ops Q ((d,v)::K) (N++R) rest) (hd:Nat.blt d n=true:=by rfl) (hw:wk ops K gd=some true:=by rfl) :
  WO P w0 gs n ops Q K L (⟨some d,.call { callee:=.value x,args:=xs,argTypes:=ats },ty,pos,after,gd⟩::rest):=by
 intro a w hdf hsz hk hme;refine wpList_step fun F hF=>?_;rw[if_pos (zV (o:=⟨some d,.call { callee:=.value x,args:=xs,argTypes:=ats },ty,pos,after,gd⟩) hk hw)];have hd' : d<n:=by simpa [Nat.blt_eq] using hd
 have hme':=hme.perm hp.perm;have hnd:=hme'.nodup;rw[List.map_append,List.nodup_append] at hnd;unfold Oper.wp;subst hh;rw[vK hk hx ha,Oper.upon_enter];refine (hc w (fun e he=>hme'.ok e (List.mem_append_left _ he)) hnd.1 (hR w hme.mr)).mono ?_;rintro e w' ⟨v,N,rfl,hm,hq⟩;exact hF _ _ (k v N hq _ _ (by rw[put_defers];exact hdf) (by rw[z8];exact hsz) (hk.put (by omega) v) (hme'.callL hm))
theorem WO.callsL {f:FuncId} [Cal P f] {xs:Array Operand} {ats:Array TypeId} {ar:List Value} {M R:List Ent} {Rq:World→Prop} {post:Value→List Ent→Prop} (hc:FnL P f ar M Rq post)
  (hR:∀ w,Mr w0 gs L w→Rq w) (k:∀ v N,post v N→WO P w0 gs n ops Q ((d,v)::K) (N++R) rest) (ha:evs K xs.toList=some ar:=by rfl) (hp:Pks L M R:=by (repeat (first|exact Pks.nil|refine Pks.cons Pk.a ?_))) (hd:Nat.blt d n=true:=by rfl) (hw:wk ops K gd=some true:=by rfl) :
  WO P w0 gs n ops Q K L (⟨some d,.call { callee:=.value (.func f),args:=xs,argTypes:=ats },ty,pos,after,gd⟩::rest) :=
 WO.callsLV (fs:=[]) (cs:=[]) hc rfl ha (by simp) hp hR k hd hw
end
section
variable {P:Program} {w0:World} {gs:List Nat} {K:List (Nat × Value)} {L:List Ent}
theorem yf {x y:Operand} {t yt ty:TypeId} {k:IntKind} {m n:Int} (hx:ev K x=some (.int k m)) (hy:ev K y=some (.int k n)) (h:m=n):Does P w0 gs K L (.binOp .eql t x y yt) ty (.bool true):=by
 have:=nl (P:=P) (w0:=w0) (gs:=gs) (L:=L) (t:=t) (yt:=yt) (ty:=ty) hx hy;rw[decide_eq_true h] at this;exact this
theorem yU {x y:Operand} {t yt ty:TypeId} {k:IntKind} {m n:Int} (hx:ev K x=some (.int k m)) (hy:ev K y=some (.int k n)) (h:m≠n):Does P w0 gs K L (.binOp .eql t x y yt) ty (.bool false):=by
 have:=nl (P:=P) (w0:=w0) (gs:=gs) (L:=L) (t:=t) (yt:=yt) (ty:=ty) hx hy;rw[decide_eq_false h] at this;exact this
theorem vY {x y:Operand} {t yt ty:TypeId} {k:IntKind} {m n:Int} (hx:ev K x=some (.int k m)) (hy:ev K y=some (.int k n)) (h:m≠n):Does P w0 gs K L (.binOp .neq t x y yt) ty (.bool true):=by
 have:=mo (P:=P) (w0:=w0) (gs:=gs) (L:=L) (t:=t) (yt:=yt) (ty:=ty) hx hy;rw[decide_eq_true h] at this;exact this
theorem vk {x y:Operand} {t yt ty:TypeId} {k:IntKind} {m n:Int} (hx:ev K x=some (.int k m)) (hy:ev K y=some (.int k n)) (h:m=n):Does P w0 gs K L (.binOp .neq t x y yt) ty (.bool false):=by
 have:=mo (P:=P) (w0:=w0) (gs:=gs) (L:=L) (t:=t) (yt:=yt) (ty:=ty) hx hy;rw[decide_eq_false (fun hn=>hn h)] at this;exact this
theorem qB {x y:Operand} {t yt ty:TypeId} {k:IntKind} {m n:Int} (hx:ev K x=some (.int k m)) (hy:ev K y=some (.int k n)) (h:n<m):Does P w0 gs K L (.binOp .gtr t x y yt) ty (.bool true):=by
 have:=nf (P:=P) (w0:=w0) (gs:=gs) (L:=L) (t:=t) (yt:=yt) (ty:=ty) hx hy;rw[decide_eq_true h] at this;exact this
theorem yH {x y:Operand} {t yt ty:TypeId} {k:IntKind} {m n:Int} (hx:ev K x=some (.int k m)) (hy:ev K y=some (.int k n)) (h:¬ n<m):Does P w0 gs K L (.binOp .gtr t x y yt) ty (.bool false):=by
 have:=nf (P:=P) (w0:=w0) (gs:=gs) (L:=L) (t:=t) (yt:=yt) (ty:=ty) hx hy;rw[decide_eq_false h] at this;exact this
theorem qY {x y:Operand} {t yt ty:TypeId} {k:IntKind} {m n:Int} (hx:ev K x=some (.int k m)) (hy:ev K y=some (.int k n)) (h:m<n):Does P w0 gs K L (.binOp .lss t x y yt) ty (.bool true):=by
 have:=oX (P:=P) (w0:=w0) (gs:=gs) (L:=L) (t:=t) (yt:=yt) (ty:=ty) hx hy;rw[decide_eq_true h] at this;exact this
theorem yQ {x y:Operand} {t yt ty:TypeId} {k:IntKind} {m n:Int} (hx:ev K x=some (.int k m)) (hy:ev K y=some (.int k n)) (h:¬ m<n):Does P w0 gs K L (.binOp .lss t x y yt) ty (.bool false):=by
 have:=oX (P:=P) (w0:=w0) (gs:=gs) (L:=L) (t:=t) (yt:=yt) (ty:=ty) hx hy;rw[decide_eq_false h] at this;exact this
theorem mS {x y:Operand} {t yt ty:TypeId} {k:IntKind} {m n:Int} (hx:ev K x=some (.int k m)) (hy:ev K y=some (.int k n)) (h:n≤m):Does P w0 gs K L (.binOp .geq t x y yt) ty (.bool true):=by
 have:=oZ (P:=P) (w0:=w0) (gs:=gs) (L:=L) (t:=t) (yt:=yt) (ty:=ty) hx hy;rw[decide_eq_true h] at this;exact this
theorem ss {x y:Operand} {t yt ty:TypeId} {k:IntKind} {m n:Int} (hx:ev K x=some (.int k m)) (hy:ev K y=some (.int k n)) (h:¬ n≤m):Does P w0 gs K L (.binOp .geq t x y yt) ty (.bool false):=by
 have:=oZ (P:=P) (w0:=w0) (gs:=gs) (L:=L) (t:=t) (yt:=yt) (ty:=ty) hx hy;rw[decide_eq_false h] at this;exact this
theorem ec {x y:Operand} {t yt ty:TypeId} {k:IntKind} {m n:Int} (hx:ev K x=some (.int k m)) (hy:ev K y=some (.int k n)) (h:m≤n):Does P w0 gs K L (.binOp .leq t x y yt) ty (.bool true):=by
 have:=nz (P:=P) (w0:=w0) (gs:=gs) (L:=L) (t:=t) (yt:=yt) (ty:=ty) hx hy;rw[decide_eq_true h] at this;exact this
theorem cu {x y:Operand} {t yt ty:TypeId} {k:IntKind} {m n:Int} (hx:ev K x=some (.int k m)) (hy:ev K y=some (.int k n)) (h:¬ m≤n):Does P w0 gs K L (.binOp .leq t x y yt) ty (.bool false):=by
 have:=nz (P:=P) (w0:=w0) (gs:=gs) (L:=L) (t:=t) (yt:=yt) (ty:=ty) hx hy;rw[decide_eq_false h] at this;exact this
end
section
variable {P:Program} {w0:World} {gs:List Nat} {n:Nat} {ops:List Oper} {Q:Exit→Act→World→Prop} {K:List (Nat × Value)} {L:List Ent} {rest:List Oper}
variable {d:Nat} {ty:TypeId} {pos:String} {after:Array Edge} {gd:Option (Nat × Bool)}
theorem WO.appK {st xt e size bts g len cap m l:Nat} {z xs r ys:List Value} {x y:Operand} {v:Value} {L2:List Ent} [SlT P st e size] [SlT P xt e size] [ElT P e bts z] (hs:size=z.length) (hx:ev K x=some (.slice (some ⟨g,0,none⟩) len cap)) (hy:ev K y=some v)
  (hxl:xs.length=len*z.length) (hcap:(xs++r).length=cap*z.length) (hp:Pk L g e (xs++r) L2) (hr:Rds w0 gs L v m ys) (hyl:ys.length=m*z.length) (h1:ys.all Value.oneCell'=true) (hl:len+m=l) (hlb:l<9223372036854775808) (hc:cap<9223372036854775808) (hnc:l*bts≤140737488355328) (hb:bts≠0) (ht:e≠0)
  (k:∀ g' c' r',(xs++ys++r').length=c' * z.length→c' < 9223372036854775808→l≤c'→WO P w0 gs n ops Q ((d,.slice (some ⟨g',0,none⟩) l c')::K) (⟨g',e,xs++ys++r'⟩::L2) rest) (hd:Nat.blt d n=true:=by rfl) (hw:wk ops K gd=some true:=by rfl) :
  WO P w0 gs n ops Q K L (⟨some d,.call { callee:=.builtin .append,args:=#[x,y],argTypes:=#[st,xt] },ty,pos,after,gd⟩::rest):=by
 subst hl;intro a w hdf hsz hk hme;have hr1:=hr.perm hp.perm;have key:WO P w0 gs n ops Q K (⟨g,e,xs++r⟩::L2) (⟨some d,.call { callee:=.builtin .append,args:=#[x,y],argTypes:=#[st,xt] },ty,pos,after,gd⟩::rest):=by
  by_cases hroom:len+m≤cap
  ·have hle:(len+m)*z.length≤cap*z.length:=Nat.mul_le_mul_right _ hroom;rw[Nat.add_mul] at hle;have hov:over (xs++r) (len*z.length) ys=xs++ys++r.drop ys.length:=by rw[← hxl];exact sF
   refine WO.both (vM (s:=undef) (z:=z) hx hy hr1 hyl hroom h1 Rp.here hov (by rw[hcap,hyl];exact hle) hs ht) (k g cap (r.drop ys.length) ?_ hc hroom) hd hw;simp only[List.length_append,List.length_drop] at hcap ⊢;omega
  ·refine WO.news (vF (z:=z) (n:=m) hx hy (ys:=xs) (Rds.own (m:=len*z.length) Hs.here (by unfold cut;rw[List.drop_zero,← hxl,List.take_left])) hxl hr1 hyl (by omega) hlb (growslice_fits (by omega) hnc) hb hs) (fun s hs=>?_) hd hw;have e1:len*z.length+m*z.length+(s 1 - (len+m))*z.length=s 1*z.length:=by
    rw[← Nat.add_mul,← Nat.add_mul];congr 1;have:=hs.1;omega
   have hk2:=k (s 0) (s 1) (mkz (s 1 - (len+m)) z) (by rw[List.length_append,List.length_append,zC,hxl,hyl];exact e1) hs.2 hs.1;exact fun a w h1 h2 h3 h4=>hk2 a w h1 h2 h3 (h4.sub (by simp))
 exact key a w hdf hsz hk (hme.perm hp.perm)
theorem WO.appN {st xt e size bts m:Nat} {z ys:List Value} {x y:Operand} {v:Value} [SlT P st e size] [SlT P xt e size] [ElT P e bts z] (hs:size=z.length) (hx:ev K x=some (.slice none 0 0)) (hy:ev K y=some v)
  (hr:Rds w0 gs L v m ys) (hyl:ys.length=m*z.length) (hm:0<m) (hlb:m<9223372036854775808) (hnc:m*bts≤140737488355328) (hb:bts≠0)
  (k:∀ g' c' r',(ys++r').length=c' * z.length→c' < 9223372036854775808→m≤c'→WO P w0 gs n ops Q ((d,.slice (some ⟨g',0,none⟩) m c')::K) (⟨g',e,ys++r'⟩::L) rest) (hd:Nat.blt d n=true:=by rfl) (hw:wk ops K gd=some true:=by rfl) :
  WO P w0 gs n ops Q K L (⟨some d,.call { callee:=.builtin .append,args:=#[x,y],argTypes:=#[st,xt] },ty,pos,after,gd⟩::rest):=by
 refine WO.news (vF (z:=z) (n:=m) hx hy (ys:=[]) Rds.nil (by simp) hr hyl (by omega) (by omega) (by rw[Nat.zero_add];exact growslice_fits (by omega) hnc) hb hs) (fun s hs=>?_) hd hw;obtain⟨h1,h2⟩:=hs;rw[Nat.zero_add] at h1;rw[Nat.zero_add];have e1:m*z.length+(s 1 - m)*z.length=s 1*z.length:=by
  rw[← Nat.add_mul];congr 1;omega
 have hk2:=k (s 0) (s 1) (mkz (s 1 - m) z) (by rw[List.length_append,zC,hyl];exact e1) h2 h1;simpa using hk2
end
end Sx
end
end Go.Proofs.YtbbppkkhidkjpaaGreatDoor
