/- Part 20 of the proof. -/
import Derived.Test.YtbbppkkhidkjpaaGreatDoorM19
set_option linter.unusedSimpArgs false
set_option linter.unusedVariables false
set_option maxHeartbeats 8000000
namespace Go.Proofs.YtbbppkkhidkjpaaGreatDoor
section
open Go Go.RowKit Go.BigFrame
namespace Sx
attribute [local irreducible] DQ DQS WC WO WX wd
theorem em {P:Program} {w0:World} {gs:List Nat} {K:List (Nat × Value)} {L:List Ent} {x:Operand} {t ty:TypeId} {e:Nat} (hx:ev K x=some (.int .u32 (e:Int))) (he:e<4294967296):Does P w0 gs K L (.unOp .xor t x) ty (.int .u32 ((4294967295 ^^^ e:Nat):Int)):=by
 intro a w hk _ o ho _;have h:=kD (a:=4294967295) (b:=e) (by decide) he;simp only[execOp,ho,hk.eval hx];show ((do pure (Next.value (← Op.unary .xor (.int .u32 (e:Int)))):Sem Next)).run P w=_;simp only[Op.unary,Op.intBits,Sem.run_bind,Sem.run_pure,Result.andThen_ok];have:IntKind.u32.max=((4294967295:Nat):Int):=by decide
 rw[if_neg (by decide),this,h]
theorem not_lt {e:Nat} (he:e<4294967296):4294967295 ^^^ e<4294967296:=Nat.xor_lt_two_pow (n:=32) (by decide) he
theorem adf {e f g:Nat} (hg:g<4294967296):(e &&& f) ^^^ ((4294967295 ^^^ e) &&& g)=Sha.ch e f g:=by
 unfold Sha.ch;apply Nat.eq_of_testBit_eq;intro i;have h1:(4294967295:Nat).testBit i=decide (i<32):=by
  rw[show (4294967295:Nat)=2 ^ 32 - 1 by decide];exact Nat.testBit_two_pow_sub_one 32 i
 simp only[Nat.testBit_xor,Nat.testBit_and,h1]
 by_cases hi:i<32
 ·rw[decide_eq_true hi];cases e.testBit i<;>cases f.testBit i<;>cases g.testBit i<;>rfl
 ·have h2:g.testBit i=false:=Nat.testBit_lt_two_pow (Nat.lt_of_lt_of_le hg (Nat.pow_le_pow_right (by decide:0<2) (by omega:32≤i)));rw[h2,decide_eq_false hi];cases e.testBit i<;>cases f.testBit i<;>rfl
theorem aa4 {a b c:Nat}:(a &&& b) ||| (a &&& c) ||| (b &&& c)=Sha.maj a b c:=by
 unfold Sha.maj;apply Nat.eq_of_testBit_eq;intro i;simp only[Nat.testBit_xor,Nat.testBit_and,Nat.testBit_or];cases a.testBit i<;>cases b.testBit i<;>cases c.testBit i<;>rfl
theorem ux (x n:Nat) (hx:x<4294967296) (hn:n≤32):Fn Tryz.prog 198 [.int .u32 (x:Int),.int .u64 (n:Int)] Tr (Is (.int .u32 ((Sha.rotr n x:Nat):Int))):=by
 have h1:=d6 x n (n:Int) rfl hn;have h2:=oT 32 n hn (by decide);have h3:=ji x (32 - n) ((32 - n:Nat):Int) rfl (by omega);have h4:=bj (a:=x / 2 ^ n) (b:=x*2 ^ (32 - n)%4294967296) (Nat.lt_of_le_of_lt (Nat.div_le_self _ _) hx) (Nat.mod_lt _ (by decide));rw[show x / 2 ^ n ||| x*2 ^ (32 - n)%4294967296=Sha.rotr n x from rfl] at h4;refine Fn.enter Tryz.func198 rfl rfl rfl ?_;intro w hw
 repeat (first|refine Tw ?_|(refine Tm ?_;intro _)|exact Tz)
 refine WO.does (eO rfl rfl h1 (by omega)) ?_
 repeat (first|refine Ta ?_|(refine Tm ?_;intro _)|refine WO.does (zA rfl rfl h2) ?_|refine Tc ?_|exact Tz)
 refine WO.does (kX rfl rfl h3 (by omega)) ?_;refine WO.does (bT rfl rfl h4) ?_
 repeat (first|refine Tw ?_|(refine Tm ?_;intro _)|exact Tz)
theorem abn (s0 s1 s2 s3 s4 s5 s6 s7:Nat) (b:List Nat) (bb ob cb bk:Nat) (hb:∀ x∈b,x<256) (hbl:b.length=64) (hs:∀ x∈[s0,s1,s2,s3,s4,s5,s6,s7],x<4294967296) :
  Fn Tryz.prog 153 [.agg (w3C [s0,s1,s2,s3,s4,s5,s6,s7]).toArray,.slice (some ⟨bb,ob,none⟩) 64 cb,.slice (some ⟨bk,0,none⟩) 64 64] (fun w=>Seg w bb ob (byC b)∧Seg w bk 0 (w3C Sha.K)) (Is (.agg (w3C (Sha.take [s0,s1,s2,s3,s4,s5,s6,s7] b)).toArray)):=by
 generalize hS:[s0,s1,s2,s3,s4,s5,s6,s7]=S at *;have hS8:S.length=8:=by rw[← hS];rfl
 refine Fn.enter Tryz.func153 rfl rfl rfl ?_;intro w hw;obtain⟨hwb,hwk⟩:=hw
 repeat (first|refine Tw ?_|(refine Tm ?_;intro _)|exact Tz)
 rename_i g3 g6 g7
 refine WC.loopI (σ:=Nat) (fun i=>i≤16) (fun i=>[(1,.slice (some ⟨bb,ob,none⟩) 64 cb),(2,.slice (some ⟨bk,0,none⟩) 64 64),(3,pt g3),(6,pt g6),(7,pt g7),(8,.int .i64 (i:Int))])
  (fun i=>[⟨g3,173,w3C S⟩,⟨g6,173,w3C [0,0,0,0,0,0,0,0]⟩,⟨g7,226,jP (Sha.words b i) 64⟩]) (fun i=>16 - i) 0 (fun i hi=>?_) (Nat.zero_le _)
 try dsimp only at hi ⊢
 by_cases hlt:i<16
 ·have hwl:=y8 b i;have hwords:Sha.words b (i+1)=Sha.words b i++[if i<16 then Sha.w16 b i else Sha.wnext (Sha.words b i) i]:=rfl;rw[if_pos hlt] at hwords;have hm4:IntKind.i64.wrap (4*(i:Int))=((4*i:Nat):Int):=zl (by omega) (by omega) (by omega);have ha1:IntKind.i64.wrap (((4*i:Nat):Int)+1)=((4*i+1:Nat):Int):=zl (by omega) (by omega) (by omega);have ha2:IntKind.i64.wrap (((4*i:Nat):Int)+2)=((4*i+2:Nat):Int):=zl (by omega) (by omega) (by omega);have ha3:IntKind.i64.wrap (((4*i:Nat):Int)+3)=((4*i+3:Nat):Int):=zl (by omega) (by omega) (by omega);have hbF:∀ j,j<64→(byC b)[ob+j - ob]?=some (.int .u8 ((b.getD j 0:Nat):Int)):=fun j hj=>by rw[Nat.add_sub_cancel_left];exact se (by omega)
  have hb0:=hbF (4*i) (by omega);have hb1:=hbF (4*i+1) (by omega);have hb2:=hbF (4*i+2) (by omega);have hb3:=hbF (4*i+3) (by omega);clear hbF;have hl0:=getD_lt hb (by omega) (4*i);have hl1:=getD_lt hb (by omega) (4*i+1);have hl2:=getD_lt hb (by omega) (4*i+2);have hl3:=getD_lt hb (by omega) (4*i+3);have hw16:Sha.w16 b i=b.getD (4*i) 0*16777216+b.getD (4*i+1) 0*65536+b.getD (4*i+2) 0*256+b.getD (4*i+3) 0:=rfl;rw[hw16] at hwords;generalize b.getD (4*i) 0=b0 at *;generalize b.getD (4*i+1) 0=b1 at *;generalize b.getD (4*i+2) 0=b2 at *;generalize b.getD (4*i+3) 0=b3 at *;have hc0:IntKind.u32.wrap ((b0:Nat):Int)=((b0:Nat):Int):=u32_in (by omega) (by omega);have hc1:IntKind.u32.wrap ((b1:Nat):Int)=((b1:Nat):Int):=u32_in (by omega) (by omega);have hc2:IntKind.u32.wrap ((b2:Nat):Int)=((b2:Nat):Int):=u32_in (by omega) (by omega);have hc3:IntKind.u32.wrap ((b3:Nat):Int)=((b3:Nat):Int):=u32_in (by omega) (by omega);have hs0:=ji b0 24 24 rfl (by omega);have hs1:=ji b1 16 16 rfl (by omega);have hs2:=ji b2 8 8 rfl (by omega);rw[show b0*2 ^ 24%4294967296=b0*16777216 by omega] at hs0;rw[show b1*2 ^ 16%4294967296=b1*65536 by omega] at hs1;rw[show b2*2 ^ 8%4294967296=b2*256 by omega] at hs2;have ho1:=bj (a:=b0*16777216) (b:=b1*65536) (by omega) (by omega);have ho1l:=jn (a:=b0*16777216) (b:=b1*65536) (by omega) (by omega);have ho2:=bj (b:=b2*256) ho1l (by omega);have ho2l:=jn (b:=b2*256) ho1l (by omega);have ho3:=bj (b:=b3) ho2l (by omega);rw[eE b0 b1 b2 b3 hl1 hl2 hl3] at ho3;have hov:=sn (l:=Sha.words b i) (n:=64) (x:=b0*16777216+b1*65536+b2*256+b3) (by omega);rw[hwl,← hwords] at hov
  repeat (first|refine Tw ?_|(refine Tm ?_;intro _)|exact Tz)
  refine WC.dT rfl (by omega) ?_
  repeat (first|refine Tw ?_|(refine Tm ?_;intro _)|exact Tz)
  refine WC.adraw 35 (k:=?_)
  repeat (first|refine Da ?_|refine DQ.does (fun s _=>z6 rfl rfl hm4) Dp.const ?_|refine DQ.does (fun s _=>zh rfl rfl ha1) Dp.const ?_|refine DQ.does (fun s _=>zh rfl rfl ha2) Dp.const ?_|refine DQ.does (fun s _=>zh rfl rfl ha3) Dp.const ?_|refine DQ.does (fun s _=>zi (hs:=hwb) (hc:=hb0)) Dp.const ?_|refine DQ.does (fun s _=>zi (hs:=hwb) (hc:=hb1)) Dp.const ?_|refine DQ.does (fun s _=>zi (hs:=hwb) (hc:=hb2)) Dp.const ?_|refine DQ.does (fun s _=>zi (hs:=hwb) (hc:=hb3)) Dp.const ?_|refine DQ.does (fun s _=>zu rfl hc0) Dp.const ?_|refine DQ.does (fun s _=>zu rfl hc1) Dp.const ?_|refine DQ.does (fun s _=>zu rfl hc2) Dp.const ?_|refine DQ.does (fun s _=>zu rfl hc3) Dp.const ?_|refine DQ.does (fun s _=>kX rfl rfl hs0 (by decide)) Dp.const ?_|refine DQ.does (fun s _=>kX rfl rfl hs1 (by decide)) Dp.const ?_|refine DQ.does (fun s _=>kX rfl rfl hs2 (by decide)) Dp.const ?_|refine DQ.does (fun s _=>bT rfl rfl ho1) Dp.const ?_|refine DQ.does (fun s _=>bT rfl rfl ho2) Dp.const ?_|refine DQ.does (fun s _=>bT rfl rfl ho3) Dp.const ?_|refine Dc ?_)
  refine DQ.anil (k:=?_);intro sx _
  repeat (first|refine Ta ?_|(refine Tm ?_;intro _)|refine WO.stores (zB (hc:=hov) (hle:=by rw[uP (by omega)];simp;omega)) ?_|refine Tc ?_|exact Tz)
  refine WX.metI (i+1) (hs:=⟨by show i+1≤16;omega,by show 16 - (i+1)<16 - i;omega⟩)
 ·have hi16:i=16:=by omega
  rw[show Sha.words b i=Sha.words b 16 by rw[hi16]]
  repeat (first|refine Tw ?_|(refine Tm ?_;intro _)|exact Tz)
  refine WC.dF rfl (by omega) ?_
  repeat (first|refine Tw ?_|(refine Tm ?_;intro _)|exact Tz)
  clear hlt hi hi16 hwb
  refine WC.loopI (σ:=Nat) (fun i=>16≤i∧i≤64) (fun i=>[(2,.slice (some ⟨bk,0,none⟩) 64 64),(3,pt g3),(6,pt g6),(7,pt g7),(9,.int .i64 (i:Int))])
   (fun i=>[⟨g3,173,w3C S⟩,⟨g6,173,w3C [0,0,0,0,0,0,0,0]⟩,⟨g7,226,jP (Sha.words b i) 64⟩]) (fun i=>64 - i) 16 (fun i hi=>?_) (by decide)
  try dsimp only at hi ⊢
  obtain⟨hi1,hi⟩:=hi
  by_cases hlt:i<64
  ·have hwl:=y8 b i;have hwords:Sha.words b (i+1)=Sha.words b i++[if i<16 then Sha.w16 b i else Sha.wnext (Sha.words b i) i]:=rfl;rw[if_neg (by omega)] at hwords;have hc15:IntKind.i64.wrap ((i:Int) - 15)=((i - 15:Nat):Int):=zl (by omega) (by omega) (by omega);have hc2:IntKind.i64.wrap ((i:Int) - 2)=((i - 2:Nat):Int):=zl (by omega) (by omega) (by omega);have hc16:IntKind.i64.wrap ((i:Int) - 16)=((i - 16:Nat):Int):=zl (by omega) (by omega) (by omega);have hc7:IntKind.i64.wrap ((i:Int) - 7)=((i - 7:Nat):Int):=zl (by omega) (by omega) (by omega);have hwlt:=sj hb i;have hx15:=ul (n:=64) (getD_get (l:=Sha.words b i) (i:=i - 15) (by omega));have hx2:=ul (n:=64) (getD_get (l:=Sha.words b i) (i:=i - 2) (by omega));have hx16:=ul (n:=64) (getD_get (l:=Sha.words b i) (i:=i - 16) (by omega));have hx7:=ul (n:=64) (getD_get (l:=Sha.words b i) (i:=i - 7) (by omega));have hl15:=getD_lt hwlt (by omega) (i - 15);have hl2:=getD_lt hwlt (by omega) (i - 2);have hwn:Sha.wnext (Sha.words b i) i=((Sha.words b i).getD (i - 16) 0+(Sha.words b i).getD (i - 7) 0+Sha.sig0 ((Sha.words b i).getD (i - 15) 0)+Sha.sig1 ((Sha.words b i).getD (i - 2) 0))%4294967296:=rfl;rw[hwn] at hwords;generalize (Sha.words b i).getD (i - 15) 0=x15 at *;generalize (Sha.words b i).getD (i - 2) 0=x2 at *;generalize (Sha.words b i).getD (i - 16) 0=x16 at *;generalize (Sha.words b i).getD (i - 7) 0=x7 at *;have hr1:=ux x15 7 hl15 (by decide);have hr2:=ux x15 18 hl15 (by decide);have hr3:=ux x2 17 hl2 (by decide);have hr4:=ux x2 19 hl2 (by decide);have hxa:=tQ (yv (n:=7) hl15) (yv (n:=18) hl15);have hxb:=tQ (yv (n:=17) hl2) (yv (n:=19) hl2);have hq1:=ui x16 x7;have hq2:=d6 x15 3 3 rfl (by omega);have hq3:=tQ (rR (yv (n:=7) hl15) (yv (n:=18) hl15)) (Nat.lt_of_le_of_lt (Nat.div_le_self x15 (2 ^ 3)) hl15);rw[show Sha.rotr 7 x15 ^^^ Sha.rotr 18 x15 ^^^ x15 / 2 ^ 3=Sha.sig0 x15 from rfl] at hq3;have hq4:=ui ((x16+x7)%4294967296) (Sha.sig0 x15);have hq5:=d6 x2 10 10 rfl (by omega);have hq6:=tQ (rR (yv (n:=17) hl2) (yv (n:=19) hl2)) (Nat.lt_of_le_of_lt (Nat.div_le_self x2 (2 ^ 10)) hl2);rw[show Sha.rotr 17 x2 ^^^ Sha.rotr 19 x2 ^^^ x2 / 2 ^ 10=Sha.sig1 x2 from rfl] at hq6;have hq7:=ui (((x16+x7)%4294967296+Sha.sig0 x15)%4294967296) (Sha.sig1 x2);rw[show ((((x16+x7)%4294967296+Sha.sig0 x15)%4294967296)+Sha.sig1 x2)%4294967296=(x16+x7+Sha.sig0 x15+Sha.sig1 x2)%4294967296 by omega] at hq7;have hov:=sn (l:=Sha.words b i) (n:=64) (x:=(x16+x7+Sha.sig0 x15+Sha.sig1 x2)%4294967296) (by omega);rw[hwl,← hwords] at hov;generalize Sha.sig0 x15=S0 at *;generalize Sha.sig1 x2=S1 at *;generalize Sha.rotr 7 x15=R7 at *;generalize Sha.rotr 18 x15=R18 at *;generalize Sha.rotr 17 x2=R17 at *;generalize Sha.rotr 19 x2=R19 at *
   repeat (first|refine Tw ?_|(refine Tm ?_;intro _)|exact Tz)
   refine WC.dT rfl (by omega) ?_
   repeat (first|refine Ta ?_|(refine Tm ?_;intro _)|refine WO.does (zA rfl rfl hc15) ?_|refine WO.does (zA rfl rfl hc2) ?_|refine WO.does (zJ (hc:=hx15)) ?_|refine WO.does (zJ (hc:=hx2)) ?_|refine Tc ?_|exact Tz)
   refine WC.adraw 29 (k:=?_)
   repeat (first|refine Da ?_|refine DQ.does (fun s _=>zA rfl rfl hc16) Dp.const ?_|refine DQ.does (fun s _=>zA rfl rfl hc7) Dp.const ?_|refine DQ.does (fun s _=>zJ (hc:=hx16)) Dp.const ?_|refine DQ.does (fun s _=>zJ (hc:=hx7)) Dp.const ?_|refine DQ.does (fun s _=>ug rfl rfl hq1) Dp.const ?_|refine DQ.does (fun s _=>ug rfl rfl hq4) Dp.const ?_|refine DQ.does (fun s _=>ug rfl rfl hq7) Dp.const ?_|refine DQ.does (fun s _=>eO rfl rfl hq2 (by decide)) Dp.const ?_|refine DQ.does (fun s _=>eO rfl rfl hq5 (by decide)) Dp.const ?_|refine DQ.does (fun s _=>tL rfl rfl hxa) Dp.const ?_|refine DQ.does (fun s _=>tL rfl rfl hxb) Dp.const ?_|refine DQ.does (fun s _=>tL rfl rfl hq3) Dp.const ?_|refine DQ.does (fun s _=>tL rfl rfl hq6) Dp.const ?_|refine DQ.acall (hc:=hr1) (k:=?_)|refine DQ.acall (hc:=hr2) (k:=?_)|refine DQ.acall (hc:=hr3) (k:=?_)|refine DQ.acall (hc:=hr4) (k:=?_)|refine Dc ?_)
   refine DQ.anil (k:=?_);intro sx _
   repeat (first|refine Ta ?_|(refine Tm ?_;intro _)|refine WO.stores (zB (hc:=hov) (hle:=by rw[uP (by omega)];simp;omega)) ?_|refine Tc ?_|exact Tz)
   refine WX.metI (i+1) (hs:=⟨⟨by show 16≤i+1;omega,by show i+1≤64;omega⟩,by show 64 - (i+1)<64 - i;omega⟩)
  ·have hi64:i=64:=by omega
   have hWl:=y8 b 64;have hWlt:=sj hb 64;have hwp:jP (Sha.words b 64) 64=w3C (Sha.words b 64):=by unfold jP;rw[hWl];simp
   have htk:Sha.take S b=Sha.addW (Sha.rnds S (Sha.words b 64) 64) S:=rfl;rw[show Sha.words b i=Sha.words b 64 by rw[hi64],hwp,htk];generalize Sha.words b 64=W at *;have hcut:cut (w3C S) 0 8=w3C S:=by unfold cut;rw[List.drop_zero,List.take_of_length_le (by rw[zm,hS8];omega)]
   have hov8:over [.int .u32 0,.int .u32 0,.int .u32 0,.int .u32 0,.int .u32 0,.int .u32 0,.int .u32 0,.int .u32 0] 0 (w3C S)=w3C S:=by simp[over,zm,hS8]
   repeat (first|refine Tw ?_|(refine Tm ?_;intro _)|exact Tz)
   refine WC.dF rfl (by omega) ?_
   repeat (first|refine Ta ?_|(refine Tm ?_;intro _)|refine WO.does (zz (vs:=w3C S) (hc:=hcut) (hl:=by rw[zm,hS8])) ?_|refine WO.stores (zB (vs:=w3C S) (hl:=by rw[zm,hS8]) (h1:=rb S) (hc:=hov8) (hle:=by rw[zm,hS8];rfl)) ?_|refine Tc ?_|exact Tz)
   clear hlt hi hi64 hi1;rename_i g12
   refine WC.loopI (σ:=Nat) (fun i=>i≤64) (fun i=>[(2,.slice (some ⟨bk,0,none⟩) 64 64),(3,pt g3),(6,pt g6),(7,pt g7),(12,pt g12),(13,.int .i64 (i:Int))])
    (fun i=>[⟨g3,173,w3C S⟩,⟨g6,173,w3C [0,0,0,0,0,0,0,0]⟩,⟨g7,226,w3C W⟩,⟨g12,173,w3C (Sha.rnds S W i)⟩]) (fun i=>64 - i) 0 (fun i hi=>?_) (Nat.zero_le _)
   try dsimp only at hi ⊢
   by_cases hlt:i<64
   ·have hr8:=y5 (w:=W) hS8 i;have hrl:=jq (w:=W) hs hS8 i;have hnext:Sha.rnds S W (i+1)=Sha.rnd (Sha.rnds S W i) (Sha.K.getD i 0) (W.getD i 0):=rfl;have hk:=uV (getD_get (l:=Sha.K) (i:=i) (by show i<64;exact hlt));have hk' : (w3C Sha.K)[i - 0]?=some (.int .u32 ((Sha.K.getD i 0:Nat):Int)):=hk;have hw0:=uV (getD_get (l:=W) (i:=i) (by omega));obtain⟨a,bb',c,d,e,f,g,h,hr⟩:=eight hr8;rw[hr] at hnext hrl;have hla:a<4294967296:=hrl a (by simp);have hlb:bb' < 4294967296:=hrl bb' (by simp);have hlc:c<4294967296:=hrl c (by simp);have hle:e<4294967296:=hrl e (by simp);have hlf:f<4294967296:=hrl f (by simp);have hlg:g<4294967296:=hrl g (by simp);clear hrl hk;generalize Sha.K.getD i 0=k at *;generalize W.getD i 0=x at *;have hr1:=ux e 6 hle (by decide);have hr2:=ux e 11 hle (by decide);have hr3:=ux e 25 hle (by decide);have hr4:=ux a 2 hla (by decide);have hr5:=ux a 13 hla (by decide);have hr6:=ux a 22 hla (by decide);have hxa:=tQ (yv (n:=6) hle) (yv (n:=11) hle);have hxb:=tQ (rR (yv (n:=6) hle) (yv (n:=11) hle)) (yv (n:=25) hle);rw[show Sha.rotr 6 e ^^^ Sha.rotr 11 e ^^^ Sha.rotr 25 e=Sha.Sig1 e from rfl] at hxb;have hxc:=tQ (yv (n:=2) hla) (yv (n:=13) hla);have hxd:=tQ (rR (yv (n:=2) hla) (yv (n:=13) hla)) (yv (n:=22) hla);rw[show Sha.rotr 2 a ^^^ Sha.rotr 13 a ^^^ Sha.rotr 22 a=Sha.Sig0 a from rfl] at hxd;have hq1:=ui h (Sha.Sig1 e);have hq2:=nq hle hlf;have hnl:=not_lt hle;have hq3:=nq hnl hlg;have hq4:=tQ (uo (b:=f) hle) (uo (b:=g) hnl);rw[adf hlg] at hq4;have hq5:=ui ((h+Sha.Sig1 e)%4294967296) (Sha.ch e f g);have hq6:=ui (((h+Sha.Sig1 e)%4294967296+Sha.ch e f g)%4294967296) k;have hq7:=ui ((((h+Sha.Sig1 e)%4294967296+Sha.ch e f g)%4294967296+k)%4294967296) x;rw[show (((((h+Sha.Sig1 e)%4294967296+Sha.ch e f g)%4294967296+k)%4294967296)+x)%4294967296=(h+Sha.Sig1 e+Sha.ch e f g+k+x)%4294967296 by omega] at hq7;have hst:Sha.rnd [a,bb',c,d,e,f,g,h] k x=[((h+Sha.Sig1 e+Sha.ch e f g+k+x)%4294967296+Sha.Sig0 a+Sha.maj a bb' c)%4294967296,a,bb',c,(d+(h+Sha.Sig1 e+Sha.ch e f g+k+x)%4294967296)%4294967296,e,f,g]:=rfl;rw[hst] at hnext;generalize (h+Sha.Sig1 e+Sha.ch e f g+k+x)%4294967296=T at *;have hp2:=nq hla hlb;have hp3:=nq hla hlc;have hp4:=bj (uo (b:=bb') hla) (uo (b:=c) hla);have hp5:=nq hlb hlc;have hp6:=bj (jn (uo (b:=bb') hla) (uo (b:=c) hla)) (uo (b:=c) hlb);rw[aa4] at hp6;have hp1:=ui (Sha.Sig0 a) (Sha.maj a bb' c);have hp7:=ui T ((Sha.Sig0 a+Sha.maj a bb' c)%4294967296);rw[show (T+(Sha.Sig0 a+Sha.maj a bb' c)%4294967296)%4294967296=(T+Sha.Sig0 a+Sha.maj a bb' c)%4294967296 by omega] at hp7;have hp8:=ui d T;have hov:over [.int .u32 (a:Int),.int .u32 (bb' : Int),.int .u32 (c:Int),.int .u32 (d:Int),.int .u32 (e:Int),.int .u32 (f:Int),.int .u32 (g:Int),.int .u32 (h:Int)] 0 (w3C [(T+Sha.Sig0 a+Sha.maj a bb' c)%4294967296,a,bb',c,(d+T)%4294967296,e,f,g])=w3C (Sha.rnds S W (i+1)):=by rw[hnext];rfl
    rw[hr,show w3C [a,bb',c,d,e,f,g,h]=[.int .u32 (a:Int),.int .u32 (bb' : Int),.int .u32 (c:Int),.int .u32 (d:Int),.int .u32 (e:Int),.int .u32 (f:Int),.int .u32 (g:Int),.int .u32 (h:Int)] from rfl];generalize Sha.Sig1 e=Z1 at *;generalize Sha.Sig0 a=Z0 at *;generalize Sha.ch e f g=Z2 at *;generalize Sha.maj a bb' c=Z3 at *;generalize Sha.rotr 6 e=R6 at *;generalize Sha.rotr 11 e=R11 at *;generalize Sha.rotr 25 e=R25 at *;generalize Sha.rotr 2 a=R2 at *;generalize Sha.rotr 13 a=R13 at *;generalize Sha.rotr 22 a=R22 at *
    repeat (first|refine Tw ?_|(refine Tm ?_;intro _)|exact Tz)
    refine WC.dT rfl (by omega) ?_
    repeat (first|refine Tw ?_|(refine Tm ?_;intro _)|exact Tz)
    refine WC.adraw 32 (k:=?_)
    repeat (first|refine Da ?_|refine DQ.does (fun s _=>ug rfl rfl hq1) Dp.const ?_|refine DQ.does (fun s _=>ug rfl rfl hq5) Dp.const ?_|refine DQ.does (fun s _=>ug rfl rfl hq6) Dp.const ?_|refine DQ.does (fun s _=>ug rfl rfl hq7) Dp.const ?_|refine DQ.does (fun s _=>tL rfl rfl hxa) Dp.const ?_|refine DQ.does (fun s _=>tL rfl rfl hxb) Dp.const ?_|refine DQ.does (fun s _=>o6 rfl rfl hq2) Dp.const ?_|refine DQ.does (fun s _=>o6 rfl rfl hq3) Dp.const ?_|refine DQ.does (fun s _=>tL rfl rfl hq4) Dp.const ?_|refine DQ.does (fun s _=>em rfl hle) Dp.const ?_|refine DQ.does (fun s _=>zi (hs:=hwk) (hc:=hk')) Dp.const ?_|refine DQ.does (fun s _=>zJ (hc:=hw0)) Dp.const ?_|refine DQ.acall (hc:=hr1) (k:=?_)|refine DQ.acall (hc:=hr2) (k:=?_)|refine DQ.acall (hc:=hr3) (k:=?_)|refine Dc ?_)
    refine DQ.anil (k:=?_);intro sx _
    repeat (first|refine Tw ?_|(refine Tm ?_;intro _)|exact Tz)
    refine WC.adraw 25 (k:=?_)
    repeat (first|refine Da ?_|refine DQ.does (fun s _=>ug rfl rfl hp1) Dp.const ?_|refine DQ.does (fun s _=>tL rfl rfl hxc) Dp.const ?_|refine DQ.does (fun s _=>tL rfl rfl hxd) Dp.const ?_|refine DQ.does (fun s _=>o6 rfl rfl hp2) Dp.const ?_|refine DQ.does (fun s _=>o6 rfl rfl hp3) Dp.const ?_|refine DQ.does (fun s _=>o6 rfl rfl hp5) Dp.const ?_|refine DQ.does (fun s _=>bT rfl rfl hp4) Dp.const ?_|refine DQ.does (fun s _=>bT rfl rfl hp6) Dp.const ?_|refine DQ.acall (hc:=hr4) (k:=?_)|refine DQ.acall (hc:=hr5) (k:=?_)|refine DQ.acall (hc:=hr6) (k:=?_)|refine Dc ?_)
    refine DQ.anil (k:=?_);intro sx _
    repeat (first|refine WO.stores (zB (vs:=w3C [(T+Z0+Z3)%4294967296,a,bb',c,(d+T)%4294967296,e,f,g]) (hc:=hov)) ?_|refine Ta ?_|(refine Tm ?_;intro _)|refine WO.does (ug rfl rfl hp7) ?_|refine WO.does (ug rfl rfl hp8) ?_|refine WO.does (zM (cs:=w3C [(T+Z0+Z3)%4294967296,a,bb',c,(d+T)%4294967296,e,f,g]) rfl rfl rfl) ?_|refine Tc ?_|exact Tz)
    refine WX.metI (i+1) (hs:=⟨by show i+1≤64;omega,by show 64 - (i+1)<64 - i;omega⟩)
   ·have hi64:i=64:=by omega
    have hR8:=y5 (w:=W) hS8 64;rw[show Sha.rnds S W i=Sha.rnds S W 64 by rw[hi64]];generalize Sha.rnds S W 64=R at *;have hRS:R.length=S.length:=by omega
    have hR0:w3C R=w3C (mxW R S 0):=by simp[mxW]
    rw[hR0]
    repeat (first|refine Tw ?_|(refine Tm ?_;intro _)|exact Tz)
    refine WC.dF rfl (by omega) ?_
    repeat (first|refine Tw ?_|(refine Tm ?_;intro _)|exact Tz)
    clear hlt hi hi64
    refine WC.loopI (σ:=Nat) (fun i=>i≤8) (fun i=>[(3,pt g3),(6,pt g6),(12,pt g12),(18,.int .i64 (i:Int))])
     (fun i=>[⟨g3,173,w3C S⟩,⟨g6,173,w3C [0,0,0,0,0,0,0,0]⟩,⟨g12,173,w3C (mxW R S i)⟩]) (fun i=>8 - i) 0 (fun i hi=>?_) (Nat.zero_le _)
    try dsimp only at hi ⊢
    by_cases hlt:i<8
    ·have h1:=fS hRS (i:=i) (by omega);have h2:=uV (getD_get (l:=S) (i:=i) (by omega));have h3:=ui (R.getD i 0) (S.getD i 0);have hov:=ij hRS (i:=i) (by omega);have hml:(mxW R S i).length=8:=by unfold mxW;rw[List.length_append,List.length_take,List.length_drop,yw hRS];omega
     generalize R.getD i 0=r at *;generalize S.getD i 0=y at *
     repeat (first|refine Tw ?_|(refine Tm ?_;intro _)|exact Tz)
     refine WC.dT rfl (by omega) ?_
     repeat (first|refine Tw ?_|(refine Tm ?_;intro _)|exact Tz)
     refine WC.adraw 9 (k:=?_)
     repeat (first|refine Da ?_|refine DQ.does (fun s _=>zJ (hc:=h1)) Dp.const ?_|refine DQ.does (fun s _=>zJ (hc:=h2)) Dp.const ?_|refine DQ.does (fun s _=>ug rfl rfl h3) Dp.const ?_|refine Dc ?_)
     refine DQ.anil (k:=?_);intro sx _
     repeat (first|refine Ta ?_|(refine Tm ?_;intro _)|refine WO.stores (zB (hc:=hov) (hle:=by rw[zm,hml];simp;omega)) ?_|refine Tc ?_|exact Tz)
     refine WX.metI (i+1) (hs:=⟨by show i+1≤8;omega,by show 8 - (i+1)<8 - i;omega⟩)
    ·have hi8:i=8:=by omega
     have hfull:mxW R S 8=Sha.addW R S:=by have:=ju hRS;rwa [hR8] at this
     have hA8:(Sha.addW R S).length=8:=by rw[yw hRS,hR8]
     rw[show mxW R S i=Sha.addW R S by rw[hi8];exact hfull];generalize Sha.addW R S=A at *;have hcut:cut (w3C A) 0 8=w3C A:=by unfold cut;rw[List.drop_zero,List.take_of_length_le (by rw[zm,hA8];omega)]
     have hovA:over (w3C [0,0,0,0,0,0,0,0]) 0 (w3C A)=w3C A:=by simp[over,zm,hA8]
     repeat (first|refine Tw ?_|(refine Tm ?_;intro _)|exact Tz)
     refine WC.dF rfl (by omega) ?_
     repeat (first|refine Ta ?_|(refine Tm ?_;intro _)|refine WO.does (zz (vs:=w3C A) (hc:=hcut) (hl:=by rw[zm,hA8])) ?_|refine WO.stores (zB (vs:=w3C A) (hl:=by rw[zm,hA8]) (h1:=rb A) (hc:=hovA) (hle:=by rw[zm,hA8];rfl)) ?_|refine Tc ?_|exact Tz)
     exact WX.aret1 (hr:=uh (vs:=w3C A) (hc:=hcut) (hl:=by rw[zm,hA8])) (hp:=rfl)
end Sx
end
end Go.Proofs.YtbbppkkhidkjpaaGreatDoor
