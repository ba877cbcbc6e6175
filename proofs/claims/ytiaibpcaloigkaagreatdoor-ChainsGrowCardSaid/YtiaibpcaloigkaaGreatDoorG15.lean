/- Part 15 of the proof. -/
import Derived.Test.YtiaibpcaloigkaaGreatDoorG14
set_option linter.unusedSimpArgs false
set_option linter.unusedVariables false
set_option maxHeartbeats 8000000
namespace Go.Proofs.YtiaibpcaloigkaaGreatDoor
section
open Go Go.RowKit Go.BigFrame
namespace Sx
attribute [local irreducible] DQ WC WO WX wd
theorem agp (s0 s1 s2 s3 s4 s5 s6 s7:Nat) (b:LN) (hb:∀ x∈b,x<256) (hbl:b.length=64) (hs:∀ x∈[s0,s1,s2,s3,s4,s5,s6,s7],x<4294967296) :
  Fn Tryz.prog 218 [.agg (w3C [s0,s1,s2,s3,s4,s5,s6,s7]).toArray,.agg (byC b).toArray] Tr (Is (.agg (w3C (Sha.take [s0,s1,s2,s3,s4,s5,s6,s7] b)).toArray)):=by
 generalize hS:[s0,s1,s2,s3,s4,s5,s6,s7]=S at *;have hS8:S.length=8:=by rw[← hS];rfl
 refine Fn.enter Tryz.func218 rfl rfl rfl ?_;intro w hw
 repeat (first|refine Tk ?_|intro _|exact Tz)
 rename_i g2 g3 g4 g5
 refine WC.loopI (σ:=Nat) (fun i=>i≤64) (fun i=>[(2,pt g2),(3,pt g3),(4,pt g4),(5,pt g5),(22,.int .i64 (i:Int))])
  (fun i=>[⟨g2,275,w3C S⟩,⟨g3,277,byC b⟩,⟨g4,275,w3C [0,0,0,0,0,0,0,0]⟩,⟨g5,371,aA (Sha.words b i) 64⟩]) (fun i=>64 - i) 0 (fun i hi=>?_) (Nat.zero_le _)
 try dsimp only at hi ⊢
 by_cases hlt:i<64
 ·have hwl:=u4 b i;have hwords:Sha.words b (i+1)=Sha.words b i++[if i<16 then Sha.w16 b i else Sha.wnext (Sha.words b i) i]:=rfl
  repeat (first|refine Tk ?_|intro _|exact Tz)
  refine WC.dT rfl Om ?_
  repeat (first|refine Tk ?_|intro _|exact Tz)
  by_cases h16:i<16
  ·rw[if_pos h16] at hwords;have hm4:IntKind.i64.wrap (4*(i:Int))=((4*i:Nat):Int):=zl Om Om Om;have ha1:IntKind.i64.wrap (((4*i:Nat):Int)+1)=((4*i+1:Nat):Int):=zl Om Om Om;have ha2:IntKind.i64.wrap (((4*i:Nat):Int)+2)=((4*i+2:Nat):Int):=zl Om Om Om;have ha3:IntKind.i64.wrap (((4*i:Nat):Int)+3)=((4*i+3:Nat):Int):=zl Om Om Om;have hb0:=ri (b:=b) (i:=4*i) Om;have hb1:=ri (b:=b) (i:=4*i+1) Om;have hb2:=ri (b:=b) (i:=4*i+2) Om;have hb3:=ri (b:=b) (i:=4*i+3) Om;have hl0:=getD_lt hb Om (4*i);have hl1:=getD_lt hb Om (4*i+1);have hl2:=getD_lt hb Om (4*i+2);have hl3:=getD_lt hb Om (4*i+3);have hw16:Sha.w16 b i=b.getD (4*i) 0*16777216+b.getD (4*i+1) 0*65536+b.getD (4*i+2) 0*256+b.getD (4*i+3) 0:=rfl;rw[hw16] at hwords;generalize b.getD (4*i) 0=b0 at *;generalize b.getD (4*i+1) 0=b1 at *;generalize b.getD (4*i+2) 0=b2 at *;generalize b.getD (4*i+3) 0=b3 at *;have hs0:=aet b0 24 24 rfl Om;have hs1:=aet b1 16 16 rfl Om;have hs2:=aet b2 8 8 rfl Om;rw[show b0*2 ^ 24%4294967296=b0*16777216 by omega] at hs0;rw[show b1*2 ^ 16%4294967296=b1*65536 by omega] at hs1;rw[show b2*2 ^ 8%4294967296=b2*256 by omega] at hs2;have ho1:=ahl (a:=b0*16777216) (b:=b1*65536) Om Om;have ho1l:=aX (a:=b0*16777216) (b:=b1*65536) Om Om;have ho2:=ahl (b:=b2*256) ho1l Om;have ho2l:=aX (b:=b2*256) ho1l Om;have ho3:=ahl (b:=b3) ho2l Om;rw[adk b0 b1 b2 b3 hl1 hl2 hl3] at ho3;have hov:=m7 (l:=Sha.words b i) (n:=64) (x:=b0*16777216+b1*65536+b2*256+b3) Om;rw[hwl,← hwords] at hov;refine WC.dT rfl Om ?_
   repeat (first|refine Tk ?_|intro _|exact Tz)
   refine WC.adraw 31 (k:=?_)
   repeat (first|refine Da ?_|refine DQ.does (fun s _=>ym rfl rfl hm4) Dp.const ?_|refine DQ.does (fun s _=>zi rfl rfl ha1) Dp.const ?_|refine DQ.does (fun s _=>zi rfl rfl ha2) Dp.const ?_|refine DQ.does (fun s _=>zi rfl rfl ha3) Dp.const ?_|refine DQ.does (fun s _=>zx (hc:=hb0)) Dp.const ?_|refine DQ.does (fun s _=>zx (hc:=hb1)) Dp.const ?_|refine DQ.does (fun s _=>zx (hc:=hb2)) Dp.const ?_|refine DQ.does (fun s _=>zx (hc:=hb3)) Dp.const ?_|refine DQ.does (fun s _=>aeq rfl rfl hs0 Dtt) Dp.const ?_|refine DQ.does (fun s _=>aeq rfl rfl hs1 Dtt) Dp.const ?_|refine DQ.does (fun s _=>aeq rfl rfl hs2 Dtt) Dp.const ?_|refine DQ.does (fun s _=>ahD rfl rfl ho1) Dp.const ?_|refine DQ.does (fun s _=>ahD rfl rfl ho2) Dp.const ?_|refine DQ.does (fun s _=>ahD rfl rfl ho3) Dp.const ?_|refine Dc ?_)
   refine DQ.anil (k:=?_);intro sx _
   repeat (first|refine Tj ?_|intro _|refine WO.stores (zo (hc:=hov) (hle:=by rw[rA Om];simp;omega)) ?_|refine Tc ?_|exact Tz)
   refine WX.metI (i+1) (hs:=⟨by show i+1≤64;omega,by show 64 - (i+1)<64 - i;omega⟩)
  ·rw[if_neg h16] at hwords;have hc15:IntKind.i64.wrap ((i:Int) - 15)=((i - 15:Nat):Int):=zl Om Om Om;have hc2:IntKind.i64.wrap ((i:Int) - 2)=((i - 2:Nat):Int):=zl Om Om Om;have hc16:IntKind.i64.wrap ((i:Int) - 16)=((i - 16:Nat):Int):=zl Om Om Om;have hc7:IntKind.i64.wrap ((i:Int) - 7)=((i - 7:Nat):Int):=zl Om Om Om;have hwlt:=oE hb i;have hx15:=rq (n:=64) (getD_get (l:=Sha.words b i) (i:=i - 15) Om);have hx2:=rq (n:=64) (getD_get (l:=Sha.words b i) (i:=i - 2) Om);have hx16:=rq (n:=64) (getD_get (l:=Sha.words b i) (i:=i - 16) Om);have hx7:=rq (n:=64) (getD_get (l:=Sha.words b i) (i:=i - 7) Om);have hl15:=getD_lt hwlt Om (i - 15);have hl2:=getD_lt hwlt Om (i - 2);have hwn:Sha.wnext (Sha.words b i) i=((Sha.words b i).getD (i - 16) 0+(Sha.words b i).getD (i - 7) 0+Sha.sig0 ((Sha.words b i).getD (i - 15) 0)+Sha.sig1 ((Sha.words b i).getD (i - 2) 0))%4294967296:=rfl;rw[hwn] at hwords;generalize (Sha.words b i).getD (i - 15) 0=x15 at *;generalize (Sha.words b i).getD (i - 2) 0=x2 at *;generalize (Sha.words b i).getD (i - 16) 0=x16 at *;generalize (Sha.words b i).getD (i - 7) 0=x7 at *;have hq1:=qm x16 x7;have hq2:=af2 x15 3 3 rfl Om;have hq3:=gu (kA hl15 [7,18]) (Nat.lt_of_le_of_lt (Nat.div_le_self x15 (2 ^ 3)) hl15);rw[show qY x15 [7,18] ^^^ x15 / 2 ^ 3=Sha.sig0 x15 from abe] at hq3;have hq4:=qm ((x16+x7)%4294967296) (Sha.sig0 x15);have hq5:=af2 x2 10 10 rfl Om;have hq6:=gu (kA hl2 [17,19]) (Nat.lt_of_le_of_lt (Nat.div_le_self x2 (2 ^ 10)) hl2);rw[show qY x2 [17,19] ^^^ x2 / 2 ^ 10=Sha.sig1 x2 from abc] at hq6;have hq7:=qm (((x16+x7)%4294967296+Sha.sig0 x15)%4294967296) (Sha.sig1 x2);rw[show ((((x16+x7)%4294967296+Sha.sig0 x15)%4294967296)+Sha.sig1 x2)%4294967296=(x16+x7+Sha.sig0 x15+Sha.sig1 x2)%4294967296 by omega] at hq7;have hm1:=fun g=>abQ x15 g 2 [7,18] hl15 Dtt Dtt;have hm2:=fun g=>abQ x2 g 2 [17,19] hl2 Dtt Dtt;have hov:=m7 (l:=Sha.words b i) (n:=64) (x:=(x16+x7+Sha.sig0 x15+Sha.sig1 x2)%4294967296) Om;rw[hwl,← hwords] at hov;refine WC.dF rfl Om ?_
   repeat (first|refine Tk ?_|intro _|exact Tz)
   refine WC.adraw 10 (k:=?_)
   repeat (first|refine Da ?_|refine DQ.does (fun s _=>zG rfl rfl hc15) Dp.const ?_|refine DQ.does (fun s _=>zG rfl rfl hc2) Dp.const ?_|refine DQ.does (fun s _=>zx (hc:=hx15)) Dp.const ?_|refine DQ.does (fun s _=>zx (hc:=hx2)) Dp.const ?_|refine Dc ?_)
   refine DQ.anil (k:=?_);intro sx _
   repeat (first|refine Tk ?_|intro _|exact Tz)
   refine WC.adraw 25 (k:=?_)
   repeat (first|refine Da ?_|refine DQ.does (fun s _=>zG rfl rfl hc16) Dp.const ?_|refine DQ.does (fun s _=>zG rfl rfl hc7) Dp.const ?_|refine DQ.does (fun s _=>zx (hc:=hx16)) Dp.const ?_|refine DQ.does (fun s _=>zx (hc:=hx7)) Dp.const ?_|refine DQ.does (fun s _=>qa rfl rfl hq1) Dp.const ?_|refine DQ.does (fun s _=>qa rfl rfl hq4) Dp.const ?_|refine DQ.does (fun s _=>qa rfl rfl hq7) Dp.const ?_|refine DQ.does (fun s _=>agw rfl rfl hq2 Dtt) Dp.const ?_|refine DQ.does (fun s _=>agw rfl rfl hq5 Dtt) Dp.const ?_|refine DQ.does (fun s _=>gQ rfl rfl hq3) Dp.const ?_|refine DQ.does (fun s _=>gQ rfl rfl hq6) Dp.const ?_|refine DQ.makes (fun s _=>zh (cs:=inC [7,18]) rfl Dtt rfl) Dp.const Dp.const ?_|refine DQ.makes (fun s _=>zh (cs:=inC [17,19]) rfl Dtt rfl) Dp.const Dp.const ?_|refine DQ.acallB 11 (fun s=>⟨s 11 0,3,inC [7,18]⟩) (fun s=>hm1 (s 11 0)) (fun s w hm=>Hs.here.seg hm) ?_|refine DQ.acallB 18 (fun s=>⟨s 18 0,3,inC [17,19]⟩) (fun s=>hm2 (s 18 0)) (fun s w hm=>Hs.here.seg hm) ?_|refine Dc ?_)
   refine DQ.anil (k:=?_);intro sx _
   repeat (first|refine Tj ?_|intro _|refine WO.stores (zo (hc:=hov) (hle:=by rw[rA Om];simp;omega)) ?_|refine Tc ?_|exact Tz)
   refine WX.metI (i+1) (hs:=⟨by show i+1≤64;omega,by show 64 - (i+1)<64 - i;omega⟩)
 ·have hi64:i=64:=by omega
  subst hi64;have hWl:=u4 b 64;have hWlt:=oE hb 64;have hwp:aA (Sha.words b 64) 64=w3C (Sha.words b 64):=by unfold aA;rw[hWl];simp
  have htk:Sha.take S b=Sha.addW (Sha.rnds S (Sha.words b 64) 64) S:=rfl;rw[hwp,htk];generalize Sha.words b 64=W at *;have hcut:cut (w3C S) 0 8=w3C S:=by unfold cut;rw[List.drop_zero,List.take_of_length_le (by rw[zy,hS8];omega)]
  have hov8:over [.int .u32 0,.int .u32 0,.int .u32 0,.int .u32 0,.int .u32 0,.int .u32 0,.int .u32 0,.int .u32 0] 0 (w3C S)=w3C S:=by simp[over,zy,hS8]
  repeat (first|refine Tj ?_|intro _|refine WO.does (zw (vs:=w3C S) (hc:=hcut) (hl:=by rw[zy,hS8])) ?_|refine WO.stores (zo (vs:=w3C S) (hl:=by rw[zy,hS8]) (h1:=ku S) (hc:=hov8) (hle:=by rw[zy,hS8];rfl)) ?_|refine WO.acall (hc:=adq) (k:=?_)|refine Tc ?_|exact Tz)
  rename_i g9
  refine WC.loopI (σ:=Nat) (fun i=>i≤64) (fun i=>[(2,pt g2),(4,pt g4),(5,pt g5),(9,pt g9),(93,.agg (w3C Sha.K).toArray),(94,.int .i64 (i:Int))])
   (fun i=>[⟨g2,275,w3C S⟩,⟨g4,275,w3C [0,0,0,0,0,0,0,0]⟩,⟨g5,371,w3C W⟩,⟨g9,275,w3C (Sha.rnds S W i)⟩]) (fun i=>64 - i) 0 (fun i hi=>?_) (Nat.zero_le _)
  try dsimp only at hi ⊢
  by_cases hlt:i<64
  ·have hr8:=vI (w:=W) hS8 i;have hrl:=bc (w:=W) hs hS8 i;have hnext:Sha.rnds S W (i+1)=Sha.rnd (Sha.rnds S W i) (Sha.K.getD i 0) (W.getD i 0):=rfl;have hk:=rS (getD_get (l:=Sha.K) (i:=i) (by show i<64;exact hlt));have hw0:=rS (getD_get (l:=W) (i:=i) Om);obtain⟨a,bb,c,d,e,f,g,h,hr⟩:=eight hr8;rw[hr] at hnext hrl;have hla:a<4294967296:=hrl a Sm;have hlb:bb<4294967296:=hrl bb Sm;have hlc:c<4294967296:=hrl c Sm;have hle:e<4294967296:=hrl e Sm;have hlf:f<4294967296:=hrl f Sm;have hlg:g<4294967296:=hrl g Sm;clear hrl;generalize Sha.K.getD i 0=k at *;generalize W.getD i 0=x at *;have hm1:=fun q=>abQ e q 3 [6,11,25] hle Dtt Dtt;have hm2:=fun q=>abQ a q 3 [2,13,22] hla Dtt Dtt;rw[aas] at hm1;rw[aaq] at hm2;have hq1:=qm h (Sha.Sig1 e);have hq2:=gu hlf hlg;have hq3:=abt hle (jc hlf hlg);have hq4:=gu hlg (rK (b:=f ^^^ g) hle);rw[show g ^^^ e &&& (f ^^^ g)=Sha.ch e f g from rfl] at hq4;have hq5:=qm ((h+Sha.Sig1 e)%4294967296) (Sha.ch e f g);have hq6:=qm (((h+Sha.Sig1 e)%4294967296+Sha.ch e f g)%4294967296) k;have hq7:=qm ((((h+Sha.Sig1 e)%4294967296+Sha.ch e f g)%4294967296+k)%4294967296) x;rw[show (((((h+Sha.Sig1 e)%4294967296+Sha.ch e f g)%4294967296+k)%4294967296)+x)%4294967296=(h+Sha.Sig1 e+Sha.ch e f g+k+x)%4294967296 by omega] at hq7;have hst:Sha.rnd [a,bb,c,d,e,f,g,h] k x=[((h+Sha.Sig1 e+Sha.ch e f g+k+x)%4294967296+Sha.Sig0 a+Sha.maj a bb c)%4294967296,a,bb,c,(d+(h+Sha.Sig1 e+Sha.ch e f g+k+x)%4294967296)%4294967296,e,f,g]:=rfl;rw[hst] at hnext;generalize (h+Sha.Sig1 e+Sha.ch e f g+k+x)%4294967296=T at *;have hp1:=qm T (Sha.Sig0 a);have hp2:=abt hla hlb;have hp3:=abt hla hlc;have hp4:=gu (rK (b:=bb) hla) (rK (b:=c) hla);have hp5:=abt hlb hlc;have hp6:=gu (jc (rK (b:=bb) hla) (rK (b:=c) hla)) (rK (b:=c) hlb);rw[show a &&& bb ^^^ a &&& c ^^^ bb &&& c=Sha.maj a bb c from rfl] at hp6;have hp7:=qm ((T+Sha.Sig0 a)%4294967296) (Sha.maj a bb c);rw[show ((T+Sha.Sig0 a)%4294967296+Sha.maj a bb c)%4294967296=(T+Sha.Sig0 a+Sha.maj a bb c)%4294967296 by omega] at hp7;have hp8:=qm d T;have hov:over [.int .u32 (a:Int),.int .u32 (bb:Int),.int .u32 (c:Int),.int .u32 (d:Int),.int .u32 (e:Int),.int .u32 (f:Int),.int .u32 (g:Int),.int .u32 (h:Int)] 0 (w3C [(T+Sha.Sig0 a+Sha.maj a bb c)%4294967296,a,bb,c,(d+T)%4294967296,e,f,g])=w3C (Sha.rnds S W (i+1)):=by rw[hnext];rfl
   rw[hr,show w3C [a,bb,c,d,e,f,g,h]=[.int .u32 (a:Int),.int .u32 (bb:Int),.int .u32 (c:Int),.int .u32 (d:Int),.int .u32 (e:Int),.int .u32 (f:Int),.int .u32 (g:Int),.int .u32 (h:Int)] from rfl]
   repeat (first|refine Tk ?_|intro _|exact Tz)
   refine WC.dT rfl Om ?_
   repeat (first|refine Tj ?_|intro _|refine WO.does (kO rfl rfl hlt rfl hk) ?_|refine Tc ?_|exact Tz)
   refine WC.adraw 24 (k:=?_)
   repeat refine Dx ?_
   refine DQ.anil (k:=?_);intro sx _
   repeat (first|refine Tk ?_|intro _|exact Tz)
   refine WC.adraw 20 (k:=?_)
   repeat (first|refine Da ?_|refine DQ.does (fun s _=>qa rfl rfl hq1) Dp.const ?_|refine DQ.does (fun s _=>qa rfl rfl hq5) Dp.const ?_|refine DQ.does (fun s _=>qa rfl rfl hq6) Dp.const ?_|refine DQ.does (fun s _=>qa rfl rfl hq7) Dp.const ?_|refine DQ.does (fun s _=>gQ rfl rfl hq2) Dp.const ?_|refine DQ.does (fun s _=>abh rfl rfl hq3) Dp.const ?_|refine DQ.does (fun s _=>gQ rfl rfl hq4) Dp.const ?_|refine DQ.does (fun s _=>zx (hc:=hw0)) Dp.const ?_|refine DQ.makes (fun s _=>zh (cs:=inC [6,11,25]) rfl Dtt rfl) Dp.const Dp.const ?_|refine DQ.acallB 2 (fun s=>⟨s 2 0,3,inC [6,11,25]⟩) (fun s=>hm1 (s 2 0)) (fun s w hm=>Hs.here.seg hm) ?_|refine Dc ?_)
   refine DQ.anil (k:=?_);intro sx _
   repeat (first|refine WO.stores (zo (vs:=w3C [(T+Sha.Sig0 a+Sha.maj a bb c)%4294967296,a,bb,c,(d+T)%4294967296,e,f,g]) (hc:=hov)) ?_|refine Tj ?_|intro _|refine WO.does (qa rfl rfl hp1) ?_|refine WO.does (qa rfl rfl hp7) ?_|refine WO.does (qa rfl rfl hp8) ?_|refine WO.does (abh rfl rfl hp2) ?_|refine WO.does (abh rfl rfl hp3) ?_|refine WO.does (abh rfl rfl hp5) ?_|refine WO.does (gQ rfl rfl hp4) ?_|refine WO.does (gQ rfl rfl hp6) ?_|(refine WO.makes (zh (cs:=inC [2,13,22]) rfl Dtt rfl) ?_;intro q)|refine WO.acallR (hc:=hm2 _) (hR:=fun w' hm=>Hs.here.seg hm) (k:=?_)|refine WO.does (zz (cs:=w3C [(T+Sha.Sig0 a+Sha.maj a bb c)%4294967296,a,bb,c,(d+T)%4294967296,e,f,g]) rfl rfl rfl) ?_|refine Tc ?_|exact Tz)
   refine WX.metI (i+1) (hs:=⟨by show i+1≤64;omega,by show 64 - (i+1)<64 - i;omega⟩)
  ·have hi64:i=64:=by omega
   subst hi64;have hR8:=vI (w:=W) hS8 64;generalize Sha.rnds S W 64=R at *;have hRS:R.length=S.length:=by omega
   have hR0:w3C R=w3C (mxW R S 0):=by simp[mxW]
   rw[hR0]
   repeat (first|refine Tk ?_|intro _|exact Tz)
   refine WC.loopI (σ:=Nat) (fun i=>i≤8) (fun i=>[(2,pt g2),(4,pt g4),(9,pt g9),(161,.int .i64 (i:Int))])
    (fun i=>[⟨g2,275,w3C S⟩,⟨g4,275,w3C [0,0,0,0,0,0,0,0]⟩,⟨g9,275,w3C (mxW R S i)⟩]) (fun i=>8 - i) 0 (fun i hi=>?_) (Nat.zero_le _)
   try dsimp only at hi ⊢
   by_cases hlt:i<8
   ·have h1:=ac6 hRS (i:=i) Om;have h2:=rS (getD_get (l:=S) (i:=i) Om);have h3:=qm (R.getD i 0) (S.getD i 0);have hov:=aC hRS (i:=i) Om;have hml:(mxW R S i).length=8:=by unfold mxW;rw[List.length_append,List.length_take,List.length_drop,yU hRS];omega
    generalize R.getD i 0=r at *;generalize S.getD i 0=y at *
    repeat (first|refine Tk ?_|intro _|exact Tz)
    refine WC.dT rfl Om ?_
    repeat (first|refine Tk ?_|intro _|exact Tz)
    refine WC.adraw 8 (k:=?_)
    repeat (first|refine Da ?_|refine DQ.does (fun s _=>zx (hc:=h1)) Dp.const ?_|refine DQ.does (fun s _=>zx (hc:=h2)) Dp.const ?_|refine DQ.does (fun s _=>qa rfl rfl h3) Dp.const ?_|refine Dc ?_)
    refine DQ.anil (k:=?_);intro sx _
    repeat (first|refine Tj ?_|intro _|refine WO.stores (zo (hc:=hov) (hle:=by rw[zy,hml];simp;omega)) ?_|refine Tc ?_|exact Tz)
    refine WX.metI (i+1) (hs:=⟨by show i+1≤8;omega,by show 8 - (i+1)<8 - i;omega⟩)
   ·have hi8:i=8:=by omega
    subst hi8;have hfull:mxW R S 8=Sha.addW R S:=by have:=aaN hRS;rwa [hR8] at this
    have hA8:(Sha.addW R S).length=8:=by rw[yU hRS,hR8]
    rw[hfull];generalize Sha.addW R S=A at *;have hcut:cut (w3C A) 0 8=w3C A:=by unfold cut;rw[List.drop_zero,List.take_of_length_le (by rw[zy,hA8];omega)]
    have hovA:over (w3C [0,0,0,0,0,0,0,0]) 0 (w3C A)=w3C A:=by simp[over,zy,hA8]
    repeat (first|refine Tj ?_|intro _|refine WO.does (zw (vs:=w3C A) (hc:=hcut) (hl:=by rw[zy,hA8])) ?_|refine WO.stores (zo (vs:=w3C A) (hl:=by rw[zy,hA8]) (h1:=ku A) (hc:=hovA) (hle:=by rw[zy,hA8];rfl)) ?_|refine Tc ?_|exact Tz)
    exact WX.aret1 (hr:=vF (vs:=w3C A) (hc:=hcut) (hl:=by rw[zy,hA8])) (hp:=rfl)
def uB (s buf:LN) (n:Nat):List Value:=[.int .i64 1]++w3C s++(byC buf++[.int .u64 (n:Int)])
theorem kR {A M B y:LV} {off:Nat} (h:off+y.length≤M.length):over (A++M++B) (A.length+off) y=A++over M off y++B:=by
 unfold over;have h1:(A++M++B).take (A.length+off)=A++M.take off:=by
  rw[List.append_assoc,List.take_append,List.take_of_length_le Om,show A.length+off - A.length=off by omega,List.take_append_of_le_length Om]
 have h2:(A++M++B).drop (A.length+off+y.length)=M.drop (off+y.length)++B:=by
  rw[List.append_assoc,List.drop_append,List.drop_of_length_le Om,show A.length+off+y.length - A.length=off+y.length by omega,List.drop_append_of_le_length Om,List.nil_append]
 rw[h1,h2];simp
theorem acy {A M B:LV}:cut (A++M++B) A.length M.length=M:=by
 unfold cut;rw[List.append_assoc,List.drop_left,List.take_left]
theorem vk {s buf:LN} {n:Nat} (h1:s.length=8) (h2:buf.length=64):(uB s buf n).length=74:=by simp[uB,zy,zd,h1,h2]
theorem ags {s buf:LN} {n:Nat} (h1:s.length=8):cut (uB s buf n) 1 8=w3C s:=by
 have:=acy (A:=[.int .i64 1]) (M:=w3C s) (B:=byC buf++[.int .u64 (n:Int)]);rwa [zy,h1] at this
theorem aaa {s buf:LN} {n:Nat} (h1:s.length=8) (h2:buf.length=64):cut (uB s buf n) 9 64=byC buf:=by
 have:=acy (A:=[.int .i64 1]++w3C s) (M:=byC buf) (B:=[.int .u64 (n:Int)]);rw[zd,h2,List.length_append,zy,h1,List.append_assoc _ (byC buf)] at this;exact this
theorem aw {s buf:LN} {n:Nat} (h1:s.length=8) (h2:buf.length=64):(uB s buf n)[73]?=some (.int .u64 (n:Int)):=by
 unfold uB;rw[List.getElem?_append_right (by simp[zy,h1]),List.getElem?_append_right (by simp[zy,zd,h1,h2])];simp[zy,zd,h1,h2]
theorem iX {s buf Y:LN} {n off:Nat} (h1:s.length=8) (h2:buf.length=64) (h:off+Y.length≤64):over (uB s buf n) (9+off) (byC Y)=uB s (ovN buf off Y) n:=by
 have:=kR (A:=[.int .i64 1]++w3C s) (M:=byC buf) (B:=[.int .u64 (n:Int)]) (y:=byC Y) (off:=off) (by rw[zd,zd];omega);rw[aeg,List.length_append,zy,h1,List.append_assoc _ (byC buf),List.append_assoc _ (byC _)] at this;exact this
theorem aaD {s s' buf:LN} {n:Nat} (h1:s.length=8) (h2:s'.length=8):over (uB s buf n) 1 (w3C s')=uB s' buf n:=by
 have:=kR (A:=[.int .i64 1]) (M:=w3C s) (B:=byC buf++[.int .u64 (n:Int)]) (y:=w3C s') (off:=0) (by rw[zy,zy];omega);have e:over (w3C s) 0 (w3C s')=w3C s':=by simp[over,zy,h1,h2]
 rw[e] at this;exact this
theorem aa1 {s buf:LN} {n m:Nat} (h1:s.length=8) (h2:buf.length=64):over (uB s buf n) 73 [.int .u64 (m:Int)]=uB s buf m:=by
 have:=kR (A:=[.int .i64 1]++w3C s++byC buf) (M:=[.int .u64 (n:Int)]) (B:=[]) (y:=[.int .u64 (m:Int)]) (off:=0) Sm;rw[List.length_append,List.length_append,zy,zd,h1,h2] at this;simp only[List.append_nil,List.append_assoc] at this;unfold uB;simp only[List.append_assoc];exact this
theorem agd (n:Nat):((n:Nat):Int).tmod 64=((n%64:Nat):Int):=by
 rw[Int.tmod_eq_emod_of_nonneg Om];rfl
theorem take_len {s b:LN} (h:s.length=8):(Sha.take s b).length=8:=by
 unfold Sha.take;rw[yU (by rw[vI h,h]),vI h]
theorem bU {r s:LN}:∀ x∈Sha.addW r s,x<4294967296:=by
 intro x hx;unfold Sha.addW at hx;obtain⟨i,hi,rfl⟩:=List.getElem_of_mem hx;rw[List.getElem_zipWith];exact Nat.mod_lt _ Om
theorem ib (g c:Nat) (p:Option Addr) (s0 b0:LN) (n0:Nat) (X:LN) (hX:∀ x∈X,x<256) (hs8:s0.length=8) (hsl:∀ x∈s0,x<4294967296) (hb64:b0.length=64) (hbl:∀ x∈b0,x<256) (hn:n0+X.length≤1152921504606846976) :
  FnM Tryz.prog 176 [pt g,.slice p X.length c] g 279 (uB s0 b0 n0) (uB (wr s0 b0 n0 X).1 (wr s0 b0 n0 X).2.1 (wr s0 b0 n0 X).2.2) (RdN g (.slice p X.length c) X.length (byC X)) (.tuple #[]):=by
 refine FnM.enter Tryz.func176 rfl rfl rfl ?_;intro w hw;generalize hF:wr s0 b0 n0 X=F
 repeat (first|refine Tk ?_|intro _|exact Tz)
 refine WC.loopI (σ:=List Nat × List Nat × Nat × Nat × Value) (fun x=>x.2.2.2.1≤X.length∧wr x.1 x.2.1 x.2.2.1 (X.drop x.2.2.2.1)=F∧x.1.length=8∧(∀ y∈x.1,y<4294967296)∧x.2.1.length=64∧(∀ y∈x.2.1,y<256)∧x.2.2.1+(X.length - x.2.2.2.1)≤1152921504606846976∧RdN g x.2.2.2.2 (X.length - x.2.2.2.1) (byC (X.drop x.2.2.2.1)) w)
  (fun x=>[(0,pt g),(1,x.2.2.2.2)]) (fun x=>[⟨g,279,uB x.1 x.2.1 x.2.2.1⟩]) (fun x=>X.length - x.2.2.2.1) (s0,b0,n0,0,.slice p X.length c) (fun x hx=>?_) ⟨Nat.zero_le _,hF,hs8,hsl,hb64,hbl,hn,hw⟩
 obtain⟨s,buf,n,j,v⟩:=x;obtain⟨hj,hwr,h8,hsl,h64,hbl,hn,hv⟩:=hx;dsimp only at hj hwr h8 hsl h64 hbl hn hv ⊢
 by_cases hlt:j<X.length
 ·have hD:X.drop j≠[]:=by intro h;have:=congrArg List.length h;rw[List.length_drop] at this;simp at this;omega
  have hDl:(X.drop j).length=X.length - j:=List.length_drop;have hDb:∀ x∈X.drop j,x<256:=vY hX j;rw[kH hD] at hwr;have hkp:=nf (n:=n) hD;have hkle:wrK n (X.drop j)≤X.length - j:=by unfold wrK;omega
  have hoff:=Nat.mod_lt n (show 0<64 by omega);have hk64:n%64+wrK n (X.drop j)≤64:=by unfold wrK;omega
  have hkd:wrK n (X.drop j)=min (X.length - j) (64 - n%64):=by unfold wrK;rw[hDl]
  rw[List.drop_drop] at hwr;have hYl:((X.drop j).take (wrK n (X.drop j))).length=wrK n (X.drop j):=by rw[List.length_take];omega
  have hYb:=tG hDb (wrK n (X.drop j));have hYt:(byC (X.drop j)).take (wrK n (X.drop j))=byC ((X.drop j).take (wrK n (X.drop j))):=jY _ _;generalize hk:wrK n (X.drop j)=k at *;generalize (X.drop j).take k=Y at *;have hBl:(ovN buf (n%64) Y).length=64:=by rw[qT Om,h64]
  have hBb:∀ y∈ovN buf (n%64) Y,y<256:=by
   intro y hy;unfold ovN at hy
   rcases List.mem_append.1 hy with hy|hy
   ·rcases List.mem_append.1 hy with hy|hy
    ·exact hbl y (List.mem_of_mem_take hy)
    ·exact hYb y hy
   ·exact hbl y (List.mem_of_mem_drop hy)
  have hov:=iX (s:=s) (n:=n) h8 h64 (show n%64+Y.length≤64 by omega);generalize hB:ovN buf (n%64) Y=B at *;have hovn:=aa1 (s:=s) (buf:=B) (n:=n) (m:=n+k) h8 hBl;have hgn:=aw (n:=n) h8 h64;have hgn2:=aw (n:=n) h8 hBl;have hl74:=vk (n:=n) h8 h64;have hl74b:=vk (n:=n) h8 hBl;have hvv:=hv;obtain⟨q,cc,rfl,hcc⟩:=hv;have hnext:=hvv.from (l:=k) Om;rw[oZ,List.drop_drop,Nat.sub_sub] at hnext;have hrem:((n:Nat):Int).tmod 64=((n%64:Nat):Int):=agd n;have hadd:IntKind.u64.wrap ((n:Int)+(k:Int))=((n+k:Nat):Int):=uf Om Om Om;have hsum:IntKind.i64.wrap (((n%64:Nat):Int)+(k:Int))=((n%64+k:Nat):Int):=zl Om Om Om;have hgt:(((0:Int))<((X.length - j:Nat):Int)):=by omega
  repeat (first|refine Tk ?_|intro _|exact Tz)
  refine WC.dT rfl hgt ?_
  repeat (first|refine WO.does (zx (hc:=hgn)) ?_|refine WO.does (zx (hc:=hgn2)) ?_|refine WO.does (zi rfl rfl hadd) ?_|refine WO.does (zi rfl rfl hsum) ?_|refine WO.stores (zo (hc:=hovn) (hle:=by rw[hl74b];rfl)) ?_|refine Tj ?_|intro _|refine WO.does (yK rfl rfl Dtt hrem) ?_|refine WO.does (tg rfl rfl hoff (by rw[Nat.mul_one])) ?_|refine WO.both (qo (st:=126) rfl rfl rfl hvv.rds (by rw[zd,hDl,Nat.mul_one]) (m:=k) hkd.symm (ys:=byC Y) (by rw[Nat.mul_one];exact hYt) (zM Y) .here hov (by rw[hl74,zd];omega) Dtt) ?_|refine WO.does (qk rfl rfl Om) ?_|refine Tc ?_|exact Tz)
  by_cases hf:n%64+k=64
  ·rw[if_pos hf] at hwr;have hcs:=ags (buf:=B) (n:=n+k) h8;have hcb:=aaa (n:=n+k) h8 hBl;have htl:=take_len (b:=B) h8;have hovs:=aaD (buf:=B) (n:=n+k) h8 htl;have hl74c:=vk (n:=n+k) h8 hBl;obtain⟨s0',s1',s2',s3',s4',s5',s6',s7',rfl⟩:=eight h8;have hT:=agp s0' s1' s2' s3' s4' s5' s6' s7' B hBb hBl hsl;have htlt:∀ x∈Sha.take [s0',s1',s2',s3',s4',s5',s6',s7'] B,x<4294967296:=bU;generalize Sha.take [s0',s1',s2',s3',s4',s5',s6',s7'] B=s' at *;generalize [s0',s1',s2',s3',s4',s5',s6',s7']=sv at *;refine WC.dT rfl Om ?_
   repeat (first|refine Tk ?_|intro _|exact Tz)
   refine WC.adraw 12 (k:=?_)
   repeat (first|refine Da ?_|refine DQ.acall (hc:=hT) (k:=?_)|refine DQ.does (fun s _=>zw (vs:=w3C sv) (hc:=hcs) (hl:=by rw[zy,h8])) Dp.const ?_|refine DQ.does (fun s _=>zw (vs:=byC B) (hc:=hcb) (hl:=by rw[zd,hBl])) Dp.const ?_|refine Dc ?_)
   refine DQ.anil (k:=?_);intro sx _
   repeat (first|refine WO.stores (zo (vs:=w3C s') (hl:=by rw[zy,htl]) (h1:=ku s') (hc:=hovs) (hle:=by rw[hl74c,zy,htl];rfl)) ?_|refine Tj ?_|intro _|refine Tc ?_|exact Tz)
   refine WX.metI (s',B,n+k,j+k,.slice (adT q cc k 1) (X.length - j - k) (cc - k)) (hs:=⟨⟨by show j+k≤X.length;omega,hwr,htl,htlt,hBl,hBb,by show n+k+(X.length - (j+k))≤_;omega,by rw[Nat.sub_sub];exact hnext⟩,by show X.length - (j+k)<X.length - j;omega⟩)
  ·rw[if_neg hf] at hwr;refine WC.dF rfl Om ?_
   repeat (first|refine Tk ?_|intro _|exact Tz)
   refine WX.metI (s,B,n+k,j+k,.slice (adT q cc k 1) (X.length - j - k) (cc - k)) (hs:=⟨⟨by show j+k≤X.length;omega,hwr,h8,hsl,hBl,hBb,by show n+k+(X.length - (j+k))≤_;omega,by rw[Nat.sub_sub];exact hnext⟩,by show X.length - (j+k)<X.length - j;omega⟩)
 ·have hj2:j=X.length:=by omega
  have hdr:X.drop j=[]:=by rw[hj2,List.drop_length]
  rw[hdr,mb] at hwr;obtain⟨q,cc,rfl,hcc⟩:=hv;subst hwr
  repeat (first|refine Tk ?_|intro _|exact Tz)
  refine WC.dF rfl Om ?_
  repeat (first|refine Tk ?_|intro _|exact Tz)
  exact WX.retM_ofN (ahe rfl) Hs.here
section
variable {P:Program} {w0:World} {gs:LN} {K:List (Nat × Value)} {L:List Ent}
theorem rZ {x y:Operand} {t yt ty e:TypeId} {p:Addr} (hu:P.underlying t=some (.pointer e)) (hx:ev K x=some (.pointer (some p))) (hy:ev K y=some (.pointer none)):Does P w0 gs K L (.binOp .eql t x y yt) ty (.bool false):=by
 intro a w hk _ o ho _;have h1:(eqGuard .eql t x y (.pointer (some p)) (.pointer none)).run P w=.ok () w:=by unfold eqGuard;rfl
 have h4:∀ d,(Op.equalIn (d+1) t (.pointer (some p)) (.pointer none)).run P w=.ok false w:=fun d=>by
  simp[Op.equalIn,underlying,hu]
 have h3:(Op.equalIn 10000 t (.pointer (some p)) (.pointer none)).run P w=.ok false w:=h4 9999;have h2:(binOp .eql t (.pointer (some p)) (.pointer none)).run P w=.ok (.bool false) w:=by
  simp only[binOp,Op.equal,Op.maxDepth,Sem.run_bind,h3,Result.andThen_ok,Sem.run_pure]
 simp only[execOp,ho,hk.eval hx,hk.eval hy,Sem.run_bind,h1,Result.andThen_ok,h2,Sem.run_pure]
end
theorem RdN.mr {g:Nat} {v:Value} {n:Nat} {xs:LV} {w0 w:World} {L:List Ent} (h:RdN g v n xs w0) (hm:Mr w0 [g] L w):RdN g v n xs w:=by
 obtain⟨p,c,e,h1,h2,h3,h4⟩:=h;exact⟨p,c,e,h1,h2,h3,h4.imp id fun ⟨b,o,e,hb,hs⟩=>⟨b,o,e,hb,hs.mod hm.mod (by simpa using hb)⟩⟩
theorem fc (g c:Nat) (p:Option Addr) (s0 b0:LN) (n0:Nat) (X:LN) (hX:∀ x∈X,x<256) (hs8:s0.length=8) (hsl:∀ x∈s0,x<4294967296) (hb64:b0.length=64) (hbl:∀ x∈b0,x<256) (hn:n0+X.length≤1152921504606846976) :
  FnM Tryz.prog 105 [pt g,.slice p X.length c] g 279 (uB s0 b0 n0) (uB (wr s0 b0 n0 X).1 (wr s0 b0 n0 X).2.1 (wr s0 b0 n0 X).2.2) (RdN g (.slice p X.length c) X.length (byC X)) (.int .i64 0):=by
 have hW:=ib g c p s0 b0 n0 X hX hs8 hsl hb64 hbl hn;refine FnM.enter Tryz.func105 rfl rfl rfl ?_;intro w hw;generalize uB (wr s0 b0 n0 X).1 (wr s0 b0 n0 X).2.1 (wr s0 b0 n0 X).2.2=cs' at *
 repeat (first|refine Tj ?_|intro _|refine WO.does (rZ (t:=202) (e:=279) Kr rfl rfl) ?_|refine Tc ?_|exact Tz)
 refine WO.callM (hc:=hW) rfl Rp.here (fun w' hm=>hw.mr hm) Dtt ?_ rfl rfl
 repeat (first|refine Tk ?_|intro _|exact Tz)
 exact WX.retM_of (ady rfl (zK rfl)) Hs.here
theorem aL:Fn Tryz.prog 104 [] Tr (Ex (fun s=>pt (s 0)) (fun s=>[⟨s 0,279,uB Sha.H0 (List.replicate 64 0) 0⟩]) (fun _=>True)):=by
 refine Fn.enter Tryz.func104 rfl rfl rfl ?_;intro w hw
 repeat (first|refine Tj ?_|intro _|refine WO.acall (hc:=ac1) (k:=?_)|refine WO.does (tk (cs:=uB Sha.H0 (List.replicate 64 0) 0) (h2:=rfl)) ?_|refine Tc ?_|exact Tz)
 rename_i g;exact WX.ret1 rfl (zK rfl) [⟨g,279,uB Sha.H0 (List.replicate 64 0) 0⟩] (Lle.cons Pk.here rfl Lle.nil) ⟨fun _=>g,rfl,rfl,trivial⟩
end Sx
end
section
open Go Go.RowKit Go.BigFrame
namespace Sx
theorem abi {s buf:LN} {n:Nat} (h1:s.length=8) (h2:buf.length=64):cut (uB s buf n) 0 74=uB s buf n:=by
 unfold cut;rw[List.drop_zero,List.take_of_length_le (by rw[vk h1 h2];omega)]
theorem abD (s buf:LN) (n:Nat):(uB s buf n).all Value.oneCell'=true:=by
 simp[uB,List.all_append,w3C,byC,Value.oneCell']
theorem zC {cs vs:LV} (h:cs.length=vs.length):over cs 0 vs=vs:=by
 unfold over;rw[List.take_zero,Nat.zero_add,List.drop_of_length_le Om];simp
theorem WC.ndp {P:Program} {w0:World} {gs:LN} {n:Nat} {c:Code} {Q:Exit→Act→World→Prop} {K:List (Nat × Value)} {L:List Ent} (k:(L.map Ent.g).Nodup→WC P w0 gs n c Q K L):WC P w0 gs n c Q K L:=fun a w h1 h2 h3 h4=>k h4.nodup a w h1 h2 h3 h4
attribute [local irreducible] wd DQ WO WC WX
theorem uq {s b:LN} (h:s.length=8):∀ q,(Sha.takes s b q).length=8
 | 0=>h
 | q+1=>take_len (uq h q)
theorem afO {s buf:LN} {n i:Nat} (h1:s.length=8) (hi:i<8):(uB s buf n)[1+i]?=some (.int .u32 ((s.getD i 0:Nat):Int)):=by
 unfold uB;rw[List.append_assoc,List.getElem?_append_right Sm,List.getElem?_append_left (by simp[zy,h1];omega)];simp[w3C,List.getD,show i<s.length by omega]
theorem zt {cs:LV} {n:Nat} (h:cs.length=n):cut cs 0 n=cs:=by
 unfold cut;rw[List.drop_zero,List.take_of_length_le Om]
theorem dz (g:Nat) (m s buf:LN) (n:Nat) (hH:j8 m s buf n) (hs8:s.length=8) (hsl:∀ x∈s,x<4294967296) (hbl:∀ x∈buf,x<256) (hn:n≤1152921504606846000) :
  Fn Tryz.prog 107 [pt g] (fun w=>Seg w g 0 (uB s buf n)) (Is (.agg (byC (Sha.sum m)).toArray)):=by
 have hb64:=hH.len;have hcut:=abi (n:=n) hs8 hb64;have hl74:=vk (n:=n) hs8 hb64;have hgn:=aw (n:=n) hs8 hb64;have h8n:IntKind.u64.wrap (8*(n:Int))=((8*n:Nat):Int):=uf Om Om Om;have hpl:Sha.pad n<64:=Nat.mod_lt _ Om;have h88:=zj 8 (8*n);refine Fn.enter Tryz.func107 rfl rfl rfl ?_;intro w hw
 repeat (first|refine WO.does (zn (vs:=uB s buf n) (hs:=hw) (hc:=hcut) (hl:=hl74)) ?_|refine WO.stores (zo (vs:=uB s buf n) (cs':=uB s buf n) (hl:=hl74) (h1:=abD s buf n) (hc:=zC (by rw[hl74];simp)) (hle:=by rw[hl74];rfl)) ?_|refine WO.does (zm (hs:=hw) (hc:=hgn)) ?_|refine WO.does (ym rfl rfl h8n) ?_|refine Tj ?_|intro _|refine WO.does (rZ (t:=202) (e:=279) Kr rfl rfl) ?_|(refine WO.makes (yp (l:=1) (c:=64) rfl rfl Dtt Dtt Dtt) ?_;intro q)|refine Tc ?_|exact Tz)
 rename_i g2 g3
 refine WC.loopI (σ:=Nat × Nat × Nat × List Value) (fun x=>1≤x.1∧x.1≤Sha.pad n+1∧(byC (128::List.replicate (x.1 - 1) 0)++x.2.2.2).length=x.2.2.1∧x.2.2.1<9223372036854775808)
  (fun x=>[(0,pt g),(2,pt g2),(3,pt g3),(4,.int .u64 ((8*n:Nat):Int)),(5,AQ x.2.1 x.1 x.2.2.1)])
  (fun x=>[⟨x.2.1,5,byC (128::List.replicate (x.1 - 1) 0)++x.2.2.2⟩,⟨g3,279,uB s buf n⟩,⟨g2,70,List.replicate 32 (.int .u8 0)⟩]) (fun x=>Sha.pad n+1 - x.1)
  (1,q,64,(mkz 64 [Value.int .u8 0]).drop 1) (fun x hx=>?_) ⟨Nat.le_refl _,by show 1≤Sha.pad n+1;omega,by simp[zd,zV],by show 64<9223372036854775808;omega⟩
 obtain⟨l,q',c,r⟩:=x;obtain⟨hl1,hl2,hlc,hc⟩:=hx;dsimp only at hl1 hl2 hlc hc ⊢;have hst:=aap (n:=n) hl1 hl2;have ha:IntKind.u64.wrap ((n:Int)+((l:Nat):Int))=((n+l:Nat):Int):=uf Om Om Om;have hcv:IntKind.u64.wrap ((l:Nat):Int)=((l:Nat):Int):=u64_in Om Om;have hrm:((n+l:Nat):Int).tmod 64=(((n+l)%64:Nat):Int):=agd (n+l);have hbl1:(byC (128::List.replicate (l - 1) 0)).length=l:=by rw[zd];simp;omega
 repeat (first|refine WO.does (zm (hs:=hw) (hc:=hgn)) ?_|refine WO.does (zi rfl rfl ha) ?_|refine WO.does (zr rfl hcv) ?_|refine WO.does (yK rfl rfl Dtt hrm) ?_|refine Tj ?_|intro _|refine Tc ?_|exact Tz)
 by_cases hs:l=Sha.pad n+1
 ·have h56:(n+l)%64=56:=hst.2 hs;subst hs;refine WC.dF rfl (by rw[h56];decide) ?_
  repeat (first|refine Tk ?_|intro _|exact Tz)
  have hsh:∀ k,k<8→(((8*n:Nat):Int)).fdiv (2 ^ min (((56 - 8*k:Nat):Int)).toNat IntKind.u64.bits)=((8*n / 2 ^ (8*(7 - k)):Nat):Int):=fun k hk=>by
   rw[u5 (by show 56 - 8*k≤64;omega),show 56 - 8*k=8*(7 - k) by omega]
  refine WC.loopI (σ:=Nat × Nat × Nat × List Value) (fun x=>x.1≤8∧(byC (128::List.replicate (Sha.pad n) 0++(be 8 (8*n)).take x.1)++x.2.2.2).length=x.2.2.1∧x.2.2.1<9223372036854775808)
   (fun x=>[(0,pt g),(2,pt g2),(3,pt g3),(4,.int .u64 ((8*n:Nat):Int)),(5,AQ x.2.1 (Sha.pad n+1+x.1) x.2.2.1),(42,.int .i64 (x.1:Int))])
   (fun x=>[⟨x.2.1,5,byC (128::List.replicate (Sha.pad n) 0++(be 8 (8*n)).take x.1)++x.2.2.2⟩,⟨g3,279,uB s buf n⟩,⟨g2,70,List.replicate 32 (.int .u8 0)⟩]) (fun x=>8 - x.1)
   (0,q',c,r) (hl:=(by repeat (first|exact Lle.nil|refine Lle.cons Pk.a (by first|rfl|simp) ?_))) (fun x hx=>?_) ⟨Nat.zero_le _,by simpa using hlc,hc⟩
  clear hlc hc r c q' ha hcv hrm;obtain⟨k,q',c,r⟩:=x;obtain⟨hk8,hlc,hc⟩:=hx;dsimp only at hk8 hlc hc ⊢;have hbl2:(byC (128::List.replicate (Sha.pad n) 0++(be 8 (8*n)).take k)).length=Sha.pad n+1+k:=by rw[zd];simp;omega
  repeat (first|refine Tk ?_|intro _|exact Tz)
  by_cases hk:k<8
  ·refine WC.dT rfl Om ?_;have hm:IntKind.i64.wrap (8*((k:Nat):Int))=((8*k:Nat):Int):=zl Om Om Om;have hsb:IntKind.i64.wrap (56 - ((8*k:Nat):Int))=((56 - 8*k:Nat):Int):=zl Om Om Om;have hk1:IntKind.i64.wrap (((k:Nat):Int)+1)=((k+1:Nat):Int):=zl Om Om Om;have hgt:(be 8 (8*n)).take (k+1)=(be 8 (8*n)).take k++[8*n / 2 ^ (8*(7 - k))%256]:=by
    rw[List.take_add_one,acs hk,show 8 - 1 - k=7 - k by omega];rfl
   have hbk:byC (128::List.replicate (Sha.pad n) 0++(be 8 (8*n)).take (k+1))=byC (128::List.replicate (Sha.pad n) 0++(be 8 (8*n)).take k)++[.int .u8 ((8*n / 2 ^ (8*(7 - k))%256:Nat):Int)]:=by
    rw[hgt,← List.append_assoc,z8];rfl
   repeat (first|refine WO.does (ym rfl rfl hm) ?_|refine WO.does (zG rfl rfl hsb) ?_|refine WO.does (vo rfl rfl Om (hsh k hk)) ?_|refine WO.does (zr rfl (d8 _)) ?_|refine Tj ?_|intro _|(refine WO.makes (zh (cs:=[.int .u8 ((8*n / 2 ^ (8*(7 - k))%256:Nat):Int)]) rfl Dtt rfl) ?_;intro gb)|refine Tc ?_|exact Tz)
   refine WO.appB (m:=1) (l:=Sha.pad n+1+(k+1)) rfl rfl hbl2 hlc (Pk.there Pk.here) (Rds.own (m:=1) Hs.here rfl) rfl rfl Om Om hc Om Dtt Dtt (fun q2 c2 r2 hr2 hc2=>?_)
   repeat (first|refine WO.does (zi rfl rfl hk1) ?_|refine Tj ?_|intro _|refine Tc ?_|exact Tz)
   exact WX.metI (k+1,q2,c2,r2) (hl:=(by repeat (first|exact Lle.nil|refine Lle.cons Pk.a (by first|rfl|(rw[hbk];rfl)) ?_))) (hs:=⟨⟨by show k+1≤8;omega,by dsimp only;rw[hbk];exact hr2,hc2⟩,by show 8 - (k+1)<8 - k;omega⟩)
  ·have hk8:k=8:=by omega
   subst hk8;have htk:(be 8 (8*n)).take 8=be 8 (8*n):=List.take_of_length_le (by rw[h88];omega);refine WC.dF rfl Om ?_;have hW:=ib g3 c (some ⟨q',0,none⟩) s buf n (lR n) (ad5 n) hs8 hsl hb64 hbl (by rw[vi];omega);have hHw:=j8.wr (lR n).length (Nat.le_refl _) hH (X:=lR n);have hT:Sha.sum m=Sha.outs (wr s buf n (lR n)).1:=by
    unfold Sha.sum;have:=hH.n;rw[ada Om,← this,← hHw.s]
   have hs8' : (wr s buf n (lR n)).1.length=8:=by rw[hHw.s];exact uq rfl _
   have hb64':=hHw.len;rw[vi] at hW;rw[hT];have hrow:byC (128::List.replicate (Sha.pad n) 0++(be 8 (8*n)).take 8)=byC (lR n):=by rw[htk];rfl
   rw[hrow] at hlc ⊢;clear hHw hT hH hrow htk hsh;generalize (wr s buf n (lR n)).1=s' at *;generalize (wr s buf n (lR n)).2.1=b' at *;generalize (wr s buf n (lR n)).2.2=n' at *;have hl74':=vk (n:=n') hs8' hb64';refine WC.ndp (fun hnd=>?_);have hne:q'≠g3:=by simp at hnd;exact hnd.1.1
   repeat (first|refine Tk ?_|intro _|exact Tz)
   refine WO.callM (hc:=hW) rfl (Rp.there Rp.here) (fun w' hm=>⟨some ⟨q',0,none⟩,c,rfl,by rw[← hlc,List.length_append,zd,vi];omega,hc,by rw[zd,vi],.inr ⟨q',0,rfl,hne,((Hs.here).seg hm).sub (k:=0) (m:=Sha.pad n+9) (by unfold cut;rw[List.drop_zero,List.take_append_of_le_length (by rw[zd,vi];omega),List.take_of_length_le (by rw[zd,vi];omega)])⟩⟩) Dtt ?_ rfl rfl
   repeat (first|refine Tk ?_|intro _|exact Tz)
   have hT32:(Sha.outs s').length=32:=by rw[uI,hs8']
   refine WC.loopI (σ:=Nat) (fun i=>i≤32) (fun i=>[(2,pt g2),(3,pt g3),(57,.int .i64 (i:Int))]) (fun i=>[⟨g3,279,uB s' b' n'⟩,⟨g2,70,pad (Sha.outs s') i⟩]) (fun i=>32 - i) 0 (hl:=(by repeat (first|exact Lle.nil|refine Lle.cons Pk.a (by first|rfl|(unfold pad;rw[hT32];rfl)) ?_))) (fun i hi=>?_) (Nat.zero_le _)
   repeat (first|refine Tk ?_|intro _|exact Tz)
   by_cases hi2:i<32
   ·refine WC.dT rfl Om ?_;have hT1:=abd (s:=s') (i:=i) Om;have hov:=ie hT1;have hq:IntKind.i64.wrap (((i:Nat):Int).tdiv 4)=((i / 4:Nat):Int):=zl (by rw[Int.tdiv_eq_ediv_of_nonneg Om];omega) (by rw[Int.tdiv_eq_ediv_of_nonneg Om];omega) (by rw[Int.tdiv_eq_ediv_of_nonneg Om];omega);have hr:((i:Nat):Int).tmod 4=((i%4:Nat):Int):=by rw[Int.tmod_eq_emod_of_nonneg Om];omega
    have hm:IntKind.i64.wrap (((i%4:Nat):Int)*8)=((8*(i%4):Nat):Int):=zl Om Om Om;have hsb:IntKind.i64.wrap (24 - ((8*(i%4):Nat):Int))=((8*(3 - i%4):Nat):Int):=zl Om Om Om;have hi1:IntKind.i64.wrap (((i:Nat):Int)+1)=((i+1:Nat):Int):=zl Om Om Om;have hw1:=afO (s:=s') (buf:=b') (n:=n') hs8' (show i / 4<8 by omega);have hsh:((s'.getD (i / 4) 0:Nat):Int).fdiv (2 ^ min (((8*(3 - i%4):Nat):Int)).toNat IntKind.u32.bits)=((s'.getD (i / 4) 0 / 2 ^ (8*(3 - i%4)):Nat):Int):=u5 (by show 8*(3 - i%4)≤32;omega);have hpl1:(pad (Sha.outs s') i).length=32:=by rw[qZ Om,hT32]
    generalize s'.getD (i / 4) 0 / 2 ^ (8*(3 - i%4))=vv at *
    repeat (first|refine WO.does (ud rfl rfl Dtt hq) ?_|refine WO.does (vn (o':=1+i / 4) rfl rfl Om Om) ?_|refine WO.does (zx (hc:=hw1)) ?_|refine WO.does (yK rfl rfl Dtt hr) ?_|refine WO.does (ym rfl rfl hm) ?_|refine WO.does (zG rfl rfl hsb) ?_|refine WO.does (vo rfl rfl Om hsh) ?_|refine WO.does (zr rfl (d8 _)) ?_|refine WO.does (vn (o':=i) rfl rfl Om Om) ?_|refine WO.stores (zo (hc:=hov) (hle:=by rw[hpl1];exact Nat.ble_eq_true_of_le hi2)) ?_|refine WO.does (zi rfl rfl hi1) ?_|refine Tj ?_|intro _|refine Tc ?_|exact Tz)
    exact WX.metI (i+1) (hs:=⟨by omega,by omega⟩)
   ·have hi3:i=32:=by omega
    subst hi3;have hpf:pad (Sha.outs s') 32=byC (Sha.outs s'):=by rw[← hT32];exact jg _
    have hbl32:(byC (Sha.outs s')).length=32:=by rw[zd,hT32]
    rw[hpf];refine WC.dF rfl Om ?_
    repeat (first|refine WO.does (zw (vs:=byC (Sha.outs s')) (hc:=zt hbl32) (hl:=hbl32)) ?_|refine WO.stores (zo (vs:=byC (Sha.outs s')) (cs':=byC (Sha.outs s')) (hl:=hbl32) (h1:=zM _) (hc:=zC rfl) (hle:=by rw[hbl32];rfl)) ?_|refine Tj ?_|intro _|refine Tc ?_|exact Tz)
    exact WX.aret1 (hr:=vF (vs:=byC (Sha.outs s')) (hc:=zt hbl32) (hl:=hbl32)) (hp:=rfl)
 ·refine WC.dT rfl Om ?_;have hbk:byC (128::List.replicate (l+1 - 1) 0)=byC (128::List.replicate (l - 1) 0)++[.int .u8 0]:=by
   rw[show l+1 - 1=l - 1+1 by omega,List.replicate_succ',← List.cons_append,z8];rfl
  repeat (first|refine Tj ?_|intro _|(refine WO.makes (zh (cs:=[.int .u8 0]) rfl Dtt rfl) ?_;intro gb)|refine Tc ?_|exact Tz)
  refine WO.appB (m:=1) (l:=l+1) rfl rfl hbl1 hlc (Pk.there Pk.here) (Rds.own (m:=1) Hs.here rfl) rfl rfl Om Om hc Om Dtt Dtt (fun q2 c2 r2 hr2 hc2=>?_)
  repeat (first|refine Tk ?_|intro _|exact Tz)
  exact WX.metI (l+1,q2,c2,r2) (hl:=(by repeat (first|exact Lle.nil|refine Lle.cons Pk.a (by first|rfl|(rw[hbk];rfl)) ?_))) (hs:=⟨⟨by show 1≤l+1;omega,by show l+1≤Sha.pad n+1;omega,by dsimp only;rw[hbk];exact hr2,hc2⟩,by show Sha.pad n+1 - (l+1)<Sha.pad n+1 - l;omega⟩)
end Sx
end
end Go.Proofs.YtiaibpcaloigkaaGreatDoor
