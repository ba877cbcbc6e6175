/- Part 45 of the proof. -/
import Derived.Test.YtiaibpcaloigkaaGreatDoorG42
set_option linter.unusedSimpArgs false
set_option linter.unusedVariables false
set_option maxHeartbeats 8000000
namespace Go.Proofs.YtiaibpcaloigkaaGreatDoor
section
open Go Go.RowKit Go.BigFrame
namespace Sx
attribute [local irreducible] DQ WC WO WT WX hOf wd
def rc:ByteArray:=⟨#[103,101,110,101,115,105,115]⟩
def gnK (k:Nat × Nat):List Nat:=be 32 k.1++be 32 k.2
def gn3 (p q g h F m n:Nat):List Nat:=[p,q,g,h].flatMap (be 32)++[F,m,n]
def gnB (p q g h F m:Nat) (N:LP):List Nat:=gn3 p q g h F m N.length++N.flatMap gnK
def gnH (p q g h F m:Nat) (N:LP):List Nat:=hOf (zN rc) [gnB p q g h F m N]
theorem j5:∀ l:List Nat,(l.flatMap (be 32)).length=32*l.length
 | []=>rfl
 | a::l=>by rw[List.flatMap_cons,List.length_append,zj,j5 l,List.length_cons];omega
theorem bh (p q g h F m n:Nat):(gn3 p q g h F m n).length=131:=by unfold gn3;rw[List.length_append,j5];rfl
theorem acL (k:Nat × Nat):(gnK k).length=64:=by unfold gnK;rw[List.length_append,zj,zj]
theorem pW:∀ N:List (Nat × Nat),(N.flatMap gnK).length=N.length*64
 | []=>rfl
 | k::N=>by rw[List.flatMap_cons,List.length_append,acL,pW N,List.length_cons];omega
theorem afF {p q g h F m:Nat} {N:LP} (hF:F<256) (hm:m<256) (hN:N.length<256):∀ b∈gnB p q g h F m N,b<256:=by
 intro b hb;unfold gnB gn3 at hb
 rcases List.mem_append.1 hb with hb|hb
 ·rcases List.mem_append.1 hb with hb|hb
  ·obtain⟨x,_,hx⟩:=List.mem_flatMap.1 hb;exact yZ b hx
  ·simp only[List.mem_cons,List.not_mem_nil,or_false] at hb;omega
 ·obtain⟨k,_,hk⟩:=List.mem_flatMap.1 hb;unfold gnK at hk
  rcases List.mem_append.1 hk with hk|hk
  ·exact yZ b hk
  ·exact yZ b hk
section
variable (p q g h F m:Nat) (pt:Option Addr) (c:Nat) (N:LP)
theorem agu (f sec:Int) (hp:p<ze) (hq:q<ze) (hg:g<ze) (hh:h<ze) (hN:zZ N) (hNl:N.length≤100) (hf1 : -9223372036854775808≤f) (hf2:f≤9223372036854775807) (hs1 : -9223372036854775808≤sec) (hs2:sec≤9223372036854775807) (hs:y5 p q g h f sec N=false) :
  Fn Tryz.prog 24 [stV p q g h f sec (.slice pt N.length c)] (RdF ya (.slice pt N.length c) N) (Is (.agg (byC (List.replicate 32 0)).toArray)):=by
 have hS:=yh p q g h f sec pt c N hp hq hg hh hN Om hf1 hf2 hs1 hs2;rw[hs] at hS;refine Fn.enter Tryz.func24 rfl rfl rfl ?_;intro w hw
 repeat (first|refine WO.does (zz (cs:=byC (List.replicate 32 0)) rfl rfl Kr) ?_|refine Tj ?_|intro _|refine WO.acallR (hc:=hS) (hR:=fun wx hm=>(hw.mod hm.mod).rdK) (k:=?_)|refine Tc ?_|exact Tz)
 done
theorem acp (hp:p<ze) (hq:q<ze) (hg:g<ze) (hh:h<ze) (hN:zZ N) (hNl:N.length≤100) (hs:y5 p q g h (F:Int) (m:Int) N=true) :
  Fn Tryz.prog 24 [stV p q g h (F:Int) (m:Int) (.slice pt N.length c)] (RdF ya (.slice pt N.length c) N) (Is (.agg (byC (gnH p q g h F m N)).toArray)):=by
 obtain⟨s1,s7,_,_,_,s5,_,_⟩:=zS hs;have hS:=yh p q g h (F:Int) (m:Int) pt c N hp hq hg hh hN Om Om Om Om Om;rw[hs] at hS;have hHl:(byC (gnH p q g h F m N)).length=32:=by rw[zd];exact zI _ _
 have hHof:=fun (B0 c0 gp:Nat)=>lI rc [AQ B0 (131+N.length*64) c0] [gnB p q g h F m N] gp 0 1 (fun X hX=>by
  rw[List.mem_singleton.1 hX];exact afF Om Om Om) (by
  have e:=pW N;simp only[yG,uV,yM,List.flatMap_cons,List.flatMap_nil,List.length_append,zj,yb,List.length_nil,gnB,bh,e];have:rc.size=7:=rfl;omega) Dtt
 rw[show hOf (zN rc) [gnB p q g h F m N]=gnH p q g h F m N from rfl] at hHof;have hcF:IntKind.u8.wrap (F:Int)=(F:Int):=u8_in Om Om;have hcm:IntKind.u8.wrap (m:Int)=(m:Int):=u8_in Om Om;have hcN:IntKind.u8.wrap (N.length:Int)=(N.length:Int):=u8_in Om Om;refine Fn.enter Tryz.func24 rfl rfl rfl ?_;intro w hw
 repeat (first|refine Tj ?_|intro _|refine WO.acallR (hc:=hS) (hR:=fun wx hm=>(hw.mod hm.mod).rdK) (k:=?_)|refine Tc ?_|exact Tz)
 rename_i gS gR;refine WO.makes (zh (cs:=[p,q,g,h].flatMap zc) rfl Dtt rfl) ?_;intro gl
 repeat (first|refine Tk ?_|intro _|exact Tz)
 refine WC.loopI (σ:=Nat × Nat) (fun s=>s.1≤4) (fun s=>[(1,Sx.pt gS),(2,Sx.pt gR),(3,agV s.2 (32*s.1) (32*s.1) (32*s.1)),(24,AQ gl 4 4),(25,.int .i64 4),(26,.int .i64 (s.1:Int))])
  (fun s=>⟨gl,24,[p,q,g,h].flatMap zc⟩::⟨gS,36,stC p q g h (F:Int) (m:Int) (.slice pt N.length c)⟩::⟨gR,70,byC (List.replicate 32 0)⟩::rwL 5 s.2 (byC (([p,q,g,h].take s.1).flatMap (be 32))) [] (32*s.1)) (fun s=>4 - s.1) (0,0) (fun s hi=>?_) Dtt
 obtain⟨i,gb⟩:=s
 try dsimp only at hi ⊢
 by_cases hlt:i<4
 ·obtain⟨x,hx⟩ : ∃ x,[p,q,g,h][i]?=some x:=⟨_,List.getElem?_eq_getElem (by simpa using hlt)⟩;have hcx:cut ([p,q,g,h].flatMap zc) (0+i*4 - 0) 4=zc x:=by rw[Nat.zero_add,Nat.sub_zero];exact zL zU hx
  have hadd:IntKind.i64.wrap ((i:Int)+1)=((i+1:Nat):Int):=zl Om Om Om;have hnx:([p,q,g,h].take i).flatMap (be 32)++be 32 x=([p,q,g,h].take (i+1)).flatMap (be 32):=by rw[List.take_add_one,hx,List.flatMap_append];simp
  have hBl:(([p,q,g,h].take i).flatMap (be 32)).length=32*i:=by rw[j5,List.length_take];simp;omega
  generalize ([p,q,g,h].take i).flatMap (be 32)=B at *;have hl2:(B++be 32 x).length=32*(i+1):=by rw[List.length_append,zj,hBl];omega
  repeat (first|refine Tk ?_|intro _|exact Tz)
  refine WC.dT rfl Om ?_
  repeat (first|refine WO.does (zb (o':=0+i*4) rfl rfl hlt rfl) ?_|refine WO.does (zw (vs:=zc x) (hc:=by rw[← hcx];rfl)) ?_|refine Tj ?_|intro _|refine Tc ?_|exact Tz)
  obtain⟨p0,c0,hp0,hrd⟩ : ∃ p0 c0,agV gb (32*i) (32*i) (32*i)=.slice p0 (32*i) c0∧∀ {wx:World},(∀ e∈rwL 5 gb (byC B) [] (32*i),e.ok wx)→Rd (.slice p0 (32*i) c0) (32*i) (byC B) wx:=by
   rcases Nat.eq_zero_or_pos i with h0|h0
   ·subst h0;have:B=[]:=List.length_eq_zero_iff.1 Om;subst this;exact⟨none,0,rfl,fun _=>Rd.nil⟩
   ·obtain⟨j,hj⟩ : ∃ j,32*i=j+1:=⟨32*i - 1,by omega⟩;rw[hj];exact⟨_,_,rfl,fun hm=>Rd.of ((hm ⟨gb,5,byC B++[]⟩ (by simp[rwL])).seg 0 |> Seg.preO)⟩
  have hP:=yQ B x c0 p0 Om;rw[hl2,hBl] at hP;rw[hp0];refine WO.acallN (hc:=hP) (hR:=fun wx hm=>hrd (fun e he=>hm.ok e (by repeat (first|exact he|apply List.mem_cons_of_mem)))) (k:=fun g1=>?_);rw[hnx]
  repeat (first|refine WO.does (zi rfl rfl hadd) ?_|refine Tj ?_|intro _|refine Tc ?_|exact Tz)
  exact WX.metI (i+1,g1) (hk:=by simp only[yT (show 0<32*(i+1) by omega)];repeat (first|exact Kle.nil|refine Kle.cons rfl rfl ?_)) (hl:=by rw[yr Om];simp only[List.append_nil,List.cons_append,List.nil_append];repeat (first|exact Lle.nil|exact Lle.left'|refine Lle.c ?_|refine Lle.skp ?_)) (hs:=⟨by show i+1≤4;omega,by show 4 - (i+1)<4 - i;omega⟩)
 have hi4:i=4:=by omega
 subst hi4;have hB4:([p,q,g,h].take 4).flatMap (be 32)=[p,q,g,h].flatMap (be 32):=rfl;rw[hB4];obtain⟨B4,hB⟩ : ∃ B4,[p,q,g,h].flatMap (be 32)=B4:=⟨_,rfl⟩;have hBl:B4.length=128:=by rw[← hB,j5];rfl
 rw[hB]
 repeat (first|refine WO.does (zr rfl hcF) ?_|refine WO.does (zr rfl hcm) ?_|refine WO.does (zr rfl hcN) ?_|refine Tj ?_|intro _|refine Tc ?_|exact Tz)
 refine WO.makes (zh (cs:=[.int .u8 (F:Int),.int .u8 (m:Int),.int .u8 (N.length:Int)]) rfl Dtt rfl) ?_;intro g3;refine WO.appR (z:=[.int .u8 0]) (g:=gb) (c:=128) (n:=128) (m:=3) (l:=131) (B:=byC B4) (ys:=byC [F,m,N.length]) (L1:=[_,_,_,_]) (L2:=[]) rfl rfl rfl (by rw[List.append_nil];rfl) (by rw[zd,hBl];rfl) (fun _=>⟨by decide,by decide⟩) (Rds.own (m:=3) Hs.here rfl) rfl rfl Dtt rfl Dtt Dtt Dtt Dtt (fun g1 c1 a1 a2=>?_);have hB3:byC B4++byC [F,m,N.length]=byC (gn3 p q g h F m N.length):=by rw[← z8,← hB];rfl
 rw[hB3];clear hB3 hB4 hB hBl;simp only[List.cons_append,List.nil_append,List.append_nil]
 repeat (first|refine Tk ?_|intro _|exact Tz)
 refine WC.loopI (σ:=Nat × Nat × Nat) (fun s=>s.1≤N.length∧(131+s.1*64≤s.2.2∧s.2.2<9223372036854775808)) (fun s=>[(1,Sx.pt gS),(2,Sx.pt gR),(3,AQ s.2.1 (131+s.1*64) s.2.2),(48,.slice pt N.length c),(49,.int .i64 (N.length:Int)),(50,.int .i64 (s.1:Int))])
  (fun s=>[⟨s.2.1,5,byC (gn3 p q g h F m N.length++(N.take s.1).flatMap gnK)++mkz (s.2.2 - (131+s.1*64)) [.int .u8 0]⟩,⟨gS,36,stC p q g h (F:Int) (m:Int) (.slice pt N.length c)⟩,⟨gR,70,byC (List.replicate 32 0)⟩]) (fun s=>N.length - s.1) (0,g1,c1) (fun s hi=>?_) ⟨Nat.zero_le _,a2,a1⟩ (hl:=by simp only[List.take_zero,List.flatMap_nil,List.append_nil];repeat (first|exact Lle.nil|refine Lle.c ?_|refine Lle.skp ?_))
 obtain⟨i,gw,cw⟩:=s;obtain⟨hi,hr1,hr2⟩:=hi
 try dsimp only at hi hr1 hr2 ⊢
 have hWl:(gn3 p q g h F m N.length++(N.take i).flatMap gnK).length=131+i*64:=by rw[List.length_append,bh,pW,List.length_take,Nat.min_eq_left hi]
 by_cases hlt:i<N.length
 ·obtain⟨k,hk⟩ : ∃ k,N[i]?=some k:=⟨_,List.getElem?_eq_getElem hlt⟩;have hnx:gn3 p q g h F m N.length++(N.take i).flatMap gnK++be 32 k.1++be 32 k.2=gn3 p q g h F m N.length++(N.take (i+1)).flatMap gnK:=by
   rw[List.take_add_one,hk,List.flatMap_append];simp[gnK]
  generalize gn3 p q g h F m N.length++(N.take i).flatMap gnK=B at *;have hP1:=yQ B k.1 cw (some ⟨gw,0,none⟩) Om;have hl1:(B++be 32 k.1).length=131+i*64+32:=by rw[List.length_append,zj,hWl]
  have hP2:=fun ga=>yQ (B++be 32 k.1) k.2 (131+i*64+32) (some ⟨ga,0,none⟩) Om;have hl2:(B++be 32 k.1++be 32 k.2).length=131+(i+1)*64:=by rw[List.length_append,zj,hl1];omega
  rw[hl1,hWl] at hP1;rw[hl2,hl1] at hP2;obtain⟨bN,oN,rfl,_,hsN⟩:=id hw |>.get hk
  have hck:cut (N.flatMap ya) (oN+i*8 - oN) 8=ya k:=by
   rw[Nat.add_sub_cancel_left];exact zL (f:=ya) (k:=8) (fun _=>rfl) hk
  have hadd:IntKind.i64.wrap ((i:Int)+1)=((i+1:Nat):Int):=zl Om Om Om
  repeat (first|refine Tk ?_|intro _|exact Tz)
  refine WC.dT rfl Om ?_
  repeat (first|refine WO.does (zb (o':=oN+i*8) rfl rfl hlt rfl) ?_|refine WO.does (zn (vs:=ya k) (hs:=hsN) (hle:=Nat.le_add_right _ _) (hc:=hck)) ?_|refine Tj ?_|intro _|refine Tc ?_|exact Tz)
  rename_i gk;refine WC.mainV [3,6,7] [(0,AQ gw (131+i*64) cw),(1,Ap gk),(2,zk k.1),(4,.pointer (some ⟨gk,4,none⟩)),(5,zk k.2)] Dtt ?_;refine WT.with [⟨gk,105,ya k⟩] Kr (Tlv.auto (Tlv.auto (Tlv.auto (Tlv.auto (Tlv.auto Tlv.nil))))) (fun hc hT=>?_)
  refine WT.one (m:=3) rfl hc hT ?_;refine WO.acallN (hc:=hP1) (hR:=fun wx hm=>Rd.of (Seg.preO (Hs.sg hm))) (k:=fun ga=>?_);refine WO.nil (WX.wt [(57,AQ ga (131+i*64+32) (131+i*64+32))] ?_);refine WT.one (m:=6) rfl hc hT ?_;refine WO.acallN (hc:=hP2 ga) (hR:=fun wx hm=>Rd.of (Hs.sg hm)) (k:=fun gc=>?_);refine WO.nil (WX.wt [(60,AQ gc (131+(i+1)*64) (131+(i+1)*64))] ?_);refine WT.one (m:=7) rfl hc hT ?_;refine Tw ?_;refine WO.nil (WX.wt [(3,AQ gc (131+(i+1)*64) (131+(i+1)*64))] ?_);refine WT.fin [7] 9 hc rfl Kr ?_;clear hc hT;rw[hnx]
  repeat (first|refine WO.does (zi rfl rfl hadd) ?_|refine Tj ?_|intro _|refine Tc ?_|exact Tz)
  exact WX.metI (i+1,gc,131+(i+1)*64) (hl:=by simp only[Nat.sub_self,mkz,List.replicate_zero,List.flatten_nil,List.append_nil];repeat (first|exact Lle.nil|refine Lle.c ?_|refine Lle.skp ?_)) (hs:=⟨⟨by show i+1≤N.length;omega,Nat.le_refl _,by show 131+(i+1)*64<9223372036854775808;omega⟩,by show N.length - (i+1)<N.length - i;omega⟩)
 have hi2:i=N.length:=by omega
 subst hi2;have hBe:gn3 p q g h F m N.length++(N.take N.length).flatMap gnK=gnB p q g h F m N:=by rw[List.take_length];rfl
 rw[hBe] at hWl ⊢
 repeat (first|refine Tk ?_|intro _|exact Tz)
 refine WC.dF rfl Om ?_
 repeat (first|refine Tk ?_|intro _|exact Tz)
 refine WO.makes (zh (cs:=[AQ gw (131+N.length*64) cw]) rfl Dtt rfl) ?_;intro gp;refine WO.acallR (hc:=hHof gw cw gp) (hR:=fun wx hm=>⟨Hs.sg hm,z6.cons (by have:=RdP.own (t:=5) (g:=gw) (X:=gnB p q g h F m N) (r:=mkz (cw - (131+N.length*64)) [.int .u8 0]) hm Hs.a Om hr2;rw[hWl] at this;exact this) z6.nil⟩) (k:=?_);generalize gnH p q g h F m N=HS at *
 repeat (first|refine Tj ?_|intro _|refine WO.stores (zo (vs:=byC HS) (cs':=byC HS) (hl:=hHl) (h1:=zM HS) (hc:=zC (by rw[hHl];rfl)) (hle:=by rw[hHl];rfl)) ?_|refine Tc ?_|exact Tz)
 exact WX.aret1 (hr:=vF (vs:=byC HS) (hc:=zt hHl) (hl:=hHl)) (hp:=rfl)
end
end Sx
end
section
open Go Go.RowKit Go.BigFrame
namespace Sx
attribute [local irreducible] DQ WC WO WX yN ddH hOf wd
def swW (ep:Nat) (x:(Dd × Dk) × Nw):Sw:=⟨ep,x.1.1.d,some ⟨x.2.g,0,none⟩,x.2.xs,x.2.c⟩
abbrev swZ:List Value:=[.int .u64 0,.int .u8 0,.slice none 0 0]
end Sx
end
end Go.Proofs.YtiaibpcaloigkaaGreatDoor
