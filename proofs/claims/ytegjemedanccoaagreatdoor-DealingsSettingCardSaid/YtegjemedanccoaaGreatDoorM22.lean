/- Part 22 of the proof. -/
import Derived.Test.YtegjemedanccoaaGreatDoorM16
import Derived.Test.YtegjemedanccoaaGreatDoorM19
set_option linter.unusedSimpArgs false
set_option linter.unusedVariables false
set_option maxHeartbeats 8000000
namespace Go.Proofs.YtegjemedanccoaaGreatDoor
section
open Go Go.RowKit Go.BigFrame
namespace Sx
theorem dU {s buf:List Nat} {n:Nat} (h1:s.length=8) (h2:buf.length=64):cut (vK s buf n) 0 74=vK s buf n:=by
 unfold cut;rw[List.drop_zero,List.take_of_length_le (by rw[yV h1 h2];omega)]
theorem cd (s buf:List Nat) (n:Nat):(vK s buf n).all Value.oneCell'=true:=by
 simp[vK,List.all_append,w3C,byC,Value.oneCell']
theorem vJ {cs vs:List Value} (h:cs.length=vs.length):over cs 0 vs=vs:=by
 unfold over;rw[List.take_zero,Nat.zero_add,List.drop_of_length_le (by omega)];simp
theorem WC.ndp {P:Program} {w0:World} {gs:List Nat} {n:Nat} {c:Code} {Q:Exit→Act→World→Prop} {K:List (Nat × Value)} {L:List Ent} (k:(L.map Ent.g).Nodup→WC P w0 gs n c Q K L):WC P w0 gs n c Q K L:=fun a w h1 h2 h3 h4=>k h4.nodup a w h1 h2 h3 h4
attribute [local irreducible] wd DQ DQS WO WC WX
theorem vV {s b:List Nat} (h:s.length=8):∀ q,(Sha.takes s b q).length=8
 | 0=>h
 | q+1=>take_len (vV h q)
theorem acE {s buf:List Nat} {n i:Nat} (h1:s.length=8) (hi:i<8):(vK s buf n)[1+i]?=some (.int .u32 ((s.getD i 0:Nat):Int)):=by
 unfold vK;rw[List.append_assoc,List.getElem?_append_right (by simp),List.getElem?_append_left (by simp[zn,h1];omega)];simp[w3C,List.getD,show i<s.length by omega]
theorem yd {cs:List Value} {n:Nat} (h:cs.length=n):cut cs 0 n=cs:=by
 unfold cut;rw[List.drop_zero,List.take_of_length_le (by omega)]
theorem fq (g:Nat) (m s buf:List Nat) (n:Nat) (hH:kb m s buf n) (hs8:s.length=8) (hsl:∀ x∈s,x<4294967296) (hbl:∀ x∈buf,x<256) (hn:n≤1152921504606846000) :
  Fn Tryz.prog 69 [pt g] (fun w=>Seg w g 0 (vK s buf n)) (Is (.agg (byC (Sha.sum m)).toArray)):=by
 have hb64:=hH.len;have hcut:=dU (n:=n) hs8 hb64;have hl74:=yV (n:=n) hs8 hb64;have hgn:=ga (n:=n) hs8 hb64;have h8n:IntKind.u64.wrap (8*(n:Int))=((8*n:Nat):Int):=yQ (by omega) (by omega) (by omega);have hpl:Sha.pad n<64:=Nat.mod_lt _ (by omega);have h88:=zh 8 (8*n);refine Fn.enter Tryz.func69 rfl rfl rfl ?_;intro w hw
 repeat (first|refine WO.does (zj (vs:=vK s buf n) (hs:=hw) (hc:=hcut) (hl:=hl74)) ?_|refine WO.stores (zD (vs:=vK s buf n) (cs':=vK s buf n) (hl:=hl74) (h1:=cd s buf n) (hc:=vJ (by rw[hl74];simp)) (hle:=by rw[hl74];rfl)) ?_|refine WO.does (zg (hs:=hw) (hc:=hgn)) ?_|refine WO.does (zR rfl rfl h8n) ?_|refine Ta ?_|(refine Tm ?_;intro _)|refine WO.does (r5 (t:=118) (e:=171) (by kernel_rfl) rfl rfl) ?_|(refine WO.makes (zV (l:=1) (c:=64) rfl rfl (by decide) (by decide) (by decide)) ?_;intro q)|refine Tc ?_|exact Tz)
 rename_i g2 g3
 refine WC.loopI (σ:=Nat × Nat × Nat × List Value) (fun x=>1≤x.1∧x.1≤Sha.pad n+1∧(byC (128::List.replicate (x.1 - 1) 0)++x.2.2.2).length=x.2.2.1∧x.2.2.1<9223372036854775808)
  (fun x=>[(0,pt g),(2,pt g2),(3,pt g3),(4,.int .u64 ((8*n:Nat):Int)),(5,.slice (some ⟨x.2.1,0,none⟩) x.1 x.2.2.1)])
  (fun x=>[⟨x.2.1,5,byC (128::List.replicate (x.1 - 1) 0)++x.2.2.2⟩,⟨g3,171,vK s buf n⟩,⟨g2,72,List.replicate 32 (.int .u8 0)⟩]) (fun x=>Sha.pad n+1 - x.1)
  (1,q,64,(mkz 64 [Value.int .u8 0]).drop 1) (fun x hx=>?_) ⟨Nat.le_refl _,by show 1≤Sha.pad n+1;omega,by simp[zf,zH],by show 64<9223372036854775808;omega⟩
 obtain⟨l,q',c,r⟩:=x;obtain⟨hl1,hl2,hlc,hc⟩:=hx;dsimp only at hl1 hl2 hlc hc ⊢;have hst:=cW (n:=n) hl1 hl2;have ha:IntKind.u64.wrap ((n:Int)+((l:Nat):Int))=((n+l:Nat):Int):=yQ (by omega) (by omega) (by omega);have hcv:IntKind.u64.wrap ((l:Nat):Int)=((l:Nat):Int):=u64_in (by omega) (by omega);have hrm:((n+l:Nat):Int).tmod 64=(((n+l)%64:Nat):Int):=acq (n+l);have hbl1:(byC (128::List.replicate (l - 1) 0)).length=l:=by rw[zf];simp;omega
 repeat (first|refine WO.does (zg (hs:=hw) (hc:=hgn)) ?_|refine WO.does (zi rfl rfl ha) ?_|refine WO.does (zL rfl hcv) ?_|refine WO.does (tK rfl rfl (by decide) hrm) ?_|refine Ta ?_|(refine Tm ?_;intro _)|refine Tc ?_|exact Tz)
 by_cases hs:l=Sha.pad n+1
 ·have h56:(n+l)%64=56:=hst.2 hs;subst hs;refine WC.dF rfl (by rw[h56];decide) ?_
  repeat (first|refine Tw ?_|(refine Tm ?_;intro _)|exact Tz)
  have hsh:∀ k,k<8→(((8*n:Nat):Int)).fdiv (2 ^ min (((56 - 8*k:Nat):Int)).toNat IntKind.u64.bits)=((8*n / 2 ^ (8*(7 - k)):Nat):Int):=fun k hk=>by
   rw[u9 (by show 56 - 8*k≤64;omega),show 56 - 8*k=8*(7 - k) by omega]
  refine WC.loopI (σ:=Nat × Nat × Nat × List Value) (fun x=>x.1≤8∧(byC (128::List.replicate (Sha.pad n) 0++(be 8 (8*n)).take x.1)++x.2.2.2).length=x.2.2.1∧x.2.2.1<9223372036854775808)
   (fun x=>[(0,pt g),(2,pt g2),(3,pt g3),(4,.int .u64 ((8*n:Nat):Int)),(5,.slice (some ⟨x.2.1,0,none⟩) (Sha.pad n+1+x.1) x.2.2.1),(42,.int .i64 (x.1:Int))])
   (fun x=>[⟨x.2.1,5,byC (128::List.replicate (Sha.pad n) 0++(be 8 (8*n)).take x.1)++x.2.2.2⟩,⟨g3,171,vK s buf n⟩,⟨g2,72,List.replicate 32 (.int .u8 0)⟩]) (fun x=>8 - x.1)
   (0,q',c,r) (hl:=(by repeat (first|exact Lle.nil|refine Lle.cons Pk.a (by first|rfl|simp) ?_))) (fun x hx=>?_) ⟨Nat.zero_le _,by simpa using hlc,hc⟩
  clear hlc hc r c q' ha hcv hrm;obtain⟨k,q',c,r⟩:=x;obtain⟨hk8,hlc,hc⟩:=hx;dsimp only at hk8 hlc hc ⊢;have hbl2:(byC (128::List.replicate (Sha.pad n) 0++(be 8 (8*n)).take k)).length=Sha.pad n+1+k:=by rw[zf];simp;omega
  repeat (first|refine Tw ?_|(refine Tm ?_;intro _)|exact Tz)
  by_cases hk:k<8
  ·refine WC.dT rfl (by omega) ?_;have hm:IntKind.i64.wrap (8*((k:Nat):Int))=((8*k:Nat):Int):=zm (by omega) (by omega) (by omega);have hsb:IntKind.i64.wrap (56 - ((8*k:Nat):Int))=((56 - 8*k:Nat):Int):=zm (by omega) (by omega) (by omega);have hk1:IntKind.i64.wrap (((k:Nat):Int)+1)=((k+1:Nat):Int):=zm (by omega) (by omega) (by omega);have hgt:(be 8 (8*n)).take (k+1)=(be 8 (8*n)).take k++[8*n / 2 ^ (8*(7 - k))%256]:=by
    rw[List.take_add_one,ao hk,show 8 - 1 - k=7 - k by omega];rfl
   have hbk:byC (128::List.replicate (Sha.pad n) 0++(be 8 (8*n)).take (k+1))=byC (128::List.replicate (Sha.pad n) 0++(be 8 (8*n)).take k)++[.int .u8 ((8*n / 2 ^ (8*(7 - k))%256:Nat):Int)]:=by
    rw[hgt,← List.append_assoc,zS];rfl
   repeat (first|refine WO.does (zR rfl rfl hm) ?_|refine WO.does (zM rfl rfl hsb) ?_|refine WO.does (y9 rfl rfl (by omega) (hsh k hk)) ?_|refine WO.does (zL rfl (ei _)) ?_|refine Ta ?_|(refine Tm ?_;intro _)|(refine WO.makes (zd (cs:=[.int .u8 ((8*n / 2 ^ (8*(7 - k))%256:Nat):Int)]) rfl (by decide) rfl) ?_;intro gb)|refine Tc ?_|exact Tz)
   refine WO.appB (m:=1) (l:=Sha.pad n+1+(k+1)) rfl rfl hbl2 hlc (Pk.there Pk.here) (Rds.own (m:=1) Hs.here rfl) rfl rfl (by omega) (by omega) hc (by omega) (by decide) (by decide) (fun q2 c2 r2 hr2 hc2=>?_)
   repeat (first|refine WO.does (zi rfl rfl hk1) ?_|refine Ta ?_|(refine Tm ?_;intro _)|refine Tc ?_|exact Tz)
   exact WX.metI (k+1,q2,c2,r2) (hl:=(by repeat (first|exact Lle.nil|refine Lle.cons Pk.a (by first|rfl|(rw[hbk];rfl)) ?_))) (hs:=⟨⟨by show k+1≤8;omega,by dsimp only;rw[hbk];exact hr2,hc2⟩,by show 8 - (k+1)<8 - k;omega⟩)
  ·have hk8:k=8:=by omega
   subst hk8;have htk:(be 8 (8*n)).take 8=be 8 (8*n):=List.take_of_length_le (by rw[h88];omega);refine WC.dF rfl (by omega) ?_;have hW:=kS g3 c (some ⟨q',0,none⟩) s buf n (lu n) (aaH n) hs8 hsl hb64 hbl (by rw[yT];omega);have hHw:=kb.wr (lu n).length (Nat.le_refl _) hH (X:=lu n);have hT:Sha.sum m=Sha.outs (wr s buf n (lu n)).1:=by
    unfold Sha.sum;have:=hH.n;rw[aaN (by omega),← this,← hHw.s]
   have hs8' : (wr s buf n (lu n)).1.length=8:=by rw[hHw.s];exact vV rfl _
   have hb64':=hHw.len;rw[yT] at hW;rw[hT];have hrow:byC (128::List.replicate (Sha.pad n) 0++(be 8 (8*n)).take 8)=byC (lu n):=by rw[htk];rfl
   rw[hrow] at hlc ⊢;clear hHw hT hH hrow htk hsh;generalize (wr s buf n (lu n)).1=s' at *;generalize (wr s buf n (lu n)).2.1=b' at *;generalize (wr s buf n (lu n)).2.2=n' at *;have hl74':=yV (n:=n') hs8' hb64';refine WC.ndp (fun hnd=>?_);have hne:q'≠g3:=by simp at hnd;exact hnd.1.1
   repeat (first|refine Tw ?_|(refine Tm ?_;intro _)|exact Tz)
   refine WO.callM (hc:=hW) rfl (Rp.there Rp.here) (fun w' hm=>⟨some ⟨q',0,none⟩,c,rfl,by rw[← hlc,List.length_append,zf,yT];omega,hc,by rw[zf,yT],.inr ⟨q',0,rfl,hne,((Hs.here).seg hm).sub (k:=0) (m:=Sha.pad n+9) (by unfold cut;rw[List.drop_zero,List.take_append_of_le_length (by rw[zf,yT];omega),List.take_of_length_le (by rw[zf,yT];omega)])⟩⟩) (by decide) ?_ rfl rfl
   repeat (first|refine Tw ?_|(refine Tm ?_;intro _)|exact Tz)
   have hT32:(Sha.outs s').length=32:=by rw[v7,hs8']
   refine WC.loopI (σ:=Nat) (fun i=>i≤32) (fun i=>[(2,pt g2),(3,pt g3),(57,.int .i64 (i:Int))]) (fun i=>[⟨g3,171,vK s' b' n'⟩,⟨g2,72,pad (Sha.outs s') i⟩]) (fun i=>32 - i) 0 (hl:=(by repeat (first|exact Lle.nil|refine Lle.cons Pk.a (by first|rfl|(unfold pad;rw[hT32];rfl)) ?_))) (fun i hi=>?_) (Nat.zero_le _)
   repeat (first|refine Tw ?_|(refine Tm ?_;intro _)|exact Tz)
   by_cases hi2:i<32
   ·refine WC.dT rfl (by omega) ?_;have hT1:=bW (s:=s') (i:=i) (by omega);have hov:=lx hT1;have hq:IntKind.i64.wrap (((i:Nat):Int).tdiv 4)=((i / 4:Nat):Int):=zm (by rw[Int.tdiv_eq_ediv_of_nonneg (by omega)];omega) (by rw[Int.tdiv_eq_ediv_of_nonneg (by omega)];omega) (by rw[Int.tdiv_eq_ediv_of_nonneg (by omega)];omega);have hr:((i:Nat):Int).tmod 4=((i%4:Nat):Int):=by rw[Int.tmod_eq_emod_of_nonneg (by omega)];omega
    have hm:IntKind.i64.wrap (((i%4:Nat):Int)*8)=((8*(i%4):Nat):Int):=zm (by omega) (by omega) (by omega);have hsb:IntKind.i64.wrap (24 - ((8*(i%4):Nat):Int))=((8*(3 - i%4):Nat):Int):=zm (by omega) (by omega) (by omega);have hi1:IntKind.i64.wrap (((i:Nat):Int)+1)=((i+1:Nat):Int):=zm (by omega) (by omega) (by omega);have hw1:=acE (s:=s') (buf:=b') (n:=n') hs8' (show i / 4<8 by omega);have hsh:((s'.getD (i / 4) 0:Nat):Int).fdiv (2 ^ min (((8*(3 - i%4):Nat):Int)).toNat IntKind.u32.bits)=((s'.getD (i / 4) 0 / 2 ^ (8*(3 - i%4)):Nat):Int):=u9 (by show 8*(3 - i%4)≤32;omega);have hpl1:(pad (Sha.outs s') i).length=32:=by rw[qE (by omega),hT32]
    generalize s'.getD (i / 4) 0 / 2 ^ (8*(3 - i%4))=vv at *
    repeat (first|refine WO.does (cH rfl rfl (by decide) hq) ?_|refine WO.does (yY (o':=1+i / 4) rfl rfl (by omega) (by omega)) ?_|refine WO.does (zU (hc:=hw1)) ?_|refine WO.does (tK rfl rfl (by decide) hr) ?_|refine WO.does (zR rfl rfl hm) ?_|refine WO.does (zM rfl rfl hsb) ?_|refine WO.does (y9 rfl rfl (by omega) hsh) ?_|refine WO.does (zL rfl (ei _)) ?_|refine WO.does (yY (o':=i) rfl rfl (by omega) (by omega)) ?_|refine WO.stores (zD (hc:=hov) (hle:=by rw[hpl1];exact Nat.ble_eq_true_of_le hi2)) ?_|refine WO.does (zi rfl rfl hi1) ?_|refine Ta ?_|(refine Tm ?_;intro _)|refine Tc ?_|exact Tz)
    exact WX.metI (i+1) (hs:=⟨by omega,by omega⟩)
   ·have hi3:i=32:=by omega
    subst hi3;have hpf:pad (Sha.outs s') 32=byC (Sha.outs s'):=by rw[← hT32];exact jc _
    have hbl32:(byC (Sha.outs s')).length=32:=by rw[zf,hT32]
    rw[hpf];refine WC.dF rfl (by omega) ?_
    repeat (first|refine WO.does (zy (vs:=byC (Sha.outs s')) (hc:=yd hbl32) (hl:=hbl32)) ?_|refine WO.stores (zD (vs:=byC (Sha.outs s')) (cs':=byC (Sha.outs s')) (hl:=hbl32) (h1:=yP _) (hc:=vJ rfl) (hle:=by rw[hbl32];rfl)) ?_|refine Ta ?_|(refine Tm ?_;intro _)|refine Tc ?_|exact Tz)
    exact WX.aret1 (hr:=vQ (vs:=byC (Sha.outs s')) (hc:=yd hbl32) (hl:=hbl32)) (hp:=rfl)
 ·refine WC.dT rfl (by omega) ?_;have hbk:byC (128::List.replicate (l+1 - 1) 0)=byC (128::List.replicate (l - 1) 0)++[.int .u8 0]:=by
   rw[show l+1 - 1=l - 1+1 by omega,List.replicate_succ',← List.cons_append,zS];rfl
  repeat (first|refine Ta ?_|(refine Tm ?_;intro _)|(refine WO.makes (zd (cs:=[.int .u8 0]) rfl (by decide) rfl) ?_;intro gb)|refine Tc ?_|exact Tz)
  refine WO.appB (m:=1) (l:=l+1) rfl rfl hbl1 hlc (Pk.there Pk.here) (Rds.own (m:=1) Hs.here rfl) rfl rfl (by omega) (by omega) hc (by omega) (by decide) (by decide) (fun q2 c2 r2 hr2 hc2=>?_)
  repeat (first|refine Tw ?_|(refine Tm ?_;intro _)|exact Tz)
  exact WX.metI (l+1,q2,c2,r2) (hl:=(by repeat (first|exact Lle.nil|refine Lle.cons Pk.a (by first|rfl|(rw[hbk];rfl)) ?_))) (hs:=⟨⟨by show 1≤l+1;omega,by show l+1≤Sha.pad n+1;omega,by dsimp only;rw[hbk];exact hr2,hc2⟩,by show Sha.pad n+1 - (l+1)<Sha.pad n+1 - l;omega⟩)
end Sx
end
section
open Go Go.RowKit Go.BigFrame
namespace Sx
def RdF {α:Type} (f:α→List Value) (v:Value) (xs:List α) (w:World):Prop :=
 ∃ pt c,v=.slice pt xs.length c∧((pt=none∧xs=[])∨∃ b o,pt=some ⟨b,o,none⟩∧Seg w b o (xs.flatMap f))
theorem RdF.mod {α:Type} {f:α→List Value} {v:Value} {xs:List α} {w w' : World} (h:RdF f v xs w) (hm:Mod [] w w'):RdF f v xs w':=by
 obtain⟨pt,c,e,h⟩:=h;exact⟨pt,c,e,h.imp id (fun ⟨b,o,e2,hs⟩=>⟨b,o,e2,hs.mod hm (by simp)⟩)⟩
theorem RdF.seg {α:Type} {f:α→List Value} {xs:List α} {w:World} {b o c:Nat} {r:List Value} (h:Seg w b o (xs.flatMap f++r)):RdF f (.slice (some ⟨b,o,none⟩) xs.length c) xs w :=
 ⟨_,c,rfl,.inr ⟨b,o,rfl,fun i v hv=>h i v (by rw[List.getElem?_append_left (by rcases Nat.lt_or_ge i (xs.flatMap f).length with h1|h1;exact h1;rw[List.getElem?_eq_none h1] at hv;cases hv)];exact hv)⟩⟩
theorem RdF.lt {α:Type} {f:α→List Value} {k:Nat} (hk:∀ x,(f x).length=k+1) {xs:List α} {w:World} {b o n c:Nat} (h:RdF f (.slice (some ⟨b,o,none⟩) n c) xs w) (hne:xs≠[]):b<w.heap.size:=by
 obtain⟨pt,c',e,h⟩:=h;cases e
 rcases h with ⟨h1,_⟩|⟨b',o',e2,hs⟩
 ·cases h1
 ·cases e2;cases xs with
  | nil=>exact absurd rfl hne
  | cons x r =>
   have hx:=hk x;cases hfx:f x with
   | nil=>rw[hfx] at hx;cases hx
   | cons v vs =>
    exact mF (hs 0 v (by simp[hfx]))
def acQ (t n c:Nat) (cs:List Value):Value→List Ent→Prop:=fun v N=>∃ g,v=.slice (some ⟨g,0,none⟩) n c∧N=[⟨g,t,cs⟩]
theorem Fn.exC {P:Program} {f:FuncId} {fs:List Value} {R:World→Prop} {t n c:Nat} {cs:List Value} (h:Fn P f fs R (acQ t n c cs)) :
  Fn P f fs R (Ex (fun x=>.slice (some ⟨x 0,0,none⟩) n c) (fun x=>[⟨x 0,t,cs⟩]) (fun _=>True)) :=
 Fn.weak h (fun _ h=>h) (fun v N ⟨g,e1,e2⟩=>⟨fun _=>g,e1,e2,trivial⟩)
section
variable {P:Program} {w0:World} {gs:List Nat} {n:Nat} {ops:List Oper} {Q:Exit→Act→World→Prop} {K:List (Nat × Value)} {L:List Ent} {rest:List Oper}
variable {d:Nat} {op:Op} {ty:TypeId} {pos:String} {after:Array Edge} {gd:Option (Nat × Bool)}
theorem WX.retC {fn:Func} {r:ResultVar} {g t m c:Nat} {cs:List Value} {L' : List Ent} (hfn:fn.results=#[r]:=by rfl) (hr:Rv P w0 [] K L r (.slice (some ⟨g,0,none⟩) m c):=by exact zr rfl) (hN:Pk L g t cs L':=by (repeat (first|exact Pk.here|apply Pk.there))) :
  WX w0 [] n .ret (bodyPost P fn (uo w0 (acQ t m c cs))) K L:=WX.ret1 hfn hr [⟨g,t,cs⟩] ⟨cs,L',hN,rfl,trivial⟩ ⟨g,rfl,rfl⟩
end
section
open Kp
variable {P:Program} {w0:World} {gs:List Nat} {n:Nat} {fl:List Nat} {Q:Exit→Act→World→Prop} {ops:List Oper} {L0:List Ent}
variable {tail rest:List Oper} {i:Nat} {C:zw→Prop} {K:zw→List (Nat × Value)} {N:zw→List (Nat × Ent)}
variable {d:Nat} {op:Op} {ty:TypeId} {pos:String} {after:Array Edge} {gd:Option (Nat × Bool)}
theorem DQ.acallC {f:FuncId} [Cal P f] {xs:Array Operand} {ats:Array TypeId} {vs:List Value} {Rq:World→Prop} {t m c:Nat} {cs:List Value} (hc:Fn P f vs Rq (acQ t m c cs)) (hR:∀ w,Mr w0 gs L0 w→Rq w)
  (k:DQ P w0 gs n fl Q ops L0 tail (i+1) rest (fun s=>C s∧True) (fun s=>(d,.slice (some ⟨s i 0,0,none⟩) m c)::K s) (fun s=>(i,⟨s i 0,t,cs⟩)::N s)) (ha:∀ s,evs (K s) xs.toList=some vs:=by (intro s;rfl))
  (hfl:fl.contains i=false:=by rfl) (hw:∀ s,wk ops (K s) gd=some true:=by intro _;rfl) (hd:Nat.blt d n=true:=by rfl) :
  DQ P w0 gs n fl Q ops L0 tail i (⟨some d,.call { callee:=.value (.func f),args:=xs,argTypes:=ats },ty,pos,after,gd⟩::rest) C K N :=
 DQ.callsE (fs:=fun _=>[]) (cs:=fun _=>[]) (R:=fun _=>Rq) (vf:=fun _ x=>.slice (some ⟨x 0,0,none⟩) m c) (Nf:=fun _ x=>[⟨x 0,t,cs⟩]) (S:=fun _ _=>True) (fun _=>[]) (fun _=>.nil)
  (fun _=>⟨fun _=>0,trivial⟩) (fun _ _=>hc.exC) (fun _=>rfl) ha (fun _=>by simp) (fun _ _ w h=>hR w h) Dp.const Dp.const Dp.const k hfl hw hd
theorem DQ.acallM {f:FuncId} [Cal P f] {xs:Array Operand} {ats:Array TypeId} {vs:List Value} {Rq:World→Prop} {v:Value} (hc:Fn P f vs Rq (Is v)) (hR:∀ w,Mr w0 gs L0 w→Rq w)
  (k:DQ P w0 gs n fl Q ops L0 tail (i+1) rest C (fun s=>(d,v)::K s) N) (ha:∀ s,evs (K s) xs.toList=some vs:=by (intro s;rfl))
  (hfl:fl.contains i=false:=by rfl) (hw:∀ s,wk ops (K s) gd=some true:=by intro _;rfl) (hd:Nat.blt d n=true:=by rfl) :
  DQ P w0 gs n fl Q ops L0 tail i (⟨some d,.call { callee:=.value (.func f),args:=xs,argTypes:=ats },ty,pos,after,gd⟩::rest) C K N :=
 DQ.callE (v:=fun _=>v) (fun _=>[]) (fun _=>.nil) (fun _ _=>hc) ha (fun _ _ w h=>hR w h) Dp.const k hfl hw hd
end
theorem zt {α:Type} {f:α→List Value} {k:Nat} (hk:∀ x,(f x).length=k):∀ xs:List α,(xs.flatMap f).length=xs.length*k
 | []=>by simp
 | x::r=>by simp[hk,zt hk r,Nat.add_mul];omega
theorem dO {z:List Value} (m:Nat):(mkz (m+1) z).drop z.length=mkz m z:=by
 unfold mkz;rw[List.replicate_succ,List.flatten_cons,List.drop_left]
theorem rZ {α:Type} {f:α→List Value} {xs:List α} {i m k:Nat} {x:α} {z:List Value} (hk:∀ x,(f x).length=k) (hz:z.length=k) (hx:xs[i]?=some x) (hm:0<m) :
  over ((xs.take i).flatMap f++mkz m z) (i*z.length) (f x)=(xs.take (i+1)).flatMap f++mkz (m - 1) z:=by
 have hi:i<xs.length:=by
  rcases Nat.lt_or_ge i xs.length with h|h
  ·exact h
  ·rw[List.getElem?_eq_none h] at hx;cases hx
 have hl:((xs.take i).flatMap f).length=i*z.length:=by
  rw[zt hk,List.length_take,hz,Nat.min_eq_left (by omega)]
 have e:=tq (xs:=(xs.take i).flatMap f) (r:=mkz m z) (ys:=f x);rw[hl] at e;rw[e,List.take_add_one,hx];obtain⟨m',rfl⟩ : ∃ m',m=m' + 1:=⟨m - 1,by omega⟩;have hd:=dO (z:=z) m';rw[show z.length=(f x).length by rw[hk,hz]] at hd;rw[hd];simp
theorem jl {α:Type} {f:α→List Value} {xs:List α} {k:Nat} {z s:List Value} (hk:∀ x,(f x).length=k) (hz:z.length=k) (hs:s.length=k) :
  over (xs.flatMap f++mkz 1 z) (xs.length*z.length) s=xs.flatMap f++s:=by
 have hl:(xs.flatMap f).length=xs.length*z.length:=by rw[zt hk,hz]
 have e:=tq (xs:=xs.flatMap f) (r:=mkz 1 z) (ys:=s);rw[hl] at e;rw[e];have:(mkz 1 z).drop s.length=[]:=by
  apply List.drop_of_length_le;rw[zH,hs,hz];omega
 rw[this,List.append_nil]
section
variable {P:Program}
def abi (w:World) (gs:List Nat) (post:Value→List Ent→Prop):Ending→World→Prop:=fun e w'=>∃ v N,e=.returned v∧Me w gs N w'∧post v N
def FnL (P:Program) (f:FuncId) (args:List Value) (L:List Ent) (R:World→Prop) (post:Value→List Ent→Prop):Prop :=
 ∀ w,(∀ e∈L,e.ok w)→(L.map Ent.g).Nodup→R w→Calls P f args.toArray w (abi w (L.map Ent.g) post)
theorem FnM.toL {f:FuncId} {args:List Value} {g t:Nat} {cs cs' : List Value} {R:World→Prop} {v:Value} (h:FnM P f args g t cs cs' R v):FnL P f args [⟨g,t,cs⟩] R (fun u N=>u=v∧N=[⟨g,t,cs'⟩]):=fun w h1 _ hw =>
 (h w (h1 _ (by simp)) hw).mono fun _ _ ⟨e,hm,hok⟩=>⟨v,[⟨g,t,cs'⟩],e,⟨hm,by simpa using hok,by simp,by simp⟩,rfl,rfl⟩
inductive Pks:List Ent→List Ent→List Ent→Prop
 | nil {L:List Ent}:Pks L [] L
 | cons {L L1 M R:List Ent} {g t:Nat} {cs:List Value}:Pk L g t cs L1→Pks L1 M R→Pks L (⟨g,t,cs⟩::M) R
theorem Pks.perm {L M R:List Ent} (h:Pks L M R):L.Perm (M++R):=by
 induction h with
 | nil=>exact .refl _
 | cons h1 _ ih=>exact h1.perm.trans (ih.cons _)
theorem Me.callL {w0 w w' : World} {gs:List Nat} {M R N:List Ent} (h:Me w0 gs (M++R) w) (hm:Me w (M.map Ent.g) N w'):Me w0 gs (N++R) w':=by
 have hnd:=h.nodup;rw[List.map_append,List.nodup_append] at hnd;have hR:∀ e∈R,e.ok w':=fun e he=>(h.ok e (List.mem_append_right _ he)).keep (hm.mod.block e.g (h.ok e (List.mem_append_right _ he)).lt (fun hg=>hnd.2.2 _ hg _ (List.mem_map.2 ⟨e,he,rfl⟩) rfl));refine⟨⟨hm.mod.os.trans h.mod.os,hm.mod.tape.trans h.mod.tape,hm.mod.output.trans h.mod.output,Nat.le_trans h.mod.size hm.mod.size,fun k hk hn=>?_⟩,fun e he=>?_,fun e he=>?_,?_⟩
 ·refine (hm.mod.block k (Nat.lt_of_lt_of_le hk h.mod.size) (fun hg=>?_)).trans (h.mod.block k hk hn);obtain⟨e,he,rfl⟩:=List.mem_map.1 hg
  rcases h.mine e (List.mem_append_left _ he) with h1|h1
  ·omega
  ·exact hn h1
 ·rcases List.mem_append.1 he with he|he
  ·exact hm.ok e he
  ·exact hR e he
 ·rcases List.mem_append.1 he with he|he
  ·rcases hm.mine e he with h1|h1
   ·exact .inl (Nat.le_trans h.mod.size h1)
   ·obtain⟨e',he',hg⟩:=List.mem_map.1 h1;rw[← hg];exact h.mine e' (List.mem_append_left _ he')
  ·exact h.mine e (List.mem_append_right _ he)
 ·rw[List.map_append,List.nodup_append];refine⟨hm.nodup,hnd.2.1,fun x hx y hy e=>?_⟩;obtain⟨e1,he1,rfl⟩:=List.mem_map.1 hx;obtain⟨e2,he2,rfl⟩:=List.mem_map.1 hy;have h2:=(h.ok e2 (List.mem_append_right _ he2)).lt
  rcases hm.mine e1 he1 with h1|h1
  ·omega
  ·exact hnd.2.2 _ h1 _ (List.mem_map.2 ⟨e2,he2,rfl⟩) e
end
section
variable {P:Program} {w0:World} {gs:List Nat} {n:Nat} {ops:List Oper} {Q:Exit→Act→World→Prop} {K:List (Nat × Value)} {L:List Ent} {rest:List Oper}
variable {d:Nat} {op:Op} {ty:TypeId} {pos:String} {after:Array Edge} {gd:Option (Nat × Bool)}
theorem WO.callsLV {f:FuncId} [Cal P f] {x:Operand} {xs:Array Operand} {ats:Array TypeId} {ar fs cs ar' : List Value} {M R:List Ent} {Rq:World→Prop} {post:Value→List Ent→Prop} (hc:FnL P f ar' M Rq post) (hx:ev K x=some (.func (.func f) fs.toArray cs.toArray)) (ha:evs K xs.toList=some ar) (hh:fs++ar++cs=ar')
  (hp:Pks L M R) (hR:∀ w,Mr w0 gs L w→Rq w) (k:∀ v N,post v N→WO P w0 gs n ops Q ((d,v)::K) (N++R) rest) (hd:Nat.blt d n=true:=by rfl) (hw:wk ops K gd=some true:=by rfl) :
  WO P w0 gs n ops Q K L (⟨some d,.call { callee:=.value x,args:=xs,argTypes:=ats },ty,pos,after,gd⟩::rest):=by
 intro a w hdf hsz hk hme;refine wpList_step fun F hF=>?_;rw[if_pos (zQ (o:=⟨some d,.call { callee:=.value x,args:=xs,argTypes:=ats },ty,pos,after,gd⟩) hk hw)];have hd' : d<n:=by simpa [Nat.blt_eq] using hd
 have hme':=hme.perm hp.perm;have hnd:=hme'.nodup;rw[List.map_append,List.nodup_append] at hnd;unfold Oper.wp;subst hh;rw[vi hk hx ha,Oper.upon_enter];refine (hc w (fun e he=>hme'.ok e (List.mem_append_left _ he)) hnd.1 (hR w hme.mr)).mono ?_;rintro e w' ⟨v,N,rfl,hm,hq⟩;exact hF _ _ (k v N hq _ _ (by rw[put_defers];exact hdf) (by rw[zW];exact hsz) (hk.put (by omega) v) (hme'.callL hm))
theorem WO.callsL {f:FuncId} [Cal P f] {xs:Array Operand} {ats:Array TypeId} {ar:List Value} {M R:List Ent} {Rq:World→Prop} {post:Value→List Ent→Prop} (hc:FnL P f ar M Rq post)
  (hR:∀ w,Mr w0 gs L w→Rq w) (k:∀ v N,post v N→WO P w0 gs n ops Q ((d,v)::K) (N++R) rest) (ha:evs K xs.toList=some ar:=by rfl) (hp:Pks L M R:=by (repeat (first|exact Pks.nil|refine Pks.cons Pk.a ?_))) (hd:Nat.blt d n=true:=by rfl) (hw:wk ops K gd=some true:=by rfl) :
  WO P w0 gs n ops Q K L (⟨some d,.call { callee:=.value (.func f),args:=xs,argTypes:=ats },ty,pos,after,gd⟩::rest) :=
 WO.callsLV (fs:=[]) (cs:=[]) hc rfl ha (by simp) hp hR k hd hw
end
section
variable {P:Program} {w0:World} {gs:List Nat} {K:List (Nat × Value)} {L:List Ent}
theorem zB {x y:Operand} {t yt ty:TypeId} {k:IntKind} {m n:Int} (hx:ev K x=some (.int k m)) (hy:ev K y=some (.int k n)) (h:m=n):Does P w0 gs K L (.binOp .eql t x y yt) ty (.bool true):=by
 have:=pE (P:=P) (w0:=w0) (gs:=gs) (L:=L) (t:=t) (yt:=yt) (ty:=ty) hx hy;rw[decide_eq_true h] at this;exact this
theorem yv {x y:Operand} {t yt ty:TypeId} {k:IntKind} {m n:Int} (hx:ev K x=some (.int k m)) (hy:ev K y=some (.int k n)) (h:m≠n):Does P w0 gs K L (.binOp .eql t x y yt) ty (.bool false):=by
 have:=pE (P:=P) (w0:=w0) (gs:=gs) (L:=L) (t:=t) (yt:=yt) (ty:=ty) hx hy;rw[decide_eq_false h] at this;exact this
theorem yk {x y:Operand} {t yt ty:TypeId} {k:IntKind} {m n:Int} (hx:ev K x=some (.int k m)) (hy:ev K y=some (.int k n)) (h:m≠n):Does P w0 gs K L (.binOp .neq t x y yt) ty (.bool true):=by
 have:=pu (P:=P) (w0:=w0) (gs:=gs) (L:=L) (t:=t) (yt:=yt) (ty:=ty) hx hy;rw[decide_eq_true h] at this;exact this
theorem zK {x y:Operand} {t yt ty:TypeId} {k:IntKind} {m n:Int} (hx:ev K x=some (.int k m)) (hy:ev K y=some (.int k n)) (h:m=n):Does P w0 gs K L (.binOp .neq t x y yt) ty (.bool false):=by
 have:=pu (P:=P) (w0:=w0) (gs:=gs) (L:=L) (t:=t) (yt:=yt) (ty:=ty) hx hy;rw[decide_eq_false (fun hn=>hn h)] at this;exact this
theorem vE {x y:Operand} {t yt ty:TypeId} {k:IntKind} {m n:Int} (hx:ev K x=some (.int k m)) (hy:ev K y=some (.int k n)) (h:n<m):Does P w0 gs K L (.binOp .gtr t x y yt) ty (.bool true):=by
 have:=pW (P:=P) (w0:=w0) (gs:=gs) (L:=L) (t:=t) (yt:=yt) (ty:=ty) hx hy;rw[decide_eq_true h] at this;exact this
theorem zC {x y:Operand} {t yt ty:TypeId} {k:IntKind} {m n:Int} (hx:ev K x=some (.int k m)) (hy:ev K y=some (.int k n)) (h:¬ n<m):Does P w0 gs K L (.binOp .gtr t x y yt) ty (.bool false):=by
 have:=pW (P:=P) (w0:=w0) (gs:=gs) (L:=L) (t:=t) (yt:=yt) (ty:=ty) hx hy;rw[decide_eq_false h] at this;exact this
theorem uD {x y:Operand} {t yt ty:TypeId} {k:IntKind} {m n:Int} (hx:ev K x=some (.int k m)) (hy:ev K y=some (.int k n)) (h:m<n):Does P w0 gs K L (.binOp .lss t x y yt) ty (.bool true):=by
 have:=p8 (P:=P) (w0:=w0) (gs:=gs) (L:=L) (t:=t) (yt:=yt) (ty:=ty) hx hy;rw[decide_eq_true h] at this;exact this
theorem yy {x y:Operand} {t yt ty:TypeId} {k:IntKind} {m n:Int} (hx:ev K x=some (.int k m)) (hy:ev K y=some (.int k n)) (h:¬ m<n):Does P w0 gs K L (.binOp .lss t x y yt) ty (.bool false):=by
 have:=p8 (P:=P) (w0:=w0) (gs:=gs) (L:=L) (t:=t) (yt:=yt) (ty:=ty) hx hy;rw[decide_eq_false h] at this;exact this
theorem uI {x y:Operand} {t yt ty:TypeId} {k:IntKind} {m n:Int} (hx:ev K x=some (.int k m)) (hy:ev K y=some (.int k n)) (h:n≤m):Does P w0 gs K L (.binOp .geq t x y yt) ty (.bool true):=by
 have:=oe (P:=P) (w0:=w0) (gs:=gs) (L:=L) (t:=t) (yt:=yt) (ty:=ty) hx hy;rw[decide_eq_true h] at this;exact this
theorem tu {x y:Operand} {t yt ty:TypeId} {k:IntKind} {m n:Int} (hx:ev K x=some (.int k m)) (hy:ev K y=some (.int k n)) (h:¬ n≤m):Does P w0 gs K L (.binOp .geq t x y yt) ty (.bool false):=by
 have:=oe (P:=P) (w0:=w0) (gs:=gs) (L:=L) (t:=t) (yt:=yt) (ty:=ty) hx hy;rw[decide_eq_false h] at this;exact this
theorem rI {x y:Operand} {t yt ty:TypeId} {k:IntKind} {m n:Int} (hx:ev K x=some (.int k m)) (hy:ev K y=some (.int k n)) (h:m≤n):Does P w0 gs K L (.binOp .leq t x y yt) ty (.bool true):=by
 have:=pL (P:=P) (w0:=w0) (gs:=gs) (L:=L) (t:=t) (yt:=yt) (ty:=ty) hx hy;rw[decide_eq_true h] at this;exact this
theorem oS {x y:Operand} {t yt ty:TypeId} {k:IntKind} {m n:Int} (hx:ev K x=some (.int k m)) (hy:ev K y=some (.int k n)) (h:¬ m≤n):Does P w0 gs K L (.binOp .leq t x y yt) ty (.bool false):=by
 have:=pL (P:=P) (w0:=w0) (gs:=gs) (L:=L) (t:=t) (yt:=yt) (ty:=ty) hx hy;rw[decide_eq_false h] at this;exact this
end
section
variable {P:Program} {w0:World} {gs:List Nat} {n:Nat} {ops:List Oper} {Q:Exit→Act→World→Prop} {K:List (Nat × Value)} {L:List Ent} {rest:List Oper}
variable {d:Nat} {ty:TypeId} {pos:String} {after:Array Edge} {gd:Option (Nat × Bool)}
theorem WO.appK {st xt e size bts g len cap m l:Nat} {z xs r ys:List Value} {x y:Operand} {v:Value} {L2:List Ent} [SlT P st e size] [SlT P xt e size] [ElT P e bts z] (hs:size=z.length) (hx:ev K x=some (.slice (some ⟨g,0,none⟩) len cap)) (hy:ev K y=some v)
  (hxl:xs.length=len*z.length) (hcap:(xs++r).length=cap*z.length) (hp:Pk L g e (xs++r) L2) (hr:Rds w0 gs L v m ys) (hyl:ys.length=m*z.length) (h1:ys.all Value.oneCell'=true) (hl:len+m=l) (hlb:l<9223372036854775808) (hc:cap<9223372036854775808) (hnc:l*bts≤140737488355328) (hb:bts≠0) (ht:e≠0)
  (k:∀ g' c' r',(xs++ys++r').length=c' * z.length→c' < 9223372036854775808→l≤c'→WO P w0 gs n ops Q ((d,.slice (some ⟨g',0,none⟩) l c')::K) (⟨g',e,xs++ys++r'⟩::L2) rest) (hd:Nat.blt d n=true:=by rfl) (hw:wk ops K gd=some true:=by rfl) :
  WO P w0 gs n ops Q K L (⟨some d,.call { callee:=.builtin .append,args:=#[x,y],argTypes:=#[st,xt] },ty,pos,after,gd⟩::rest):=by
 subst hl;intro a w hdf hsz hk hme;have hr1:=hr.perm hp.perm;have key:WO P w0 gs n ops Q K (⟨g,e,xs++r⟩::L2) (⟨some d,.call { callee:=.builtin .append,args:=#[x,y],argTypes:=#[st,xt] },ty,pos,after,gd⟩::rest):=by
  by_cases hroom:len+m≤cap
  ·have hle:(len+m)*z.length≤cap*z.length:=Nat.mul_le_mul_right _ hroom;rw[Nat.add_mul] at hle;have hov:over (xs++r) (len*z.length) ys=xs++ys++r.drop ys.length:=by rw[← hxl];exact tq
   refine WO.both (uQ (s:=undef) (z:=z) hx hy hr1 hyl hroom h1 Rp.here hov (by rw[hcap,hyl];exact hle) hs ht) (k g cap (r.drop ys.length) ?_ hc hroom) hd hw;simp only[List.length_append,List.length_drop] at hcap ⊢;omega
  ·refine WO.news (vx (z:=z) (n:=m) hx hy (ys:=xs) (Rds.own (m:=len*z.length) Hs.here (by unfold cut;rw[List.drop_zero,← hxl,List.take_left])) hxl hr1 hyl (by omega) hlb (growslice_fits (by omega) hnc) hb hs) (fun s hs=>?_) hd hw;have e1:len*z.length+m*z.length+(s 1 - (len+m))*z.length=s 1*z.length:=by
    rw[← Nat.add_mul,← Nat.add_mul];congr 1;have:=hs.1;omega
   have hk2:=k (s 0) (s 1) (mkz (s 1 - (len+m)) z) (by rw[List.length_append,List.length_append,zH,hxl,hyl];exact e1) hs.2 hs.1;exact fun a w h1 h2 h3 h4=>hk2 a w h1 h2 h3 (h4.sub (by simp))
 exact key a w hdf hsz hk (hme.perm hp.perm)
theorem WO.appN {st xt e size bts m:Nat} {z ys:List Value} {x y:Operand} {v:Value} [SlT P st e size] [SlT P xt e size] [ElT P e bts z] (hs:size=z.length) (hx:ev K x=some (.slice none 0 0)) (hy:ev K y=some v)
  (hr:Rds w0 gs L v m ys) (hyl:ys.length=m*z.length) (hm:0<m) (hlb:m<9223372036854775808) (hnc:m*bts≤140737488355328) (hb:bts≠0)
  (k:∀ g' c' r',(ys++r').length=c' * z.length→c' < 9223372036854775808→m≤c'→WO P w0 gs n ops Q ((d,.slice (some ⟨g',0,none⟩) m c')::K) (⟨g',e,ys++r'⟩::L) rest) (hd:Nat.blt d n=true:=by rfl) (hw:wk ops K gd=some true:=by rfl) :
  WO P w0 gs n ops Q K L (⟨some d,.call { callee:=.builtin .append,args:=#[x,y],argTypes:=#[st,xt] },ty,pos,after,gd⟩::rest):=by
 refine WO.news (vx (z:=z) (n:=m) hx hy (ys:=[]) Rds.nil (by simp) hr hyl (by omega) (by omega) (by rw[Nat.zero_add];exact growslice_fits (by omega) hnc) hb hs) (fun s hs=>?_) hd hw;obtain⟨h1,h2⟩:=hs;rw[Nat.zero_add] at h1;rw[Nat.zero_add];have e1:m*z.length+(s 1 - m)*z.length=s 1*z.length:=by
  rw[← Nat.add_mul];congr 1;omega
 have hk2:=k (s 0) (s 1) (mkz (s 1 - m) z) (by rw[List.length_append,zH,hyl];exact e1) h2 h1;simpa using hk2
end
theorem iE {k m:Nat} {z:List Value} (h:m≤k):(mkz k z).drop (m*z.length)=mkz (k - m) z:=by
 have e:mkz k z=mkz m z++mkz (k - m) z:=by
  unfold mkz;rw[← List.flatten_append,List.replicate_append_replicate,show m+(k - m)=k by omega]
 rw[e,← zH m z,List.drop_left]
section
variable {P:Program} {w0:World} {gs:List Nat} {n:Nat} {ops:List Oper} {Q:Exit→Act→World→Prop} {K:List (Nat × Value)} {L:List Ent} {rest:List Oper}
variable {d:Nat} {ty:TypeId} {pos:String} {after:Array Edge} {gd:Option (Nat × Bool)}
theorem WO.appKZ {st xt e size bts g len cap m l:Nat} {z xs ys:List Value} {x y:Operand} {v:Value} {L2:List Ent} [SlT P st e size] [SlT P xt e size] [ElT P e bts z] (hs:size=z.length) (hx:ev K x=some (.slice (some ⟨g,0,none⟩) len cap)) (hy:ev K y=some v)
  (hxl:xs.length=len*z.length) (hlc:len≤cap) (hp:Pk L g e (xs++mkz (cap - len) z) L2) (hr:Rds w0 gs L v m ys) (hyl:ys.length=m*z.length) (h1:ys.all Value.oneCell'=true) (hl:len+m=l) (hlb:l<9223372036854775808) (hc:cap<9223372036854775808) (hnc:l*bts≤140737488355328) (hb:bts≠0) (ht:e≠0)
  (k:∀ g' c',c' < 9223372036854775808→l≤c'→WO P w0 gs n ops Q ((d,.slice (some ⟨g',0,none⟩) l c')::K) (⟨g',e,xs++ys++mkz (c' - l) z⟩::L2) rest) (hd:Nat.blt d n=true:=by rfl) (hw:wk ops K gd=some true:=by rfl) :
  WO P w0 gs n ops Q K L (⟨some d,.call { callee:=.builtin .append,args:=#[x,y],argTypes:=#[st,xt] },ty,pos,after,gd⟩::rest):=by
 subst hl;intro a w hdf hsz hk hme;have hr1:=hr.perm hp.perm;have key:WO P w0 gs n ops Q K (⟨g,e,xs++mkz (cap - len) z⟩::L2) (⟨some d,.call { callee:=.builtin .append,args:=#[x,y],argTypes:=#[st,xt] },ty,pos,after,gd⟩::rest):=by
  by_cases hroom:len+m≤cap
  ·have hle:(len+m)*z.length≤cap*z.length:=Nat.mul_le_mul_right _ hroom;have hcl:len*z.length+(cap - len)*z.length=cap*z.length:=by rw[← Nat.add_mul];congr 1;omega
   have hcap:(xs++mkz (cap - len) z).length=cap*z.length:=by rw[List.length_append,zH,hxl];exact hcl
   rw[Nat.add_mul] at hle;have hov:over (xs++mkz (cap - len) z) (len*z.length) ys=xs++ys++mkz (cap - (len+m)) z:=by
    rw[← hxl,tq,hyl,iE (by omega),show cap - len - m=cap - (len+m) by omega]
   exact WO.both (uQ (s:=undef) (z:=z) hx hy hr1 hyl hroom h1 Rp.here hov (by rw[hcap,hyl];exact hle) hs ht) (k g cap hc hroom) hd hw
  ·refine WO.news (vx (z:=z) (n:=m) hx hy (ys:=xs) (Rds.own (m:=len*z.length) Hs.here (by unfold cut;rw[List.drop_zero,← hxl,List.take_left])) hxl hr1 hyl (by omega) hlb (growslice_fits (by omega) hnc) hb hs) (fun s hs=>?_) hd hw;have hk2:=k (s 0) (s 1) hs.2 hs.1;exact fun a w h1 h2 h3 h4=>hk2 a w h1 h2 h3 (h4.sub (by simp))
 exact key a w hdf hsz hk (hme.perm hp.perm)
theorem WO.appNZ {st xt e size bts m:Nat} {z ys:List Value} {x y:Operand} {v:Value} [SlT P st e size] [SlT P xt e size] [ElT P e bts z] (hs:size=z.length) (hx:ev K x=some (.slice none 0 0)) (hy:ev K y=some v)
  (hr:Rds w0 gs L v m ys) (hyl:ys.length=m*z.length) (hm:0<m) (hlb:m<9223372036854775808) (hnc:m*bts≤140737488355328) (hb:bts≠0)
  (k:∀ g' c',c' < 9223372036854775808→m≤c'→WO P w0 gs n ops Q ((d,.slice (some ⟨g',0,none⟩) m c')::K) (⟨g',e,ys++mkz (c' - m) z⟩::L) rest) (hd:Nat.blt d n=true:=by rfl) (hw:wk ops K gd=some true:=by rfl) :
  WO P w0 gs n ops Q K L (⟨some d,.call { callee:=.builtin .append,args:=#[x,y],argTypes:=#[st,xt] },ty,pos,after,gd⟩::rest):=by
 refine WO.news (vx (z:=z) (n:=m) hx hy (ys:=[]) Rds.nil (by simp) hr hyl (by omega) (by omega) (by rw[Nat.zero_add];exact growslice_fits (by omega) hnc) hb hs) (fun s hs=>?_) hd hw;obtain⟨h1,h2⟩:=hs;rw[Nat.zero_add] at h1;rw[Nat.zero_add];have hk2:=k (s 0) (s 1) h2 h1;simpa using hk2
end
end Sx
end
end Go.Proofs.YtegjemedanccoaaGreatDoor
