/- Part 18 of the proof. -/
import Derived.Test.YtbhblpnjhkddbaaGreatE13
import Derived.Test.YtbhblpnjhkddbaaGreatE16
set_option linter.unusedSimpArgs false
set_option linter.unusedVariables false
set_option maxHeartbeats 8000000
namespace Go.Proofs.YtbhblpnjhkddbaaGreat
section
open Go Go.RowKit Go.BigFrame
namespace Sx
theorem ct {s buf:List Nat} {n:Nat} (h1:s.length=8) (h2:buf.length=64):cut (vP s buf n) 0 74=vP s buf n:=by
 unfold cut;rw[List.drop_zero,List.take_of_length_le (by rw[vb h1 h2];omega)]
theorem di (s buf:List Nat) (n:Nat):(vP s buf n).all Value.oneCell'=true:=by
 simp[vP,List.all_append,w3C,byC,Value.oneCell']
theorem vN {cs vs:List Value} (h:cs.length=vs.length):over cs 0 vs=vs:=by
 unfold over;rw[List.take_zero,Nat.zero_add,List.drop_of_length_le (by omega)];simp
theorem WC.ndp {P:Program} {w0:World} {gs:List Nat} {n:Nat} {c:Code} {Q:Exit→Act→World→Prop} {K:List (Nat × Value)} {L:List Ent} (k:(L.map Ent.g).Nodup→WC P w0 gs n c Q K L):WC P w0 gs n c Q K L:=fun a w h1 h2 h3 h4=>k h4.nodup a w h1 h2 h3 h4
attribute [local irreducible] wd DQ DQS WO WC WX
theorem vX {s b:List Nat} (h:s.length=8):∀ q,(Sha.takes s b q).length=8
 | 0=>h
 | q+1=>take_len (vX h q)
theorem abr {s buf:List Nat} {n i:Nat} (h1:s.length=8) (hi:i<8):(vP s buf n)[1+i]?=some (.int .u32 ((s.getD i 0:Nat):Int)):=by
 unfold vP;rw[List.append_assoc,List.getElem?_append_right (by simp),List.getElem?_append_left (by simp[zo,h1];omega)];simp[w3C,List.getD,show i<s.length by omega]
theorem yw {cs:List Value} {n:Nat} (h:cs.length=n):cut cs 0 n=cs:=by
 unfold cut;rw[List.drop_zero,List.take_of_length_le (by omega)]
theorem j8 (g:Nat) (m s buf:List Nat) (n:Nat) (hH:lz m s buf n) (hs8:s.length=8) (hsl:∀ x∈s,x<4294967296) (hbl:∀ x∈buf,x<256) (hn:n≤1152921504606846000) :
  Fn Tryz.prog 71 [pt g] (fun w=>Seg w g 0 (vP s buf n)) (Is (.agg (byC (Sha.sum m)).toArray)):=by
 have hb64:=hH.len;have hcut:=ct (n:=n) hs8 hb64;have hl74:=vb (n:=n) hs8 hb64;have hgn:=fE (n:=n) hs8 hb64;have h8n:IntKind.u64.wrap (8*(n:Int))=((8*n:Nat):Int):=yW (by omega) (by omega) (by omega);have hpl:Sha.pad n<64:=Nat.mod_lt _ (by omega);have h88:=zh 8 (8*n);refine Fn.enter Tryz.func71 rfl rfl rfl ?_;intro w hw
 repeat (first|refine WO.does (zk (vs:=vP s buf n) (hs:=hw) (hc:=hcut) (hl:=hl74)) ?_|refine WO.stores (zw (vs:=vP s buf n) (cs':=vP s buf n) (hl:=hl74) (h1:=di s buf n) (hc:=vN (by rw[hl74];simp)) (hle:=by rw[hl74];rfl)) ?_|refine WO.does (zi (hs:=hw) (hc:=hgn)) ?_|refine WO.does (zU rfl rfl h8n) ?_|refine Ta ?_|(refine Tm ?_;intro _)|refine WO.does (rr (t:=124) (e:=180) (by kernel_rfl) rfl rfl) ?_|(refine WO.makes (zM (l:=1) (c:=64) rfl rfl (by decide) (by decide) (by decide)) ?_;intro q)|refine Tc ?_|exact Tz)
 rename_i g2 g3
 refine WC.loopI (σ:=Nat × Nat × Nat × List Value) (fun x=>1≤x.1∧x.1≤Sha.pad n+1∧(byC (128::List.replicate (x.1 - 1) 0)++x.2.2.2).length=x.2.2.1∧x.2.2.1<9223372036854775808)
  (fun x=>[(0,pt g),(2,pt g2),(3,pt g3),(4,.int .u64 ((8*n:Nat):Int)),(5,.slice (some ⟨x.2.1,0,none⟩) x.1 x.2.2.1)])
  (fun x=>[⟨x.2.1,5,byC (128::List.replicate (x.1 - 1) 0)++x.2.2.2⟩,⟨g3,180,vP s buf n⟩,⟨g2,86,List.replicate 32 (.int .u8 0)⟩]) (fun x=>Sha.pad n+1 - x.1)
  (1,q,64,(mkz 64 [Value.int .u8 0]).drop 1) (fun x hx=>?_) ⟨Nat.le_refl _,by show 1≤Sha.pad n+1;omega,by simp[zf,zQ],by show 64<9223372036854775808;omega⟩
 obtain⟨l,q',c,r⟩:=x;obtain⟨hl1,hl2,hlc,hc⟩:=hx;dsimp only at hl1 hl2 hlc hc ⊢;have hst:=dD (n:=n) hl1 hl2;have ha:IntKind.u64.wrap ((n:Int)+((l:Nat):Int))=((n+l:Nat):Int):=yW (by omega) (by omega) (by omega);have hcv:IntKind.u64.wrap ((l:Nat):Int)=((l:Nat):Int):=u64_in (by omega) (by omega);have hrm:((n+l:Nat):Int).tmod 64=(((n+l)%64:Nat):Int):=aa9 (n+l);have hbl1:(byC (128::List.replicate (l - 1) 0)).length=l:=by rw[zf];simp;omega
 repeat (first|refine WO.does (zi (hs:=hw) (hc:=hgn)) ?_|refine WO.does (zg rfl rfl ha) ?_|refine WO.does (zD rfl hcv) ?_|refine WO.does (uO rfl rfl (by decide) hrm) ?_|refine Ta ?_|(refine Tm ?_;intro _)|refine Tc ?_|exact Tz)
 by_cases hs:l=Sha.pad n+1
 ·have h56:(n+l)%64=56:=hst.2 hs;subst hs;refine WC.dF rfl (by rw[h56];decide) ?_
  repeat (first|refine Tw ?_|(refine Tm ?_;intro _)|exact Tz)
  have hsh:∀ k,k<8→(((8*n:Nat):Int)).fdiv (2 ^ min (((56 - 8*k:Nat):Int)).toNat IntKind.u64.bits)=((8*n / 2 ^ (8*(7 - k)):Nat):Int):=fun k hk=>by
   rw[tc (by show 56 - 8*k≤64;omega),show 56 - 8*k=8*(7 - k) by omega]
  refine WC.loopI (σ:=Nat × Nat × Nat × List Value) (fun x=>x.1≤8∧(byC (128::List.replicate (Sha.pad n) 0++(be 8 (8*n)).take x.1)++x.2.2.2).length=x.2.2.1∧x.2.2.1<9223372036854775808)
   (fun x=>[(0,pt g),(2,pt g2),(3,pt g3),(4,.int .u64 ((8*n:Nat):Int)),(5,.slice (some ⟨x.2.1,0,none⟩) (Sha.pad n+1+x.1) x.2.2.1),(42,.int .i64 (x.1:Int))])
   (fun x=>[⟨x.2.1,5,byC (128::List.replicate (Sha.pad n) 0++(be 8 (8*n)).take x.1)++x.2.2.2⟩,⟨g3,180,vP s buf n⟩,⟨g2,86,List.replicate 32 (.int .u8 0)⟩]) (fun x=>8 - x.1)
   (0,q',c,r) (hl:=(by repeat (first|exact Lle.nil|refine Lle.cons Pk.a (by first|rfl|simp) ?_))) (fun x hx=>?_) ⟨Nat.zero_le _,by simpa using hlc,hc⟩
  clear hlc hc r c q' ha hcv hrm;obtain⟨k,q',c,r⟩:=x;obtain⟨hk8,hlc,hc⟩:=hx;dsimp only at hk8 hlc hc ⊢;have hbl2:(byC (128::List.replicate (Sha.pad n) 0++(be 8 (8*n)).take k)).length=Sha.pad n+1+k:=by rw[zf];simp;omega
  repeat (first|refine Tw ?_|(refine Tm ?_;intro _)|exact Tz)
  by_cases hk:k<8
  ·refine WC.dT rfl (by omega) ?_;have hm:IntKind.i64.wrap (8*((k:Nat):Int))=((8*k:Nat):Int):=zn (by omega) (by omega) (by omega);have hsb:IntKind.i64.wrap (56 - ((8*k:Nat):Int))=((56 - 8*k:Nat):Int):=zn (by omega) (by omega) (by omega);have hk1:IntKind.i64.wrap (((k:Nat):Int)+1)=((k+1:Nat):Int):=zn (by omega) (by omega) (by omega);have hgt:(be 8 (8*n)).take (k+1)=(be 8 (8*n)).take k++[8*n / 2 ^ (8*(7 - k))%256]:=by
    rw[List.take_add_one,aa hk,show 8 - 1 - k=7 - k by omega];rfl
   have hbk:byC (128::List.replicate (Sha.pad n) 0++(be 8 (8*n)).take (k+1))=byC (128::List.replicate (Sha.pad n) 0++(be 8 (8*n)).take k)++[.int .u8 ((8*n / 2 ^ (8*(7 - k))%256:Nat):Int)]:=by
    rw[hgt,← List.append_assoc,yd];rfl
   repeat (first|refine WO.does (zU rfl rfl hm) ?_|refine WO.does (zp rfl rfl hsb) ?_|refine WO.does (vx rfl rfl (by omega) (hsh k hk)) ?_|refine WO.does (zD rfl (fL _)) ?_|refine Ta ?_|(refine Tm ?_;intro _)|(refine WO.makes (zd (cs:=[.int .u8 ((8*n / 2 ^ (8*(7 - k))%256:Nat):Int)]) rfl (by decide) rfl) ?_;intro gb)|refine Tc ?_|exact Tz)
   refine WO.appB (m:=1) (l:=Sha.pad n+1+(k+1)) rfl rfl hbl2 hlc (Pk.there Pk.here) (Rds.own (m:=1) Hs.here rfl) rfl rfl (by omega) (by omega) hc (by omega) (by decide) (by decide) (fun q2 c2 r2 hr2 hc2=>?_)
   repeat (first|refine WO.does (zg rfl rfl hk1) ?_|refine Ta ?_|(refine Tm ?_;intro _)|refine Tc ?_|exact Tz)
   exact WX.metI (k+1,q2,c2,r2) (hl:=(by repeat (first|exact Lle.nil|refine Lle.cons Pk.a (by first|rfl|(rw[hbk];rfl)) ?_))) (hs:=⟨⟨by show k+1≤8;omega,by dsimp only;rw[hbk];exact hr2,hc2⟩,by show 8 - (k+1)<8 - k;omega⟩)
  ·have hk8:k=8:=by omega
   subst hk8;have htk:(be 8 (8*n)).take 8=be 8 (8*n):=List.take_of_length_le (by rw[h88];omega);refine WC.dF rfl (by omega) ?_;have hW:=lM g3 c (some ⟨q',0,none⟩) s buf n (mH n) (aE n) hs8 hsl hb64 hbl (by rw[y9];omega);have hHw:=lz.wr (mH n).length (Nat.le_refl _) hH (X:=mH n);have hT:Sha.sum m=Sha.outs (wr s buf n (mH n)).1:=by
    unfold Sha.sum;have:=hH.n;rw[aC (by omega),← this,← hHw.s]
   have hs8' : (wr s buf n (mH n)).1.length=8:=by rw[hHw.s];exact vX rfl _
   have hb64':=hHw.len;rw[y9] at hW;rw[hT];have hrow:byC (128::List.replicate (Sha.pad n) 0++(be 8 (8*n)).take 8)=byC (mH n):=by rw[htk];rfl
   rw[hrow] at hlc ⊢;clear hHw hT hH hrow htk hsh;generalize (wr s buf n (mH n)).1=s' at *;generalize (wr s buf n (mH n)).2.1=b' at *;generalize (wr s buf n (mH n)).2.2=n' at *;have hl74':=vb (n:=n') hs8' hb64';refine WC.ndp (fun hnd=>?_);have hne:q'≠g3:=by simp at hnd;exact hnd.1.1
   repeat (first|refine Tw ?_|(refine Tm ?_;intro _)|exact Tz)
   refine WO.callM (hc:=hW) rfl (Rp.there Rp.here) (fun w' hm=>⟨some ⟨q',0,none⟩,c,rfl,by rw[← hlc,List.length_append,zf,y9];omega,hc,by rw[zf,y9],.inr ⟨q',0,rfl,hne,((Hs.here).seg hm).sub (k:=0) (m:=Sha.pad n+9) (by unfold cut;rw[List.drop_zero,List.take_append_of_le_length (by rw[zf,y9];omega),List.take_of_length_le (by rw[zf,y9];omega)])⟩⟩) (by decide) ?_ rfl rfl
   repeat (first|refine Tw ?_|(refine Tm ?_;intro _)|exact Tz)
   have hT32:(Sha.outs s').length=32:=by rw[ue,hs8']
   refine WC.loopI (σ:=Nat) (fun i=>i≤32) (fun i=>[(2,pt g2),(3,pt g3),(57,.int .i64 (i:Int))]) (fun i=>[⟨g3,180,vP s' b' n'⟩,⟨g2,86,pad (Sha.outs s') i⟩]) (fun i=>32 - i) 0 (hl:=(by repeat (first|exact Lle.nil|refine Lle.cons Pk.a (by first|rfl|(unfold pad;rw[hT32];rfl)) ?_))) (fun i hi=>?_) (Nat.zero_le _)
   repeat (first|refine Tw ?_|(refine Tm ?_;intro _)|exact Tz)
   by_cases hi2:i<32
   ·refine WC.dT rfl (by omega) ?_;have hT1:=eK (s:=s') (i:=i) (by omega);have hov:=kC hT1;have hq:IntKind.i64.wrap (((i:Nat):Int).tdiv 4)=((i / 4:Nat):Int):=zn (by rw[Int.tdiv_eq_ediv_of_nonneg (by omega)];omega) (by rw[Int.tdiv_eq_ediv_of_nonneg (by omega)];omega) (by rw[Int.tdiv_eq_ediv_of_nonneg (by omega)];omega);have hr:((i:Nat):Int).tmod 4=((i%4:Nat):Int):=by rw[Int.tmod_eq_emod_of_nonneg (by omega)];omega
    have hm:IntKind.i64.wrap (((i%4:Nat):Int)*8)=((8*(i%4):Nat):Int):=zn (by omega) (by omega) (by omega);have hsb:IntKind.i64.wrap (24 - ((8*(i%4):Nat):Int))=((8*(3 - i%4):Nat):Int):=zn (by omega) (by omega) (by omega);have hi1:IntKind.i64.wrap (((i:Nat):Int)+1)=((i+1:Nat):Int):=zn (by omega) (by omega) (by omega);have hw1:=abr (s:=s') (buf:=b') (n:=n') hs8' (show i / 4<8 by omega);have hsh:((s'.getD (i / 4) 0:Nat):Int).fdiv (2 ^ min (((8*(3 - i%4):Nat):Int)).toNat IntKind.u32.bits)=((s'.getD (i / 4) 0 / 2 ^ (8*(3 - i%4)):Nat):Int):=tc (by show 8*(3 - i%4)≤32;omega);have hpl1:(pad (Sha.outs s') i).length=32:=by rw[qJ (by omega),hT32]
    generalize s'.getD (i / 4) 0 / 2 ^ (8*(3 - i%4))=vv at *
    repeat (first|refine WO.does (eO rfl rfl (by decide) hq) ?_|refine WO.does (zA (o':=1+i / 4) rfl rfl (by omega) (by omega)) ?_|refine WO.does (zP (hc:=hw1)) ?_|refine WO.does (uO rfl rfl (by decide) hr) ?_|refine WO.does (zU rfl rfl hm) ?_|refine WO.does (zp rfl rfl hsb) ?_|refine WO.does (vx rfl rfl (by omega) hsh) ?_|refine WO.does (zD rfl (fL _)) ?_|refine WO.does (zA (o':=i) rfl rfl (by omega) (by omega)) ?_|refine WO.stores (zw (hc:=hov) (hle:=by rw[hpl1];exact Nat.ble_eq_true_of_le hi2)) ?_|refine WO.does (zg rfl rfl hi1) ?_|refine Ta ?_|(refine Tm ?_;intro _)|refine Tc ?_|exact Tz)
    exact WX.metI (i+1) (hs:=⟨by omega,by omega⟩)
   ·have hi3:i=32:=by omega
    subst hi3;have hpf:pad (Sha.outs s') 32=byC (Sha.outs s'):=by rw[← hT32];exact lc _
    have hbl32:(byC (Sha.outs s')).length=32:=by rw[zf,hT32]
    rw[hpf];refine WC.dF rfl (by omega) ?_
    repeat (first|refine WO.does (zq (vs:=byC (Sha.outs s')) (hc:=yw hbl32) (hl:=hbl32)) ?_|refine WO.stores (zw (vs:=byC (Sha.outs s')) (cs':=byC (Sha.outs s')) (hl:=hbl32) (h1:=vm _) (hc:=vN rfl) (hle:=by rw[hbl32];rfl)) ?_|refine Ta ?_|(refine Tm ?_;intro _)|refine Tc ?_|exact Tz)
    exact WX.aret1 (hr:=yU (vs:=byC (Sha.outs s')) (hc:=yw hbl32) (hl:=hbl32)) (hp:=rfl)
 ·refine WC.dT rfl (by omega) ?_;have hbk:byC (128::List.replicate (l+1 - 1) 0)=byC (128::List.replicate (l - 1) 0)++[.int .u8 0]:=by
   rw[show l+1 - 1=l - 1+1 by omega,List.replicate_succ',← List.cons_append,yd];rfl
  repeat (first|refine Ta ?_|(refine Tm ?_;intro _)|(refine WO.makes (zd (cs:=[.int .u8 0]) rfl (by decide) rfl) ?_;intro gb)|refine Tc ?_|exact Tz)
  refine WO.appB (m:=1) (l:=l+1) rfl rfl hbl1 hlc (Pk.there Pk.here) (Rds.own (m:=1) Hs.here rfl) rfl rfl (by omega) (by omega) hc (by omega) (by decide) (by decide) (fun q2 c2 r2 hr2 hc2=>?_)
  repeat (first|refine Tw ?_|(refine Tm ?_;intro _)|exact Tz)
  exact WX.metI (l+1,q2,c2,r2) (hl:=(by repeat (first|exact Lle.nil|refine Lle.cons Pk.a (by first|rfl|(rw[hbk];rfl)) ?_))) (hs:=⟨⟨by show 1≤l+1;omega,by show l+1≤Sha.pad n+1;omega,by dsimp only;rw[hbk];exact hr2,hc2⟩,by show Sha.pad n+1 - (l+1)<Sha.pad n+1 - l;omega⟩)
end Sx
end
section
open Go Go.RowKit Go.BigFrame
namespace Sx
def RdF {α:Type} (f:α→List Value) (v:Value) (xs:List α) (w:World):Prop :=
 ∃ pt c,v=.slice pt xs.length c∧((pt=none∧xs=[])∨∃ b o,pt=some ⟨b,o,none⟩∧Seg w b o (xs.flatMap f))
theorem RdF.mod {α:Type} {f:α→List Value} {v:Value} {xs:List α} {w w' : World} (h:RdF f v xs w) (hm:Mod [] w w'):RdF f v xs w':=by
 obtain⟨pt,c,e,h⟩:=h;exact⟨pt,c,e,h.imp id (fun ⟨b,o,e2,hs⟩=>⟨b,o,e2,hs.mod hm (by simp)⟩)⟩
theorem RdF.seg {α:Type} {f:α→List Value} {xs:List α} {w:World} {b o c:Nat} {r:List Value} (h:Seg w b o (xs.flatMap f++r)):RdF f (.slice (some ⟨b,o,none⟩) xs.length c) xs w :=
 ⟨_,c,rfl,.inr ⟨b,o,rfl,fun i v hv=>h i v (by rw[List.getElem?_append_left (by rcases Nat.lt_or_ge i (xs.flatMap f).length with h1|h1;exact h1;rw[List.getElem?_eq_none h1] at hv;cases hv)];exact hv)⟩⟩
theorem RdF.lt {α:Type} {f:α→List Value} {k:Nat} (hk:∀ x,(f x).length=k+1) {xs:List α} {w:World} {b o n c:Nat} (h:RdF f (.slice (some ⟨b,o,none⟩) n c) xs w) (hne:xs≠[]):b<w.heap.size:=by
 obtain⟨pt,c',e,h⟩:=h;cases e
 rcases h with ⟨h1,_⟩|⟨b',o',e2,hs⟩
 ·cases h1
 ·cases e2;cases xs with
  | nil=>exact absurd rfl hne
  | cons x r =>
   have hx:=hk x;cases hfx:f x with
   | nil=>rw[hfx] at hx;cases hx
   | cons v vs =>
    exact mz (hs 0 v (by simp[hfx]))
section
open Kp
variable {P:Program} {w0:World} {gs:List Nat} {n:Nat} {fl:List Nat} {Q:Exit→Act→World→Prop} {ops:List Oper} {L0:List Ent}
variable {tail rest:List Oper} {i:Nat} {C:zC→Prop} {K:zC→List (Nat × Value)} {N:zC→List (Nat × Ent)}
variable {d:Nat} {op:Op} {ty:TypeId} {pos:String} {after:Array Edge} {gd:Option (Nat × Bool)}
theorem DQ.acallM {f:FuncId} [Cal P f] {xs:Array Operand} {ats:Array TypeId} {vs:List Value} {Rq:World→Prop} {v:Value} (hc:Fn P f vs Rq (Is v)) (hR:∀ w,Mr w0 gs L0 w→Rq w)
  (k:DQ P w0 gs n fl Q ops L0 tail (i+1) rest C (fun s=>(d,v)::K s) N) (ha:∀ s,evs (K s) xs.toList=some vs:=by (intro s;rfl))
  (hfl:fl.contains i=false:=by rfl) (hw:∀ s,wk ops (K s) gd=some true:=by intro _;rfl) (hd:Nat.blt d n=true:=by rfl) :
  DQ P w0 gs n fl Q ops L0 tail i (⟨some d,.call { callee:=.value (.func f),args:=xs,argTypes:=ats },ty,pos,after,gd⟩::rest) C K N :=
 DQ.callE (v:=fun _=>v) (fun _=>[]) (fun _=>.nil) (fun _ _=>hc) ha (fun _ _ w h=>hR w h) Dp.const k hfl hw hd
end
theorem zB {α:Type} {f:α→List Value} {k:Nat} (hk:∀ x,(f x).length=k):∀ xs:List α,(xs.flatMap f).length=xs.length*k
 | []=>by simp
 | x::r=>by simp[hk,zB hk r,Nat.add_mul];omega
theorem co {z:List Value} (m:Nat):(mkz (m+1) z).drop z.length=mkz m z:=by
 unfold mkz;rw[List.replicate_succ,List.flatten_cons,List.drop_left]
theorem sV {α:Type} {f:α→List Value} {xs:List α} {i m k:Nat} {x:α} {z:List Value} (hk:∀ x,(f x).length=k) (hz:z.length=k) (hx:xs[i]?=some x) (hm:0<m) :
  over ((xs.take i).flatMap f++mkz m z) (i*z.length) (f x)=(xs.take (i+1)).flatMap f++mkz (m - 1) z:=by
 have hi:i<xs.length:=by
  rcases Nat.lt_or_ge i xs.length with h|h
  ·exact h
  ·rw[List.getElem?_eq_none h] at hx;cases hx
 have hl:((xs.take i).flatMap f).length=i*z.length:=by
  rw[zB hk,List.length_take,hz,Nat.min_eq_left (by omega)]
 have e:=uP (xs:=(xs.take i).flatMap f) (r:=mkz m z) (ys:=f x);rw[hl] at e;rw[e,List.take_add_one,hx];obtain⟨m',rfl⟩ : ∃ m',m=m' + 1:=⟨m - 1,by omega⟩;have hd:=co (z:=z) m';rw[show z.length=(f x).length by rw[hk,hz]] at hd;rw[hd];simp
section
variable {P:Program}
def cK (w:World) (gs:List Nat) (post:Value→List Ent→Prop):Ending→World→Prop:=fun e w'=>∃ v N,e=.returned v∧Me w gs N w'∧post v N
def FnL (P:Program) (f:FuncId) (args:List Value) (L:List Ent) (R:World→Prop) (post:Value→List Ent→Prop):Prop :=
 ∀ w,(∀ e∈L,e.ok w)→(L.map Ent.g).Nodup→R w→Calls P f args.toArray w (cK w (L.map Ent.g) post)
theorem FnL.enter {n:Nat} {f:FuncId} {fn:Func} {c:Code} {args:List Value} {L:List Ent} {R:World→Prop} {post:Value→List Ent→Prop} (hf:P.funcs[f]?=some fn) (hb:fn.body=some c) (hn:fn.ntmps=n) (hle:Nat.ble args.length n=true)
  (k:∀ w,R w→WC P w (L.map Ent.g) n c (bodyPost P fn (cK w (L.map Ent.g) post)) (kin args 0) L):FnL P f args L R post:=by
 intro w hok hnd hw;refine calls_of_wp hf hb ?_;have hle' : args.length≤n:=by simpa using hle
 refine k w hw _ w rfl (by simp[hn];omega) (fun t v hv=>?_) ⟨.refl _ _,hok,fun e he=>.inr (List.mem_map.2 ⟨e,he,rfl⟩),hnd⟩;obtain⟨j,h1,h2⟩:=uR args 0 t v hv;subst h1;have hj:j<args.length:=by
  rcases Nat.lt_or_ge j args.length with h|h
  ·exact h
  ·rw[List.getElem?_eq_none h] at h2;cases h2
 simp only[Nat.zero_add];rw[Array.getElem?_append_left (by simpa using hj)];simpa using h2
theorem FnM.toL {f:FuncId} {args:List Value} {g t:Nat} {cs cs' : List Value} {R:World→Prop} {v:Value} (h:FnM P f args g t cs cs' R v):FnL P f args [⟨g,t,cs⟩] R (fun u N=>u=v∧N=[⟨g,t,cs'⟩]):=fun w h1 _ hw =>
 (h w (h1 _ (by simp)) hw).mono fun _ _ ⟨e,hm,hok⟩=>⟨v,[⟨g,t,cs'⟩],e,⟨hm,by simpa using hok,by simp,by simp⟩,rfl,rfl⟩
inductive Pks:List Ent→List Ent→List Ent→Prop
 | nil {L:List Ent}:Pks L [] L
 | cons {L L1 M R:List Ent} {g t:Nat} {cs:List Value}:Pk L g t cs L1→Pks L1 M R→Pks L (⟨g,t,cs⟩::M) R
theorem Pks.perm {L M R:List Ent} (h:Pks L M R):L.Perm (M++R):=by
 induction h with
 | nil=>exact .refl _
 | cons h1 _ ih=>exact h1.perm.trans (ih.cons _)
theorem Me.callL {w0 w w' : World} {gs:List Nat} {M R N:List Ent} (h:Me w0 gs (M++R) w) (hm:Me w (M.map Ent.g) N w'):Me w0 gs (N++R) w':=by
 have hnd:=h.nodup;rw[List.map_append,List.nodup_append] at hnd;have hR:∀ e∈R,e.ok w':=fun e he=>(h.ok e (List.mem_append_right _ he)).keep (hm.mod.block e.g (h.ok e (List.mem_append_right _ he)).lt (fun hg=>hnd.2.2 _ hg _ (List.mem_map.2 ⟨e,he,rfl⟩) rfl));refine⟨⟨hm.mod.os.trans h.mod.os,hm.mod.tape.trans h.mod.tape,hm.mod.output.trans h.mod.output,Nat.le_trans h.mod.size hm.mod.size,fun k hk hn=>?_⟩,fun e he=>?_,fun e he=>?_,?_⟩
 ·refine (hm.mod.block k (Nat.lt_of_lt_of_le hk h.mod.size) (fun hg=>?_)).trans (h.mod.block k hk hn);obtain⟨e,he,rfl⟩:=List.mem_map.1 hg
  rcases h.mine e (List.mem_append_left _ he) with h1|h1
  ·omega
  ·exact hn h1
 ·rcases List.mem_append.1 he with he|he
  ·exact hm.ok e he
  ·exact hR e he
 ·rcases List.mem_append.1 he with he|he
  ·rcases hm.mine e he with h1|h1
   ·exact .inl (Nat.le_trans h.mod.size h1)
   ·obtain⟨e',he',hg⟩:=List.mem_map.1 h1;rw[← hg];exact h.mine e' (List.mem_append_left _ he')
  ·exact h.mine e (List.mem_append_right _ he)
 ·rw[List.map_append,List.nodup_append];refine⟨hm.nodup,hnd.2.1,fun x hx y hy e=>?_⟩;obtain⟨e1,he1,rfl⟩:=List.mem_map.1 hx;obtain⟨e2,he2,rfl⟩:=List.mem_map.1 hy;have h2:=(h.ok e2 (List.mem_append_right _ he2)).lt
  rcases hm.mine e1 he1 with h1|h1
  ·omega
  ·exact hnd.2.2 _ h1 _ (List.mem_map.2 ⟨e2,he2,rfl⟩) e
end
section
variable {P:Program} {w0:World} {gs:List Nat} {n:Nat} {ops:List Oper} {Q:Exit→Act→World→Prop} {K:List (Nat × Value)} {L:List Ent} {rest:List Oper}
variable {d:Nat} {op:Op} {ty:TypeId} {pos:String} {after:Array Edge} {gd:Option (Nat × Bool)}
theorem WO.callsLV {f:FuncId} [Cal P f] {x:Operand} {xs:Array Operand} {ats:Array TypeId} {ar fs cs ar' : List Value} {M R:List Ent} {Rq:World→Prop} {post:Value→List Ent→Prop} (hc:FnL P f ar' M Rq post) (hx:ev K x=some (.func (.func f) fs.toArray cs.toArray)) (ha:evs K xs.toList=some ar) (hh:fs++ar++cs=ar')
  (hp:Pks L M R) (hR:∀ w,Mr w0 gs L w→Rq w) (k:∀ v N,post v N→WO P w0 gs n ops Q ((d,v)::K) (N++R) rest) (hd:Nat.blt d n=true:=by rfl) (hw:wk ops K gd=some true:=by rfl) :
  WO P w0 gs n ops Q K L (⟨some d,.call { callee:=.value x,args:=xs,argTypes:=ats },ty,pos,after,gd⟩::rest):=by
 intro a w hdf hsz hk hme;refine wpList_step fun F hF=>?_;rw[if_pos (z6 (o:=⟨some d,.call { callee:=.value x,args:=xs,argTypes:=ats },ty,pos,after,gd⟩) hk hw)];have hd' : d<n:=by simpa [Nat.blt_eq] using hd
 have hme':=hme.perm hp.perm;have hnd:=hme'.nodup;rw[List.map_append,List.nodup_append] at hnd;unfold Oper.wp;subst hh;rw[ug hk hx ha,Oper.upon_enter];refine (hc w (fun e he=>hme'.ok e (List.mem_append_left _ he)) hnd.1 (hR w hme.mr)).mono ?_;rintro e w' ⟨v,N,rfl,hm,hq⟩;exact hF _ _ (k v N hq _ _ (by rw[put_defers];exact hdf) (by rw[yj];exact hsz) (hk.put (by omega) v) (hme'.callL hm))
theorem WO.callsL {f:FuncId} [Cal P f] {xs:Array Operand} {ats:Array TypeId} {ar:List Value} {M R:List Ent} {Rq:World→Prop} {post:Value→List Ent→Prop} (hc:FnL P f ar M Rq post)
  (hR:∀ w,Mr w0 gs L w→Rq w) (k:∀ v N,post v N→WO P w0 gs n ops Q ((d,v)::K) (N++R) rest) (ha:evs K xs.toList=some ar:=by rfl) (hp:Pks L M R:=by (repeat (first|exact Pks.nil|refine Pks.cons Pk.a ?_))) (hd:Nat.blt d n=true:=by rfl) (hw:wk ops K gd=some true:=by rfl) :
  WO P w0 gs n ops Q K L (⟨some d,.call { callee:=.value (.func f),args:=xs,argTypes:=ats },ty,pos,after,gd⟩::rest) :=
 WO.callsLV (fs:=[]) (cs:=[]) hc rfl ha (by simp) hp hR k hd hw
theorem WX.retP_of {fn:Func} {v:Value} {N:List Ent} {post:Value→List Ent→Prop} (hr:∀ a w,Kn K a→Me w0 gs L w→(results fn a.tmps).run P w=.ok v w) (hN:Lle N L) (hp:post v N):WX w0 gs n .ret (bodyPost P fn (cK w0 gs post)) K L:=fun a w h1 _ h3 h4 =>
 ⟨h1,v,hr a w h3 h4,v,N,rfl,hN.me h4,hp⟩
theorem WX.retP_ofN {fn:Func} {v:Value} {N:List Ent} {post:Value→List Ent→Prop} (hr:∀ a w,Kn K a→Me w0 gs L w→(results fn a.tmps).run P w=.ok v w) (hN:Lle N L) (hp:post v N):WX w0 gs n .normal (bodyPost P fn (cK w0 gs post)) K L:=fun a w h1 _ h3 h4 =>
 ⟨h1,v,hr a w h3 h4,v,N,rfl,hN.me h4,hp⟩
theorem av {fn:Func} (hfn:fn.results=#[]) (a:Act) (w:World) (_:Kn K a) (_:Me w0 gs L w):(results fn a.tmps).run P w=.ok (.tuple #[]) w:=by
 rw[yA,hfn];simp
theorem acj {fn:Func} {r:ResultVar} {v:Value} (hfn:fn.results=#[r]) (hr:Rv P w0 gs K L r v) (a:Act) (w:World) (hk:Kn K a) (hme:Me w0 gs L w):(results fn a.tmps).run P w=.ok v w:=by
 have h:=ao (hr a w hk hme);rw[yA,hfn,Sem.run_bind,h];rfl
end
section
variable {P:Program} {w0:World} {gs:List Nat} {K:List (Nat × Value)} {L:List Ent}
theorem yQ {x y:Operand} {t yt ty:TypeId} {k:IntKind} {m n:Int} (hx:ev K x=some (.int k m)) (hy:ev K y=some (.int k n)) (h:m=n):Does P w0 gs K L (.binOp .eql t x y yt) ty (.bool true):=by
 have:=pZ (P:=P) (w0:=w0) (gs:=gs) (L:=L) (t:=t) (yt:=yt) (ty:=ty) hx hy;rw[decide_eq_true h] at this;exact this
theorem vk {x y:Operand} {t yt ty:TypeId} {k:IntKind} {m n:Int} (hx:ev K x=some (.int k m)) (hy:ev K y=some (.int k n)) (h:m≠n):Does P w0 gs K L (.binOp .eql t x y yt) ty (.bool false):=by
 have:=pZ (P:=P) (w0:=w0) (gs:=gs) (L:=L) (t:=t) (yt:=yt) (ty:=ty) hx hy;rw[decide_eq_false h] at this;exact this
theorem ym {x y:Operand} {t yt ty:TypeId} {k:IntKind} {m n:Int} (hx:ev K x=some (.int k m)) (hy:ev K y=some (.int k n)) (h:m≠n):Does P w0 gs K L (.binOp .neq t x y yt) ty (.bool true):=by
 have:=pC (P:=P) (w0:=w0) (gs:=gs) (L:=L) (t:=t) (yt:=yt) (ty:=ty) hx hy;rw[decide_eq_true h] at this;exact this
theorem zu {x y:Operand} {t yt ty:TypeId} {k:IntKind} {m n:Int} (hx:ev K x=some (.int k m)) (hy:ev K y=some (.int k n)) (h:m=n):Does P w0 gs K L (.binOp .neq t x y yt) ty (.bool false):=by
 have:=pC (P:=P) (w0:=w0) (gs:=gs) (L:=L) (t:=t) (yt:=yt) (ty:=ty) hx hy;rw[decide_eq_false (fun hn=>hn h)] at this;exact this
theorem zY {x y:Operand} {t yt ty:TypeId} {k:IntKind} {m n:Int} (hx:ev K x=some (.int k m)) (hy:ev K y=some (.int k n)) (h:n<m):Does P w0 gs K L (.binOp .gtr t x y yt) ty (.bool true):=by
 have:=pS (P:=P) (w0:=w0) (gs:=gs) (L:=L) (t:=t) (yt:=yt) (ty:=ty) hx hy;rw[decide_eq_true h] at this;exact this
theorem zx {x y:Operand} {t yt ty:TypeId} {k:IntKind} {m n:Int} (hx:ev K x=some (.int k m)) (hy:ev K y=some (.int k n)) (h:¬ n<m):Does P w0 gs K L (.binOp .gtr t x y yt) ty (.bool false):=by
 have:=pS (P:=P) (w0:=w0) (gs:=gs) (L:=L) (t:=t) (yt:=yt) (ty:=ty) hx hy;rw[decide_eq_false h] at this;exact this
theorem v7 {x y:Operand} {t yt ty:TypeId} {k:IntKind} {m n:Int} (hx:ev K x=some (.int k m)) (hy:ev K y=some (.int k n)) (h:m<n):Does P w0 gs K L (.binOp .lss t x y yt) ty (.bool true):=by
 have:=pD (P:=P) (w0:=w0) (gs:=gs) (L:=L) (t:=t) (yt:=yt) (ty:=ty) hx hy;rw[decide_eq_true h] at this;exact this
theorem zT {x y:Operand} {t yt ty:TypeId} {k:IntKind} {m n:Int} (hx:ev K x=some (.int k m)) (hy:ev K y=some (.int k n)) (h:¬ m<n):Does P w0 gs K L (.binOp .lss t x y yt) ty (.bool false):=by
 have:=pD (P:=P) (w0:=w0) (gs:=gs) (L:=L) (t:=t) (yt:=yt) (ty:=ty) hx hy;rw[decide_eq_false h] at this;exact this
theorem rH {x y:Operand} {t yt ty:TypeId} {k:IntKind} {m n:Int} (hx:ev K x=some (.int k m)) (hy:ev K y=some (.int k n)) (h:n≤m):Does P w0 gs K L (.binOp .geq t x y yt) ty (.bool true):=by
 have:=p9 (P:=P) (w0:=w0) (gs:=gs) (L:=L) (t:=t) (yt:=yt) (ty:=ty) hx hy;rw[decide_eq_true h] at this;exact this
theorem vT {x y:Operand} {t yt ty:TypeId} {k:IntKind} {m n:Int} (hx:ev K x=some (.int k m)) (hy:ev K y=some (.int k n)) (h:¬ n≤m):Does P w0 gs K L (.binOp .geq t x y yt) ty (.bool false):=by
 have:=p9 (P:=P) (w0:=w0) (gs:=gs) (L:=L) (t:=t) (yt:=yt) (ty:=ty) hx hy;rw[decide_eq_false h] at this;exact this
theorem fz {x y:Operand} {t yt ty:TypeId} {k:IntKind} {m n:Int} (hx:ev K x=some (.int k m)) (hy:ev K y=some (.int k n)) (h:m≤n):Does P w0 gs K L (.binOp .leq t x y yt) ty (.bool true):=by
 have:=m4 (P:=P) (w0:=w0) (gs:=gs) (L:=L) (t:=t) (yt:=yt) (ty:=ty) hx hy;rw[decide_eq_true h] at this;exact this
end
section
variable {P:Program} {w0:World} {gs:List Nat} {n:Nat} {ops:List Oper} {Q:Exit→Act→World→Prop} {K:List (Nat × Value)} {L:List Ent} {rest:List Oper}
variable {d:Nat} {ty:TypeId} {pos:String} {after:Array Edge} {gd:Option (Nat × Bool)}
theorem WO.appK {st xt e size bts g len cap m l:Nat} {z xs r ys:List Value} {x y:Operand} {v:Value} {L2:List Ent} [SlT P st e size] [SlT P xt e size] [ElT P e bts z] (hs:size=z.length) (hx:ev K x=some (.slice (some ⟨g,0,none⟩) len cap)) (hy:ev K y=some v)
  (hxl:xs.length=len*z.length) (hcap:(xs++r).length=cap*z.length) (hp:Pk L g e (xs++r) L2) (hr:Rds w0 gs L v m ys) (hyl:ys.length=m*z.length) (h1:ys.all Value.oneCell'=true) (hl:len+m=l) (hlb:l<9223372036854775808) (hc:cap<9223372036854775808) (hnc:l*bts≤140737488355328) (hb:bts≠0) (ht:e≠0)
  (k:∀ g' c' r',(xs++ys++r').length=c' * z.length→c' < 9223372036854775808→l≤c'→WO P w0 gs n ops Q ((d,.slice (some ⟨g',0,none⟩) l c')::K) (⟨g',e,xs++ys++r'⟩::L2) rest) (hd:Nat.blt d n=true:=by rfl) (hw:wk ops K gd=some true:=by rfl) :
  WO P w0 gs n ops Q K L (⟨some d,.call { callee:=.builtin .append,args:=#[x,y],argTypes:=#[st,xt] },ty,pos,after,gd⟩::rest):=by
 subst hl;intro a w hdf hsz hk hme;have hr1:=hr.perm hp.perm;have key:WO P w0 gs n ops Q K (⟨g,e,xs++r⟩::L2) (⟨some d,.call { callee:=.builtin .append,args:=#[x,y],argTypes:=#[st,xt] },ty,pos,after,gd⟩::rest):=by
  by_cases hroom:len+m≤cap
  ·have hle:(len+m)*z.length≤cap*z.length:=Nat.mul_le_mul_right _ hroom;rw[Nat.add_mul] at hle;have hov:over (xs++r) (len*z.length) ys=xs++ys++r.drop ys.length:=by rw[← hxl];exact uP
   refine WO.both (sO (s:=undef) (z:=z) hx hy hr1 hyl hroom h1 Rp.here hov (by rw[hcap,hyl];exact hle) hs ht) (k g cap (r.drop ys.length) ?_ hc hroom) hd hw;simp only[List.length_append,List.length_drop] at hcap ⊢;omega
  ·refine WO.news (ux (z:=z) (n:=m) hx hy (ys:=xs) (Rds.own (m:=len*z.length) Hs.here (by unfold cut;rw[List.drop_zero,← hxl,List.take_left])) hxl hr1 hyl (by omega) hlb (growslice_fits (by omega) hnc) hb hs) (fun s hs=>?_) hd hw;have e1:len*z.length+m*z.length+(s 1 - (len+m))*z.length=s 1*z.length:=by
    rw[← Nat.add_mul,← Nat.add_mul];congr 1;have:=hs.1;omega
   have hk2:=k (s 0) (s 1) (mkz (s 1 - (len+m)) z) (by rw[List.length_append,List.length_append,zQ,hxl,hyl];exact e1) hs.2 hs.1;exact fun a w h1 h2 h3 h4=>hk2 a w h1 h2 h3 (h4.sub (by simp))
 exact key a w hdf hsz hk (hme.perm hp.perm)
theorem WO.appN {st xt e size bts m:Nat} {z ys:List Value} {x y:Operand} {v:Value} [SlT P st e size] [SlT P xt e size] [ElT P e bts z] (hs:size=z.length) (hx:ev K x=some (.slice none 0 0)) (hy:ev K y=some v)
  (hr:Rds w0 gs L v m ys) (hyl:ys.length=m*z.length) (hm:0<m) (hlb:m<9223372036854775808) (hnc:m*bts≤140737488355328) (hb:bts≠0)
  (k:∀ g' c' r',(ys++r').length=c' * z.length→c' < 9223372036854775808→m≤c'→WO P w0 gs n ops Q ((d,.slice (some ⟨g',0,none⟩) m c')::K) (⟨g',e,ys++r'⟩::L) rest) (hd:Nat.blt d n=true:=by rfl) (hw:wk ops K gd=some true:=by rfl) :
  WO P w0 gs n ops Q K L (⟨some d,.call { callee:=.builtin .append,args:=#[x,y],argTypes:=#[st,xt] },ty,pos,after,gd⟩::rest):=by
 refine WO.news (ux (z:=z) (n:=m) hx hy (ys:=[]) Rds.nil (by simp) hr hyl (by omega) (by omega) (by rw[Nat.zero_add];exact growslice_fits (by omega) hnc) hb hs) (fun s hs=>?_) hd hw;obtain⟨h1,h2⟩:=hs;rw[Nat.zero_add] at h1;rw[Nat.zero_add];have e1:m*z.length+(s 1 - m)*z.length=s 1*z.length:=by
  rw[← Nat.add_mul];congr 1;omega
 have hk2:=k (s 0) (s 1) (mkz (s 1 - m) z) (by rw[List.length_append,zQ,hyl];exact e1) h2 h1;simpa using hk2
end
section
variable {P:Program} {w0:World} {gs:List Nat} {n:Nat} {ops:List Oper} {Q:Exit→Act→World→Prop} {K:List (Nat × Value)} {L L' : List Ent} {rest:List Oper}
theorem WO.permL (hp:L.Perm L') (k:WO P w0 gs n ops Q K L' rest):WO P w0 gs n ops Q K L rest:=fun a w h1 h2 h3 h4=>k a w h1 h2 h3 (h4.perm hp)
end
section
variable {β:Type} {A A' B:Nat→List β} {n i:Nat}
theorem vZ {α β:Type} {f g:α→List β}:∀ {l:List α},(∀ x∈l,f x=g x)→l.flatMap f=l.flatMap g
 | [],_=>rfl
 | a::r,h=>by rw[List.flatMap_cons,List.flatMap_cons,h a (by simp),vZ (fun x hx=>h x (by simp[hx]))]
theorem range_split (h:i<n):List.range n=List.range i++i::List.range' (i+1) (n - (i+1)):=by
 rw[List.range_eq_range',List.range_eq_range'];have e1:List.range' 0 n=List.range' 0 i++List.range' i (n - i):=by
  have:=List.range'_append (s:=0) (m:=i) (n:=n - i) (step:=1);rw[Nat.zero_add,Nat.one_mul,show i+(n - i)=n by omega] at this;exact this.symm
 have e2:List.range' i (n - i)=i::List.range' (i+1) (n - (i+1)):=by
  rw[show n - i=(n - (i+1))+1 by omega];rfl
 rw[e1,e2]
end
theorem ga {k m:Nat} {z:List Value} (h:m≤k):(mkz k z).drop (m*z.length)=mkz (k - m) z:=by
 have e:mkz k z=mkz m z++mkz (k - m) z:=by
  unfold mkz;rw[← List.flatten_append,List.replicate_append_replicate,show m+(k - m)=k by omega]
 rw[e,← zQ m z,List.drop_left]
section
variable {P:Program} {w0:World} {gs:List Nat} {n:Nat} {ops:List Oper} {Q:Exit→Act→World→Prop} {K:List (Nat × Value)} {L:List Ent} {rest:List Oper}
variable {d:Nat} {ty:TypeId} {pos:String} {after:Array Edge} {gd:Option (Nat × Bool)}
theorem WO.appKZ {st xt e size bts g len cap m l:Nat} {z xs ys:List Value} {x y:Operand} {v:Value} {L2:List Ent} [SlT P st e size] [SlT P xt e size] [ElT P e bts z] (hs:size=z.length) (hx:ev K x=some (.slice (some ⟨g,0,none⟩) len cap)) (hy:ev K y=some v)
  (hxl:xs.length=len*z.length) (hlc:len≤cap) (hp:Pk L g e (xs++mkz (cap - len) z) L2) (hr:Rds w0 gs L v m ys) (hyl:ys.length=m*z.length) (h1:ys.all Value.oneCell'=true) (hl:len+m=l) (hlb:l<9223372036854775808) (hc:cap<9223372036854775808) (hnc:l*bts≤140737488355328) (hb:bts≠0) (ht:e≠0)
  (k:∀ g' c',c' < 9223372036854775808→l≤c'→WO P w0 gs n ops Q ((d,.slice (some ⟨g',0,none⟩) l c')::K) (⟨g',e,xs++ys++mkz (c' - l) z⟩::L2) rest) (hd:Nat.blt d n=true:=by rfl) (hw:wk ops K gd=some true:=by rfl) :
  WO P w0 gs n ops Q K L (⟨some d,.call { callee:=.builtin .append,args:=#[x,y],argTypes:=#[st,xt] },ty,pos,after,gd⟩::rest):=by
 subst hl;intro a w hdf hsz hk hme;have hr1:=hr.perm hp.perm;have key:WO P w0 gs n ops Q K (⟨g,e,xs++mkz (cap - len) z⟩::L2) (⟨some d,.call { callee:=.builtin .append,args:=#[x,y],argTypes:=#[st,xt] },ty,pos,after,gd⟩::rest):=by
  by_cases hroom:len+m≤cap
  ·have hle:(len+m)*z.length≤cap*z.length:=Nat.mul_le_mul_right _ hroom;have hcl:len*z.length+(cap - len)*z.length=cap*z.length:=by rw[← Nat.add_mul];congr 1;omega
   have hcap:(xs++mkz (cap - len) z).length=cap*z.length:=by rw[List.length_append,zQ,hxl];exact hcl
   rw[Nat.add_mul] at hle;have hov:over (xs++mkz (cap - len) z) (len*z.length) ys=xs++ys++mkz (cap - (len+m)) z:=by
    rw[← hxl,uP,hyl,ga (by omega),show cap - len - m=cap - (len+m) by omega]
   exact WO.both (sO (s:=undef) (z:=z) hx hy hr1 hyl hroom h1 Rp.here hov (by rw[hcap,hyl];exact hle) hs ht) (k g cap hc hroom) hd hw
  ·refine WO.news (ux (z:=z) (n:=m) hx hy (ys:=xs) (Rds.own (m:=len*z.length) Hs.here (by unfold cut;rw[List.drop_zero,← hxl,List.take_left])) hxl hr1 hyl (by omega) hlb (growslice_fits (by omega) hnc) hb hs) (fun s hs=>?_) hd hw;have hk2:=k (s 0) (s 1) hs.2 hs.1;exact fun a w h1 h2 h3 h4=>hk2 a w h1 h2 h3 (h4.sub (by simp))
 exact key a w hdf hsz hk (hme.perm hp.perm)
theorem WO.appNZ {st xt e size bts m:Nat} {z ys:List Value} {x y:Operand} {v:Value} [SlT P st e size] [SlT P xt e size] [ElT P e bts z] (hs:size=z.length) (hx:ev K x=some (.slice none 0 0)) (hy:ev K y=some v)
  (hr:Rds w0 gs L v m ys) (hyl:ys.length=m*z.length) (hm:0<m) (hlb:m<9223372036854775808) (hnc:m*bts≤140737488355328) (hb:bts≠0)
  (k:∀ g' c',c' < 9223372036854775808→m≤c'→WO P w0 gs n ops Q ((d,.slice (some ⟨g',0,none⟩) m c')::K) (⟨g',e,ys++mkz (c' - m) z⟩::L) rest) (hd:Nat.blt d n=true:=by rfl) (hw:wk ops K gd=some true:=by rfl) :
  WO P w0 gs n ops Q K L (⟨some d,.call { callee:=.builtin .append,args:=#[x,y],argTypes:=#[st,xt] },ty,pos,after,gd⟩::rest):=by
 refine WO.news (ux (z:=z) (n:=m) hx hy (ys:=[]) Rds.nil (by simp) hr hyl (by omega) (by omega) (by rw[Nat.zero_add];exact growslice_fits (by omega) hnc) hb hs) (fun s hs=>?_) hd hw;obtain⟨h1,h2⟩:=hs;rw[Nat.zero_add] at h1;rw[Nat.zero_add];have hk2:=k (s 0) (s 1) h2 h1;simpa using hk2
end
end Sx
end
end Go.Proofs.YtbhblpnjhkddbaaGreat
