/- Part 41 of the proof. -/
import Derived.Test.YtbhblpnjhkddbaaGreatE31
import Derived.Test.YtbhblpnjhkddbaaGreatE40
import Derived.Test.YtbhblpnjhkddbaaGreatE35
set_option linter.unusedSimpArgs false
set_option linter.unusedVariables false
set_option maxHeartbeats 8000000
namespace Go.Proofs.YtbhblpnjhkddbaaGreat
section
open Go Go.RowKit Go.BigFrame
namespace Sx
attribute [local irreducible] DQ DQS WC WO WX wd
theorem fQ (a:Nat):Fn Tryz.prog 134 [.int .u8 (a:Int)] Tr (Is (.bool false)):=by
 refine Fn.enter Tryz.func134 rfl rfl rfl ?_;intro w hw
 repeat (first|refine WO.does (zu rfl rfl rfl) ?_|refine Ta ?_|(refine Tm ?_;intro _)|refine Tc ?_|exact Tz)
theorem ig (a b:Nat):Fn Tryz.prog 84 [.int .u8 (a:Int),.int .u8 (b:Int)] Tr (Is (.int .i64 (ol a b))):=by
 have hA:=fQ a;have hB:=fQ b
 rcases Nat.lt_trichotomy a b with h|h|h
 ·rw[show ol a b = -1 by unfold ol;rw[if_pos h]];refine Fn.enter Tryz.func84 rfl rfl rfl ?_;intro w hw
  repeat (first|refine WO.does (v7 rfl rfl (by omega)) ?_|refine Ta ?_|(refine Tm ?_;intro _)|refine WO.acall (hc:=hA) (k:=?_)|refine WO.acall (hc:=hB) (k:=?_)|refine Tc ?_|exact Tz)
 ·rw[show ol a b=0 by unfold ol;rw[if_neg (by omega),if_neg (by omega)]];refine Fn.enter Tryz.func84 rfl rfl rfl ?_;intro w hw
  repeat (first|refine WO.does (zT rfl rfl (by omega)) ?_|refine WO.does (zx rfl rfl (by omega)) ?_|refine Ta ?_|(refine Tm ?_;intro _)|refine WO.acall (hc:=hA) (k:=?_)|refine WO.acall (hc:=hB) (k:=?_)|refine Tc ?_|exact Tz)
 ·rw[show ol a b=1 by unfold ol;rw[if_neg (by omega),if_pos h]];refine Fn.enter Tryz.func84 rfl rfl rfl ?_;intro w hw
  repeat (first|refine WO.does (zT rfl rfl (by omega)) ?_|refine WO.does (zY rfl rfl (by omega)) ?_|refine Ta ?_|(refine Tm ?_;intro _)|refine WO.acall (hc:=hA) (k:=?_)|refine WO.acall (hc:=hB) (k:=?_)|refine Tc ?_|exact Tz)
theorem iJ (x y:Od):Fn Tryz.prog 40 [.agg (odC x).toArray,.agg (odC y).toArray] Tr (Is (.int .i64 (ol x.n y.n))):=by
 have hC:=ig x.n y.n;refine Fn.enter Tryz.func40 rfl rfl rfl ?_;intro w hw
 repeat (first|refine Ta ?_|(refine Tm ?_;intro _)|refine WO.acall (hc:=hC) (k:=?_)|refine Tc ?_|exact Tz)
theorem lL {l:List Od} {i:Nat} {x:Od} (h:l[i]?=some x):cut (l.flatMap odC) (0+i*15) 15=odC x:=by
 rw[Nat.zero_add];exact yb (f:=odC) (k:=15) (fun _=>rfl) h
def aaH (n:Nat) (l:List Od) (v:Value) (g:Nat) (N:List Ent):Prop:=v=.tuple #[]∧∃ l' : List Od,l'.Perm l∧l'.Pairwise (fun a b=>a.n≤b.n)∧N=[⟨g,97,l'.flatMap odC⟩]
theorem fh (l:List Od) (g c:Nat) (hn:l.length≤12) :
  FnL Tryz.prog 125 [.slice (some ⟨g,0,none⟩) l.length c,.int .i64 0,.int .i64 (l.length:Int),.func (.func 40) #[] #[]] [⟨g,97,l.flatMap odC⟩] Tr (fun v N=>aaH l.length l v g N):=by
 refine FnL.enter Tryz.func125 rfl rfl rfl ?_;intro w hw
 repeat (first|refine Tw ?_|(refine Tm ?_;intro _)|exact Tz)
 refine WC.loopI (σ:=Nat × List Od) (fun s=>1≤s.1∧s.1≤l.length+1∧s.2.Perm l∧Srt s.2 s.1) (fun s=>[(0,.slice (some ⟨g,0,none⟩) l.length c),(1,.int .i64 0),(2,.int .i64 (l.length:Int)),(3,.func (.func 40) #[] #[]),(8,.int .i64 (s.1:Int))]) (fun s=>[⟨g,97,s.2.flatMap odC⟩]) (fun s=>l.length+1 - s.1) (1,l) (fun s hi=>?_) ⟨Nat.le_refl _,by show 1≤l.length+1;omega,.refl _,fun a b h1 h2=>by omega⟩;obtain⟨i,l1⟩:=s
 try dsimp only at hi ⊢
 obtain⟨hi1,hi2,hp1,hs1⟩:=hi
 by_cases hlt:i<l.length
 ·have hadd2:IntKind.i64.wrap ((i:Int)+1)=((i+1:Nat):Int):=zn (by omega) (by omega) (by omega)
  repeat (first|refine Tw ?_|(refine Tm ?_;intro _)|exact Tz)
  refine WC.dT rfl (by omega) ?_
  repeat (first|refine Tw ?_|(refine Tm ?_;intro _)|exact Tz)
  refine WC.loopI (σ:=Nat × List Od) (fun s=>s.1≤i∧s.2.Perm l∧Ins s.2 i s.1) (fun s=>[(0,.slice (some ⟨g,0,none⟩) l.length c),(1,.int .i64 0),(2,.int .i64 (l.length:Int)),(3,.func (.func 40) #[] #[]),(8,.int .i64 (i:Int)),(9,.int .i64 (s.1:Int))]) (fun s=>[⟨g,97,s.2.flatMap odC⟩]) (fun s=>s.1) (i,l1) (fun s hj=>?_) ⟨Nat.le_refl _,hp1,hs1.ins⟩;obtain⟨j,l2⟩:=s
  try dsimp only at hj ⊢
  obtain⟨hji,hp2,hI⟩:=hj;have hll:=hp2.length_eq
  rcases j with _|k
  ·have hS:=hI.done hji (.inl rfl)
   repeat (first|refine Tw ?_|(refine Tm ?_;intro _)|exact Tz)
   refine WC.adraw 17 (k:=?_)
   repeat (first|refine DQ.does (fun s _=>zx rfl rfl (by decide)) Dp.const ?_|refine Da ?_|refine Dc ?_)
   refine DQ.anil (k:=?_);intro sx _
   repeat (first|refine WO.does (zg rfl rfl hadd2) ?_|refine Ta ?_|(refine Tm ?_;intro _)|refine Tc ?_|exact Tz)
   exact WX.metI (i+1,l2) (hs:=⟨⟨by show 1≤i+1;omega,by show i+1≤l.length+1;omega,hp2,hS⟩,by show l.length+1 - (i+1)<l.length+1 - i;omega⟩)
  ·have hk1:k<l.length:=by omega
   have hk2:k+1<l.length:=by omega
   obtain⟨x,hx⟩ : ∃ y,l2[k]?=some y:=⟨_,List.getElem?_eq_getElem (by omega)⟩;obtain⟨y,hy⟩ : ∃ y,l2[k+1]?=some y:=⟨_,List.getElem?_eq_getElem (by omega)⟩;have hcx:=lL hx;have hcy:=lL hy;have hA:=iJ y x;have hsub:IntKind.i64.wrap (((k+1:Nat):Int) - 1)=((k:Nat):Int):=by rw[show ((k+1:Nat):Int) - 1=((k:Nat):Int) by omega];exact i64_in (by omega) (by omega)
   have hgt:((k+1:Nat):Int) > 0:=by omega
   by_cases hc:y.n<x.n
   ·have hyc:ol y.n x.n<0:=lC.2 hc;have hI2:=hI.swap hji hx hy hc;have hp3:=(fG hx hy).trans hp2;have hov1:over (l2.flatMap odC) (0+(k+1)*15) (odC x)=(l2.set (k+1) x).flatMap odC:=by rw[Nat.zero_add];exact lG uE (by omega)
    have hov2:over ((l2.set (k+1) x).flatMap odC) (0+k*15) (odC y)=((l2.set (k+1) x).set k y).flatMap odC:=by rw[Nat.zero_add];exact lG uE (by rw[List.length_set];omega)
    have hln1:Nat.ble (0+(k+1)*15+15) (l2.flatMap odC).length=true:=Nat.ble_eq_true_of_le (by rw[zB uE];omega);have hln2:Nat.ble (0+k*15+15) ((l2.set (k+1) x).flatMap odC).length=true:=Nat.ble_eq_true_of_le (by rw[zB uE,List.length_set];omega);generalize hC2:((l2.set (k+1) x).set k y).flatMap odC=C2 at *;generalize (l2.set (k+1) x).flatMap odC=C1 at *;generalize l2.flatMap odC=C0 at *;generalize ol y.n x.n=R at *
    repeat (first|refine Tw ?_|(refine Tm ?_;intro _)|exact Tz)
    refine WC.adraw 17 (k:=?_)
    iterate 17 (first|refine DQ.does (fun s _=>zY rfl rfl hgt) Dp.const ?_|refine DQ.does (fun s _=>za (o':=0+(k+1)*15) rfl rfl hk2 rfl) Dp.const ?_|refine DQ.does (fun s _=>zq (vs:=odC y) (hc:=hcy)) Dp.const ?_|refine DQ.does (fun s _=>za (o':=0+k*15) rfl rfl hk1 rfl) Dp.const ?_|refine DQ.does (fun s _=>zq (vs:=odC x) (hc:=hcx)) Dp.const ?_|refine DQ.does (fun s _=>zp rfl rfl hsub) Dp.const ?_|refine DQ.acallV (hc:=hA) (k:=?_)|refine DQ.does (fun s _=>v7 rfl rfl hyc) Dp.const ?_|refine Da ?_|refine Dc ?_)
    refine DQ.anil (k:=?_);intro sx _
    repeat (first|refine Tw ?_|(refine Tm ?_;intro _)|exact Tz)
    refine WC.mains [15,16,17] [(0,.slice (some ⟨g,0,none⟩) l.length c),(1,.int .i64 ((k+1:Nat):Int)),(2,.slice (some ⟨g,0,none⟩) l.length c),(3,.int .i64 ((k+1:Nat):Int)),(4,.int .i64 (k:Int)),(5,.slice (some ⟨g,0,none⟩) l.length c),(6,.int .i64 ((k+1:Nat):Int)),(7,.int .i64 (k:Int)),(8,.pointer (some ⟨g,0+k*15,none⟩)),(9,.agg (odC x).toArray),(10,.slice (some ⟨g,0,none⟩) l.length c),(11,.int .i64 ((k+1:Nat):Int)),(12,.pointer (some ⟨g,0+(k+1)*15,none⟩)),(13,.agg (odC y).toArray),(14,.pointer (some ⟨g,0+(k+1)*15,none⟩))] (by decide) ?_;refine WM.with [⟨g,97,C0⟩] (by kernel_rfl) (Tls.auto (Tls.auto (Tls.auto (Tls.auto (Tls.auto (Tls.auto (Tls.auto (Tls.auto (Tls.auto (Tls.auto (Tls.auto (Tls.auto (Tls.auto (Tls.auto (Tls.auto Tls.nil (ho:=by rfl) (h:=by exact (za (o':=0+(k+1)*15) rfl rfl hk2 rfl))) (ho:=by rfl) (h:=by exact (zq (vs:=odC y) (hc:=hcy)))) (ho:=by rfl) (h:=by exact (za (o':=0+(k+1)*15) rfl rfl hk2 rfl))))) (ho:=by rfl) (h:=by exact (zq (vs:=odC x) (hc:=hcx)))) (ho:=by rfl) (h:=by exact (za (o':=0+k*15) rfl rfl hk1 rfl))) (ho:=by rfl) (h:=by exact (zp rfl rfl hsub))))) (ho:=by rfl) (h:=by exact (zp rfl rfl hsub))))))) (fun hc hT=>?_)
    refine WM.step (m:=15) rfl rfl hc hT ?_;refine WO.stores (zw (vs:=odC x) (cs':=C1) (hc:=hov1) (hle:=hln1)) ?_;refine WO.nil (WX.wm [] ?_);refine WM.stepX (m:=16) (ex:=[9,13]) (Lc:=[]) (K0:=[(0,.slice (some ⟨g,0,none⟩) l.length c),(9,.int .i64 ((k+1:Nat):Int))]) rfl rfl hc (Tlx.auto (Tlx.auto (Tlx.auto (Tlx.auto (Tlx.auto (Tlx.auto (Tlx.auto (Tlx.auto (Tlx.auto (Tlx.done (by decide) (Tlx.auto (Tlx.auto (Tlx.auto (Tlx.done (by decide) (Tlx.auto Tlx.nil (ho:=by rfl) (h:=by exact (za (o':=0+(k+1)*15) rfl rfl hk2 rfl)))) (ho:=by rfl) (h:=by exact (za (o':=0+(k+1)*15) rfl rfl hk2 rfl)))))) (ho:=by rfl) (h:=by exact (za (o':=0+k*15) rfl rfl hk1 rfl))) (ho:=by rfl) (h:=by exact (zp rfl rfl hsub))))) (ho:=by rfl) (h:=by exact (zp rfl rfl hsub))))))) (bF (by decide) rfl (by kernel_rfl)) ?_;refine WO.does (za (o':=0+k*15) rfl rfl hk1 rfl) ?_;refine WO.nil (WX.wm [(52,.pointer (some ⟨g,0+k*15,none⟩))] ?_);refine WM.stepX (m:=17) (ex:=[9,13]) (Lc:=[]) (K0:=[(0,.slice (some ⟨g,0,none⟩) l.length c),(9,.int .i64 ((k+1:Nat):Int))]) rfl rfl hc (Tlx.auto (Tlx.auto (Tlx.auto (Tlx.auto (Tlx.auto (Tlx.auto (Tlx.auto (Tlx.auto (Tlx.auto (Tlx.done (by decide) (Tlx.auto (Tlx.auto (Tlx.auto (Tlx.done (by decide) (Tlx.auto Tlx.nil (ho:=by rfl) (h:=by exact (za (o':=0+(k+1)*15) rfl rfl hk2 rfl)))) (ho:=by rfl) (h:=by exact (za (o':=0+(k+1)*15) rfl rfl hk2 rfl)))))) (ho:=by rfl) (h:=by exact (za (o':=0+k*15) rfl rfl hk1 rfl))) (ho:=by rfl) (h:=by exact (zp rfl rfl hsub))))) (ho:=by rfl) (h:=by exact (zp rfl rfl hsub))))))) (bF (by decide) rfl (by kernel_rfl)) ?_;refine WO.stores (zw (vs:=odC y) (cs':=C2) (hc:=hov2) (hle:=hln2)) ?_;refine WO.nil (WX.wm [] ?_);refine WM.fin (m:=17) hc rfl rfl (by rfl) ?_;clear hc hT
    repeat (first|refine WO.does (zp rfl rfl hsub) ?_|refine Ta ?_|(refine Tm ?_;intro _)|refine Tc ?_|exact Tz)
    subst hC2;exact WX.metI (k,(l2.set (k+1) x).set k y) (hs:=⟨⟨by show k≤i;omega,hp3,hI2⟩,by show k<k+1;omega⟩)
   ·have hnc:¬ ol y.n x.n<0:=fun h=>hc (lC.1 h);have hS:=hI.done hji (.inr ⟨k,rfl,by rw[tW hx,tW hy];omega⟩);generalize ol y.n x.n=R at *
    repeat (first|refine Tw ?_|(refine Tm ?_;intro _)|exact Tz)
    refine WC.adraw 17 (k:=?_)
    iterate 17 (first|refine DQ.does (fun s _=>zY rfl rfl hgt) Dp.const ?_|refine DQ.does (fun s _=>za (o':=0+(k+1)*15) rfl rfl hk2 rfl) Dp.const ?_|refine DQ.does (fun s _=>zq (vs:=odC y) (hc:=hcy)) Dp.const ?_|refine DQ.does (fun s _=>za (o':=0+k*15) rfl rfl hk1 rfl) Dp.const ?_|refine DQ.does (fun s _=>zq (vs:=odC x) (hc:=hcx)) Dp.const ?_|refine DQ.does (fun s _=>zp rfl rfl hsub) Dp.const ?_|refine DQ.acallV (hc:=hA) (k:=?_)|refine DQ.does (fun s _=>zT rfl rfl hnc) Dp.const ?_|refine Da ?_|refine Dc ?_)
    refine DQ.anil (k:=?_);intro sx _
    repeat (first|refine WO.does (zg rfl rfl hadd2) ?_|refine Ta ?_|(refine Tm ?_;intro _)|refine Tc ?_|exact Tz)
    exact WX.metI (i+1,l2) (hs:=⟨⟨by show 1≤i+1;omega,by show i+1≤l.length+1;omega,hp2,hS⟩,by show l.length+1 - (i+1)<l.length+1 - i;omega⟩)
 ·have hS:Srt l1 l1.length:=by
   have:=hp1.length_eq;intro a b h1 h2;exact hs1 a b h1 (by omega)
  repeat (first|refine Tw ?_|(refine Tm ?_;intro _)|exact Tz)
  refine WC.dF rfl (by omega) ?_
  repeat (first|refine Tw ?_|(refine Tm ?_;intro _)|exact Tz)
  exact WX.retP_ofN (av rfl) (Lle.cons Pk.here rfl Lle.nil) ⟨rfl,l1,hp1,hS.pw,rfl⟩
theorem fS (m:Nat) (hm:m<9223372036854775808):Fn Tryz.prog 83 [.int .u64 (m:Int)] Tr (Is (.int .i64 (zy m:Nat))):=.of fun w=>(Tryz.bits_Len (m:Int) w (by omega) (by omega)).mono fun e w' h=>by
 obtain⟨rfl,rfl⟩:=h;refine⟨?_,Below.refl _ _⟩;have:=bitLen_eq (x:=m) (by omega);rw[Int.toNat_natCast,this]
theorem acs (l:List Od) (g c m:Nat) (hn:l.length≤12) :
  FnL Tryz.prog 82 [.slice (some ⟨g,0,none⟩) l.length c,.int .i64 0,.int .i64 (l.length:Int),.int .i64 (m:Int),.func (.func 40) #[] #[]] [⟨g,97,l.flatMap odC⟩] Tr (fun v N=>aaH l.length l v g N):=by
 have hI:=fh l g c hn;have hsub:IntKind.i64.wrap ((l.length:Int) - 0)=(l.length:Int):=by rw[Int.sub_zero];exact i64_in (by omega) (by omega)
 refine FnL.enter Tryz.func82 rfl rfl rfl ?_;intro w hw
 repeat (first|refine WC.loopU 1 ?_|refine WO.does (zp rfl rfl hsub) ?_|refine WO.does (fz rfl rfl (by omega)) ?_|refine Ta ?_|(refine Tm ?_;intro _)|refine Tc ?_|exact Tz)
 refine WO.callsL (hc:=hI) (hp:=.cons .here .nil) (fun _ _=>trivial) (fun v N hv=>?_);obtain⟨rfl,l',h1,h2,rfl⟩:=hv
 try dsimp only[List.cons_append,List.nil_append]
 repeat (first|refine Tw ?_|(refine Tm ?_;intro _)|exact Tz)
 exact WX.retP_of (av rfl) (Lle.cons Pk.here rfl Lle.nil) ⟨rfl,l',h1,h2,rfl⟩
theorem jh (l:List Od) (g c:Nat) (hn:l.length≤12) :
  FnL Tryz.prog 39 [.slice (some ⟨g,0,none⟩) l.length c,.func (.func 40) #[] #[]] [⟨g,97,l.flatMap odC⟩] Tr (fun v N=>aaH l.length l v g N):=by
 have hcv:IntKind.u64.wrap (l.length:Int)=(l.length:Int):=u64_in (by omega) (by omega);have hL:=fS l.length (by omega);have hP:=acs l g c (zy l.length) hn;refine FnL.enter Tryz.func39 rfl rfl rfl ?_;intro w hw
 repeat (first|refine WO.does (zD rfl hcv) ?_|refine Ta ?_|(refine Tm ?_;intro _)|refine WO.acall (hc:=hL) (k:=?_)|refine Tc ?_|exact Tz)
 refine WO.callsL (hc:=hP) (hp:=.cons .here .nil) (fun _ _=>trivial) (fun v N hv=>?_);obtain⟨rfl,l',h1,h2,rfl⟩:=hv
 try dsimp only[List.cons_append,List.nil_append]
 repeat (first|refine Tw ?_|(refine Tm ?_;intro _)|exact Tz)
 exact WX.retP_ofN (av rfl) (Lle.cons Pk.here rfl Lle.nil) ⟨rfl,l',h1,h2,rfl⟩
end Sx
end
end Go.Proofs.YtbhblpnjhkddbaaGreat
