/- Part 42 of the proof. -/
import Derived.Test.YtbhblpnjhkddbaaGreatE40
import Derived.Test.YtbhblpnjhkddbaaGreatE35
set_option linter.unusedSimpArgs false
set_option linter.unusedVariables false
set_option maxHeartbeats 8000000
namespace Go.Proofs.YtbhblpnjhkddbaaGreat
section
open Go Go.RowKit Go.BigFrame
namespace Sx
attribute [local irreducible] DQ DQS WC WO WX wd
def nrL (g:Nat) (D:List Nat) (r:List Value):Nat→List Ent
 | 0=>[]
 | _+1=>[⟨g,24,D.flatMap zb++r⟩]
def nrV (g c n:Nat):Nat→Value
 | 0=>.slice none 0 0
 | _+1=>.slice (some ⟨g,0,none⟩) n c
section
variable (p q g h gF:Nat)
theorem m6 (l:List Nat) (pt:Option Addr) (c i x:Nat) (e:Int) (h1:1<q) (hl:∀ y∈l,y<q) (hx:x<q) (hn:l.length≤1000) (hi:i<1000) (hq:q<zc) :
  FnL Tryz.prog 139 [Sx.pt gF,.slice pt l.length c,.int .i64 (i:Int),ze x] [⟨gF,158,fdC p q g h e⟩] (fun w=>RdF zb (.slice pt l.length c) l w∧∀ b o,pt=some ⟨b,o,none⟩→l≠[]→b ∉ [gF])
   (fun v N=>∃ g' c' r',v=nrV g' c' (dif q l i x l.length).length (dif q l i x l.length).length∧N=⟨gF,158,fdC p q g h e⟩::nrL g' (dif q l i x l.length) r' (dif q l i x l.length).length):=by
 refine FnL.enter Tryz.func139 rfl rfl rfl ?_;intro w hw;rw[show List.map Ent.g [(⟨gF,158,fdC p q g h e⟩ : Ent)]=[gF] from rfl];obtain⟨⟨pt',c',e1,hpc⟩,hout⟩:=hw;cases e1
 repeat (first|refine Tw ?_|(refine Tm ?_;intro _)|exact Tz)
 rename_i gX
 refine WC.loopI (σ:=Nat × Nat × Nat × List Value) (fun s=>s.1≤l.length∧(0<(dif q l i x s.1).length→((dif q l i x s.1).flatMap zb++s.2.2.2).length=s.2.2.1*4∧s.2.2.1<9223372036854775808)) (fun s=>[(0,Sx.pt gF),(1,.slice pt l.length c),(2,.int .i64 (i:Int)),(7,Sx.pt gX),(8,nrV s.2.1 s.2.2.1 (dif q l i x s.1).length (dif q l i x s.1).length),(11,.int .i64 (l.length:Int)),(12,.int .i64 (s.1:Int))])
  (fun s=>⟨gX,24,zb x⟩::⟨gF,158,fdC p q g h e⟩::nrL s.2.1 (dif q l i x s.1) s.2.2.2 (dif q l i x s.1).length) (fun s=>l.length - s.1) (0,0,0,[]) (fun s hs=>?_) ⟨Nat.zero_le _,fun h=>absurd h (by simp[dif])⟩
 obtain⟨k,g0,c0,r0⟩:=s
 try dsimp only at hs ⊢
 obtain⟨hk,hr⟩:=hs
 by_cases hlt:k<l.length
 ·have hadd2:IntKind.i64.wrap ((k:Int)+1)=((k+1:Nat):Int):=zn (by omega) (by omega) (by omega)
  by_cases hki:k=i
  ·have hd:=pN (q:=q) (l:=l) (x:=x) hki;rw[← hd] at hr ⊢
   repeat (first|refine Tw ?_|(refine Tm ?_;intro _)|exact Tz)
   refine WC.dT rfl (by omega) ?_
   repeat (first|refine Ta ?_|(refine Tm ?_;intro _)|refine WO.does (zu rfl rfl (by omega)) ?_|refine WO.does (zg rfl rfl hadd2) ?_|refine Tc ?_|exact Tz)
   exact WX.metI (k+1,g0,c0,r0) (hl:=Lle.same) (hs:=⟨⟨by show k+1≤l.length;omega,hr⟩,by show l.length - (k+1)<l.length - k;omega⟩)
  ·obtain⟨y,hy⟩ : ∃ y,l[k]?=some y:=⟨_,List.getElem?_eq_getElem hlt⟩
   rcases hpc with ⟨_,h0⟩|⟨b,o,rfl,hs⟩
   ·rw[h0] at hlt;simp at hlt
   have hb:b ∉ [gF]:=hout b o rfl (by rintro rfl;simp at hlt);have hcx:cut (l.flatMap zb) (o+k*4 - o) 4=zb y:=by rw[Nat.add_sub_cancel_left];exact yb (f:=zb) (k:=4) (fun _=>rfl) hy
   have hd:=q5 (q:=q) (x:=x) hki hy;have hLs:=aat p q g h gF x y e h1 hx (hl y (List.mem_of_getElem? hy)) hq;have hDl:=mE (q:=q) (i:=i) (x:=x) (k:=k) (l:=l);have hfl:((dif q l i x k).flatMap zb).length=(dif q l i x k).length*4:=zB (f:=zb) (k:=4) (fun _=>rfl) _
   repeat (first|refine Tw ?_|(refine Tm ?_;intro _)|exact Tz)
   refine WC.dT rfl (by omega) ?_
   repeat (first|refine Ta ?_|(refine Tm ?_;intro _)|refine WO.does (ym rfl rfl (by omega)) ?_|refine Tc ?_|exact Tz)
   have hvl:(x+q - y)%q<q:=Nat.mod_lt _ (by omega);generalize (x+q - y)%q=v at *;generalize hD:dif q l i x k=D at *;refine WC.mains [7,8,9,10] [(0,nrV g0 c0 D.length D.length),(1,Sx.pt gF),(2,ze x),(3,.slice (some ⟨b,o,none⟩) l.length c),(4,.int .i64 (k:Int)),(5,.pointer (some ⟨b,o+k*4,none⟩)),(6,ze y)] (by decide) ?_;refine WM.with [⟨gX,24,zb x⟩] (by kernel_rfl) (Tls.auto (Tls.auto (Tls.auto (Tls.auto (Tls.auto (Tls.cons rfl (za (o':=o+k*4) rfl rfl hlt rfl) (Tls.cons rfl (zk (vs:=zb y) (hs:=hs) (hle:=Nat.le_add_right _ _) (hb:=hb) (hc:=hcx)) Tls.nil))))))) (fun hc hT=>?_)
   refine WM.step (m:=7) rfl rfl hc hT ?_;refine WO.callM rfl hLs (by repeat (first|exact Rp.here|apply Rp.there)) (fun _ _=>trivial) (by decide) ?_ rfl rfl;refine WO.nil (WX.wm [(25,ze v)] ?_);refine WM.step (m:=8) rfl rfl hc hT ?_;refine WO.makes (zd (cs:=zb v) rfl (by decide) rfl) (fun gT=>?_);refine WO.nil (WX.wm [(26,.slice (some ⟨gT,0,none⟩) 1 1)] ?_);refine WM.step (m:=9) rfl rfl hc hT ?_
   rcases D with _|⟨d0,D⟩
   ·refine WO.appN (z:=zb 0) (ys:=zb v) (m:=1) rfl rfl rfl (Rds.own (m:=4) Hs.a rfl) rfl (by decide) (by decide) (by decide) (by decide) (fun g1 c1 r1 a1 a2 a3=>?_);refine WO.nil (WX.wm [(27,.slice (some ⟨g1,0,none⟩) 1 c1)] ?_);refine WM.step (m:=10) rfl rfl hc hT ?_;refine WO.auto (k:=?_);refine WO.nil (WX.wm [(8,.slice (some ⟨g1,0,none⟩) 1 c1)] ?_);refine WM.fin (m:=10) hc rfl rfl (by rfl) ?_;clear hc hT
    repeat (first|refine Ta ?_|(refine Tm ?_;intro _)|refine WO.does (zg rfl rfl hadd2) ?_|refine Tc ?_|exact Tz)
    exact WX.metI (k+1,g1,c1,r1) (hk:=by (try dsimp only);rw[hd];repeat (first|exact Kle.nil|refine Kle.cons rfl (by first|rfl|simp[nrV]) ?_)) (hl:=by (try dsimp only);rw[hd];repeat (first|exact Lle.nil|refine Lle.c ?_)) (hs:=⟨⟨by show k+1≤l.length;omega,fun _=>by show ((dif q l i x (k+1)).flatMap zb++r1).length=c1*4∧c1<9223372036854775808;rw[hd];exact⟨by simpa using a1,a2⟩⟩,by show l.length - (k+1)<l.length - k;omega⟩)
   ·obtain⟨u1,u2⟩:=hr (by simp);refine WO.appK (z:=zb 0) (m:=1) (l:=(d0::D).length+1) rfl rfl rfl (xs:=(d0::D).flatMap zb) (r:=r0) (ys:=zb v) hfl u1 Pk.a (Rds.own (m:=4) Hs.a rfl) rfl rfl rfl (by omega) u2 (by omega) (by decide) (by decide) (fun g1 c1 r1 a1 a2 a3=>?_);refine WO.nil (WX.wm [(27,.slice (some ⟨g1,0,none⟩) ((d0::D).length+1) c1)] ?_);refine WM.step (m:=10) rfl rfl hc hT ?_;refine WO.auto (k:=?_);refine WO.nil (WX.wm [(8,.slice (some ⟨g1,0,none⟩) ((d0::D).length+1) c1)] ?_);refine WM.fin (m:=10) hc rfl rfl (by rfl) ?_;clear hc hT
    repeat (first|refine Ta ?_|(refine Tm ?_;intro _)|refine WO.does (zg rfl rfl hadd2) ?_|refine Tc ?_|exact Tz)
    exact WX.metI (k+1,g1,c1,r1) (hk:=by (try dsimp only);rw[hd];repeat (first|exact Kle.nil|refine Kle.cons rfl (by first|rfl|simp[nrV]) ?_)) (hl:=by (try dsimp only);rw[hd];refine Lle.c ?_;refine Lle.c ?_;exact Lle.cons Pk.a (by simp) Lle.nil) (hs:=⟨⟨by show k+1≤l.length;omega,fun _=>by show ((dif q l i x (k+1)).flatMap zb++r1).length=c1*4∧c1<9223372036854775808;rw[hd];exact⟨by simpa using a1,a2⟩⟩,by show l.length - (k+1)<l.length - k;omega⟩)
 ·have hk2:k=l.length:=by omega
  subst hk2
  repeat (first|refine Tw ?_|(refine Tm ?_;intro _)|exact Tz)
  refine WC.dF rfl (by omega) ?_
  repeat (first|refine Tw ?_|(refine Tm ?_;intro _)|exact Tz)
  exact WX.retP_of (acj rfl (by exact zr rfl)) (Lle.cons (.there .here) rfl (Lle.skip Lle.same)) ⟨g0,c0,r0,rfl,rfl⟩
end
end Sx
end
end Go.Proofs.YtbhblpnjhkddbaaGreat
