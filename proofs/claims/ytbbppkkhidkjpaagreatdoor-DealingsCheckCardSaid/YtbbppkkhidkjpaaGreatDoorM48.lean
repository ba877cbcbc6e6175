/- Part 48 of the proof. -/
import Derived.Test.YtbbppkkhidkjpaaGreatDoorM43
set_option linter.unusedSimpArgs false
set_option linter.unusedVariables false
set_option maxHeartbeats 8000000
namespace Go.Proofs.YtbbppkkhidkjpaaGreatDoor
section
open Go Go.RowKit Go.BigFrame
namespace Sx
attribute [local irreducible] DQ DQS WC WO WX wd
theorem abI (l:List Nat) (pz:Option Addr) (c:Nat) (hn:l.length≤8589934592) :
  Fn Tryz.prog 42 [.slice pz l.length c] (RdF zc (.slice pz l.length c) l) (Ex (fun s=>lgV (s 0) (l.flatMap (be 32)).length l.length) (fun s=>lgL (s 0) (l.flatMap (be 32)) l.length) (fun _=>True)):=by
 by_cases hl:l=[]
 ·subst hl;refine Fn.enter Tryz.func42 rfl rfl rfl ?_;intro w hw
  repeat (first|refine Tw ?_|(refine Tm ?_;intro _)|exact Tz)
  refine WC.loopI (σ:=Unit) (fun _=>True) (fun _=>[(2,.slice none 0 0),(6,.int .i64 0),(7,.int .i64 0)]) (fun _=>[]) (fun _=>0) () (fun _ _=>?_) trivial
  try dsimp only
  repeat (first|refine Tw ?_|(refine Tm ?_;intro _)|exact Tz)
  exact WX.ret1 rfl (by exact zt rfl) [] Lle.nil ⟨fun _=>0,rfl,rfl,trivial⟩
 ·have h:=aaG l pz c hl hn;obtain⟨k,hk⟩ : ∃ k,l.length=k+1:=⟨l.length - 1,by have:=List.length_pos_iff.2 hl;omega⟩;exact h.weak (fun _ h=>h) (fun v N hv=>by
   obtain⟨g,h1,h2⟩:=hv;refine⟨fun _=>g,?_,?_,trivial⟩
   ·rw[hk];exact h1
   ·rw[hk];exact h2)
end Sx
end
section
open Go Go.RowKit Go.BigFrame
namespace Sx
theorem WO.permA {P:Program} {w0:World} {gs:List Nat} {n:Nat} {ops rest:List Oper} {Q:Exit→Act→World→Prop} {K:List (Nat × Value)} {L L' : List Ent} (hp:L.Perm L') (k:WO P w0 gs n ops Q K L' rest):WO P w0 gs n ops Q K L rest:=fun a w h1 h2 h3 h4=>k a w h1 h2 h3 (h4.perm hp)
attribute [local irreducible] wd DQ DQS WO WC WX
def lgP (g:Nat):Nat→Option Addr
 | 0=>none
 | _+1=>some ⟨g,0,none⟩
theorem Hs.right {L:List Ent} {g t:Nat} {cs:List Value}:∀ {M:List Ent},Hs L g t cs→Hs (M++L) g t cs
 | [],h=>h
 | _::_,h=>.there (Hs.right h)
theorem Hs.left {L:List Ent} {g t:Nat} {cs:List Value}:∀ {M:List Ent},Hs M g t cs→Hs (M++L) g t cs:=fun h=>by
 induction h with
 | here=>exact .here
 | there _ ih=>exact .there ih
theorem Vs.lg {ops:List Oper} {i:Nat} {N:List (Nat × Ent)} {E:List Ent} {g n:Nat} {B:List Nat} (j:Nat) (h:∀ k,n=k+1→(j,(⟨g,5,byC B⟩ : Ent))∈N) (ha:Kp.anc ops i j=true) (hE:Vs ops i N E):Vs ops i N (lgL g B n++E):=by
 cases n with
 | zero=>exact hE
 | succ k=>exact .cons j (h k rfl) ha hE
theorem RdP.lg {w0 w:World} {gs:List Nat} {L:List Ent} (hm:Mr w0 gs L w) {g n:Nat} {X:List Nat} (hn:X.length=n*32) (h:∀ k,n=k+1→Hs L g 5 (byC X)) (hc:X.length<9223372036854775808):RdP (.slice (lgP g n) X.length X.length) X w:=by
 cases n with
 | zero =>
  obtain rfl:X=[]:=List.length_eq_zero_iff.1 (by omega);exact⟨none,0,rfl,Nat.le_refl _,by decide,.inl ⟨rfl,rfl⟩⟩
 | succ k=>exact RdP.own0 (g:=g) (X:=X) (t:=5) hm (h k rfl) (Nat.le_refl _) hc
theorem RdP.ag {w0 w:World} {gs:List Nat} {L:List Ent} (hm:Mr w0 gs L w) {g n c:Nat} {X:List Nat} {r:List Value} (hn:X.length=n*64) (h:∀ k,n=k+1→Hs L g 5 (byC X++r)) (hle:X.length≤c) (hc:c<9223372036854775808):RdP (.slice (lgP g n) X.length c) X w:=by
 cases n with
 | zero =>
  obtain rfl:X=[]:=List.length_eq_zero_iff.1 (by omega);exact⟨none,c,rfl,hle,hc,.inl ⟨rfl,rfl⟩⟩
 | succ k=>exact RdP.own (g:=g) (X:=X) (r:=r) (t:=5) hm (h k rfl) hle hc
theorem fB (l:List Nat) (pz:Option Addr) (c:Nat) (hn:l.length≤8589934592) :
  Fn Tryz.prog 42 [.slice pz l.length c] (RdF zc (.slice pz l.length c) l) (Ex (fun s=>.slice (lgP (s 0) l.length) (l.flatMap (be 32)).length (l.flatMap (be 32)).length) (fun s=>lgL (s 0) (l.flatMap (be 32)) l.length) (fun _=>True)) :=
 (abI l pz c hn).weak (fun _ h=>h) (fun v N ⟨s,h1,h2,_⟩=>⟨s,by
  rw[h1];cases l with
  | nil=>rfl
  | cons a r=>rfl,h2,trivial⟩)
theorem jI (ep d:Nat) (sC sS:Nat) (pV pY pP:Option Addr) (cV cY cP:Nat) (V Y:List Nat) (Pr:List (Nat × Nat)) (hd:d<256) (hVl:V.length≤1000) (hYl:Y.length≤1000) (hPl:Pr.length≤1000) :
  Fn Tryz.prog 10 [dlV ep d (.slice pV V.length cV) (.slice pY Y.length cY) (.slice pP Pr.length cP) sC sS]
   (fun w=>RdF zc (.slice pV V.length cV) V w∧RdF zc (.slice pY Y.length cY) Y w∧RdF pfC (.slice pP Pr.length cP) Pr w) (Is (.agg (byC (v7 ep d V Y Pr)).toArray)):=by
 have hLV:=fB V pV cV (by omega);have hLY:=fB Y pY cY (by omega);have hP0:=cR [] ep 8 0 none (by decide) (by decide);rw[List.nil_append,zj] at hP0;have hHl:(zS (zN vO) [be 8 ep++be 1 d,V.flatMap (be 32),Y.flatMap (be 32),Pr.flatMap be2]).length≤1152921504606840000:=by
  simp only[zS,vn,yb,List.flatMap_cons,List.flatMap_nil,List.length_append,zj,yG,List.length_nil,vp,uF];have:vO.size=7:=by decide
  omega
 have hO:=fun g1 c1 g2 g3 gA cA gR=>acT vO [.slice (some ⟨g1,0,none⟩) 9 c1,.slice (lgP g2 V.length) (V.flatMap (be 32)).length (V.flatMap (be 32)).length,.slice (lgP g3 Y.length) (Y.flatMap (be 32)).length (Y.flatMap (be 32)).length,.slice (lgP gA Pr.length) (Pr.flatMap be2).length cA]
  [be 8 ep++be 1 d,V.flatMap (be 32),Y.flatMap (be 32),Pr.flatMap be2] gR 0 4 qm hHl (by decide)
 rw[show hOf (zN vO) [be 8 ep++be 1 d,V.flatMap (be 32),Y.flatMap (be 32),Pr.flatMap be2]=v7 ep d V Y Pr from rfl] at hO;have hHlen:(byC (v7 ep d V Y Pr)).length=32:=by rw[zd];exact uv _ _
 have hVc:(V.flatMap (be 32)).length<9223372036854775808:=by rw[vp];omega
 have hYc:(Y.flatMap (be 32)).length<9223372036854775808:=by rw[vp];omega
 generalize v7 ep d V Y Pr=H at *;have hVm:(V.flatMap (be 32)).length=V.length*32:=vp _;have hYm:(Y.flatMap (be 32)).length=Y.length*32:=vp _;generalize V.flatMap (be 32)=VB at *;generalize Y.flatMap (be 32)=YB at *;have h9:byC (be 8 ep)++[Value.int .u8 (d:Int)]=byC (be 8 ep++be 1 d):=by rw[zp,bB hd]
 refine Fn.enter Tryz.func10 rfl rfl rfl ?_;intro w hw;obtain⟨wV,wY,wP⟩:=hw
 repeat (first|refine Tw ?_|(refine Tm ?_;intro _)|exact Tz)
 rename_i gD gH
 refine WC.loopI (σ:=Nat × Nat × Nat × List Value) (fun s=>s.1≤Pr.length∧(0<s.1→(byC ((Pr.take s.1).flatMap be2)++s.2.2.2).length=s.2.2.1∧s.2.2.1<9223372036854775808)) (fun s=>[(1,pt gD),(2,pt gH),(3,agV s.2.1 s.2.2.1 (s.1*64) s.1),(7,.slice pP Pr.length cP),(8,.int .i64 (Pr.length:Int)),(9,.int .i64 (s.1:Int))])
  (fun s=>⟨gH,45,byC (List.replicate 32 0)⟩::⟨gD,35,dlC ep d (.slice pV V.length cV) (.slice pY Y.length cY) (.slice pP Pr.length cP) sC sS⟩::agL s.2.1 ((Pr.take s.1).flatMap be2) s.2.2.2 s.1) (fun s=>Pr.length - s.1) (0,0,0,[]) (fun s hi=>?_) ⟨Nat.zero_le _,fun h=>absurd h (by decide)⟩
 obtain⟨i,gA,cA,r⟩:=s
 try dsimp only at hi ⊢
 obtain⟨hi,hr⟩:=hi
 by_cases hlt:i<Pr.length
 ·obtain⟨x,hx⟩ : ∃ x,Pr[i]?=some x:=⟨_,List.getElem?_eq_getElem hlt⟩;obtain⟨b,o,rfl,_,hs⟩:=wP.get hx;have hadd2:IntKind.i64.wrap ((i:Int)+1)=((i+1:Nat):Int):=zl (by omega) (by omega) (by omega);have hcx:cut (Pr.flatMap pfC) (o+i*8 - o) 8=pfC x:=by rw[Nat.add_sub_cancel_left];exact zx vu hx
  have hst:(Pr.take i).flatMap be2++be2 x=(Pr.take (i+1)).flatMap be2:=by rw[List.take_add_one,hx];simp
  have hB1:((Pr.take i).flatMap be2).length=i*64:=by rw[uF,List.length_take];omega
  have hL:=fun g=>aaG [x.1,x.2] (some ⟨g,0,none⟩) 2 (by simp) (by show 2≤8589934592;omega);rw[show [x.1,x.2].flatMap (be 32)=be2 x by simp] at hL;have h64:(be2 x).length=64:=by rw[List.length_append,zj,zj]
  rw[h64] at hL;have hyl:(byC (be2 x)).length=64 * [Value.int .u8 0].length:=by rw[zd,h64];rfl
  generalize hB2:(Pr.take (i+1)).flatMap be2=B2 at *
  rcases i with _|i
  ·try dsimp only[agV,agL,List.nil_append]
   have hst' : be2 x=B2:=by rw[← hst];rfl
   repeat (first|refine Tw ?_|(refine Tm ?_;intro _)|exact Tz)
   refine WC.dT rfl (by omega) ?_
   repeat (first|refine Ta ?_|(refine Tm ?_;intro _)|refine WO.does (za (o':=o+0*8) rfl rfl hlt rfl) ?_|refine WO.does (zk (vs:=pfC x) (hs:=hs) (hle:=Nat.le_add_right _ _) (hc:=hcx)) ?_|(refine WO.makes (ze (cs:=zc x.1++zc x.2) rfl (by decide) rfl) ?_;intro _)|refine WO.acallN (hc:=hL _) (hR:=fun w1 hm=>RdF.seg (f:=zc) (xs:=[x.1,x.2]) (r:=[]) (Hs.sg hm)) (k:=fun g'=>?_)|refine Tc ?_|exact Tz)
   refine WO.appN (z:=[Value.int .u8 0]) (m:=64) rfl rfl rfl (Rds.own (m:=64) Hs.here (yl (by rw[zd,h64]))) hyl (by decide) (by decide) (by decide) (by decide) (fun g1 c1 r1 a1 a2 a3=>?_);rw[hst']
   repeat (first|refine Ta ?_|(refine Tm ?_;intro _)|refine WO.does (zh rfl rfl hadd2) ?_|refine Tc ?_|exact Tz)
   subst hB2;exact WX.metI (1,g1,c1,r1) (hs:=⟨⟨by show 0+1≤Pr.length;omega,fun _=>⟨by rw[← hst',a1];exact Nat.mul_one _,a2⟩⟩,by show Pr.length - (0+1)<Pr.length - 0;omega⟩)
  ·obtain⟨r1,r2⟩:=hr (by omega);generalize (Pr.take (i+1)).flatMap be2=B1 at *
   try dsimp only[agV,agL,List.cons_append,List.nil_append]
   repeat (first|refine Tw ?_|(refine Tm ?_;intro _)|exact Tz)
   refine WC.dT rfl (by omega) ?_
   repeat (first|refine Ta ?_|(refine Tm ?_;intro _)|refine WO.does (za (o':=o+(i+1)*8) rfl rfl hlt rfl) ?_|refine WO.does (zk (vs:=pfC x) (hs:=hs) (hle:=Nat.le_add_right _ _) (hc:=hcx)) ?_|(refine WO.makes (ze (cs:=zc x.1++zc x.2) rfl (by decide) rfl) ?_;intro _)|refine WO.acallN (hc:=hL _) (hR:=fun w1 hm=>RdF.seg (f:=zc) (xs:=[x.1,x.2]) (r:=[]) (Hs.sg hm)) (k:=fun g'=>?_)|refine Tc ?_|exact Tz)
   refine WO.appK (z:=[Value.int .u8 0]) (m:=64) (l:=(i+1+1)*64) rfl rfl rfl (xs:=byC B1) (r:=r) (by rw[zd,hB1];exact (Nat.mul_one _).symm) (by rw[r1];exact (Nat.mul_one _).symm) Pk.a (Rds.own (m:=64) Hs.here (yl (by rw[zd,h64]))) hyl (yF _) (by omega) (by omega) r2 (by omega) (by decide) (by decide) (fun g1 c1 r1 a1 a2 a3=>?_);rw[← zp,hst] at a1 ⊢
   repeat (first|refine Ta ?_|(refine Tm ?_;intro _)|refine WO.does (zh rfl rfl hadd2) ?_|refine Tc ?_|exact Tz)
   subst hB2;exact WX.metI (i+1+1,g1,c1,r1) (hs:=⟨⟨by show i+1+1≤Pr.length;omega,fun _=>⟨by rw[a1];exact Nat.mul_one _,a2⟩⟩,by show Pr.length - (i+1+1)<Pr.length - (i+1);omega⟩)
 ·have hi2:i=Pr.length:=by omega
  subst hi2;rw[List.take_length] at *;have hBl:(Pr.flatMap be2).length=Pr.length*64:=uF _;rw[← hBl]
  obtain⟨cB,hAV,hcA,hcB⟩ : ∃ cB,agV gA cA (Pr.flatMap be2).length Pr.length=.slice (lgP gA Pr.length) (Pr.flatMap be2).length cB∧(Pr.flatMap be2).length≤cB∧cB<9223372036854775808:=by
   cases hk:Pr.length with
   | zero=>exact⟨0,by rw[hBl,hk];rfl,by rw[hBl,hk];decide,by decide⟩
   | succ k =>
    obtain⟨r1,r2⟩:=hr (by omega);exact⟨cA,rfl,by rw[← r1,List.length_append,zd];omega,r2⟩
  rw[hAV];generalize Pr.flatMap be2=PB at *;generalize hPm:Pr.length=nP at *;generalize hVk:V.length=nV at *;generalize hYk:Y.length=nY at *
  try dsimp only[List.cons_append,List.nil_append]
  repeat (first|refine Tw ?_|(refine Tm ?_;intro _)|exact Tz)
  refine WC.dF rfl (by omega) ?_
  repeat (first|refine Tw ?_|(refine Tm ?_;intro _)|exact Tz)
  refine WC.adraw 16 (k:=?_)
  iterate 2 (refine DQ.auto (k:=?_))
  refine DQ.acallS (hc:=hP0) (hR:=fun _=>Rd.nil) (k:=?_)
  iterate 2 (refine DQ.auto (k:=?_))
  refine DQ.makes (vf:=fun _ g=>.slice (some ⟨g,0,none⟩) 1 1) (t:=5) (cs:=fun _=>[.int .u8 (d:Int)]) (fun s _=>ze rfl (by decide) rfl) Dp.const Dp.const ?_
  refine DQ.newsE (vf:=fun _ x=>.slice (some ⟨x 0,0,none⟩) 9 (x 1)) (Nf:=fun _ x=>[⟨x 0,5,byC (be 8 ep)++[.int .u8 (d:Int)]++mkz (x 1 - 9) [.int .u8 0]⟩]) (S:=fun _ x=>9≤x 1∧x 1<9223372036854775808)
   (fun s=>[⟨s 5 0,5,[.int .u8 (d:Int)]⟩,⟨s 2 0,5,byC (be 8 ep)⟩]) (fun s=>.cons 5 (.head _) (by decide +kernel) (.cons 2 (by repeat (first|exact .head _|apply List.Mem.tail)) (by decide +kernel) .nil)) (fun _=>⟨fun _=>9,by decide,by decide⟩)
   (fun s _=>vF (z:=[Value.int .u8 0]) (len:=8) (n:=1) rfl rfl (ys:=byC (be 8 ep)) (Rds.own (m:=8) (Hs.there Hs.here) (yl (by rw[zd,zj]))) (by rw[zd,zj];rfl) (xs:=[.int .u8 (d:Int)]) (Rds.own (m:=1) Hs.here rfl) rfl (by decide) (by decide) (by decide) (by decide) rfl) Dp.const Dp.const Dp.const ?_
  try dsimp only[List.map_cons,List.map_nil,List.cons_append,List.nil_append]
  iterate 2 (refine DQ.auto (k:=?_))
  refine DQ.callsE (fs:=fun _=>[]) (cs:=fun _=>[]) (R:=fun _=>RdF zc (.slice pV nV cV) V) (vf:=fun _ x=>.slice (lgP (x 0) nV) VB.length VB.length) (Nf:=fun _ x=>lgL (x 0) VB nV) (S:=fun _ _=>True) (fun _=>[]) (fun _=>.nil)
   (fun _=>⟨fun _=>0,trivial⟩) (fun _ _=>hLV) (fun _=>rfl) (fun _=>rfl) (fun _=>rfl) (fun _ _ w hm=>wV.mod hm.mod) Dp.const Dp.const Dp.const ?_
  try dsimp only[List.map_nil,List.nil_append]
  iterate 2 (refine DQ.auto (k:=?_))
  refine DQ.callsE (fs:=fun _=>[]) (cs:=fun _=>[]) (R:=fun _=>RdF zc (.slice pY nY cY) Y) (vf:=fun _ x=>.slice (lgP (x 0) nY) YB.length YB.length) (Nf:=fun _ x=>lgL (x 0) YB nY) (S:=fun _ _=>True) (fun _=>[]) (fun _=>.nil)
   (fun _=>⟨fun _=>0,trivial⟩) (fun _ _=>hLY) (fun _=>rfl) (fun _=>rfl) (fun _=>rfl) (fun _ _ w hm=>wY.mod hm.mod) Dp.const Dp.const Dp.const ?_
  try dsimp only[List.map_nil,List.nil_append]
  refine DQ.auto (k:=?_);refine DQ.makes (vf:=fun _ g=>.slice (some ⟨g,0,none⟩) 4 4) (t:=75) (cs:=fun s=>[.slice (some ⟨s 6 0,0,none⟩) 9 (s 6 1),.slice (lgP (s 9 0) nV) VB.length VB.length,.slice (lgP (s 12 0) nY) YB.length YB.length,.slice (lgP gA nP) PB.length cB]) (fun s _=>ze rfl (by decide) rfl) Dp.const (by intro s s' h;dsimp only;rw[h,h,h]<;>decide +kernel) ?_
  refine DQ.callE (v:=fun _=>.agg (byC H).toArray) (fun s=>[⟨s 14 0,75,[.slice (some ⟨s 6 0,0,none⟩) 9 (s 6 1),.slice (lgP (s 9 0) nV) VB.length VB.length,.slice (lgP (s 12 0) nY) YB.length YB.length,.slice (lgP gA nP) PB.length cB]⟩]++(lgL (s 12 0) YB nY++(lgL (s 9 0) VB nV++[⟨s 6 0,5,byC (be 8 ep)++[.int .u8 (d:Int)]++mkz (s 6 1 - 9) [.int .u8 0]⟩])))
   (fun s=>.cons 14 (by simp) (by decide +kernel) (Vs.lg 12 (fun k hk=>by simp[hk,lgL]) (by decide +kernel) (Vs.lg 9 (fun k hk=>by simp[hk,lgL]) (by decide +kernel) (.cons 6 (by simp) (by decide +kernel) .nil)))) (fun s _=>hO (s 6 0) (s 6 1) (s 9 0) (s 12 0) gA cB (s 14 0)) (fun s=>rfl)
   (fun s hC w hm=>⟨Hs.seg Hs.here hm,zQ.cons (by
     have hab:=RdP.own (g:=s 6 0) (c:=s 6 1) (X:=be 8 ep++be 1 d) (r:=mkz (s 6 1 - 9) [Value.int .u8 0]) (t:=5) hm (by rw[← h9];exact Hs.there (Hs.left (Hs.right (M:=lgL (s 12 0) YB nY) (Hs.right (M:=lgL (s 9 0) VB nV) Hs.here)))) (by rw[List.length_append,zj,zj];exact hC.1.1.2.1) hC.1.1.2.2;rw[List.length_append,zj,zj] at hab;exact hab) (zQ.cons (RdP.lg hm hVm (fun k hk=>by rw[hk];exact Hs.there (Hs.left (Hs.right (M:=lgL (s 12 0) YB nY) (Hs.left (M:=lgL (s 9 0) VB (k+1)) Hs.here)))) hVc) (zQ.cons (RdP.lg hm hYm (fun k hk=>by rw[hk];exact Hs.there (Hs.left (Hs.left (M:=lgL (s 12 0) YB (k+1)) Hs.here))) hYc) (zQ.cons (RdP.ag (r:=r) hm hBl (fun k hk=>by rw[hk];exact Hs.there (Hs.right (Hs.there (Hs.there Hs.here)))) hcA hcB) zQ.nil)))⟩) Dp.const ?_
  refine DQ.anil (k:=?_);intro sx _;refine WO.permA (List.Perm.cons _ List.perm_append_comm) ?_
  try dsimp only[List.cons_append]
  refine WO.stores (zB (vs:=byC H) (cs':=byC H) (hl:=hHlen) (h1:=yF _) (hc:=ve (by rw[hHlen];rfl)) (hle:=by rw[hHlen];rfl)) ?_
  repeat (first|refine Tw ?_|(refine Tm ?_;intro _)|exact Tz)
  exact WX.aret1 (hr:=uh (vs:=byC H) (hc:=yl hHlen) (hl:=hHlen)) (hp:=rfl)
end Sx
end
section
open Go Go.RowKit Go.BigFrame
namespace Sx
attribute [local irreducible] DQ DQS WC WO WX wd
section
open Kp
variable {P:Program} {w0:World} {gs:List Nat} {n:Nat} {fl:List Nat} {Q:Exit→Act→World→Prop} {ops:List Oper} {L0:List Ent}
variable {tail rest:List Oper} {i:Nat} {C:zF→Prop} {K:zF→List (Nat × Value)} {N:zF→List (Nat × Ent)}
variable {d:Nat} {op:Op} {ty:TypeId} {pos:String} {after:Array Edge} {gd:Option (Nat × Bool)}
theorem DQ.acallZE {f:FuncId} [Cal P f] {xs:Array Operand} {ats:Array TypeId} {vs:zF→List Value} {Rq:zF→World→Prop} {t:Nat} {X:List Nat} (E:zF→List Ent) (hE:∀ s,Vs ops i (N s) (E s)) (hc:∀ s,C s→Fn P f (vs s) (Rq s) (aax t X)) (hR:∀ s,C s→∀ w,Mr w0 gs (E s++L0) w→Rq s w) (hX:X.length<9223372036854775808) (ha:∀ s,evs (K s) xs.toList=some (vs s))
  (k:DQ P w0 gs n fl Q ops L0 tail (i+1) rest (fun s=>C s∧((X++rz (s i)).length=s i 1∧s i 1<9223372036854775808)) (fun s=>(d,.slice (some ⟨s i 0,0,none⟩) X.length (s i 1))::K s) (fun s=>(i,⟨s i 0,t,byC (X++rz (s i))⟩)::N s))
  (hfl:fl.contains i=false:=by rfl) (hw:∀ s,wk ops (K s) gd=some true:=by intro _;rfl) (hd:Nat.blt d n=true:=by rfl) :
  DQ P w0 gs n fl Q ops L0 tail i (⟨some d,.call { callee:=.value (.func f),args:=xs,argTypes:=ats },ty,pos,after,gd⟩::rest) C K N :=
 DQ.callsE (fs:=fun _=>[]) (cs:=fun _=>[]) (R:=Rq) (vf:=fun _ x=>.slice (some ⟨x 0,0,none⟩) X.length (x 1)) (Nf:=fun _ x=>[⟨x 0,t,byC (X++rz x)⟩]) (S:=fun _ x=>(X++rz x).length=x 1∧x 1<9223372036854775808) E hE
  (fun _=>⟨zr 0 X.length [],by show (X++rz (zr 0 X.length [])).length=X.length∧X.length<9223372036854775808;rw[aS];exact⟨by simp,hX⟩⟩) (fun s hC=>(hc s hC).exZ) (fun _=>rfl) ha (fun _=>by simp) hR Dp.const Dp.const Dp.const k hfl hw hd
end
theorem jC {w0 w:World} {gs:List Nat} {L:List Ent} {g t c m:Nat} {X R:List Nat} (hm:Mr w0 gs L w) (h:Hs L g t (byC (X++R))) (h1:(X++R).length=c) (h2:c<9223372036854775808) (h3:X.length=m):RdP (.slice (some ⟨g,0,none⟩) m c) X w:=by
 have:=RdP.own (g:=g) (c:=c) (X:=X) (r:=byC R) (t:=t) hm (by rw[← zp];exact h) (by rw[List.length_append] at h1;omega) h2;rw[h3] at this;exact this
def zL (g:Nat) (X R:List Nat):Nat→List Ent
 | 0=>[]
 | _+1=>[⟨g,5,byC (X++R)⟩]
theorem eU {g c m n N:Nat} (h0:n=0→m=0) (hr:0<n→N=c∧c<9223372036854775808):∃ q,agV g c m n=.slice (lgP g n) m q∧q<9223372036854775808∧(0<n→N=q):=by
 cases n with
 | zero=>exact⟨0,by rw[h0 rfl];rfl,by decide,fun h=>absurd h (by decide)⟩
 | succ k=>exact⟨c,rfl,(hr (by omega)).2,fun h=>(hr h).1⟩
theorem RdP.zg {w0 w:World} {gs:List Nat} {L:List Ent} (hm:Mr w0 gs L w) {g n c m:Nat} {X R:List Nat} (hX:X.length=m) (h0:n=0→m=0*0) (hc:c<9223372036854775808) (h1:0<n→(X++R).length=c) (h:∀ k,n=k+1→Hs L g 5 (byC (X++R))):RdP (.slice (lgP g n) m c) X w:=by
 cases n with
 | zero =>
  have:m=0:=by simpa using h0 rfl
  subst this;obtain rfl:X=[]:=List.length_eq_zero_iff.1 hX;exact⟨none,c,rfl,Nat.zero_le _,hc,.inl ⟨rfl,rfl⟩⟩
 | succ k=>exact jC hm (h k rfl) (h1 (by omega)) hc hX
theorem mL (ep d:Nat) (sC sS:Nat) (pV pY pP:Option Addr) (cV cY cP:Nat) (V Y:List Nat) (Pr:List (Nat × Nat)) (hep:ep<18446744073709551616) (hd:d<256) (hVl:V.length≤1000) (hYl:Y.length≤1000) (hPl:Pr.length≤1000) :
  Fn Tryz.prog 11 [dlV ep d (.slice pV V.length cV) (.slice pY Y.length cY) (.slice pP Pr.length cP) sC sS]
   (fun w=>RdF zc (.slice pV V.length cV) V w∧RdF zc (.slice pY Y.length cY) Y w∧RdF pfC (.slice pP Pr.length cP) Pr w) (Is (.agg (byC (v7 ep d V Y Pr)).toArray)):=by
 have hP0:=dk [] ep 8 0 none (by decide) (by decide) hep (by decide);rw[List.nil_append] at hP0;have hP1:=fun g c=>dk (be 8 ep) d 1 c (some ⟨g,0,none⟩) (by decide) (by decide) (by omega) (by rw[zj];decide);have hcd:IntKind.u64.wrap (d:Int)=(d:Int):=u64_in (by omega) (by omega);have h8:(be 8 ep).length=8:=zj _ _;have h9:(be 8 ep++be 1 d).length=9:=by rw[List.length_append,zj,zj]
 have hHl:(zS (zN vO) [be 8 ep++be 1 d,V.flatMap (be 32),Y.flatMap (be 32),Pr.flatMap be2]).length≤274877906944:=by
  simp only[zS,vn,yb,List.flatMap_cons,List.flatMap_nil,List.length_append,zj,yG,List.length_nil,vp,uF];have:vO.size=7:=by decide
  omega
 have hO:=fun g1 c1 g2 c2 g3 c3 gA cA gR=>ac7 vO [.slice (some ⟨g1,0,none⟩) 9 c1,.slice (lgP g2 V.length) (V.length*32) c2,.slice (lgP g3 Y.length) (Y.length*32) c3,.slice (lgP gA Pr.length) (Pr.length*64) cA]
  [be 8 ep++be 1 d,V.flatMap (be 32),Y.flatMap (be 32),Pr.flatMap be2] gR 0 4 qm hHl
 rw[show hOf (zN vO) [be 8 ep++be 1 d,V.flatMap (be 32),Y.flatMap (be 32),Pr.flatMap be2]=v7 ep d V Y Pr from rfl] at hO;have hHlen:(byC (v7 ep d V Y Pr)).length=32:=by rw[zd];exact uv _ _
 generalize v7 ep d V Y Pr=H at *;clear hHl;refine Fn.enter Tryz.func11 rfl rfl rfl ?_;intro w hw;obtain⟨wV,wY,wP⟩:=hw
 repeat (first|refine Tw ?_|(refine Tm ?_;intro _)|exact Tz)
 rename_i gD gH
 refine WC.loopI (σ:=Nat × Nat × Nat × List Nat) (fun s=>s.1≤V.length∧(0<s.1→(((V.take s.1).flatMap (be 32))++s.2.2.2).length=s.2.2.1∧s.2.2.1<9223372036854775808)) (fun s=>[(1,pt gD),(2,pt gH),(3,agV s.2.1 s.2.2.1 (s.1*32) s.1),(4,.slice none 0 0),(5,.slice none 0 0),(6,.int .i64 (s.1:Int))])
  (fun s=>⟨gH,45,byC (List.replicate 32 0)⟩::⟨gD,35,dlC ep d (.slice pV V.length cV) (.slice pY Y.length cY) (.slice pP Pr.length cP) sC sS⟩::zL s.2.1 ((V.take s.1).flatMap (be 32)) s.2.2.2 s.1) (fun s=>V.length - s.1) (0,0,0,[]) (fun s hi=>?_) ⟨Nat.zero_le _,fun h=>absurd h (by decide)⟩ (hl:=by repeat (first|exact Lle.nil|exact Lle.same|refine Lle.cons Pk.a (by rfl) ?_|refine Lle.skip ?_))
 obtain⟨i,gV,vc,vR⟩:=s
 try dsimp only at hi ⊢
 obtain⟨hi,hr⟩:=hi
 by_cases hlt:i<V.length
 ·obtain⟨x,hx⟩ : ∃ x,V[i]?=some x:=⟨_,List.getElem?_eq_getElem hlt⟩;obtain⟨b,o,rfl,_,hs⟩:=wV.get hx;have hadd2:IntKind.i64.wrap ((i:Int)+1)=((i+1:Nat):Int):=zl (by omega) (by omega) (by omega);have hcx:cut (V.flatMap zc) (o+i*4 - o) 4=zc x:=by rw[Nat.add_sub_cancel_left];exact zx zy hx
  have hst:(V.take i).flatMap (be 32)++be 32 x=(V.take (i+1)).flatMap (be 32):=by rw[List.take_add_one,hx];simp
  have hBl:((V.take i).flatMap (be 32)).length=i*32:=by rw[vp,List.length_take];omega
  have hBl2:((V.take (i+1)).flatMap (be 32)).length=(i+1)*32:=by rw[vp,List.length_take];omega
  generalize hB2:(V.take (i+1)).flatMap (be 32)=B2 at *
  rcases i with _|i
  ·have hQ:=yS [] x 0 none (by decide);rw[show []++be 32 x=B2 by rw[← hst];rfl] at hQ
   try dsimp only[agV,zL,List.cons_append,List.nil_append]
   repeat (first|refine Tw ?_|(refine Tm ?_;intro _)|exact Tz)
   refine WC.dT rfl (by omega) ?_
   repeat (first|refine Ta ?_|(refine Tm ?_;intro _)|refine WO.does (za (o':=o+0*4) rfl rfl hlt rfl) ?_|refine WO.does (zk (vs:=zc x) (hs:=hs) (hle:=Nat.le_add_right _ _) (hc:=hcx)) ?_|refine Tc ?_|exact Tz)
   refine WO.acallZ (hc:=hQ) (hR:=fun _ _=>Rd.nil) (hm:=hBl2) (k:=fun g1 c1 r1 h1 h1'=>?_)
   repeat (first|refine Ta ?_|(refine Tm ?_;intro _)|refine WO.does (zh rfl rfl hadd2) ?_|refine Tc ?_|exact Tz)
   subst hB2;exact WX.metI (1,g1,c1,r1) (hl:=by repeat (first|exact Lle.nil|exact Lle.same|refine Lle.cons Pk.a (by rfl) ?_|refine Lle.skip ?_)) (hs:=⟨⟨by show 0+1≤V.length;omega,fun _=>⟨h1,h1'⟩⟩,by show V.length - (0+1)<V.length - 0;omega⟩)
  ·obtain⟨h1,h1'⟩:=hr (by omega);have hQ:=yS ((V.take (i+1)).flatMap (be 32)) x vc (some ⟨gV,0,none⟩) (by omega);rw[hst] at hQ;generalize (V.take (i+1)).flatMap (be 32)=B1 at *;rw[hBl] at hQ
   try dsimp only[agV,zL,List.cons_append,List.nil_append]
   repeat (first|refine Tw ?_|(refine Tm ?_;intro _)|exact Tz)
   refine WC.dT rfl (by omega) ?_
   repeat (first|refine Ta ?_|(refine Tm ?_;intro _)|refine WO.does (za (o':=o+(i+1)*4) rfl rfl hlt rfl) ?_|refine WO.does (zk (vs:=zc x) (hs:=hs) (hle:=Nat.le_add_right _ _) (hc:=hcx)) ?_|refine Tc ?_|exact Tz)
   refine WO.acallZ (hc:=hQ) (hR:=fun w1 hm=>by have:=uU hm Hs.a h1 h1';rw[hBl] at this;exact this) (hm:=hBl2) (k:=fun g1 c1 r1 h1 h1'=>?_)
   repeat (first|refine Ta ?_|(refine Tm ?_;intro _)|refine WO.does (zh rfl rfl hadd2) ?_|refine Tc ?_|exact Tz)
   subst hB2;exact WX.metI (i+1+1,g1,c1,r1) (hl:=by repeat (first|exact Lle.nil|exact Lle.same|refine Lle.cons Pk.a (by rfl) ?_|refine Lle.skip ?_)) (hs:=⟨⟨by show i+1+1≤V.length;omega,fun _=>⟨h1,h1'⟩⟩,by show V.length - (i+1+1)<V.length - (i+1);omega⟩)
 have hi2:i=V.length:=by omega
 subst hi2;clear hlt hi;rw[List.take_length] at *;obtain⟨vq,hvq,v2,v1⟩:=eU (c:=vc) (m:=V.length*32) (g:=gV) (n:=V.length) (N:=(V.flatMap (be 32)++vR).length) (fun h=>by simp[h]) hr;rw[hvq];have hVB:(V.flatMap (be 32)).length=V.length*32:=vp _;generalize V.flatMap (be 32)=VB at *;have hZV:∀ k,V.length=k+1→Hs (zL gV VB vR V.length) gV 5 (byC (VB++vR)):=fun k hk=>by rw[hk];exact .here
 generalize zL gV VB vR V.length=ZV at *
 try dsimp only[List.cons_append,List.nil_append]
 repeat (first|refine Tw ?_|(refine Tm ?_;intro _)|exact Tz)
 refine WC.dF rfl (by omega) ?_
 repeat (first|refine Tw ?_|(refine Tm ?_;intro _)|exact Tz)
 refine WC.loopI (σ:=Nat × Nat × Nat × List Nat) (fun s=>s.1≤Y.length∧(0<s.1→(((Y.take s.1).flatMap (be 32))++s.2.2.2).length=s.2.2.1∧s.2.2.1<9223372036854775808)) (fun s=>[(1,pt gD),(2,pt gH),(3,.slice (lgP gV V.length) (V.length*32) vq),(4,agV s.2.1 s.2.2.1 (s.1*32) s.1),(5,.slice none 0 0),(7,.int .i64 (s.1:Int))])
  (fun s=>⟨gH,45,byC (List.replicate 32 0)⟩::⟨gD,35,dlC ep d (.slice pV V.length cV) (.slice pY Y.length cY) (.slice pP Pr.length cP) sC sS⟩::(zL s.2.1 ((Y.take s.1).flatMap (be 32)) s.2.2.2 s.1++ZV)) (fun s=>Y.length - s.1) (0,0,0,[]) (fun s hi=>?_) ⟨Nat.zero_le _,fun h=>absurd h (by decide)⟩ (hl:=by repeat (first|exact Lle.nil|exact Lle.same|refine Lle.cons Pk.a (by rfl) ?_|refine Lle.skip ?_))
 obtain⟨i,gY,yc,yR⟩:=s
 try dsimp only at hi ⊢
 obtain⟨hi,hr⟩:=hi
 by_cases hlt:i<Y.length
 ·obtain⟨x,hx⟩ : ∃ x,Y[i]?=some x:=⟨_,List.getElem?_eq_getElem hlt⟩;obtain⟨b,o,rfl,_,hs⟩:=wY.get hx;have hadd2:IntKind.i64.wrap ((i:Int)+1)=((i+1:Nat):Int):=zl (by omega) (by omega) (by omega);have hcx:cut (Y.flatMap zc) (o+i*4 - o) 4=zc x:=by rw[Nat.add_sub_cancel_left];exact zx zy hx
  have hst:(Y.take i).flatMap (be 32)++be 32 x=(Y.take (i+1)).flatMap (be 32):=by rw[List.take_add_one,hx];simp
  have hBl:((Y.take i).flatMap (be 32)).length=i*32:=by rw[vp,List.length_take];omega
  have hBl2:((Y.take (i+1)).flatMap (be 32)).length=(i+1)*32:=by rw[vp,List.length_take];omega
  generalize hB2:(Y.take (i+1)).flatMap (be 32)=B2 at *
  rcases i with _|i
  ·have hQ:=yS [] x 0 none (by decide);rw[show []++be 32 x=B2 by rw[← hst];rfl] at hQ
   try dsimp only[agV,zL,List.cons_append,List.nil_append]
   repeat (first|refine Tw ?_|(refine Tm ?_;intro _)|exact Tz)
   refine WC.dT rfl (by omega) ?_
   repeat (first|refine Ta ?_|(refine Tm ?_;intro _)|refine WO.does (za (o':=o+0*4) rfl rfl hlt rfl) ?_|refine WO.does (zk (vs:=zc x) (hs:=hs) (hle:=Nat.le_add_right _ _) (hc:=hcx)) ?_|refine Tc ?_|exact Tz)
   refine WO.acallZ (hc:=hQ) (hR:=fun _ _=>Rd.nil) (hm:=hBl2) (k:=fun g1 c1 r1 h1 h1'=>?_)
   repeat (first|refine Ta ?_|(refine Tm ?_;intro _)|refine WO.does (zh rfl rfl hadd2) ?_|refine Tc ?_|exact Tz)
   subst hB2;exact WX.metI (1,g1,c1,r1) (hl:=by repeat (first|exact Lle.nil|exact Lle.same|refine Lle.cons Pk.a (by rfl) ?_|refine Lle.skip ?_)) (hs:=⟨⟨by show 0+1≤Y.length;omega,fun _=>⟨h1,h1'⟩⟩,by show Y.length - (0+1)<Y.length - 0;omega⟩)
  ·obtain⟨h1,h1'⟩:=hr (by omega);have hQ:=yS ((Y.take (i+1)).flatMap (be 32)) x yc (some ⟨gY,0,none⟩) (by omega);rw[hst] at hQ;generalize (Y.take (i+1)).flatMap (be 32)=B1 at *;rw[hBl] at hQ
   try dsimp only[agV,zL,List.cons_append,List.nil_append]
   repeat (first|refine Tw ?_|(refine Tm ?_;intro _)|exact Tz)
   refine WC.dT rfl (by omega) ?_
   repeat (first|refine Ta ?_|(refine Tm ?_;intro _)|refine WO.does (za (o':=o+(i+1)*4) rfl rfl hlt rfl) ?_|refine WO.does (zk (vs:=zc x) (hs:=hs) (hle:=Nat.le_add_right _ _) (hc:=hcx)) ?_|refine Tc ?_|exact Tz)
   refine WO.acallZ (hc:=hQ) (hR:=fun w1 hm=>by have:=uU hm Hs.a h1 h1';rw[hBl] at this;exact this) (hm:=hBl2) (k:=fun g1 c1 r1 h1 h1'=>?_)
   repeat (first|refine Ta ?_|(refine Tm ?_;intro _)|refine WO.does (zh rfl rfl hadd2) ?_|refine Tc ?_|exact Tz)
   subst hB2;exact WX.metI (i+1+1,g1,c1,r1) (hl:=by repeat (first|exact Lle.nil|exact Lle.same|refine Lle.cons Pk.a (by rfl) ?_|refine Lle.skip ?_)) (hs:=⟨⟨by show i+1+1≤Y.length;omega,fun _=>⟨h1,h1'⟩⟩,by show Y.length - (i+1+1)<Y.length - (i+1);omega⟩)
 have hi2:i=Y.length:=by omega
 subst hi2;clear hlt hi;rw[List.take_length] at *;obtain⟨yq,hyq,y2,y1⟩:=eU (c:=yc) (m:=Y.length*32) (g:=gY) (n:=Y.length) (N:=(Y.flatMap (be 32)++yR).length) (fun h=>by simp[h]) hr;rw[hyq];have hYB:(Y.flatMap (be 32)).length=Y.length*32:=vp _;generalize Y.flatMap (be 32)=YB at *;have hZY:∀ k,Y.length=k+1→Hs (zL gY YB yR Y.length) gY 5 (byC (YB++yR)):=fun k hk=>by rw[hk];exact .here
 generalize zL gY YB yR Y.length=ZY at *
 try dsimp only[List.cons_append,List.nil_append]
 repeat (first|refine Tw ?_|(refine Tm ?_;intro _)|exact Tz)
 refine WC.dF rfl (by omega) ?_
 repeat (first|refine Tw ?_|(refine Tm ?_;intro _)|exact Tz)
 refine WC.loopI (σ:=Nat × Nat × Nat × List Nat) (fun s=>s.1≤Pr.length∧(0<s.1→(((Pr.take s.1).flatMap be2)++s.2.2.2).length=s.2.2.1∧s.2.2.1<9223372036854775808)) (fun s=>[(1,pt gD),(2,pt gH),(3,.slice (lgP gV V.length) (V.length*32) vq),(4,.slice (lgP gY Y.length) (Y.length*32) yq),(5,agV s.2.1 s.2.2.1 (s.1*64) s.1),(8,.int .i64 (s.1:Int))])
  (fun s=>⟨gH,45,byC (List.replicate 32 0)⟩::⟨gD,35,dlC ep d (.slice pV V.length cV) (.slice pY Y.length cY) (.slice pP Pr.length cP) sC sS⟩::(zL s.2.1 ((Pr.take s.1).flatMap be2) s.2.2.2 s.1++(ZY++ZV))) (fun s=>Pr.length - s.1) (0,0,0,[]) (fun s hi=>?_) ⟨Nat.zero_le _,fun h=>absurd h (by decide)⟩ (hl:=by repeat (first|exact Lle.nil|exact Lle.same|refine Lle.cons Pk.a (by rfl) ?_|refine Lle.skip ?_))
 obtain⟨i,gP,pc,pR⟩:=s
 try dsimp only at hi ⊢
 obtain⟨hi,hr⟩:=hi
 by_cases hlt:i<Pr.length
 ·obtain⟨x,hx⟩ : ∃ x,Pr[i]?=some x:=⟨_,List.getElem?_eq_getElem hlt⟩;obtain⟨b,o,rfl,_,hs⟩:=wP.get hx;have hadd2:IntKind.i64.wrap ((i:Int)+1)=((i+1:Nat):Int):=zl (by omega) (by omega) (by omega);have hcp:cut (Pr.flatMap pfC) (o+i*8 - o) 8=pfC x:=by rw[Nat.add_sub_cancel_left];exact zx vu hx
  have hc1:cut (Pr.flatMap pfC) (o+i*8 - o) 4=zc x.1:=by
   have:=congrArg (List.take 4) hcp;unfold cut at this ⊢;rw[List.take_take] at this;exact this
  have hc2:cut (Pr.flatMap pfC) (o+i*8+4 - o) 4=zc x.2:=by
   have:=congrArg (List.drop 4) hcp;unfold cut at this ⊢;rw[List.drop_take,List.drop_drop] at this;rw[show o+i*8+4 - o=o+i*8 - o+4 by omega];exact this
  have hst:(Pr.take i).flatMap be2++(be 32 x.1++be 32 x.2)=(Pr.take (i+1)).flatMap be2:=by rw[List.take_add_one,hx];simp
  have hBl:((Pr.take i).flatMap be2).length=i*64:=by rw[uF,List.length_take];omega
  have hBl2:((Pr.take (i+1)).flatMap be2).length=(i+1)*64:=by rw[uF,List.length_take];omega
  generalize hB2:(Pr.take (i+1)).flatMap be2=B2 at *
  rcases i with _|i
  ·have hQ1:=yS [] x.1 0 none (by decide);rw[List.nil_append] at hQ1;have hQ2:=fun g c=>yS (be 32 x.1) x.2 c (some ⟨g,0,none⟩) (by rw[zj];decide);rw[show be 32 x.1++be 32 x.2=B2 by rw[← hst];rfl] at hQ2
   try dsimp only[agV,zL,List.cons_append,List.nil_append]
   repeat (first|refine Tw ?_|(refine Tm ?_;intro _)|exact Tz)
   refine WC.dT rfl (by omega) ?_
   repeat (first|refine Tw ?_|(refine Tm ?_;intro _)|exact Tz)
   refine WC.adraw 15 (k:=?_)
   iterate 4 (refine DQ.auto (k:=?_))
   refine DQ.does (fun s _=>za (o':=o+0*8) rfl rfl hlt rfl) Dp.const ?_;refine DQ.auto (k:=?_);refine DQ.does (fun s _=>zk (vs:=zc x.1) (hs:=hs) (hle:=Nat.le_add_right _ _) (hc:=hc1)) Dp.const ?_;refine DQ.acallZ (hc:=hQ1) (hR:=fun _=>Rd.nil) (hX:=by rw[zj];decide) (k:=?_)
   iterate 3 (refine DQ.auto (k:=?_))
   refine DQ.does (fun s _=>za (o':=o+0*8) rfl rfl hlt rfl) Dp.const ?_;refine DQ.auto (k:=?_);refine DQ.does (fun s _=>zk (vs:=zc x.2) (hs:=hs) (hle:=Nat.le_trans (Nat.le_add_right _ _) (Nat.le_add_right _ _)) (hc:=hc2)) Dp.const ?_;refine DQ.acallZE (fun s=>[⟨s 7 0,5,byC (be 32 x.1++rz (s 7))⟩]) (fun s=>.cons 7 (by repeat (first|exact .head _|apply List.Mem.tail)) (by decide +kernel) .nil) (fun s _=>hQ2 (s 7 0) (s 7 1)) (fun s hC w hm=>uU hm Hs.here hC.2.1 hC.2.2) (by rw[hBl2];decide) (fun s=>rfl) ?_;refine DQ.anil (k:=?_);intro sx hC;obtain⟨_,h1,h2⟩:=hC;rw[hBl2];generalize rz (sx 14)=r1 at *;generalize sx 14 0=g1 at *;generalize sx 14 1=c1 at *
   repeat (first|refine Ta ?_|(refine Tm ?_;intro _)|refine WO.does (zh rfl rfl hadd2) ?_|refine Tc ?_|exact Tz)
   subst hB2;exact WX.metI (1,g1,c1,r1) (hl:=by repeat (first|exact Lle.nil|exact Lle.same|refine Lle.cons Pk.a (by rfl) ?_|refine Lle.skip ?_)) (hs:=⟨⟨by show 0+1≤Pr.length;omega,fun _=>⟨h1,h2⟩⟩,by show Pr.length - (0+1)<Pr.length - 0;omega⟩)
  ·obtain⟨u1,u2⟩:=hr (by omega);have hQ1:=yS ((Pr.take (i+1)).flatMap be2) x.1 pc (some ⟨gP,0,none⟩) (by omega);have hQ2:=fun g c=>yS ((Pr.take (i+1)).flatMap be2++be 32 x.1) x.2 c (some ⟨g,0,none⟩) (by rw[List.length_append,zj];omega);rw[List.append_assoc,hst] at hQ2;generalize (Pr.take (i+1)).flatMap be2=B1 at *;rw[hBl] at hQ1
   try dsimp only[agV,zL,List.cons_append,List.nil_append]
   repeat (first|refine Tw ?_|(refine Tm ?_;intro _)|exact Tz)
   refine WC.dT rfl (by omega) ?_
   repeat (first|refine Tw ?_|(refine Tm ?_;intro _)|exact Tz)
   refine WC.adraw 15 (k:=?_)
   iterate 4 (refine DQ.auto (k:=?_))
   refine DQ.does (fun s _=>za (o':=o+(i+1)*8) rfl rfl hlt rfl) Dp.const ?_;refine DQ.auto (k:=?_);refine DQ.does (fun s _=>zk (vs:=zc x.1) (hs:=hs) (hle:=Nat.le_add_right _ _) (hc:=hc1)) Dp.const ?_;refine DQ.acallZE (fun _=>[]) (fun _=>.nil) (fun s _=>hQ1) (fun s hC w hm=>by have:=uU hm Hs.a u1 u2;rw[hBl] at this;exact this) (by rw[List.length_append,hBl,zj];omega) (fun s=>rfl) ?_
   iterate 3 (refine DQ.auto (k:=?_))
   refine DQ.does (fun s _=>za (o':=o+(i+1)*8) rfl rfl hlt rfl) Dp.const ?_;refine DQ.auto (k:=?_);refine DQ.does (fun s _=>zk (vs:=zc x.2) (hs:=hs) (hle:=Nat.le_trans (Nat.le_add_right _ _) (Nat.le_add_right _ _)) (hc:=hc2)) Dp.const ?_;refine DQ.acallZE (fun s=>[⟨s 7 0,5,byC (B1++be 32 x.1++rz (s 7))⟩]) (fun s=>.cons 7 (by repeat (first|exact .head _|apply List.Mem.tail)) (by decide +kernel) .nil) (fun s _=>hQ2 (s 7 0) (s 7 1)) (fun s hC w hm=>uU hm Hs.here hC.2.1 hC.2.2) (by omega) (fun s=>rfl) ?_;refine DQ.anil (k:=?_);intro sx hC;obtain⟨_,h1,h2⟩:=hC;rw[hBl2];generalize rz (sx 14)=r1 at *;generalize sx 14 0=g1 at *;generalize sx 14 1=c1 at *
   repeat (first|refine Ta ?_|(refine Tm ?_;intro _)|refine WO.does (zh rfl rfl hadd2) ?_|refine Tc ?_|exact Tz)
   subst hB2;exact WX.metI (i+1+1,g1,c1,r1) (hl:=by repeat (first|exact Lle.nil|exact Lle.same|refine Lle.cons Pk.a (by rfl) ?_|refine Lle.skip ?_)) (hs:=⟨⟨by show i+1+1≤Pr.length;omega,fun _=>⟨h1,h2⟩⟩,by show Pr.length - (i+1+1)<Pr.length - (i+1);omega⟩)
 have hi2:i=Pr.length:=by omega
 subst hi2;clear hlt hi;rw[List.take_length] at *;obtain⟨pq,hpq,p2,p1⟩:=eU (c:=pc) (m:=Pr.length*64) (g:=gP) (n:=Pr.length) (N:=(Pr.flatMap be2++pR).length) (fun h=>by simp[h]) hr;rw[hpq];have hPB:(Pr.flatMap be2).length=Pr.length*64:=uF _;generalize Pr.flatMap be2=PB at *;have hZP:∀ k,Pr.length=k+1→Hs (zL gP PB pR Pr.length) gP 5 (byC (PB++pR)):=fun k hk=>by rw[hk];exact .here
 generalize zL gP PB pR Pr.length=ZP at *
 try dsimp only[List.cons_append,List.nil_append]
 repeat (first|refine Tw ?_|(refine Tm ?_;intro _)|exact Tz)
 refine WC.dF rfl (by omega) ?_
 repeat (first|refine Tw ?_|(refine Tm ?_;intro _)|exact Tz)
 refine WC.adraw 12 (k:=?_)
 iterate 2 (refine DQ.auto (k:=?_))
 refine DQ.acallZ (hc:=hP0) (hR:=fun _=>Rd.nil) (hX:=by rw[h8];decide) (k:=?_)
 iterate 2 (refine DQ.auto (k:=?_))
 refine DQ.does (fun s _=>zu rfl hcd) Dp.const ?_;refine DQ.acallZE (fun s=>[⟨s 2 0,5,byC (be 8 ep++rz (s 2))⟩]) (fun s=>.cons 2 (by repeat (first|exact .head _|apply List.Mem.tail)) (by decide +kernel) .nil) (fun s _=>hP1 (s 2 0) (s 2 1)) (fun s hC w hm=>uU hm Hs.here hC.2.1 hC.2.2) (by rw[h9];decide) (fun s=>rfl) ?_;rw[h9]
 iterate 3 (refine DQ.auto (k:=?_))
 refine DQ.makes (vf:=fun _ g=>.slice (some ⟨g,0,none⟩) 4 4) (t:=75) (cs:=fun s=>[.slice (some ⟨s 6 0,0,none⟩) 9 (s 6 1),.slice (lgP gV V.length) (V.length*32) vq,.slice (lgP gY Y.length) (Y.length*32) yq,.slice (lgP gP Pr.length) (Pr.length*64) pq]) (fun s _=>ze rfl (by decide) rfl) Dp.const (by intro s s' h;dsimp only;rw[h]<;>decide +kernel) ?_
 refine DQ.callE (v:=fun _=>.agg (byC H).toArray) (fun s=>[⟨s 10 0,75,[.slice (some ⟨s 6 0,0,none⟩) 9 (s 6 1),.slice (lgP gV V.length) (V.length*32) vq,.slice (lgP gY Y.length) (Y.length*32) yq,.slice (lgP gP Pr.length) (Pr.length*64) pq]⟩,⟨s 6 0,5,byC (be 8 ep++be 1 d++rz (s 6))⟩])
  (fun s=>.cons 10 (.head _) (by decide +kernel) (.cons 6 (by repeat (first|exact .head _|apply List.Mem.tail)) (by decide +kernel) .nil)) (fun s _=>hO (s 6 0) (s 6 1) gV vq gY yq gP pq (s 10 0)) (fun s=>rfl)
  (fun s hC w hm=>⟨Hs.seg Hs.here hm,zQ.cons (jC hm (Hs.there Hs.here) hC.2.1 hC.2.2 h9) (zQ.cons (RdP.zg hm hVB (fun h=>by simp[h]) v2 v1 (fun k hk=>.there (.there (.there (.there (Hs.right (Hs.right (hZV k hk)))))))) (zQ.cons (RdP.zg hm hYB (fun h=>by simp[h]) y2 y1 (fun k hk=>.there (.there (.there (.there (Hs.right (Hs.left (hZY k hk)))))))) (zQ.cons (RdP.zg hm hPB (fun h=>by simp[h]) p2 p1 (fun k hk=>.there (.there (.there (.there (Hs.left (hZP k hk))))))) zQ.nil)))⟩) Dp.const ?_
 refine DQ.anil (k:=?_);intro sx _;refine WO.stores (zB (vs:=byC H) (cs':=byC H) (hl:=hHlen) (h1:=yF _) (hc:=ve (by rw[hHlen];rfl)) (hle:=by rw[hHlen];rfl)) ?_
 repeat (first|refine Tw ?_|(refine Tm ?_;intro _)|exact Tz)
 exact WX.aret1 (hr:=uh (vs:=byC H) (hc:=yl hHlen) (hl:=hHlen)) (hp:=rfl)
end Sx
end
end Go.Proofs.YtbbppkkhidkjpaaGreatDoor
