/- Part 31 of the proof. -/
import Derived.Test.YtiaibpcaloigkaaGreatDoorF30
set_option linter.unusedSimpArgs false
set_option linter.unusedVariables false
set_option maxHeartbeats 8000000
namespace Go.Proofs.YtiaibpcaloigkaaGreatDoor
section
open Go Go.RowKit Go.BigFrame
namespace Sx
attribute [local irreducible] DQ WC WO WX wd
theorem abN {d:Nat} (hd:d<256):byC (be 1 d)=[.int .u8 (d:Int)]:=by rw[ai hd];simp[byC]
def agV (g c n:Nat):Nat→Value
 | 0=>.slice none 0 0
 | _+1=>AQ g n c
def agL (g:Nat) (B:LN) (r:LV):Nat→List Ent
 | 0=>[]
 | _+1=>[⟨g,5,byC B++r⟩]
abbrev be2 (k:Nat × Nat):List Nat:=be 32 k.1++be 32 k.2
theorem ado (l:LN) (pz:Option Addr) (c:Nat) (hn:l.length≤8589934592) :
  Fn Tryz.prog 71 [.slice pz l.length c] (RdF zc (.slice pz l.length c) l) (Ex (fun s=>lgV (s 0) (l.flatMap (be 32)).length l.length) (fun s=>lgL (s 0) (l.flatMap (be 32)) l.length) (fun _=>True)):=by
 by_cases hl:l=[]
 ·subst hl;refine Fn.enter Tryz.func71 rfl rfl rfl ?_;intro w hw
  repeat (first|refine Tk ?_|intro _|exact Tz)
  refine WC.loopI (σ:=Unit) (fun _=>True) (fun _=>[(2,.slice none 0 0),(6,.int .i64 0),(7,.int .i64 0)]) (fun _=>[]) (fun _=>0) () (fun _ _=>?_) trivial
  try dsimp only
  repeat (first|refine Tk ?_|intro _|exact Tz)
  exact WX.ret1 rfl Rv.t [] Lle.nil ⟨fun _=>0,rfl,rfl,trivial⟩
 ·have h:=eH l pz c hl hn;obtain⟨k,hk⟩ : ∃ k,l.length=k+1:=⟨l.length - 1,by have:=List.length_pos_iff.2 hl;omega⟩;exact h.weak (fun _ h=>h) (fun v N hv=>by
   obtain⟨g,h1,h2⟩:=hv;refine⟨fun _=>g,?_,?_,trivial⟩
   ·rw[hk];exact h1
   ·rw[hk];exact h2)
end Sx
end
section
open Go Go.RowKit Go.BigFrame
namespace Sx
theorem WO.permA {P:Program} {w0:World} {gs:LN} {n:Nat} {ops rest:List Oper} {Q:Exit→Act→World→Prop} {K:List (Nat × Value)} {L L' : List Ent} (hp:L.Perm L') (k:WO P w0 gs n ops Q K L' rest):WO P w0 gs n ops Q K L rest:=fun a w h1 h2 h3 h4=>k a w h1 h2 h3 (h4.perm hp)
attribute [local irreducible] wd DQ WO WC WX
def lgP (g:Nat):Nat→Option Addr
 | 0=>none
 | _+1=>some ⟨g,0,none⟩
theorem Hs.right {L:List Ent} {g t:Nat} {cs:LV}:∀ {M:List Ent},Hs L g t cs→Hs (M++L) g t cs
 | [],h=>h
 | _::_,h=>.there (Hs.right h)
theorem Hs.left {L:List Ent} {g t:Nat} {cs:LV}:∀ {M:List Ent},Hs M g t cs→Hs (M++L) g t cs:=fun h=>by
 induction h with
 | here=>exact .here
 | there _ ih=>exact .there ih
theorem Vs.lg {ops:List Oper} {i:Nat} {N:List (Nat × Ent)} {E:List Ent} {g n:Nat} {B:LN} (j:Nat) (h:∀ k,n=k+1→(j,(⟨g,5,byC B⟩ : Ent))∈N) (ha:Kp.anc ops i j=true) (hE:Vs ops i N E):Vs ops i N (lgL g B n++E):=by
 cases n with
 | zero=>exact hE
 | succ k=>exact .cons j (h k rfl) ha hE
theorem RdP.lg {w0 w:World} {gs:LN} {L:List Ent} (hm:Mr w0 gs L w) {g n:Nat} {X:LN} (hn:X.length=n*32) (h:∀ k,n=k+1→Hs L g 5 (byC X)) (hc:X.length<9223372036854775808):RdP (.slice (lgP g n) X.length X.length) X w:=by
 cases n with
 | zero =>
  obtain rfl:X=[]:=List.length_eq_zero_iff.1 Om;exact⟨none,0,rfl,Nat.le_refl _,by decide,.inl ⟨rfl,rfl⟩⟩
 | succ k=>exact RdP.own0 (g:=g) (X:=X) (t:=5) hm (h k rfl) (Nat.le_refl _) hc
theorem RdP.ag {w0 w:World} {gs:LN} {L:List Ent} (hm:Mr w0 gs L w) {g n c:Nat} {X:LN} {r:LV} (hn:X.length=n*64) (h:∀ k,n=k+1→Hs L g 5 (byC X++r)) (hle:X.length≤c) (hc:c<9223372036854775808):RdP (.slice (lgP g n) X.length c) X w:=by
 cases n with
 | zero =>
  obtain rfl:X=[]:=List.length_eq_zero_iff.1 Om;exact⟨none,c,rfl,hle,hc,.inl ⟨rfl,rfl⟩⟩
 | succ k=>exact RdP.own (g:=g) (X:=X) (r:=r) (t:=5) hm (h k rfl) hle hc
theorem eD (l:LN) (pz:Option Addr) (c:Nat) (hn:l.length≤8589934592) :
  Fn Tryz.prog 71 [.slice pz l.length c] (RdF zc (.slice pz l.length c) l) (Ex (fun s=>.slice (lgP (s 0) l.length) (l.flatMap (be 32)).length (l.flatMap (be 32)).length) (fun s=>lgL (s 0) (l.flatMap (be 32)) l.length) (fun _=>True)) :=
 (ado l pz c hn).weak (fun _ h=>h) (fun v N ⟨s,h1,h2,_⟩=>⟨s,by
  rw[h1];cases l with
  | nil=>rfl
  | cons a r=>rfl,h2,trivial⟩)
theorem jg (ep d:Nat) (sC sS:Nat) (pV pY pP:Option Addr) (cV cY cP:Nat) (V Y:LN) (Pr:LP) (hd:d<256) (hVl:V.length≤1000) (hYl:Y.length≤1000) (hPl:Pr.length≤1000) :
  Fn Tryz.prog 31 [dlV ep d (.slice pV V.length cV) (.slice pY Y.length cY) (.slice pP Pr.length cP) sC sS]
   (fun w=>RdF zc (.slice pV V.length cV) V w∧RdF zc (.slice pY Y.length cY) Y w∧RdF pfC (.slice pP Pr.length cP) Pr w) (Is (.agg (byC (yX ep d V Y Pr)).toArray)):=by
 have hLV:=eD V pV cV Om;have hLY:=eD Y pY cY Om;have hP0:=nM [] ep 8 0 none Dtt Dtt;rw[List.nil_append,zj] at hP0;have hHl:(yK (zO tZ) [be 8 ep++be 1 d,V.flatMap (be 32),Y.flatMap (be 32),Pr.flatMap be2]).length≤1152921504606840000:=by
  simp only[yK,uR,yQ,List.flatMap_cons,List.flatMap_nil,List.length_append,zj,yb,List.length_nil,so,pL];have:tZ.size=7:=by decide
  omega
 have hO:=fun g1 c1 g2 g3 gA cA gR=>ke tZ [AQ g1 9 c1,.slice (lgP g2 V.length) (V.flatMap (be 32)).length (V.flatMap (be 32)).length,.slice (lgP g3 Y.length) (Y.flatMap (be 32)).length (Y.flatMap (be 32)).length,.slice (lgP gA Pr.length) (Pr.flatMap be2).length cA]
  [be 8 ep++be 1 d,V.flatMap (be 32),Y.flatMap (be 32),Pr.flatMap be2] gR 0 4 kA hHl Dtt
 rw[show hOf (zO tZ) [be 8 ep++be 1 d,V.flatMap (be 32),Y.flatMap (be 32),Pr.flatMap be2]=yX ep d V Y Pr from rfl] at hO;have hHlen:(byC (yX ep d V Y Pr)).length=32:=by rw[zd];exact zJ _ _
 have hVc:(V.flatMap (be 32)).length<9223372036854775808:=by rw[so];omega
 have hYc:(Y.flatMap (be 32)).length<9223372036854775808:=by rw[so];omega
 generalize yX ep d V Y Pr=H at *;have hVm:(V.flatMap (be 32)).length=V.length*32:=so _;have hYm:(Y.flatMap (be 32)).length=Y.length*32:=so _;generalize V.flatMap (be 32)=VB at *;generalize Y.flatMap (be 32)=YB at *;have h9:byC (be 8 ep)++[Value.int .u8 (d:Int)]=byC (be 8 ep++be 1 d):=by rw[z7,abN hd]
 refine Fn.enter Tryz.func31 rfl rfl rfl ?_;intro w hw;obtain⟨wV,wY,wP⟩:=hw
 repeat (first|refine Tk ?_|intro _|exact Tz)
 rename_i gD gH
 refine WC.loopI (σ:=Nat × Nat × Nat × List Value) (fun s=>s.1≤Pr.length∧(0<s.1→(byC ((Pr.take s.1).flatMap be2)++s.2.2.2).length=s.2.2.1∧s.2.2.1<9223372036854775808)) (fun s=>[(1,pt gD),(2,pt gH),(3,agV s.2.1 s.2.2.1 (s.1*64) s.1),(7,.slice pP Pr.length cP),(8,.int .i64 (Pr.length:Int)),(9,.int .i64 (s.1:Int))])
  (fun s=>⟨gH,70,byC (List.replicate 32 0)⟩::⟨gD,51,dlC ep d (.slice pV V.length cV) (.slice pY Y.length cY) (.slice pP Pr.length cP) sC sS⟩::agL s.2.1 ((Pr.take s.1).flatMap be2) s.2.2.2 s.1) (fun s=>Pr.length - s.1) (0,0,0,[]) (fun s hi=>?_) ⟨Nat.zero_le _,fun h=>absurd h Dtt⟩
 obtain⟨i,gA,cA,r⟩:=s
 try dsimp only at hi ⊢
 obtain⟨hi,hr⟩:=hi
 by_cases hlt:i<Pr.length
 ·obtain⟨x,hx⟩ : ∃ x,Pr[i]?=some x:=⟨_,List.getElem?_eq_getElem hlt⟩;obtain⟨b,o,rfl,_,hs⟩:=wP.get hx;have hadd2:IntKind.i64.wrap ((i:Int)+1)=((i+1:Nat):Int):=zl Om Om Om;have hcx:cut (Pr.flatMap pfC) (o+i*8 - o) 8=pfC x:=by rw[Nat.add_sub_cancel_left];exact zL oQ hx
  have hst:(Pr.take i).flatMap be2++be2 x=(Pr.take (i+1)).flatMap be2:=by rw[List.take_add_one,hx];simp
  have hB1:((Pr.take i).flatMap be2).length=i*64:=by rw[pL,List.length_take];omega
  have hL:=fun g=>eH [x.1,x.2] (some ⟨g,0,none⟩) 2 Sm (by show 2≤8589934592;omega);rw[show [x.1,x.2].flatMap (be 32)=be2 x by simp] at hL;have h64:(be2 x).length=64:=by rw[List.length_append,zj,zj]
  rw[h64] at hL;have hyl:(byC (be2 x)).length=64 * [Value.int .u8 0].length:=by rw[zd,h64];rfl
  generalize hB2:(Pr.take (i+1)).flatMap be2=B2 at *
  rcases i with _|i
  ·try dsimp only[agV,agL,List.nil_append]
   have hst' : be2 x=B2:=by rw[← hst];rfl
   repeat (first|refine Tk ?_|intro _|exact Tz)
   refine WC.dT rfl Om ?_
   repeat (first|refine Tj ?_|intro _|refine WO.does (zb (o':=o+0*8) rfl rfl hlt rfl) ?_|refine WO.does (zn (vs:=pfC x) (hs:=hs) (hle:=Nat.le_add_right _ _) (hc:=hcx)) ?_|(refine WO.makes (zh (cs:=zc x.1++zc x.2) rfl Dtt rfl) ?_;intro _)|refine WO.acallN (hc:=hL _) (hR:=fun w1 hm=>RdF.seg (f:=zc) (xs:=[x.1,x.2]) (r:=[]) (Hs.sg hm)) (k:=fun g'=>?_)|refine Tc ?_|exact Tz)
   refine WO.appN (z:=[Value.int .u8 0]) (m:=64) rfl rfl rfl (Rds.own (m:=64) Hs.here (zx (by rw[zd,h64]))) hyl Dtt Dtt Dtt Dtt (fun g1 c1 r1 a1 a2 a3=>?_);rw[hst']
   repeat (first|refine Tj ?_|intro _|refine WO.does (zi rfl rfl hadd2) ?_|refine Tc ?_|exact Tz)
   subst hB2;exact WX.metI (1,g1,c1,r1) (hs:=⟨⟨by show 0+1≤Pr.length;omega,fun _=>⟨by rw[← hst',a1];exact Nat.mul_one _,a2⟩⟩,by show Pr.length - (0+1)<Pr.length - 0;omega⟩)
  ·obtain⟨r1,r2⟩:=hr Om;generalize (Pr.take (i+1)).flatMap be2=B1 at *
   try dsimp only[agV,agL,List.cons_append,List.nil_append]
   repeat (first|refine Tk ?_|intro _|exact Tz)
   refine WC.dT rfl Om ?_
   repeat (first|refine Tj ?_|intro _|refine WO.does (zb (o':=o+(i+1)*8) rfl rfl hlt rfl) ?_|refine WO.does (zn (vs:=pfC x) (hs:=hs) (hle:=Nat.le_add_right _ _) (hc:=hcx)) ?_|(refine WO.makes (zh (cs:=zc x.1++zc x.2) rfl Dtt rfl) ?_;intro _)|refine WO.acallN (hc:=hL _) (hR:=fun w1 hm=>RdF.seg (f:=zc) (xs:=[x.1,x.2]) (r:=[]) (Hs.sg hm)) (k:=fun g'=>?_)|refine Tc ?_|exact Tz)
   refine WO.appK (z:=[Value.int .u8 0]) (m:=64) (l:=(i+1+1)*64) rfl rfl rfl (xs:=byC B1) (r:=r) (by rw[zd,hB1];exact (Nat.mul_one _).symm) (by rw[r1];exact (Nat.mul_one _).symm) Pk.a (Rds.own (m:=64) Hs.here (zx (by rw[zd,h64]))) hyl (zM _) Om Om r2 Om Dtt Dtt (fun g1 c1 r1 a1 a2 a3=>?_);rw[← z7,hst] at a1 ⊢
   repeat (first|refine Tj ?_|intro _|refine WO.does (zi rfl rfl hadd2) ?_|refine Tc ?_|exact Tz)
   subst hB2;exact WX.metI (i+1+1,g1,c1,r1) (hs:=⟨⟨by show i+1+1≤Pr.length;omega,fun _=>⟨by rw[a1];exact Nat.mul_one _,a2⟩⟩,by show Pr.length - (i+1+1)<Pr.length - (i+1);omega⟩)
 ·have hi2:i=Pr.length:=by omega
  subst hi2;rw[List.take_length] at *;have hBl:(Pr.flatMap be2).length=Pr.length*64:=pL _;rw[← hBl]
  obtain⟨cB,hAV,hcA,hcB⟩ : ∃ cB,agV gA cA (Pr.flatMap be2).length Pr.length=.slice (lgP gA Pr.length) (Pr.flatMap be2).length cB∧(Pr.flatMap be2).length≤cB∧cB<9223372036854775808:=by
   cases hk:Pr.length with
   | zero=>exact⟨0,by rw[hBl,hk];rfl,by rw[hBl,hk];decide,by decide⟩
   | succ k =>
    obtain⟨r1,r2⟩:=hr Om;exact⟨cA,rfl,by rw[← r1,List.length_append,zd];omega,r2⟩
  rw[hAV];generalize Pr.flatMap be2=PB at *;generalize hPm:Pr.length=nP at *;generalize hVk:V.length=nV at *;generalize hYk:Y.length=nY at *
  try dsimp only[List.cons_append,List.nil_append]
  repeat (first|refine Tk ?_|intro _|exact Tz)
  refine WC.dF rfl Om ?_
  repeat (first|refine Tk ?_|intro _|exact Tz)
  refine WC.adraw 16 (k:=?_)
  iterate 2 (refine DQ.auto (k:=?_))
  refine DQ.acallS (hc:=hP0) (hR:=fun _=>Rd.nil) (k:=?_)
  iterate 2 (refine DQ.auto (k:=?_))
  refine DQ.makes (vf:=fun _ g=>AQ g 1 1) (t:=5) (cs:=fun _=>[.int .u8 (d:Int)]) (fun s _=>zh rfl Dtt rfl) Dp.const Dp.const ?_
  refine DQ.newsE (vf:=fun _ x=>AQ (x 0) 9 (x 1)) (Nf:=fun _ x=>[⟨x 0,5,byC (be 8 ep)++[.int .u8 (d:Int)]++mkz (x 1 - 9) [.int .u8 0]⟩]) (S:=fun _ x=>9≤x 1∧x 1<9223372036854775808)
   (fun s=>[⟨s 5 0,5,[.int .u8 (d:Int)]⟩,⟨s 2 0,5,byC (be 8 ep)⟩]) (fun s=>.cons 5 (.head _) Dkk (.cons 2 Mh.a Dkk .nil)) (fun _=>⟨fun _=>9,by decide,by decide⟩)
   (fun s _=>tz (z:=[Value.int .u8 0]) (len:=8) (n:=1) rfl rfl (ys:=byC (be 8 ep)) (Rds.own (m:=8) (Hs.there Hs.here) (zx (by rw[zd,zj]))) (by rw[zd,zj];rfl) (xs:=[.int .u8 (d:Int)]) (Rds.own (m:=1) Hs.here rfl) rfl Dtt Dtt Dtt Dtt rfl) Dp.const Dp.const Dp.const ?_
  try dsimp only[List.map_cons,List.map_nil,List.cons_append,List.nil_append]
  iterate 2 (refine DQ.auto (k:=?_))
  refine DQ.callsE (fs:=fun _=>[]) (cs:=fun _=>[]) (R:=fun _=>RdF zc (.slice pV nV cV) V) (vf:=fun _ x=>.slice (lgP (x 0) nV) VB.length VB.length) (Nf:=fun _ x=>lgL (x 0) VB nV) (S:=fun _ _=>True) (fun _=>[]) (fun _=>.nil)
   (fun _=>⟨fun _=>0,trivial⟩) (fun _ _=>hLV) (fun _=>rfl) (fun _=>rfl) (fun _=>rfl) (fun _ _ w hm=>wV.mod hm.mod) Dp.const Dp.const Dp.const ?_
  try dsimp only[List.map_nil,List.nil_append]
  iterate 2 (refine DQ.auto (k:=?_))
  refine DQ.callsE (fs:=fun _=>[]) (cs:=fun _=>[]) (R:=fun _=>RdF zc (.slice pY nY cY) Y) (vf:=fun _ x=>.slice (lgP (x 0) nY) YB.length YB.length) (Nf:=fun _ x=>lgL (x 0) YB nY) (S:=fun _ _=>True) (fun _=>[]) (fun _=>.nil)
   (fun _=>⟨fun _=>0,trivial⟩) (fun _ _=>hLY) (fun _=>rfl) (fun _=>rfl) (fun _=>rfl) (fun _ _ w hm=>wY.mod hm.mod) Dp.const Dp.const Dp.const ?_
  try dsimp only[List.map_nil,List.nil_append]
  refine DQ.auto (k:=?_);refine DQ.makes (vf:=fun _ g=>AQ g 4 4) (t:=126) (cs:=fun s=>[AQ (s 6 0) 9 (s 6 1),.slice (lgP (s 9 0) nV) VB.length VB.length,.slice (lgP (s 12 0) nY) YB.length YB.length,.slice (lgP gA nP) PB.length cB]) (fun s _=>zh rfl Dtt rfl) Dp.const (by intro s s' h;dsimp only;rw[h,h,h]<;>decide +kernel) ?_
  refine DQ.callE (v:=fun _=>.agg (byC H).toArray) (fun s=>[⟨s 14 0,126,[AQ (s 6 0) 9 (s 6 1),.slice (lgP (s 9 0) nV) VB.length VB.length,.slice (lgP (s 12 0) nY) YB.length YB.length,.slice (lgP gA nP) PB.length cB]⟩]++(lgL (s 12 0) YB nY++(lgL (s 9 0) VB nV++[⟨s 6 0,5,byC (be 8 ep)++[.int .u8 (d:Int)]++mkz (s 6 1 - 9) [.int .u8 0]⟩])))
   (fun s=>.cons 14 Sm Dkk (Vs.lg 12 (fun k hk=>by simp[hk,lgL]) Dkk (Vs.lg 9 (fun k hk=>by simp[hk,lgL]) Dkk (.cons 6 Sm Dkk .nil)))) (fun s _=>hO (s 6 0) (s 6 1) (s 9 0) (s 12 0) gA cB (s 14 0)) (fun s=>rfl)
   (fun s hC w hm=>⟨Hs.seg Hs.here hm,zZ.cons (by
     have hab:=RdP.own (g:=s 6 0) (c:=s 6 1) (X:=be 8 ep++be 1 d) (r:=mkz (s 6 1 - 9) [Value.int .u8 0]) (t:=5) hm (by rw[← h9];exact Hs.there (Hs.left (Hs.right (M:=lgL (s 12 0) YB nY) (Hs.right (M:=lgL (s 9 0) VB nV) Hs.here)))) (by rw[List.length_append,zj,zj];exact hC.1.1.2.1) hC.1.1.2.2;rw[List.length_append,zj,zj] at hab;exact hab) (zZ.cons (RdP.lg hm hVm (fun k hk=>by rw[hk];exact Hs.there (Hs.left (Hs.right (M:=lgL (s 12 0) YB nY) (Hs.left (M:=lgL (s 9 0) VB (k+1)) Hs.here)))) hVc) (zZ.cons (RdP.lg hm hYm (fun k hk=>by rw[hk];exact Hs.there (Hs.left (Hs.left (M:=lgL (s 12 0) YB (k+1)) Hs.here))) hYc) (zZ.cons (RdP.ag (r:=r) hm hBl (fun k hk=>by rw[hk];exact Hs.there (Hs.right (Hs.there (Hs.there Hs.here)))) hcA hcB) zZ.nil)))⟩) Dp.const ?_
  refine DQ.anil (k:=?_);intro sx _;refine WO.permA (List.Perm.cons _ List.perm_append_comm) ?_
  try dsimp only[List.cons_append]
  refine WO.stores (zo (vs:=byC H) (cs':=byC H) (hl:=hHlen) (h1:=zM _) (hc:=zE (by rw[hHlen];rfl)) (hle:=by rw[hHlen];rfl)) ?_
  repeat (first|refine Tk ?_|intro _|exact Tz)
  exact WX.aret1 (hr:=vF (vs:=byC H) (hc:=zx hHlen) (hl:=hHlen)) (hp:=rfl)
theorem o5 (ep d:Nat) (sC sS:Nat) (pV pY pP:Option Addr) (cV cY cP:Nat) (V Y:LN) (Pr:LP) (hd:d<256) (_:V≠[]) (_:Y≠[]) (_:Pr≠[]) (hVl:V.length≤1000) (hYl:Y.length≤1000) (hPl:Pr.length≤1000) :
  Fn Tryz.prog 31 [dlV ep d (.slice pV V.length cV) (.slice pY Y.length cY) (.slice pP Pr.length cP) sC sS]
   (fun w=>RdF zc (.slice pV V.length cV) V w∧RdF zc (.slice pY Y.length cY) Y w∧RdF pfC (.slice pP Pr.length cP) Pr w) (Is (.agg (byC (yX ep d V Y Pr)).toArray)) :=
 jg ep d sC sS pV pY pP cV cY cP V Y Pr hd hVl hYl hPl
end Sx
end
end Go.Proofs.YtiaibpcaloigkaaGreatDoor
