/- Part 49 of the proof. -/
import Derived.Test.YtegjemedanccoaaGreatDoorM47
import Derived.Test.YtegjemedanccoaaGreatDoorM48
set_option linter.unusedSimpArgs false
set_option linter.unusedVariables false
set_option maxHeartbeats 8000000
namespace Go.Proofs.YtegjemedanccoaaGreatDoor
section
open Go Go.RowKit Go.BigFrame
namespace Sx
theorem di:[1,2,3].flatMap zb=[.int .u64 1,.int .u64 ((wd 1 0:Nat):Int),.int .u64 ((wd 2 0:Nat):Int),.int .u64 ((wd 3 0:Nat):Int)]++[.int .u64 2,.int .u64 ((wd 1 0:Nat):Int),.int .u64 ((wd 2 0:Nat):Int),.int .u64 ((wd 3 0:Nat):Int)]++[.int .u64 3,.int .u64 ((wd 1 0:Nat):Int),.int .u64 ((wd 2 0:Nat):Int),.int .u64 ((wd 3 0:Nat):Int)]:=by kernel_rfl
attribute [local irreducible] wd DQ DQS WO WC WX
theorem uv {n:Nat} (h:n<100:=by decide):n<zc:=Nat.lt_trans h (r6 (by decide))
theorem abP:z8 knN:=by
 intro k hk;simp only[knN,List.mem_cons,List.not_mem_nil,or_false] at hk
 rcases hk with rfl|rfl|rfl|rfl<;>exact⟨uv,uv⟩
theorem acs:∀ a∈[1,2,3],a<zc:=by
 intro a ha;simp only[List.mem_cons,List.not_mem_nil,or_false] at ha
 rcases ha with rfl|rfl|rfl<;>exact uv
theorem RdF.nilV {α:Type} {f:α→List Value} {w:World} {c:Nat}:RdF f (.slice none 0 c) [] w:=⟨_,_,rfl,.inl ⟨rfl,rfl⟩⟩
theorem RdF.ownO {α:Type} {f:α→List Value} {xs:List α} {r:List Value} {w:World} {g n c:Nat} (hs:Seg w g 0 (xs.flatMap f++r)) (hn:xs.length=n):RdF f (.slice (some ⟨g,0,none⟩) n c) xs w:=by
 subst hn;exact RdF.seg hs
theorem RdF.ownM {α:Type} {f:α→List Value} {xs:List α} {w:World} {g n c:Nat} (hs:Seg w g 0 (xs.flatMap f)) (hn:xs.length=n):RdF f (.slice (some ⟨g,0,none⟩) n c) xs w:=by
 subst hn;exact⟨_,_,rfl,.inr ⟨g,0,rfl,hs⟩⟩
theorem bU (p q g h x:Nat) (f sec:Int) (N:List (Nat × Nat)) (XL:List Value) (P:List Nat)
  (hKn:Fn Tryz.prog 22 [] Tr (Ex (fun s=>.tuple #[stV p q g h f sec (.slice (some ⟨s 0,0,none⟩) 4 (s 1)),.slice (some ⟨s 2,0,none⟩) 4 (s 3)])
   (fun s=>[⟨s 2,65,XL++mkz (s 3 - 4) (yj 0 0)⟩,⟨s 0,34,N.flatMap zI++mkz (s 1 - 4) (yj 0 0)⟩]) (fun s=>4≤s 1∧4≤s 3)))
  (hNl:N.length=4) (hpl:P.length=3) (hp:p<zc) (hq:q<zc) (hh:h<zc) (hg:g<zc) (hx:x<zc) (hNo:z8 N) (hPo:∀ a∈P,a<zc) (h0q:0<q)
  (hf1 : -9223372036854775808≤f) (hf2:f≤9223372036854775807) (hs1 : -9223372036854775808≤sec) (hs2:sec≤9223372036854775807)
  (hcX:∀ c,cut (XL++mkz (c - 4) (yj 0 0)) 0 4=zb x)
  (e3:P.flatMap zb=[.int .u64 1,.int .u64 ((wd 1 0:Nat):Int),.int .u64 ((wd 2 0:Nat):Int),.int .u64 ((wd 3 0:Nat):Int)]++[.int .u64 2,.int .u64 ((wd 1 0:Nat):Int),.int .u64 ((wd 2 0:Nat):Int),.int .u64 ((wd 3 0:Nat):Int)]++[.int .u64 3,.int .u64 ((wd 1 0:Nat):Int),.int .u64 ((wd 2 0:Nat):Int),.int .u64 ((wd 3 0:Nat):Int)])
  (kset:y7 p q g h f sec N=true) (kdeal:u7 p q g h f sec N 1 P x=true) (kdeal9:u7 p q g h f sec N 9 P x=false)
  (hck:ckE p q g h f sec N 7 1 (dVs p q g P 4) (dYs p q P N 4) (dPs p q g P N 7 1 x 4) (dSg p q g P N 7 1 x 4).1 (dSg p q g P N 7 1 x 4).2=none)
  (hsh:aj p q g h f sec N (dVs p q g P 4) P=true) (knone:ckE p q g h f sec N 0 0 [] [] [] 0 0=some 4) :
  Fn Tryz.prog 7 [] tI (Is (.bool true)):=by
 have hDY:=fun gN cN gP=>ms p q g h f sec (some ⟨gN,0,none⟩) cN N 7 1 x (some ⟨gP,0,none⟩) 3 P hp hq hg hh hNo (by omega) hPo (by omega) hf1 hf2 hs1 hs2 (by decide) hx (by decide) kdeal;have hDN:=fun gN cN gP=>m5 p q g h f sec (some ⟨gN,0,none⟩) cN N 7 9 x (some ⟨gP,0,none⟩) 3 P hp hq hg hh hNo (by omega) hPo (by omega) hf1 hf2 hs1 hs2 (by decide) hx kdeal9;have hS1:=fun gN cN=>zP p q g h f sec (some ⟨gN,0,none⟩) cN N hp hq hg hh hNo (by omega) hf1 hf2 hs1 hs2;have hS0:=zP 0 0 0 0 0 0 none 0 [] uv uv uv uv (fun k hk=>by cases hk) (by decide) (by decide) (by decide) (by decide) (by decide);rw[lQ,show ([]:List (Nat × Nat)).length=0 from rfl] at hS0;have hdV:=iU (q:=q) (g:=g) (l:=P) (n:=4) hp;have hdY:=an (q:=q) (l:=P) (N:=N) (n:=4) hp;have hdP:=aH (p:=p) (q:=q) (g:=g) (l:=P) (N:=N) (ep:=7) (d:=1) (x:=x) (n:=4) hq h0q;have hdS:=ab (p:=p) (q:=q) (g:=g) (l:=P) (N:=N) (ep:=7) (d:=1) (x:=x) (n:=4) hq h0q;have hVl:(dVs p q g P 4).length=4:=by simp[dVs]
 have hYl:(dYs p q P N 4).length=4:=by simp[dYs]
 have hPl:(dPs p q g P N 7 1 x 4).length=4:=by simp[dPs]
 rw[hNl] at hDY;simp only[hpl,hNl,kset] at hDY hDN hS1;generalize dSg p q g P N 7 1 x 4=sg at *;generalize dVs p q g P 4=Vs at *;generalize dYs p q P N 4=Ys at *;generalize dPs p q g P N 7 1 x 4=Ps at *;have hC1:=fun gN cN gV gY gP=>yJ p q g h f sec (some ⟨gN,0,none⟩) (some ⟨gV,0,none⟩) (some ⟨gY,0,none⟩) (some ⟨gP,0,none⟩) cN 4 4 4 N 7 1 Vs Ys Ps sg.1 sg.2 hp hq hg hh hNo (by omega) hf1 hf2 hs1 hs2 (by decide) hdV hdY hdP (by omega) (by omega) (by omega) hdS.1 hdS.2;have hC2:=fun gN cN=>yJ p q g h f sec (some ⟨gN,0,none⟩) none none none cN 0 0 0 N 0 0 [] [] [] 0 0 hp hq hg hh hNo (by omega) hf1 hf2 hs1 hs2 (by decide) (fun a h=>by cases h) (fun a h=>by cases h) (fun a h=>by cases h) (by decide) (by decide) (by decide) uv uv;have hC3:=fun gV gY gP=>yJ 0 0 0 0 0 0 none (some ⟨gV,0,none⟩) (some ⟨gY,0,none⟩) (some ⟨gP,0,none⟩) 0 4 4 4 [] 7 1 Vs Ys Ps sg.1 sg.2 uv uv uv uv (fun k hk=>by cases hk) (by decide) (by decide) (by decide) (by decide) (by decide) (by decide) hdV hdY hdP (by omega) (by omega) (by omega) hdS.1 hdS.2;have hW:=fun gN cN gV gY gP gL=>rK p q g h f sec (some ⟨gN,0,none⟩) (some ⟨gV,0,none⟩) (some ⟨gY,0,none⟩) (some ⟨gP,0,none⟩) cN 4 4 4 N 7 1 Vs Ys Ps sg.1 sg.2 P (some ⟨gL,0,none⟩) 3 hp hq hg hh hNo (by omega) hf1 hf2 hs1 hs2 hdV (by omega) hPo (by omega);simp only[hck,hsh,knone,jV,hVl,hYl,hPl,hNl,hpl,List.length_nil,Option.getD] at hC1 hC2 hC3 hW;clear hdV hdY hdP hdS hck hsh;generalize hP3:P.flatMap zb=P3 at *;refine Fn.enter Tryz.func7 rfl rfl rfl ?_;intro w hw
 repeat (first|refine Tw ?_|(refine Tm ?_;intro _)|exact Tz)
 refine WO.acallX (hc:=hKn) (hR:=fun _ _=>trivial) (k:=fun s1 hs1=>?_);clear hs1;generalize s1 0=gN;generalize s1 1=cN;generalize s1 2=gX;generalize s1 3=cX;clear s1;simp only[List.cons_append,List.nil_append]
 repeat (first|refine Ta ?_|(refine Tm ?_;intro _)|(refine WO.makes (zd (cs:=P3) rfl (by decide) (by rw[e3];first|done|rfl)) ?_;intro gP)|refine Tc ?_|exact Tz)
 replace hcX:=hcX cX;generalize hXB:XL++mkz (cX - 4) (yj 0 0)=XB at *;generalize hNB:mkz (cN - 4) (yj 0 0)=NB at *;refine WC.adrawF [9] 11 (k:=?_)
 iterate 3 (first|refine Da ?_|refine Dc ?_)
 refine DQ.does (fun s _=>za (o':=0) rfl rfl (by decide) rfl) Dp.const ?_;(first|refine Da ?_|refine Dc ?_);refine DQ.does (fun s _=>zy (vs:=zb x) (hc:=hcX)) Dp.const ?_;refine DQ.callsE (fs:=fun _=>[]) (cs:=fun _=>[]) (R:=fun _ w=>RdF zI (.slice (some ⟨gN,0,none⟩) 4 cN) N w∧RdF zb (.slice (some ⟨gP,0,none⟩) 3 3) P w) (vf:=fun _ s=>.tuple #[dlV 7 1 (.slice (some ⟨s 0,0,none⟩) 4 4) (.slice (some ⟨s 1,0,none⟩) 4 4) (.slice (some ⟨s 2,0,none⟩) 4 4) sg.1 sg.2,.int .i64 0]) (Nf:=fun _ s=>[⟨s 2,77,Ps.flatMap pfC⟩,⟨s 1,24,Ys.flatMap zb⟩,⟨s 0,24,Vs.flatMap zb⟩]) (S:=fun _ _=>True) (fun _=>[]) (fun _=>.nil) (fun _=>⟨fun _=>0,trivial⟩) (fun _ _=>hDY gN cN gP) (fun _=>rfl) (fun _=>rfl) (fun _=>by simp) (fun _ _ w hm=>⟨RdF.ownO (r:=NB) (Hs.sg hm) hNl,RdF.ownM (by have:=Hs.sg (g:=gP) (t:=24) (cs:=P3) hm;rwa [← hP3] at this) hpl⟩) Dp.const Dp.const Dp.const ?_
 try dsimp only[List.map_cons,List.map_nil,List.cons_append,List.nil_append,List.append_nil]
 repeat (first|refine Da ?_|refine Df ?_)
 refine DQ.anil (k:=?_);intro sx _;generalize sx 6 0=gV;generalize sx 6 1=gY;generalize sx 6 2=gQ
 repeat (first|refine Tw ?_|(refine Tm ?_;intro _)|exact Tz)
 refine WC.adrawF [9] 11 (k:=?_)
 iterate 3 (first|refine Da ?_|refine Dc ?_)
 refine DQ.does (fun s _=>za (o':=0) rfl rfl (by decide) rfl) Dp.const ?_;(first|refine Da ?_|refine Dc ?_);refine DQ.does (fun s _=>zy (vs:=zb x) (hc:=hcX)) Dp.const ?_;refine DQ.acallM (hc:=hDN gN cN gP) (hR:=fun w1 hm=>⟨RdF.ownO (r:=NB) (Hs.sg hm) hNl,RdF.ownM (by have:=Hs.sg (g:=gP) (t:=24) (cs:=P3) hm;rwa [← hP3] at this) hpl⟩) (k:=?_)
 repeat (first|refine Da ?_|refine Df ?_)
 refine DQ.anil (k:=?_);intro sx _
 repeat (first|refine WO.does (zB rfl rfl rfl) ?_|refine Ta ?_|(refine Tm ?_;intro _)|refine WO.acallR (hc:=hS1 gN cN) (hR:=fun w1 hm=>RdF.rdK (RdF.ownO (r:=NB) (Hs.sg hm) hNl)) (k:=?_)|refine WO.acallR (hc:=hS0) (hR:=fun _ _=>RdF.rdK RdF.nilV) (k:=?_)|refine Tc ?_|exact Tz)
 refine WO.acallR (hc:=hC1 gN cN gV gY gQ) (hR:=fun w1 hm=>⟨⟨RdF.ownO (r:=NB) (Hs.sg hm) hNl,RdF.ownM (Hs.sg hm) hVl,RdF.ownM (Hs.sg hm) hYl,RdF.ownM (Hs.sg hm) hPl⟩,hw.mod hm.mod (by simp)⟩) (k:=?_)
 repeat (first|refine WO.does (zB rfl rfl rfl) ?_|refine Ta ?_|(refine Tm ?_;intro _)|refine Tc ?_|exact Tz)
 refine WO.acallR (hc:=hW gN cN gV gY gQ gP) (hR:=fun w1 hm=>⟨RdF.ownO (r:=NB) (Hs.sg hm) hNl,RdF.ownM (Hs.sg hm) hVl,RdF.ownM (by have:=Hs.sg (g:=gP) (t:=24) (cs:=P3) hm;rwa [← hP3] at this) hpl⟩) (k:=?_)
 repeat (first|refine Tw ?_|(refine Tm ?_;intro _)|exact Tz)
 refine WO.acallR (hc:=hC2 gN cN) (hR:=fun w1 hm=>⟨⟨RdF.ownO (r:=NB) (Hs.sg hm) hNl,RdF.nilV,RdF.nilV,RdF.nilV⟩,hw.mod hm.mod (by simp)⟩) (k:=?_)
 repeat (first|refine WO.does (zB rfl rfl rfl) ?_|refine Ta ?_|(refine Tm ?_;intro _)|refine Tc ?_|exact Tz)
 refine WO.acallR (hc:=hC3 gV gY gQ) (hR:=fun w1 hm=>⟨⟨RdF.nilV,RdF.ownM (Hs.sg hm) hVl,RdF.ownM (Hs.sg hm) hYl,RdF.ownM (Hs.sg hm) hPl⟩,hw.mod hm.mod (by simp)⟩) (k:=?_)
 repeat (first|refine WO.does (zB rfl rfl rfl) ?_|refine Ta ?_|(refine Tm ?_;intro _)|refine Tc ?_|exact Tz)
 done
theorem uB:Fn Tryz.prog 7 [] tI (Is (.bool true)) :=
 bU 23 11 4 9 4 1 2 knN (knS.flatMap zI) [1,2,3] eJ rfl rfl uv uv uv uv uv abP acs (by decide) (by decide) (by decide) (by decide) (by decide) (fun c=>rfl) di fK ef bi (cn 7) ce aaM
end Sx
end
section
open Go Go.RowKit Go.BigFrame
namespace Sx
attribute [local irreducible] DQ DQS WC WO WX wd
theorem fb {A C vs:List Value} {j n:Nat} (hn:A.length=n):over (A++C) (n+j) vs=A++over C j vs:=by
 subst hn;unfold over;rw[List.take_append,List.drop_append,List.take_of_length_le (by omega),List.drop_of_length_le (by omega),List.nil_append,show A.length+j - A.length=j by omega,show A.length+j+vs.length - A.length=j+vs.length by omega];simp only[List.append_assoc]
theorem fB {N:List (Nat × Nat)} {k:Nat} {x:Nat × Nat} (hx:N[k]?=some x):N=N.take k++x::N.drop (k+1):=by
 obtain⟨h,e⟩:=List.getElem?_eq_some_iff.1 hx;rw[← e,← List.drop_eq_getElem_cons h,List.take_append_drop]
theorem aap {N:List (Nat × Nat)} {k:Nat} {x y:Nat × Nat} (hx:N[k]?=some x):N.set k y=N.take k++y::N.drop (k+1):=by
 obtain⟨h,e⟩:=List.getElem?_eq_some_iff.1 hx;exact List.set_eq_take_append_cons_drop.trans (if_pos h)
theorem lD {N:List (Nat × Nat)} {k j:Nat} {x y:Nat × Nat} {r vs:List Value} (hx:N[k]?=some x) (hj:∀ r,over (zI x++r) j vs=zI y++r):over (N.flatMap zI++r) (k*8+j) vs=(N.set k y).flatMap zI++r:=by
 have hk:k<N.length:=(List.getElem?_eq_some_iff.1 hx).1;rw[aap hx]
 conv=>lhs;rw[fB hx]
 simp only[List.flatMap_append,List.flatMap_cons,List.append_assoc];rw[fb (by rw[zt zE,List.length_take,Nat.min_eq_left (by omega)]),hj]
theorem eh {x:Nat × Nat} {v:Nat} (r:List Value):over (zI x++r) 4 (zb v)=zI (x.1,v)++r:=rfl
theorem fu {x:Nat × Nat} {v:Nat} (r:List Value):over (zI x++r) 0 (zb v)=zI (v,x.2)++r:=rfl
theorem rT {N:List (Nat × Nat)} {k:Nat} {x y:Nat × Nat} (hx:N[k]?=some x):y∈N.set k y:=List.mem_set (List.getElem?_eq_some_iff.1 hx).1 _
theorem z8.set {N:List (Nat × Nat)} {k:Nat} {y:Nat × Nat} (hN:z8 N) (hy:y.1<zc∧y.2<zc):z8 (N.set k y):=fun a ha=>by
 rcases List.mem_or_eq_of_mem_set ha with h|h
 ·exact hN a h
 ·rw[h];exact hy
theorem RdF.rds {α:Type} {f:α→List Value} {pt:Option Addr} {n c:Nat} {xs:List α} {w:World} {L:List Ent} (h:RdF f (.slice pt n c) xs w) (hn:xs.length=n):Rds w [] L (.slice pt n c) n (xs.flatMap f):=by
 obtain⟨pt',c',e,hpc⟩:=h;cases e
 rcases hpc with ⟨rfl,rfl⟩|⟨b,o,rfl,hs⟩
 ·exact Rds.nil
 ·exact Rds.seg (m:=(xs.flatMap f).length) hs (Nat.le_refl _) (by simp) (by rw[Nat.sub_self];unfold cut;rw[List.drop_zero,List.take_length])
theorem RdF.drop {α:Type} {f:α→List Value} {k:Nat} (hk:∀ x,(f x).length=k) {b o n c c' : Nat} {xs:List α} {w:World} (h:RdF f (.slice (some ⟨b,o,none⟩) n c) xs w) (hn:xs.length=n) {i:Nat} (hi:i≤n):RdF f (.slice (some ⟨b,o+i*k,none⟩) (n - i) c') (xs.drop i) w:=by
 obtain⟨pt',c',e,hpc⟩:=h;cases e
 rcases hpc with ⟨h1,_⟩|⟨b',o',e',hs⟩
 ·cases h1
 ·cases e';refine⟨_,_,by rw[List.length_drop,hn],.inr ⟨b,o+i*k,rfl,?_⟩⟩;intro j v hv;have e1:xs.flatMap f=(xs.take i).flatMap f++(xs.drop i).flatMap f:=by rw[← List.flatMap_append,List.take_append_drop]
  have hl:((xs.take i).flatMap f).length=i*k:=by rw[zt hk,List.length_take,Nat.min_eq_left (by omega)]
  have:=hs (i*k+j) v (by rw[e1,List.getElem?_append_right (by omega),hl,Nat.add_sub_cancel_left];exact hv);rwa [← Nat.add_assoc] at this
theorem RdF.takeO {α:Type} {f:α→List Value} {pt:Option Addr} {n c c' : Nat} {xs:List α} {w:World} (h:RdF f (.slice pt n c) xs w) {i:Nat} (hi:i≤xs.length):RdF f (.slice pt i c') (xs.take i) w:=by
 obtain⟨p,c0,e,h⟩:=h;cases e;have hl:(xs.take i).length=i:=by rw[List.length_take];omega
 refine⟨pt,c',by rw[hl],?_⟩
 rcases h with ⟨h1,h2⟩|⟨b,o,e,hs⟩
 ·exact .inl ⟨h1,by rw[h2];simp⟩
 ·refine .inr ⟨b,o,e,?_⟩;have:xs.flatMap f=(xs.take i).flatMap f++(xs.drop i).flatMap f:=by rw[← List.flatMap_append,List.take_append_drop]
  rw[this] at hs;intro j v hv;exact hs j v (by
   rw[List.getElem?_append_left (by
    rcases Nat.lt_or_ge j ((xs.take i).flatMap f).length with h1|h1
    ·exact h1
    ·rw[List.getElem?_eq_none h1] at hv;cases hv)]
   exact hv)
theorem dq (N:List (Nat × Nat)):(N.flatMap zI).all Value.oneCell'=true:=by
 induction N with
 | nil=>rfl
 | cons a r ih=>rw[List.flatMap_cons,List.all_append,ih];rfl
def mnV (pt:Option Addr) (n c0 g c:Nat):Nat→Value
 | 0=>.slice pt n c0
 | j+1=>.slice (some ⟨g,0,none⟩) (n+(j+1)) c
def mnX (N:List (Nat × Nat)) (x:Nat × Nat) (j:Nat):List (Nat × Nat):=N++List.replicate j x
theorem bL (N:List (Nat × Nat)) (x:Nat × Nat) (j:Nat):(mnX N x j).flatMap zI++zI x=(mnX N x (j+1)).flatMap zI:=by
 unfold mnX;rw[List.replicate_succ',← List.append_assoc,List.flatMap_append];simp
theorem bZ (N:List (Nat × Nat)) (x:Nat × Nat):mnX N x 0=N:=by simp[mnX]
theorem cU {A r:List Value} {m:Nat} (h:A.length=m):cut (A++r) 0 m=A:=by
 subst h;unfold cut;rw[List.drop_zero,List.take_left]
theorem rO (N:List (Nat × Nat)) (x:Nat × Nat) (j:Nat):(mnX N x j).length=N.length+j:=by simp[mnX]
theorem abU {N:List (Nat × Nat)} {x:Nat × Nat} {j:Nat} (hN:z8 N) (hx:x.1<zc∧x.2<zc):z8 (mnX N x j):=fun a ha=>by
 rcases List.mem_append.1 ha with h|h
 ·exact hN a h
 ·rw[(List.mem_replicate.1 h).2];exact hx
section
variable (p q g h:Nat) (f sec:Int) (pt:Option Addr) (c:Nat) (N:List (Nat × Nat)) (z:Nat)
theorem sy (hp:p<zc) (hq:q<zc) (hg:g<zc) (hh:h<zc) (hN:z8 N)
  (hf1 : -9223372036854775808≤f) (hf2:f≤9223372036854775807) (hs1 : -9223372036854775808≤sec) (hs2:sec≤9223372036854775807) (hno:100<N.length∨(N.length≤100∧y7 p q g h f sec N=false)) :
  Fn Tryz.prog 3 [stV p q g h f sec (.slice pt N.length c),.int .u8 (z:Int)] (fun w=>RdF zI (.slice pt N.length c) N w∧tI w) (Is (.bool true)):=by
 have hA:=uB
 rcases hno with t1|⟨t1,e1⟩
 ·refine Fn.enter Tryz.func3 rfl rfl rfl ?_;intro w hw;obtain⟨wN,wH⟩:=hw
  repeat (first|refine WO.does (vE rfl rfl (by omega)) ?_|refine Ta ?_|(refine Tm ?_;intro _)|refine WO.acallR (hc:=hA) (hR:=fun w1 hm=>wH.mod hm.mod (by simp)) (k:=?_)|refine Tc ?_|exact Tz)
  done
 ·have hS:=zP p q g h f sec pt c N hp hq hg hh hN (by omega) hf1 hf2 hs1 hs2;rw[e1] at hS;refine Fn.enter Tryz.func3 rfl rfl rfl ?_;intro w hw;obtain⟨wN,wH⟩:=hw
  repeat (first|refine WO.does (zC rfl rfl (by omega)) ?_|refine Ta ?_|(refine Tm ?_;intro _)|refine WO.acallR (hc:=hS) (hR:=fun w1 hm=>(wN.mod hm.mod).rdK) (k:=?_)|refine WO.acallR (hc:=hA) (hR:=fun w1 hm=>wH.mod hm.mod (by simp)) (k:=?_)|refine Tc ?_|exact Tz)
  done
theorem ma (hp:p<zc) (hq:q<zc) (hg:g<zc) (hh:h<zc) (hN:z8 N) (hz:z<256)
  (hf1 : -9223372036854775808≤f) (hf2:f≤9223372036854775807) (hs1 : -9223372036854775808≤sec) (hs2:sec≤9223372036854775807) (t1:N.length≤100) (hcap:N.length≤c) (e1:y7 p q g h f sec N=true) :
  Fn Tryz.prog 3 [stV p q g h f sec (.slice pt N.length c),.int .u8 (z:Int)] (fun w=>RdF zI (.slice pt N.length c) N w∧tI w) (Is (.bool true)):=by
 have hA:=uB;have hS:=zP p q g h f sec pt c N hp hq hg hh hN (by omega) hf1 hf2 hs1 hs2;rw[e1] at hS;have hTS:=pq p q g h f sec pt c N t1;have hsp:=yM e1;obtain⟨hn1,hn7,hnq,hf0,hsec1,hfs,hmg,hmh⟩:=hsp;have hb3:3*f+1≤(N.length:Int):=by
  unfold y7 at e1;simp only[Bool.and_eq_true,decide_eq_true_eq] at e1;omega
 obtain⟨k,hk⟩ : ∃ k,z%N.length=k:=⟨_,rfl⟩;have hkn:k<N.length:=by rw[← hk];exact Nat.mod_lt _ (by omega)
 obtain⟨x,hx⟩ : ∃ x,N[k]?=some x:=⟨_,List.getElem?_eq_getElem hkn⟩;have hxb:=hN x (List.mem_of_getElem? hx);obtain⟨F,hF⟩ : ∃ F:Nat,(F:Int)=3*f:=⟨(3*f).toNat,by omega⟩;have hconv:IntKind.i64.wrap (z:Int)=(z:Int):=i64_in (by omega) (by omega);have hrem:((z:Int)).tmod (N.length:Int)=(k:Int):=by rw[← hk];rfl
 have hmulF:IntKind.i64.wrap (3*f)=(F:Int):=zm (by omega) (by omega) (by omega);have hadd2:IntKind.i64.wrap (f+2)=f+2:=i64_in (by omega) (by omega);have hFn:F≤N.length:=by omega
 have hS1:=fun g6 c6=>zP p q g h f sec (some ⟨g6,0,none⟩) c6 (N.drop k++N.take k) hp hq hg hh (fun a ha=>by
  rcases List.mem_append.1 ha with h|h
  ·exact hN a (List.mem_of_mem_drop h)
  ·exact hN a (List.mem_of_mem_take h)) (by simp only[List.length_append,List.length_drop,List.length_take];omega) hf1 hf2 hs1 hs2
 have hl1:(N.drop k++N.take k).length=N.length:=by simp only[List.length_append,List.length_drop,List.length_take];omega
 rw[gv,e1,hl1] at hS1;have hS2:=zP p q g h f sec pt c (N.take F) hp hq hg hh (fun a ha=>hN a (List.mem_of_mem_take ha)) (by rw[List.length_take];omega) hf1 hf2 hs1 hs2;rw[kX (.inl (by rw[List.length_take];omega)),show (N.take F).length=F by rw[List.length_take];omega] at hS2;have hS3:=fun g9=>zP p q g h f sec (some ⟨g9,0,none⟩) (N.length+1) (N.set k (x.1,1)) hp hq hg hh (hN.set ⟨hxb.1,yz⟩) (by rw[List.length_set];omega) hf1 hf2 hs1 hs2;rw[kQ (rT hx) (by rw[ab9];simp),List.length_set] at hS3;have hS4:=fun g9=>zP p q g h f sec (some ⟨g9,0,none⟩) (N.length+1) (N.set k (p,x.2)) hp hq hg hh (hN.set ⟨hp,hxb.2⟩) (by rw[List.length_set];omega) hf1 hf2 hs1 hs2;rw[kQ (rT hx) (by rw[adD];simp),List.length_set] at hS4;have hS5:=zP p q g h f (f+2) pt c N hp hq hg hh hN (by omega) hf1 hf2 (by omega) (by omega);rw[kf (.inl (by omega))] at hS5;have hS6:=zP p q g h f 0 pt c N hp hq hg hh hN (by omega) hf1 hf2 (by omega) (by omega);rw[kf (.inr (by omega))] at hS6;have hS7:=fun gM cM=>zP p q g h f sec (some ⟨gM,0,none⟩) cM (mnX N x (8 - N.length)) hp hq hg hh (abU hN hxb) (by rw[rO];omega) hf1 hf2 hs1 hs2;have hl7:N.length+(8 - N.length)=8:=by omega
 rw[kX (.inr (by rw[rO];omega)),rO,hl7] at hS7;have hoK1:=fun r=>lD (r:=r) hx (y:=(x.1,1)) (j:=4) (vs:=zb 1) (fun r=>eh r);have hoK0:=fun r=>lD (r:=r) hx (y:=(p,x.2)) (j:=0) (vs:=zb p) (fun r=>fu r);have hlK:((N.drop k).flatMap zI).length=(N.length - k)*8:=by rw[zt zE,List.length_drop]
 have hlT:((N.take k).flatMap zI).length=k*8:=by rw[zt zE,List.length_take,Nat.min_eq_left (by omega)]
 have hcx:cut (N.flatMap zI) (0+k*8) 8=zI x:=by rw[Nat.zero_add];exact zq zE hx
 refine Fn.enter Tryz.func3 rfl rfl rfl ?_;intro w hw;obtain⟨wN,wH⟩:=hw;obtain⟨b,o,rfl,_,hs⟩:=id wN |>.get hx
 have wD:RdF zI (.slice (some ⟨b,o+k*8,none⟩) (N.length - k) (c - k)) (N.drop k) w:=wN.drop zE rfl (by omega);have wT:RdF zI (.slice (some ⟨b,o,none⟩) k c) (N.take k) w:=wN.takeO (by omega)
 repeat (first|refine WO.does (zC rfl rfl (by omega)) ?_|refine WO.does (zL rfl hconv) ?_|refine WO.does (tK rfl rfl (by omega) hrem) ?_|refine Ta ?_|(refine Tm ?_;intro _)|refine WO.acallR (hc:=hS) (hR:=fun w1 hm=>(wN.mod hm.mod).rdK) (k:=?_)|refine Tc ?_|exact Tz)
 rename_i gS gT;refine WC.adraw 9 (k:=?_)
 iterate 2 (first|refine Da ?_|refine Dc ?_)
 (first|refine Da ?_|refine Dc ?_);refine DQ.does (fun s _=>yw (l:=k) (o':=o+k*8) rfl rfl (by omega) (by omega) rfl) Dp.const ?_;refine DQ.newsE (vf:=fun _ y=>.slice (some ⟨y 0,0,none⟩) (0+(N.length - k)) (y 1)) (Nf:=fun _ y=>[⟨y 0,34,[]++(N.drop k).flatMap zI++mkz (y 1 - (0+(N.length - k))) (yj 0 0)⟩]) (S:=fun _ y=>0+(N.length - k)≤y 1∧y 1<9223372036854775808) (fun _=>[]) (fun _=>.nil) (fun _=>⟨fun _=>8,by show 0+(N.length - k)≤8;omega,by show 8<9223372036854775808;decide⟩) (fun s hC=>vx (z:=yj 0 0) (n:=N.length - k) (len:=0) (cap:=0) rfl rfl (ys:=[]) Rds.nil rfl (RdF.rds wD (by simp)) hlK (by omega) (by omega) (by rw[Nat.zero_add];exact growslice_fits (by omega) (by omega)) (by decide) rfl) Dp.const Dp.const Dp.const ?_
 iterate 3 (first|refine Da ?_|refine Dc ?_)
 refine DQ.does (fun s _=>yF (h:=k) rfl rfl (by omega)) Dp.const ?_;refine DQ.anil (k:=?_);intro sx hC;obtain⟨_,hc1,hc2⟩:=hC;rw[show (0+1+1+1+1:Nat)=4 from rfl] at hc1 hc2;generalize sx 4 0=g6 at *;generalize sx 4 1=c6 at *;have hm0:0+(N.length - k)=N.length - k:=Nat.zero_add _;generalize 0+(N.length - k)=m0 at *
 repeat (first|refine Tw ?_|(refine Tm ?_;intro _)|exact Tz)
 refine WO.appKZ (z:=yj 0 0) (m:=k) (l:=N.length) rfl rfl rfl (xs:=(N.drop k).flatMap zI) (ys:=(N.take k).flatMap zI) (by rw[hlK,hm0];rfl) hc1 Pk.a (RdF.rds wT (by rw[List.length_take];omega)) hlT (dq _) (by omega) (by omega) hc2 (by omega) (by decide) (by decide) (fun g7 c7 a2 a3=>?_);rw[← List.flatMap_append];clear hm0 hc1 hc2
 repeat (first|refine WO.does (zR rfl rfl hmulF) ?_|refine WO.does (yF (h:=F) rfl rfl (by omega)) ?_|refine Ta ?_|(refine Tm ?_;intro _)|refine Tc ?_|exact Tz)
 refine WO.acallX (hc:=hTS) (hR:=fun w1 hm=>wN.mod hm.mod) (k:=fun s1 hs1=>?_);clear hs1;rename_i g8;generalize s1 0=g9;clear s1;simp only[List.cons_append,List.nil_append];have hle9:Nat.ble (k*8+4+4) (N.flatMap zI++yj 77 0).length=true:=by rw[Nat.ble_eq,List.length_append,zt zE];have:yj 77 0=zI (77,0):=rfl;rw[this,zE];omega
 have hle0:Nat.ble (k*8+4) (N.flatMap zI++yj 77 0).length=true:=by rw[Nat.ble_eq,List.length_append,zt zE];have:yj 77 0=zI (77,0):=rfl;rw[this,zE];omega
 repeat (first|refine WO.does (zN (cs:=zb 1) rfl rfl (by kernel_rfl)) ?_|refine WO.does (za (o':=k*8) rfl rfl hkn (Nat.zero_add _)) ?_|refine WO.stores (zD (vs:=zb 1) (cs':=(N.set k (x.1,1)).flatMap zI++yj 77 0) (hc:=hoK1 _) (hle:=hle9)) ?_|refine Ta ?_|(refine Tm ?_;intro _)|refine Tc ?_|exact Tz)
 refine WO.acallX (hc:=hTS) (hR:=fun w1 hm=>wN.mod hm.mod) (k:=fun s1 hs1=>?_);clear hs1;rename_i g9p;generalize s1 0=g10;clear s1;simp only[List.cons_append,List.nil_append]
 repeat (first|refine WO.does (za (o':=k*8) rfl rfl hkn (Nat.zero_add _)) ?_|refine WO.stores (zD (vs:=zb p) (cs':=(N.set k (p,x.2)).flatMap zI++yj 77 0) (hc:=hoK0 _) (hle:=hle0)) ?_|refine WO.does (zi rfl rfl hadd2) ?_|refine Ta ?_|(refine Tm ?_;intro _)|refine Tc ?_|exact Tz)
 rename_i gA gB gC gM;obtain⟨e,he⟩ : ∃ e,8 - N.length=e+1:=⟨7 - N.length,by omega⟩
 refine WC.loopI (σ:=Nat × Nat × Nat) (fun s=>s.1≤e+1∧(0<s.1→s.2.2<9223372036854775808∧N.length+s.1≤s.2.2)) (fun s=>[(2,Sx.pt gS),(6,.int .i64 (k:Int)),(7,Sx.pt gT),(8,Sx.pt g8),(9,Sx.pt g9p),(10,Sx.pt gA),(11,Sx.pt gB),(12,Sx.pt gC),(13,Sx.pt gM)])
  (fun s=>⟨gM,29,stC p q g h f sec (mnV (some ⟨b,o,none⟩) N.length c s.2.1 s.2.2 s.1)⟩::⟨gC,29,stC p q g h f 0 (.slice (some ⟨b,o,none⟩) N.length c)⟩::⟨gB,29,stC p q g h f (f+2) (.slice (some ⟨b,o,none⟩) N.length c)⟩::⟨gA,29,stC p q g h f sec (.slice (some ⟨g10,0,none⟩) N.length (N.length+1))⟩::⟨g10,34,(N.set k (p,x.2)).flatMap zI++yj 77 0⟩ ::
   ⟨g9p,29,stC p q g h f sec (.slice (some ⟨g9,0,none⟩) N.length (N.length+1))⟩::⟨g9,34,(N.set k (x.1,1)).flatMap zI++yj 77 0⟩::⟨g8,29,stC p q g h f sec (.slice (some ⟨b,o,none⟩) F c)⟩::⟨g7,34,(N.drop k++N.take k).flatMap zI++mkz (c7 - N.length) (yj 0 0)⟩::⟨gT,29,stC p q g h f sec (.slice (some ⟨g7,0,none⟩) N.length c7)⟩::⟨gS,29,stC p q g h f sec (.slice (some ⟨b,o,none⟩) N.length c)⟩::rwL 34 s.2.1 ((mnX N x s.1).flatMap zI) (mkz (s.2.2 - (N.length+s.1)) (yj 0 0)) s.1) (fun s=>e+1 - s.1) (0,0,0) (fun s hi=>?_) ⟨Nat.zero_le _,fun h=>absurd h (by decide)⟩
 obtain⟨j,gR,cR⟩:=s
 try dsimp only at hi ⊢
 obtain⟨hi,hr⟩:=hi
 by_cases hlt:j<e+1
 ·have hM2:=bL N x j;have hMl:((mnX N x j).flatMap zI).length=(N.length+j)*8:=by rw[zt zE,rO]
  have hcxo:cut (N.flatMap zI) (o+k*8 - o) 8=zI x:=by rw[Nat.add_sub_cancel_left];exact zq zE hx
  generalize hB2:(mnX N x (j+1)).flatMap zI=B2 at *
  rcases j with _|j
  ·rw[bZ] at hM2 hMl
   try dsimp only[mnV,rwL]
   repeat (first|refine Tw ?_|(refine Tm ?_;intro _)|exact Tz)
   refine WC.dT rfl (by omega) ?_
   repeat (first|refine Tw ?_|(refine Tm ?_;intro _)|exact Tz)
   refine WC.adraw 9 (k:=?_)
   iterate 2 (first|refine Da ?_|refine Dc ?_)
   refine DQ.newsE (vf:=fun _ y=>.slice (some ⟨y 0,0,none⟩) (0+N.length) (y 1)) (Nf:=fun _ y=>[⟨y 0,34,[]++N.flatMap zI++mkz (y 1 - (0+N.length)) (yj 0 0)⟩]) (S:=fun _ y=>0+N.length≤y 1∧y 1<9223372036854775808) (fun _=>[]) (fun _=>.nil) (fun _=>⟨fun _=>8,by show 0+N.length≤8;omega,by show 8<9223372036854775808;decide⟩) (fun s hC=>vx (z:=yj 0 0) (n:=N.length) (len:=0) (cap:=0) rfl rfl (ys:=[]) Rds.nil rfl (RdF.rds wN rfl) (by rw[zt zE];rfl) (by omega) (by omega) (by rw[Nat.zero_add];exact growslice_fits (by omega) (by omega)) (by decide) rfl) Dp.const Dp.const Dp.const ?_
   iterate 3 (first|refine Da ?_|refine Dc ?_)
   refine DQ.does (fun s _=>za (o':=o+k*8) rfl rfl hkn rfl) Dp.const ?_;refine DQ.does (fun s _=>zj (vs:=zI x) (hs:=hs) (hle:=Nat.le_add_right _ _) (hc:=hcxo)) Dp.const ?_;refine DQ.makes (vf:=fun _ g=>.slice (some ⟨g,0,none⟩) 1 1) (t:=34) (cs:=fun _=>zI x) (fun s _=>zd rfl (by decide) rfl) Dp.const Dp.const ?_;refine DQ.anil (k:=?_);intro sx hC;obtain⟨_,hc1,hc2⟩:=hC;rw[show (0+1+1:Nat)=2 from rfl] at hc1 hc2;generalize sx 2 0=g6 at *;generalize sx 2 1=c6 at *;generalize sx 8 0=gW at *;have hm0:0+N.length=N.length:=Nat.zero_add _;generalize 0+N.length=m0 at *;subst hm0
   repeat (first|refine Tw ?_|(refine Tm ?_;intro _)|exact Tz)
   refine WO.appKZ (z:=yj 0 0) (m:=1) (l:=N.length+1) rfl rfl rfl (xs:=N.flatMap zI) (ys:=zI x) hMl hc1 Pk.a (Rds.own (m:=8) Hs.here rfl) rfl rfl rfl (by omega) hc2 (by omega) (by decide) (by decide) (fun g1 c1 a4 a5=>?_);rw[hM2]
   repeat (first|refine Tw ?_|(refine Tm ?_;intro _)|exact Tz)
   subst hB2;exact WX.metI (1,g1,c1) (hs:=⟨⟨by show 0+1≤e+1;omega,fun _=>⟨a4,a5⟩⟩,by show e+1 - (0+1)<e+1 - 0;omega⟩)
  ·obtain⟨r1,r2⟩:=hr (by omega)
   try dsimp only[mnV,rwL]
   obtain⟨n1,hn1⟩ : ∃ n1,N.length+(j+1)=n1:=⟨_,rfl⟩;have hn2:N.length+(j+1+1)=n1+1:=by omega
   rw[hn1] at hMl r2 ⊢;generalize hB1:(mnX N x (j+1)).flatMap zI=B1 at *;have hcut:=cU (r:=mkz (cR - n1) (yj 0 0)) hMl
   repeat (first|refine Tw ?_|(refine Tm ?_;intro _)|exact Tz)
   refine WC.dT rfl (by omega) ?_
   repeat (first|refine Tw ?_|(refine Tm ?_;intro _)|exact Tz)
   refine WC.adraw 9 (k:=?_)
   iterate 2 (first|refine Da ?_|refine Dc ?_)
   refine DQ.newsE (vf:=fun _ y=>.slice (some ⟨y 0,0,none⟩) (0+n1) (y 1)) (Nf:=fun _ y=>[⟨y 0,34,[]++B1++mkz (y 1 - (0+n1)) (yj 0 0)⟩]) (S:=fun _ y=>0+n1≤y 1∧y 1<9223372036854775808) (fun _=>[]) (fun _=>.nil) (fun _=>⟨fun _=>8,by show 0+n1≤8;omega,by show 8<9223372036854775808;decide⟩) (fun s hC=>vx (z:=yj 0 0) (n:=n1) (len:=0) (cap:=0) rfl rfl (ys:=[]) Rds.nil rfl (Rds.own (g:=gR) (m:=n1*8) Hs.a hcut) hMl (by omega) (by omega) (by rw[Nat.zero_add];exact growslice_fits (by omega) (by omega)) (by decide) rfl) Dp.const Dp.const Dp.const ?_
   iterate 3 (first|refine Da ?_|refine Dc ?_)
   refine DQ.does (fun s _=>za (o':=o+k*8) rfl rfl hkn rfl) Dp.const ?_;refine DQ.does (fun s _=>zj (vs:=zI x) (hs:=hs) (hle:=Nat.le_add_right _ _) (hc:=hcxo)) Dp.const ?_;refine DQ.makes (vf:=fun _ g=>.slice (some ⟨g,0,none⟩) 1 1) (t:=34) (cs:=fun _=>zI x) (fun s _=>zd rfl (by decide) rfl) Dp.const Dp.const ?_;refine DQ.anil (k:=?_);intro sx hC;obtain⟨_,hc1,hc2⟩:=hC;rw[show (0+1+1:Nat)=2 from rfl] at hc1 hc2;generalize sx 2 0=g6 at *;generalize sx 2 1=c6 at *;generalize sx 8 0=gW at *;rw[Nat.zero_add] at hc1 ⊢
   repeat (first|refine Tw ?_|(refine Tm ?_;intro _)|exact Tz)
   refine WO.appKZ (z:=yj 0 0) (m:=1) (l:=n1+1) rfl rfl rfl (xs:=B1) (ys:=zI x) hMl hc1 Pk.a (Rds.own (m:=8) Hs.here rfl) rfl rfl rfl (by omega) hc2 (by omega) (by decide) (by decide) (fun g1 c1 a4 a5=>?_);rw[hM2]
   repeat (first|refine Tw ?_|(refine Tm ?_;intro _)|exact Tz)
   rw[← hn2] at a5 ⊢;subst hB2;exact WX.metI (j+1+1,g1,c1) (hs:=⟨⟨by show j+1+1≤e+1;omega,fun _=>⟨a4,a5⟩⟩,by show e+1 - (j+1+1)<e+1 - (j+1);omega⟩)
 ·have hj:j=e+1:=by omega
  subst hj;obtain⟨r1,r2⟩:=hr (by omega);rw[he] at hS7 hl7;have hl8:(mnX N x (e+1)).length=8:=by rw[rO];exact hl7
  have wF:RdF zI (.slice (some ⟨b,o,none⟩) F c) (N.take F) w:=wN.takeO (by omega)
  try dsimp only[mnV,rwL]
  rw[hl7]
  repeat (first|refine Ta ?_|(refine Tm ?_;intro _)|refine WO.acallR (hc:=hA) (hR:=fun w1 hm=>wH.mod hm.mod (by simp)) (k:=?_)|refine Tc ?_|exact Tz)
  refine WO.acallR (hc:=hS1 g7 c7) (hR:=fun w1 hm=>RdF.rdK (RdF.ownO (Hs.sg hm) hl1)) (k:=?_)
  repeat (first|refine Tw ?_|(refine Tm ?_;intro _)|exact Tz)
  refine WO.acallR (hc:=hS2) (hR:=fun w1 hm=>(wF.mod hm.mod).rdK) (k:=?_)
  repeat (first|refine Tw ?_|(refine Tm ?_;intro _)|exact Tz)
  refine WO.acallR (hc:=hS3 g9) (hR:=fun w1 hm=>RdF.rdK (RdF.ownO (r:=yj 77 0) (Hs.sg hm) (by rw[List.length_set]))) (k:=?_)
  repeat (first|refine Tw ?_|(refine Tm ?_;intro _)|exact Tz)
  refine WO.acallR (hc:=hS4 g10) (hR:=fun w1 hm=>RdF.rdK (RdF.ownO (r:=yj 77 0) (Hs.sg hm) (by rw[List.length_set]))) (k:=?_)
  repeat (first|refine Tw ?_|(refine Tm ?_;intro _)|exact Tz)
  refine WO.acallR (hc:=hS5) (hR:=fun w1 hm=>(wN.mod hm.mod).rdK) (k:=?_)
  repeat (first|refine Tw ?_|(refine Tm ?_;intro _)|exact Tz)
  refine WO.acallR (hc:=hS6) (hR:=fun w1 hm=>(wN.mod hm.mod).rdK) (k:=?_)
  repeat (first|refine Tw ?_|(refine Tm ?_;intro _)|exact Tz)
  refine WO.acallR (hc:=hS7 gR cR) (hR:=fun w1 hm=>RdF.rdK (RdF.ownO (Hs.sg hm) hl8)) (k:=?_)
  repeat (first|refine Tw ?_|(refine Tm ?_;intro _)|exact Tz)
  done
theorem tc (hp:p<zc) (hq:q<zc) (hg:g<zc) (hh:h<zc) (hN:z8 N) (hz:z<256)
  (hf1 : -9223372036854775808≤f) (hf2:f≤9223372036854775807) (hs1 : -9223372036854775808≤sec) (hs2:sec≤9223372036854775807) (hcap:N.length≤c) :
  Fn Tryz.prog 3 [stV p q g h f sec (.slice pt N.length c),.int .u8 (z:Int)] (fun w=>RdF zI (.slice pt N.length c) N w∧tI w) (Is (.bool true)):=by
 by_cases t1:N.length≤100
 ·cases e1:y7 p q g h f sec N with
  | false=>exact sy p q g h f sec pt c N z hp hq hg hh hN hf1 hf2 hs1 hs2 (.inr ⟨t1,e1⟩)
  | true=>exact ma p q g h f sec pt c N z hp hq hg hh hN hz hf1 hf2 hs1 hs2 t1 hcap e1
 ·exact sy p q g h f sec pt c N z hp hq hg hh hN hf1 hf2 hs1 hs2 (.inl (by omega))
end
end Sx
end
end Go.Proofs.YtegjemedanccoaaGreatDoor
