/- Part 33 of the proof. -/
import Derived.Test.YtbbppkkhidkjpaaGreatDoorM31
import Derived.Test.YtbbppkkhidkjpaaGreatDoorM32
set_option linter.unusedSimpArgs false
set_option linter.unusedVariables false
set_option maxHeartbeats 8000000
namespace Go.Proofs.YtbbppkkhidkjpaaGreatDoor
section
open Go Go.RowKit Go.BigFrame
namespace Sx
attribute [local irreducible] DQ DQS WC WO WX wd
section
variable (p q g h:Nat)
theorem um (a:Nat) (ha:a<zb) (hq:q<zb):Fn Tryz.prog 84 [yd p q g h,zf a] Tr (Is (.bool (zD a a q))):=by
 have hO:=jD p q g h a a ha ha hq;generalize zD a a q=b at *;generalize (a+a)%q=R at *;refine Fn.enter Tryz.func84 rfl rfl rfl ?_;intro w hw
 repeat (first|refine Ta ?_|(refine Tm ?_;intro _)|refine WO.acall (hc:=hO) (k:=?_)|refine Tc ?_|exact Tz)
 cases b<;>exact WX.aret1 (hp:=rfl)
theorem sk (a n:Nat) (ha:a<zb) (hn:n<zb) (hp:p<zb):Fn Tryz.prog 87 [yd p q g h,zf a,zf n] Tr (Is (zf (okV (vo p a) (a ^ n%p)))):=by
 have hO:=ln p q g h a n ha hn hp;refine Fn.enter Tryz.func87 rfl rfl rfl ?_;intro w hw
 repeat (first|refine Ta ?_|(refine Tm ?_;intro _)|refine WO.acall (hc:=hO) (k:=?_)|refine Tc ?_|exact Tz)
abbrev aeL (x0 x1 x2 x3 x4 x5:Nat):List Value:=zc x0++(zc x1++(zc x2++(zc x3++(zc x4++zc x5))))
theorem nI (s:ByteArray) (x0 x1 x2 x3 x4 x5:Nat) (hq:q<zb) (h0:0<q) (hs:s.size≤68719476736) :
  Fn Tryz.prog 88 [yd p q g h,.string s,.agg (aeL x0 x1 x2 x3 x4 x5).toArray] Tr
   (Is (zf (kY q (zN s) [be 32 x0,be 32 x1,be 32 x2,be 32 x3,be 32 x4,be 32 x5]))):=by
 have hP:=fun x=>Fn.newZ (yS [] x 0 none (by decide));simp only[List.nil_append] at hP;have hb:(zS (zN s) [be 32 x0,be 32 x1,be 32 x2,be 32 x3,be 32 x4,be 32 x5]).length≤137438953472:=by
  simp only[zS,vn,yb,List.flatMap_cons,List.flatMap_nil,List.length_append,zj,yG,List.length_nil];omega
 have hl:∀ X∈[be 32 x0,be 32 x1,be 32 x2,be 32 x3,be 32 x4,be 32 x5],∀ x∈X,x<256:=by
  intro X hX;simp only[List.mem_cons,List.not_mem_nil,or_false] at hX
  rcases hX with rfl|rfl|rfl|rfl|rfl|rfl<;>exact tE
 have hbl:∀ x,(byC (be 32 x)).length=32:=fun x=>by rw[zd,zj]
 have hN:=fun p0 p1 p2 p3 p4 p5 c0 c1 c2 c3 c4 c5 gR C=>mV q s [.slice (some ⟨p0,0,none⟩) 32 c0,.slice (some ⟨p1,0,none⟩) 32 c1,.slice (some ⟨p2,0,none⟩) 32 c2,.slice (some ⟨p3,0,none⟩) 32 c3,.slice (some ⟨p4,0,none⟩) 32 c4,.slice (some ⟨p5,0,none⟩) 32 c5] [be 32 x0,be 32 x1,be 32 x2,be 32 x3,be 32 x4,be 32 x5] gR 0 C hq h0 hl hb (by simp);generalize kY q (zN s) [be 32 x0,be 32 x1,be 32 x2,be 32 x3,be 32 x4,be 32 x5]=R at *;clear hb hl;refine Fn.enter Tryz.func88 rfl rfl rfl ?_;intro w hw
 repeat (first|refine WX.rounds ?_|refine WC.loopU 6 ?_|refine Ta ?_|(refine Tm ?_;intro _)|refine Tc ?_|exact Tz)
 refine WO.acallA (hc:=hP x0) (hR:=fun _ _=>Rd.nil) (hm:=hbl _) (k:=fun p0 c0 r0 hp0 hp0'=>?_)
 repeat (first|refine Ta ?_|(refine Tm ?_;intro _)|(refine WO.makes (ze (t:=119) (cs:=[_]) rfl (by decide) rfl) ?_;intro _)|refine Tc ?_|exact Tz)
 refine WO.news (vF (z:=[Value.slice none 0 0]) (n:=1) rfl rfl (ys:=[]) Rds.nil rfl (Rds.own (m:=1) Hs.here rfl) rfl (by decide) (by decide) (by decide) (by decide) rfl) (fun x hx=>?_);obtain⟨hx1,hx2⟩:=hx;generalize x 0=g0 at *;generalize x 1=k0 at *;rw[List.nil_append];have hd0:([Value.slice (some ⟨p0,0,none⟩) 32 c0]++mkz (k0 - (0+1)) [Value.slice none 0 0]).length=k0:=by rw[List.length_append,zC];simp;omega
 have he0:=hx2;generalize mkz (k0 - (0+1)) [Value.slice none 0 0]=t0 at *
 repeat (first|refine WX.rounds ?_|refine Ta ?_|(refine Tm ?_;intro _)|refine Tc ?_|exact Tz)
 refine WO.acallA (hc:=hP x1) (hR:=fun _ _=>Rd.nil) (hm:=hbl _) (k:=fun p1 c1 r1 hp1 hp1'=>?_)
 repeat (first|refine Ta ?_|(refine Tm ?_;intro _)|(refine WO.makes (ze (t:=119) (cs:=[_]) rfl (by decide) rfl) ?_;intro _)|refine Tc ?_|exact Tz)
 refine WO.appB (g:=g0) (z0:=Value.slice none 0 0) (xs:=[.slice (some ⟨p0,0,none⟩) 32 c0]) (r:=t0) (ys:=[.slice (some ⟨p1,0,none⟩) 32 c1]) (m:=1) (l:=2) rfl rfl rfl hd0 Pk.a (Rds.own (m:=1) Hs.here rfl) rfl rfl rfl (by decide) he0 (by decide) (by decide) (by decide) (fun g1 k1 t1 hd1 he1=>?_)
 repeat (first|refine WX.rounds ?_|refine Ta ?_|(refine Tm ?_;intro _)|refine Tc ?_|exact Tz)
 refine WO.acallA (hc:=hP x2) (hR:=fun _ _=>Rd.nil) (hm:=hbl _) (k:=fun p2 c2 r2 hp2 hp2'=>?_)
 repeat (first|refine Ta ?_|(refine Tm ?_;intro _)|(refine WO.makes (ze (t:=119) (cs:=[_]) rfl (by decide) rfl) ?_;intro _)|refine Tc ?_|exact Tz)
 refine WO.appB (g:=g1) (z0:=Value.slice none 0 0) (xs:=[.slice (some ⟨p0,0,none⟩) 32 c0,.slice (some ⟨p1,0,none⟩) 32 c1]) (r:=t1) (ys:=[.slice (some ⟨p2,0,none⟩) 32 c2]) (m:=1) (l:=3) rfl rfl rfl hd1 Pk.a (Rds.own (m:=1) Hs.here rfl) rfl rfl rfl (by decide) he1 (by decide) (by decide) (by decide) (fun g2 k2 t2 hd2 he2=>?_)
 repeat (first|refine WX.rounds ?_|refine Ta ?_|(refine Tm ?_;intro _)|refine Tc ?_|exact Tz)
 refine WO.acallA (hc:=hP x3) (hR:=fun _ _=>Rd.nil) (hm:=hbl _) (k:=fun p3 c3 r3 hp3 hp3'=>?_)
 repeat (first|refine Ta ?_|(refine Tm ?_;intro _)|(refine WO.makes (ze (t:=119) (cs:=[_]) rfl (by decide) rfl) ?_;intro _)|refine Tc ?_|exact Tz)
 refine WO.appB (g:=g2) (z0:=Value.slice none 0 0) (xs:=[.slice (some ⟨p0,0,none⟩) 32 c0,.slice (some ⟨p1,0,none⟩) 32 c1,.slice (some ⟨p2,0,none⟩) 32 c2]) (r:=t2) (ys:=[.slice (some ⟨p3,0,none⟩) 32 c3]) (m:=1) (l:=4) rfl rfl rfl hd2 Pk.a (Rds.own (m:=1) Hs.here rfl) rfl rfl rfl (by decide) he2 (by decide) (by decide) (by decide) (fun g3 k3 t3 hd3 he3=>?_)
 repeat (first|refine WX.rounds ?_|refine Ta ?_|(refine Tm ?_;intro _)|refine Tc ?_|exact Tz)
 refine WO.acallA (hc:=hP x4) (hR:=fun _ _=>Rd.nil) (hm:=hbl _) (k:=fun p4 c4 r4 hp4 hp4'=>?_)
 repeat (first|refine Ta ?_|(refine Tm ?_;intro _)|(refine WO.makes (ze (t:=119) (cs:=[_]) rfl (by decide) rfl) ?_;intro _)|refine Tc ?_|exact Tz)
 refine WO.appB (g:=g3) (z0:=Value.slice none 0 0) (xs:=[.slice (some ⟨p0,0,none⟩) 32 c0,.slice (some ⟨p1,0,none⟩) 32 c1,.slice (some ⟨p2,0,none⟩) 32 c2,.slice (some ⟨p3,0,none⟩) 32 c3]) (r:=t3) (ys:=[.slice (some ⟨p4,0,none⟩) 32 c4]) (m:=1) (l:=5) rfl rfl rfl hd3 Pk.a (Rds.own (m:=1) Hs.here rfl) rfl rfl rfl (by decide) he3 (by decide) (by decide) (by decide) (fun g4 k4 t4 hd4 he4=>?_)
 repeat (first|refine WX.rounds ?_|refine Ta ?_|(refine Tm ?_;intro _)|refine Tc ?_|exact Tz)
 refine WO.acallA (hc:=hP x5) (hR:=fun _ _=>Rd.nil) (hm:=hbl _) (k:=fun p5 c5 r5 hp5 hp5'=>?_)
 repeat (first|refine Ta ?_|(refine Tm ?_;intro _)|(refine WO.makes (ze (t:=119) (cs:=[_]) rfl (by decide) rfl) ?_;intro _)|refine Tc ?_|exact Tz)
 refine WO.appB (g:=g4) (z0:=Value.slice none 0 0) (xs:=[.slice (some ⟨p0,0,none⟩) 32 c0,.slice (some ⟨p1,0,none⟩) 32 c1,.slice (some ⟨p2,0,none⟩) 32 c2,.slice (some ⟨p3,0,none⟩) 32 c3,.slice (some ⟨p4,0,none⟩) 32 c4]) (r:=t4) (ys:=[.slice (some ⟨p5,0,none⟩) 32 c5]) (m:=1) (l:=6) rfl rfl rfl hd4 Pk.a (Rds.own (m:=1) Hs.here rfl) rfl rfl rfl (by decide) he4 (by decide) (by decide) (by decide) (fun g5 k5 t5 hd5 he5=>?_)
 repeat (first|refine WX.rounds ?_|refine Ta ?_|(refine Tm ?_;intro _)|refine Tc ?_|exact Tz)
 refine WO.acallR (hc:=hN p0 p1 p2 p3 p4 p5 c0 c1 c2 c3 c4 c5 g5 k5) (hR:=fun w1 hm=>⟨Seg.left (Hs.sg hm),zQ.cons (RdP.own (g:=p0) (c:=c0) (X:=be 32 x0) (r:=r0) (t:=5) hm Hs.a (by rw[← hp0,List.length_append,zd];omega) hp0') (zQ.cons (RdP.own (g:=p1) (c:=c1) (X:=be 32 x1) (r:=r1) (t:=5) hm Hs.a (by rw[← hp1,List.length_append,zd];omega) hp1') (zQ.cons (RdP.own (g:=p2) (c:=c2) (X:=be 32 x2) (r:=r2) (t:=5) hm Hs.a (by rw[← hp2,List.length_append,zd];omega) hp2') (zQ.cons (RdP.own (g:=p3) (c:=c3) (X:=be 32 x3) (r:=r3) (t:=5) hm Hs.a (by rw[← hp3,List.length_append,zd];omega) hp3') (zQ.cons (RdP.own (g:=p4) (c:=c4) (X:=be 32 x4) (r:=r4) (t:=5) hm Hs.a (by rw[← hp4,List.length_append,zd];omega) hp4') (zQ.cons (RdP.own (g:=p5) (c:=c5) (X:=be 32 x5) (r:=r5) (t:=5) hm Hs.a (by rw[← hp5,List.length_append,zd];omega) hp5') (zQ.nil))))))⟩) (k:=?_)
 repeat (first|refine Tw ?_|(refine Tm ?_;intro _)|exact Tz)
end
end Sx
end
section
open Go Go.RowKit Go.BigFrame
namespace Sx
attribute [local irreducible] DQ DQS WC WO WX
theorem aaH {a b:Nat} (ha:a<18446744073709551616) (hb:b<18446744073709551616):IntKind.u64.wrap (((BitVec.ofInt IntKind.u64.bits ((a:Nat):Int) ||| BitVec.ofInt IntKind.u64.bits ((b:Nat):Int)).toNat:Nat):Int)=((a ||| b:Nat):Int):=by
 have e:(BitVec.ofInt IntKind.u64.bits ((a:Nat):Int) ||| BitVec.ofInt IntKind.u64.bits ((b:Nat):Int)).toNat=a ||| b:=by
  rw[BitVec.toNat_or,BitVec.toNat_ofInt,BitVec.toNat_ofInt];have e1:(((a:Nat):Int)%((2 ^ IntKind.u64.bits:Nat):Int)).toNat=a:=by show (((a:Nat):Int)%18446744073709551616).toNat=a;omega
  have e2:(((b:Nat):Int)%((2 ^ IntKind.u64.bits:Nat):Int)).toNat=b:=by show (((b:Nat):Int)%18446744073709551616).toNat=b;omega
  rw[e1,e2]
 rw[e];have:=Nat.or_lt_two_pow (n:=64) ha hb;exact u64_in (by omega) (by omega)
theorem abj {a b:Nat} (ha:a<18446744073709551616) (hb:b<18446744073709551616):a ||| b<18446744073709551616:=Nat.or_lt_two_pow (n:=64) ha hb
theorem bh {a b c:Nat}:a ||| b ||| c=0↔a=0∧b=0∧c=0:=by
 refine⟨fun h=>?_,fun ⟨h1,h2,h3⟩=>by rw[h1,h2,h3];rfl⟩;have h1:=Nat.left_le_or (n:=a) (m:=b);have h2:=Nat.right_le_or (n:=a) (m:=b);have h3:=Nat.left_le_or (n:=a ||| b) (m:=c);have h4:=Nat.right_le_or (n:=a ||| b) (m:=c);omega
theorem abR (a m:Nat) (ha:a<zb) (hm:m<9223372036854775808):Fn Tryz.prog 61 [zf a,.int .i64 (m:Int)] Tr (Is (.bool (decide (m<a)))):=by
 have hp:=rI ha;have o1:=aaH (yg 1 a) (yg 2 a);have o2:=aaH (abj (yg 1 a) (yg 2 a)) (yg 3 a);have oz:=bh (a:=wd 1 a) (b:=wd 2 a) (c:=wd 3 a);have hcv:IntKind.u64.wrap (m:Int)=(m:Int):=u64_in (by omega) (by omega)
 by_cases hz:wd 1 a ||| wd 2 a ||| wd 3 a=0
 ·have hlt:=hp.2 (oz.1 hz);have w0:wd 0 a=a:=Nat.mod_eq_of_lt hlt;have d1:decide (((wd 1 a ||| wd 2 a ||| wd 3 a:Nat):Int)≠0)=false:=decide_eq_false (fun h=>h (by omega));have d2:decide ((m:Int)<((wd 0 a:Nat):Int))=decide (m<a):=by rw[w0];simp
  generalize wd 1 a ||| wd 2 a ||| wd 3 a=Z at *
  generalize wd 1 a ||| wd 2 a=Y at *
  refine Fn.enter Tryz.func61 rfl rfl rfl ?_;intro w hw
  repeat (first|refine Ta ?_|(refine Tm ?_;intro _)|refine WO.does (tS rfl rfl o1) ?_|refine WO.does (tS rfl rfl o2) ?_|refine Tc ?_|exact Tz)
  rw[d1]
  repeat (first|refine Ta ?_|(refine Tm ?_;intro _)|refine WO.does (zu rfl hcv) ?_|refine Tc ?_|exact Tz)
  rw[d2]
  repeat (first|refine Tw ?_|(refine Tm ?_;intro _)|exact Tz)
 ·have hge:¬ a<18446744073709551616:=fun h=>hz (oz.2 (hp.1 h));have d1:decide (((wd 1 a ||| wd 2 a ||| wd 3 a:Nat):Int)≠0)=true:=decide_eq_true (fun h=>hz (by omega));rw[show decide (m<a)=true from decide_eq_true (by omega)];generalize wd 1 a ||| wd 2 a ||| wd 3 a=Z at *
  generalize wd 1 a ||| wd 2 a=Y at *
  refine Fn.enter Tryz.func61 rfl rfl rfl ?_;intro w hw
  repeat (first|refine Ta ?_|(refine Tm ?_;intro _)|refine WO.does (tS rfl rfl o1) ?_|refine WO.does (tS rfl rfl o2) ?_|refine Tc ?_|exact Tz)
  rw[d1]
  repeat (first|refine Tw ?_|(refine Tm ?_;intro _)|exact Tz)
theorem zx {α:Type} {f:α→List Value} {k:Nat} (hk:∀ x,(f x).length=k):∀ {xs:List α} {i:Nat} {x:α},xs[i]?=some x→cut (xs.flatMap f) (i*k) k=f x
 | [],i,x,h=>by simp at h
 | y::r,0,x,h=>by
  simp at h;subst h;simp[cut,← hk y]
 | y::r,i+1,x,h=>by
  have:=zx hk (xs:=r) (i:=i) (x:=x) (by simpa using h);rw[← this];unfold cut;rw[List.flatMap_cons,show (i+1)*k=(f y).length+i*k by rw[hk,Nat.succ_mul];omega,← List.drop_drop,List.drop_left]
def ixI {α:Type} (P:α→Bool):List α→Int
 | []=>-1
 | x::r=>if P x then 0 else if ixI P r<0 then -1 else ixI P r+1
theorem fN {α:Type} (P:α→Bool):∀ xs:List α,0≤ixI P xs↔xs.any P=true
 | []=>by simp[ixI]
 | x::r=>by
  have ih:=fN P r;have e:ixI P (x::r)=if P x then 0 else if ixI P r<0 then -1 else ixI P r+1:=rfl
  by_cases h:P x=true
  ·have e2:ixI P (x::r)=0:=by rw[e,if_pos h]
   rw[e2,List.any_cons,h];simp
  ·have e2:ixI P (x::r)=if ixI P r<0 then -1 else ixI P r+1:=by rw[e,if_neg h]
   rw[e2,List.any_cons,show P x=false by simpa using h,Bool.false_or,← ih]
   split<;>omega
theorem db {α:Type} (P:α→Bool) (xs:List α):decide (0≤ixI P xs)=xs.any P :=
 Bool.eq_iff_iff.2 (by rw[decide_eq_true_iff];exact fN P xs)
theorem nj {α:Type} (P:α→Bool):∀ (xs:List α) (i:Nat),(∀ j,j<i→∀ x,xs[j]?=some x→P x=false)→ixI P xs=(if ixI P (xs.drop i)<0 then -1 else ixI P (xs.drop i)+i)
 | xs,0,_=>by
  simp only[List.drop_zero];have:ixI P xs = -1∨0≤ixI P xs:=by
   cases xs with
   | nil=>exact .inl rfl
   | cons x r => simp only [ixI]; split; · exact .inr (by decide)
                 split
                 ·exact .inl rfl
                 ·right;omega
  split<;>omega
 | [],i+1,_=>by simp[ixI]
 | x::r,i+1,h=>by
  have hx:=h 0 (by omega) x rfl;have ih:=nj P r i (fun j hj y hy=>h (j+1) (by omega) y (by simpa using hy));simp only[ixI,hx,List.drop_succ_cons,Bool.false_eq_true,if_false];rw[ih]
  split<;>split<;>omega
theorem aaJ {α:Type} (P:α→Bool) {xs:List α} {i:Nat} {x:α} (h0:∀ j,j<i→∀ x,xs[j]?=some x→P x=false) (hx:xs[i]?=some x) (hp:P x=true):ixI P xs=i:=by
 rw[nj P xs i h0];have hlt:i<xs.length:=by
  rcases Nat.lt_or_ge i xs.length with h|h
  ·exact h
  ·rw[List.getElem?_eq_none h] at hx;cases hx
 have:xs.drop i=x::xs.drop (i+1):=by
  rw[List.drop_eq_getElem_cons hlt];rw[List.getElem?_eq_getElem hlt] at hx;cases hx;rfl
 rw[this];simp[ixI,hp]
theorem jV {α:Type} (P:α→Bool) {xs:List α} (h0:∀ j,j<xs.length→∀ x,xs[j]?=some x→P x=false):ixI P xs = -1:=by
 rw[nj P xs xs.length h0];simp[ixI]
abbrev vm (k:Nat × Nat):List Value:=[.int .u64 ((wd 0 k.1:Nat):Int),.int .u64 ((wd 1 k.1:Nat):Int),.int .u64 ((wd 2 k.1:Nat):Int),.int .u64 ((wd 3 k.1:Nat):Int),.int .u64 ((wd 0 k.2:Nat):Int),.int .u64 ((wd 1 k.2:Nat):Int),.int .u64 ((wd 2 k.2:Nat):Int),.int .u64 ((wd 3 k.2:Nat):Int)]
abbrev ad1 (k:Nat × Nat):Value:=.agg #[.int .u64 ((wd 0 k.1:Nat):Int),.int .u64 ((wd 1 k.1:Nat):Int),.int .u64 ((wd 2 k.1:Nat):Int),.int .u64 ((wd 3 k.1:Nat):Int),.int .u64 ((wd 0 k.2:Nat):Int),.int .u64 ((wd 1 k.2:Nat):Int),.int .u64 ((wd 2 k.2:Nat):Int),.int .u64 ((wd 3 k.2:Nat):Int)]
theorem zy (x:Nat):(zc x).length=4:=rfl
theorem yo (k:Nat × Nat):(vm k).length=8:=rfl
theorem gM {f:Nat} [Cal Tryz.prog f] (caps:List Value) (Pb:Nat→Bool) (xs:List (Nat)) (b o c:Nat) (R:World→Prop) (hst:yu R) (hn:xs.length≤1099511627776)
  (hf:∀ x∈xs,Fn Tryz.prog f ([zf x]++caps) R (Is (.bool (Pb x)))) :
  Fn Tryz.prog 58 [.slice (some ⟨b,o,none⟩) xs.length c,.func (.func f) #[] caps.toArray] (fun w=>Seg w b o (xs.flatMap zc)∧R w) (Is (.int .i64 (ixI Pb xs))):=by
 refine Fn.enter Tryz.func58 rfl rfl rfl ?_;intro w hw;obtain⟨hw,hwR⟩:=hw
 repeat (first|refine Tw ?_|(refine Tm ?_;intro _)|exact Tz)
 refine WC.loopI (σ:=Nat) (fun i=>i≤xs.length∧∀ j,j<i→∀ x,xs[j]?=some x→Pb x=false) (fun i=>[(0,.slice (some ⟨b,o,none⟩) xs.length c),(1,.func (.func f) #[] caps.toArray),(7,.int .i64 (xs.length:Int)),(8,.int .i64 (i:Int))]) (fun _=>[]) (fun i=>xs.length - i) 0 (fun i hi=>?_) ⟨Nat.zero_le _,fun j hj=>by omega⟩
 try dsimp only at hi ⊢
 obtain⟨hi,h0⟩:=hi
 by_cases hlt:i<xs.length
 ·obtain⟨x,hx⟩ : ∃ x,xs[i]?=some x:=⟨_,List.getElem?_eq_getElem hlt⟩;have hcx:cut (xs.flatMap zc) (o+i*4 - o) 4=zc x:=by rw[Nat.add_sub_cancel_left];exact zx zy hx
  have hcall:=hf x (List.mem_of_getElem? hx);cases hp:Pb x with
  | true =>
   rw[aaJ Pb h0 hx hp];rw[hp] at hcall
   repeat (first|refine Tw ?_|(refine Tm ?_;intro _)|exact Tz)
   refine WC.dT rfl (by omega) ?_
   repeat (first|refine Ta ?_|(refine Tm ?_;intro _)|refine WO.does (za (o':=o+i*4) rfl rfl hlt rfl) ?_|refine WO.does (zk (vs:=zc x) (hs:=hw) (hle:=Nat.le_add_right _ _) (hc:=hcx)) ?_|refine WO.acallV (hc:=hcall) (hR:=fun w' hm=>hst _ _ hwR hm.mod.below) (k:=?_)|refine Tc ?_|exact Tz)
  | false =>
   rw[hp] at hcall
   repeat (first|refine Tw ?_|(refine Tm ?_;intro _)|exact Tz)
   refine WC.dT rfl (by omega) ?_
   repeat (first|refine Ta ?_|(refine Tm ?_;intro _)|refine WO.does (za (o':=o+i*4) rfl rfl hlt rfl) ?_|refine WO.does (zk (vs:=zc x) (hs:=hw) (hle:=Nat.le_add_right _ _) (hc:=hcx)) ?_|refine WO.acallV (hc:=hcall) (hR:=fun w' hm=>hst _ _ hwR hm.mod.below) (k:=?_)|refine Tc ?_|exact Tz)
   refine WX.metI (i+1) (hs:=⟨⟨by show i+1≤xs.length;omega,fun j hj y hy=>by
    rcases Nat.lt_or_ge j i with h|h
    ·exact h0 j h y hy
    ·have:j=i:=by omega
     subst this;rw[hx] at hy;cases hy;exact hp⟩,by show xs.length - (i+1)<xs.length - i;omega⟩)
 ·have hi2:i=xs.length:=by omega
  rw[jV Pb (by rw[← hi2];exact h0)]
  repeat (first|refine Tw ?_|(refine Tm ?_;intro _)|exact Tz)
  refine WC.dF rfl (by omega) ?_
  repeat (first|refine Tw ?_|(refine Tm ?_;intro _)|exact Tz)
theorem sE {f:Nat} [Cal Tryz.prog f] (caps:List Value) (Pb:Nat→Bool) (xs:List (Nat)) (b o c:Nat) (R:World→Prop) (hst:yu R) (hn:xs.length≤1099511627776)
  (hf:∀ x∈xs,Fn Tryz.prog f ([zf x]++caps) R (Is (.bool (Pb x)))) :
  Fn Tryz.prog 20 [.slice (some ⟨b,o,none⟩) xs.length c,.func (.func f) #[] caps.toArray] (fun w=>Seg w b o (xs.flatMap zc)∧R w) (Is (.bool (xs.any Pb))):=by
 have hI:=gM caps Pb xs b o c R hst hn hf;rw[← db];generalize ixI Pb xs=r at *;refine Fn.enter Tryz.func20 rfl rfl rfl ?_;intro w hw;obtain⟨hw,hwR⟩:=hw
 repeat (first|refine Ta ?_|(refine Tm ?_;intro _)|refine WO.acallR (hc:=hI) (hR:=fun w' hm=>⟨hw.mod hm.mod (by simp),hst _ _ hwR hm.mod.below⟩) (k:=?_)|refine Tc ?_|exact Tz)
theorem iU {f:Nat} [Cal Tryz.prog f] (caps:List Value) (Pb:Nat × Nat→Bool) (xs:List (Nat × Nat)) (b o c:Nat) (R:World→Prop) (hst:yu R) (hn:xs.length≤1099511627776)
  (hf:∀ x∈xs,Fn Tryz.prog f ([ad1 x]++caps) R (Is (.bool (Pb x)))) :
  Fn Tryz.prog 113 [.slice (some ⟨b,o,none⟩) xs.length c,.func (.func f) #[] caps.toArray] (fun w=>Seg w b o (xs.flatMap vm)∧R w) (Is (.int .i64 (ixI Pb xs))):=by
 refine Fn.enter Tryz.func113 rfl rfl rfl ?_;intro w hw;obtain⟨hw,hwR⟩:=hw
 repeat (first|refine Tw ?_|(refine Tm ?_;intro _)|exact Tz)
 refine WC.loopI (σ:=Nat) (fun i=>i≤xs.length∧∀ j,j<i→∀ x,xs[j]?=some x→Pb x=false) (fun i=>[(0,.slice (some ⟨b,o,none⟩) xs.length c),(1,.func (.func f) #[] caps.toArray),(7,.int .i64 (xs.length:Int)),(8,.int .i64 (i:Int))]) (fun _=>[]) (fun i=>xs.length - i) 0 (fun i hi=>?_) ⟨Nat.zero_le _,fun j hj=>by omega⟩
 try dsimp only at hi ⊢
 obtain⟨hi,h0⟩:=hi
 by_cases hlt:i<xs.length
 ·obtain⟨x,hx⟩ : ∃ x,xs[i]?=some x:=⟨_,List.getElem?_eq_getElem hlt⟩;have hcx:cut (xs.flatMap vm) (o+i*8 - o) 8=vm x:=by rw[Nat.add_sub_cancel_left];exact zx yo hx
  have hcall:=hf x (List.mem_of_getElem? hx);cases hp:Pb x with
  | true =>
   rw[aaJ Pb h0 hx hp];rw[hp] at hcall
   repeat (first|refine Tw ?_|(refine Tm ?_;intro _)|exact Tz)
   refine WC.dT rfl (by omega) ?_
   repeat (first|refine Ta ?_|(refine Tm ?_;intro _)|refine WO.does (za (o':=o+i*8) rfl rfl hlt rfl) ?_|refine WO.does (zk (vs:=vm x) (hs:=hw) (hle:=Nat.le_add_right _ _) (hc:=hcx)) ?_|refine WO.acallV (hc:=hcall) (hR:=fun w' hm=>hst _ _ hwR hm.mod.below) (k:=?_)|refine Tc ?_|exact Tz)
  | false =>
   rw[hp] at hcall
   repeat (first|refine Tw ?_|(refine Tm ?_;intro _)|exact Tz)
   refine WC.dT rfl (by omega) ?_
   repeat (first|refine Ta ?_|(refine Tm ?_;intro _)|refine WO.does (za (o':=o+i*8) rfl rfl hlt rfl) ?_|refine WO.does (zk (vs:=vm x) (hs:=hw) (hle:=Nat.le_add_right _ _) (hc:=hcx)) ?_|refine WO.acallV (hc:=hcall) (hR:=fun w' hm=>hst _ _ hwR hm.mod.below) (k:=?_)|refine Tc ?_|exact Tz)
   refine WX.metI (i+1) (hs:=⟨⟨by show i+1≤xs.length;omega,fun j hj y hy=>by
    rcases Nat.lt_or_ge j i with h|h
    ·exact h0 j h y hy
    ·have:j=i:=by omega
     subst this;rw[hx] at hy;cases hy;exact hp⟩,by show xs.length - (i+1)<xs.length - i;omega⟩)
 ·have hi2:i=xs.length:=by omega
  rw[jV Pb (by rw[← hi2];exact h0)]
  repeat (first|refine Tw ?_|(refine Tm ?_;intro _)|exact Tz)
  refine WC.dF rfl (by omega) ?_
  repeat (first|refine Tw ?_|(refine Tm ?_;intro _)|exact Tz)
theorem mg {f:Nat} [Cal Tryz.prog f] (caps:List Value) (Pb:Nat × Nat→Bool) (xs:List (Nat × Nat)) (b o c:Nat) (R:World→Prop) (hst:yu R) (hn:xs.length≤1099511627776)
  (hf:∀ x∈xs,Fn Tryz.prog f ([ad1 x]++caps) R (Is (.bool (Pb x)))) :
  Fn Tryz.prog 63 [.slice (some ⟨b,o,none⟩) xs.length c,.func (.func f) #[] caps.toArray] (fun w=>Seg w b o (xs.flatMap vm)∧R w) (Is (.bool (xs.any Pb))):=by
 have hI:=iU caps Pb xs b o c R hst hn hf;rw[← db];generalize ixI Pb xs=r at *;refine Fn.enter Tryz.func63 rfl rfl rfl ?_;intro w hw;obtain⟨hw,hwR⟩:=hw
 repeat (first|refine Ta ?_|(refine Tm ?_;intro _)|refine WO.acallR (hc:=hI) (hR:=fun w' hm=>⟨hw.mod hm.mod (by simp),hst _ _ hwR hm.mod.below⟩) (k:=?_)|refine Tc ?_|exact Tz)
def kB (p q a:Nat):Bool:=gIn p q a && decide (a≠1)
abbrev stC (p q g h:Nat) (f sec:Int) (ns:Value):List Value:=[.int .u64 ((wd 0 p:Nat):Int),.int .u64 ((wd 1 p:Nat):Int),.int .u64 ((wd 2 p:Nat):Int),.int .u64 ((wd 3 p:Nat):Int),.int .u64 ((wd 0 q:Nat):Int),.int .u64 ((wd 1 q:Nat):Int),.int .u64 ((wd 2 q:Nat):Int),.int .u64 ((wd 3 q:Nat):Int),.int .u64 ((wd 0 g:Nat):Int),.int .u64 ((wd 1 g:Nat):Int),.int .u64 ((wd 2 g:Nat):Int),.int .u64 ((wd 3 g:Nat):Int),.int .u64 ((wd 0 h:Nat):Int),.int .u64 ((wd 1 h:Nat):Int),.int .u64 ((wd 2 h:Nat):Int),.int .u64 ((wd 3 h:Nat):Int),.int .i64 f,.int .i64 sec,ns]
abbrev stV (p q g h:Nat) (f sec:Int) (ns:Value):Value:=.agg #[.int .u64 ((wd 0 p:Nat):Int),.int .u64 ((wd 1 p:Nat):Int),.int .u64 ((wd 2 p:Nat):Int),.int .u64 ((wd 3 p:Nat):Int),.int .u64 ((wd 0 q:Nat):Int),.int .u64 ((wd 1 q:Nat):Int),.int .u64 ((wd 2 q:Nat):Int),.int .u64 ((wd 3 q:Nat):Int),.int .u64 ((wd 0 g:Nat):Int),.int .u64 ((wd 1 g:Nat):Int),.int .u64 ((wd 2 g:Nat):Int),.int .u64 ((wd 3 g:Nat):Int),.int .u64 ((wd 0 h:Nat):Int),.int .u64 ((wd 1 h:Nat):Int),.int .u64 ((wd 2 h:Nat):Int),.int .u64 ((wd 3 h:Nat):Int),.int .i64 f,.int .i64 sec,ns]
section
variable (p q g h:Nat)
theorem dR (a gG:Nat) (ha:a<zb) (hp:p<zb) (hq:q<zb):Fn Tryz.prog 112 ([zf a]++[pt gG]) (fun w=>Seg w gG 0 (zR p q g h)) (Is (.bool (!kB p q a))):=by
 have hI:=qZ p q g h a ha hp hq;unfold kB;cases e:gIn p q a with
 | false =>
  rw[e] at hI;refine Fn.enter Tryz.func112 rfl rfl rfl ?_;intro w hw
  repeat (first|refine Ta ?_|(refine Tm ?_;intro _)|refine WO.acall (hc:=hI) (k:=?_)|refine Tc ?_|exact Tz)
 | true =>
  rw[e] at hI
  by_cases h1:a=1
  ·have d1:decide (a=1)=true:=decide_eq_true h1;rw[show (!(true && decide (a≠1)))=true by simp[h1]];refine Fn.enter Tryz.func112 rfl rfl rfl ?_;intro w hw
   repeat (first|refine Ta ?_|(refine Tm ?_;intro _)|refine WO.acall (hc:=hI) (k:=?_)|refine WO.does (zM (cs:=zc 1) rfl rfl rfl) ?_|refine WO.does zZ ?_|refine Tc ?_|exact Tz)
   rw[d1]
   repeat (first|refine Tw ?_|(refine Tm ?_;intro _)|exact Tz)
  ·have d1:decide (a=1)=false:=decide_eq_false h1;rw[show (!(true && decide (a≠1)))=false by simp[h1]];refine Fn.enter Tryz.func112 rfl rfl rfl ?_;intro w hw
   repeat (first|refine Ta ?_|(refine Tm ?_;intro _)|refine WO.acall (hc:=hI) (k:=?_)|refine WO.does (zM (cs:=zc 1) rfl rfl rfl) ?_|refine WO.does zZ ?_|refine Tc ?_|exact Tz)
   rw[d1]
   repeat (first|refine Tw ?_|(refine Tm ?_;intro _)|exact Tz)
theorem aaL (a c b:Nat) (ha:a<zb) (hc:c<zb) (hp:p<zb) (hq:q<zb):Fn Tryz.prog 62 [yd p q g h,.slice (some ⟨b,0,none⟩) 2 2] (fun w=>Seg w b 0 (zc a++zc c)) (Is (.bool (kB p q a && kB p q c))):=by
 have hC:=fun gG=>sE [pt gG] (fun x=>!kB p q x) [a,c] b 0 2 (fun w=>Seg w gG 0 (zR p q g h)) yu.seg (by simp) (f:=112) (fun x hx=>by
  simp only[List.mem_cons,List.not_mem_nil,or_false] at hx
  rcases hx with rfl|rfl
  ·exact dR p q g h _ gG ha hp hq
  ·exact dR p q g h _ gG hc hp hq)
 have e:[a,c].any (fun x=>!kB p q x) = !(kB p q a && kB p q c):=by simp[Bool.not_and]
 have e2:[a,c].flatMap zc=zc a++zc c:=rfl;rw[e,e2] at hC;generalize (kB p q a && kB p q c)=r at *;refine Fn.enter Tryz.func62 rfl rfl rfl ?_;intro w hw
 repeat (first|refine Ta ?_|(refine Tm ?_;intro _)|refine WO.acallR (hc:=hC _) (hR:=fun w' hm=>⟨hw.mod hm.mod (by simp),Hs.sg hm⟩) (k:=?_)|refine Tc ?_|exact Tz)
 rw[Bool.not_not]
 repeat (first|refine Tw ?_|(refine Tm ?_;intro _)|exact Tz)
theorem iS (f sec:Int) (ns:Value) (k:Nat × Nat) (gS:Nat) (h1:k.1<zb) (h2:k.2<zb) (hp:p<zb) (hq:q<zb):Fn Tryz.prog 64 ([ad1 k]++[pt gS]) (fun w=>Seg w gS 0 (stC p q g h f sec ns)) (Is (.bool (!(kB p q k.1 && kB p q k.2)))):=by
 have hK:=fun b=>aaL p q g h k.1 k.2 b h1 h2 hp hq;generalize (kB p q k.1 && kB p q k.2)=r at *;obtain⟨k1,k2⟩:=k;dsimp only at hK;refine Fn.enter Tryz.func64 rfl rfl rfl ?_;intro w hw
 repeat (first|refine Ta ?_|(refine Tm ?_;intro _)|(refine WO.makes (ze (cs:=zc k1++zc k2) rfl (by decide) rfl) ?_;intro _)|refine WO.acallR (hc:=hK _) (hR:=fun w' hm=>Hs.sg hm) (k:=?_)|refine Tc ?_|exact Tz)
end
def vT (p q g h:Nat) (f sec:Int) (N:List (Nat × Nat)):Bool :=
 decide (0≤f) && decide (f≤2) && decide (1≤sec) && decide (sec≤3) && decide (sec≤f+1) && decide (3*f+1≤(N.length:Int)) && decide ((N.length:Int)≤7) && decide ((N.length:Int)+sec<(q:Int)) && kB p q g && kB p q h && N.all (fun k=>kB p q k.1 && kB p q k.2)
def RdK (v:Value) (N:List (Nat × Nat)) (w:World):Prop :=
 ∃ pt c,v=.slice pt N.length c∧((pt=none∧N=[])∨∃ b o,pt=some ⟨b,o,none⟩∧Seg w b o (N.flatMap vm))
def vh (N:List (Nat × Nat)):Prop:=∀ k∈N,k.1<zb∧k.2<zb
theorem lj (p q g h:Nat) (f sec:Int) (pt:Option Addr) (c:Nat) (N:List (Nat × Nat)) (hp:p<zb) (hq:q<zb) (hg:g<zb) (hh:h<zb) (hN:vh N) (hNl:N.length≤1099511627776)
  (hf1 : -9223372036854775808≤f) (hf2:f≤9223372036854775807) (hs1 : -9223372036854775808≤sec) (hs2:sec≤9223372036854775807) :
  Fn Tryz.prog 27 [stV p q g h f sec (.slice pt N.length c)] (RdK (.slice pt N.length c) N) (Is (.bool (vT p q g h f sec N))):=by
 by_cases t1:f<0
 ·rw[show vT p q g h f sec N=false by simp[vT];omega];refine Fn.enter Tryz.func27 rfl rfl rfl ?_;intro w hw
  repeat (first|refine Td ?_|(refine Tm ?_;intro _)|refine Tc ?_|exact Tz)
 by_cases t2:2<f
 ·rw[show vT p q g h f sec N=false by simp[vT];omega];refine Fn.enter Tryz.func27 rfl rfl rfl ?_;intro w hw
  repeat (first|refine Td ?_|(refine Tm ?_;intro _)|refine Tc ?_|exact Tz)
 by_cases t3:sec<1
 ·rw[show vT p q g h f sec N=false by simp[vT];omega];refine Fn.enter Tryz.func27 rfl rfl rfl ?_;intro w hw
  repeat (first|refine Td ?_|(refine Tm ?_;intro _)|refine Tc ?_|exact Tz)
 obtain⟨M,hM⟩ : ∃ M:Int,(if f+1<3 then f+1 else 3)=M:=⟨_,rfl⟩;have hM2:M≤3∧M≤f+1∧(M=3∨M=f+1):=by split at hM<;>omega
 by_cases t4:M<sec
 ·rw[show vT p q g h f sec N=false by simp[vT];omega];refine Fn.enter Tryz.func27 rfl rfl rfl ?_;intro w hw
  repeat (first|refine Td ?_|(refine Tm ?_;intro _)|refine WO.does (uq rfl rfl hM) ?_|refine Tc ?_|exact Tz)
 by_cases t5:(N.length:Int)<3*f+1
 ·rw[show vT p q g h f sec N=false by simp[vT];omega];refine Fn.enter Tryz.func27 rfl rfl rfl ?_;intro w hw
  repeat (first|refine Td ?_|(refine Tm ?_;intro _)|refine WO.does (uq rfl rfl hM) ?_|refine Tc ?_|exact Tz)
 by_cases t6:7<(N.length:Int)
 ·rw[show vT p q g h f sec N=false by simp[vT];omega];refine Fn.enter Tryz.func27 rfl rfl rfl ?_;intro w hw
  repeat (first|refine Td ?_|(refine Tm ?_;intro _)|refine WO.does (uq rfl rfl hM) ?_|refine Tc ?_|exact Tz)
 obtain⟨m,hm⟩ : ∃ m:Nat,(m:Int)=(N.length:Int)+sec:=⟨((N.length:Int)+sec).toNat,by omega⟩;have hadd:IntKind.i64.wrap ((N.length:Int)+sec)=(m:Int):=zl (by omega) (by omega) (by omega);have hA:=abR q m hq (by omega);have hSB:vT p q g h f sec N=(decide (m<q) && (kB p q g && kB p q h) && N.all (fun k=>kB p q k.1 && kB p q k.2)):=by
  have e1:decide ((N.length:Int)+sec<(q:Int))=decide (m<q):=by rw[← hm];simp
  unfold vT;rw[e1,decide_eq_true (by omega:0≤f),decide_eq_true (by omega:f≤2),decide_eq_true (by omega:1≤sec),decide_eq_true (by omega:sec≤3),decide_eq_true (by omega:sec≤f+1),decide_eq_true (by omega:3*f+1≤(N.length:Int)),decide_eq_true (by omega:(N.length:Int)≤7)];simp only[Bool.true_and,Bool.and_assoc]
 rw[hSB];clear hSB;cases t7:decide (m<q) with
 | false =>
  rw[t7] at hA;clear t7;refine Fn.enter Tryz.func27 rfl rfl rfl ?_;intro w hw
  repeat (first|refine Td ?_|(refine Tm ?_;intro _)|refine WO.does (uq rfl rfl hM) ?_|refine WO.does (zh rfl rfl hadd) ?_|refine WO.acall (hc:=hA) (k:=?_)|refine Tc ?_|exact Tz)
 | true =>
 rw[t7] at hA;clear t7;have hK:=fun b=>aaL p q g h g h b hg hh hp hq;cases t8:(kB p q g && kB p q h) with
 | false =>
  rw[t8] at hK;clear t8;refine Fn.enter Tryz.func27 rfl rfl rfl ?_;intro w hw
  repeat (first|refine Td ?_|(refine Tm ?_;intro _)|refine WO.does (uq rfl rfl hM) ?_|refine WO.does (zh rfl rfl hadd) ?_|refine WO.acall (hc:=hA) (k:=?_)|(refine WO.makes (ze (cs:=zc g++zc h) rfl (by decide) rfl) ?_;intro _)|refine WO.acallR (hc:=hK _) (hR:=fun w' hm=>Hs.sg hm) (k:=?_)|refine Tc ?_|exact Tz)
 | true =>
 rw[t8] at hK;clear t8;have hC:=fun gS b o=>mg [Sx.pt gS] (fun k=>!(kB p q k.1 && kB p q k.2)) N b o c (fun w=>Seg w gS 0 (stC p q g h f sec (.slice (some ⟨b,o,none⟩) N.length c))) yu.seg hNl (f:=64) (fun k hk=>iS p q g h f sec _ k gS (hN k hk).1 (hN k hk).2 hp hq);have hall:N.any (fun k=>!(kB p q k.1 && kB p q k.2)) = !N.all (fun k=>kB p q k.1 && kB p q k.2):=List.not_all_eq_any_not .. |>.symm
 rw[hall] at hC;clear hall;generalize (N.all fun k=>kB p q k.1 && kB p q k.2)=r at *;refine Fn.enter Tryz.func27 rfl rfl rfl ?_;intro w hw;obtain⟨pt',c',e,hpc⟩:=hw;cases e
 rcases hpc with ⟨_,h0⟩|⟨b,o,rfl,hs⟩
 ·rw[h0] at t5;simp at t5;omega
 repeat (first|refine Td ?_|(refine Tm ?_;intro _)|refine WO.does (uq rfl rfl hM) ?_|refine WO.does (zh rfl rfl hadd) ?_|refine WO.acall (hc:=hA) (k:=?_)|(refine WO.makes (ze (cs:=zc g++zc h) rfl (by decide) rfl) ?_;intro _)|refine WO.acallR (hc:=hK _) (hR:=fun w' hm=>Hs.sg hm) (k:=?_)|refine WO.acallR (hc:=hC _ b o) (hR:=fun w' hm=>⟨hs.mod hm.mod (by simp),Hs.sg hm⟩) (k:=?_)|refine Tc ?_|exact Tz)
 rw[Bool.not_not]
 repeat (first|refine Td ?_|(refine Tm ?_;intro _)|refine Tc ?_|exact Tz)
end Sx
end
section
open Go Go.RowKit Go.BigFrame
namespace Sx
attribute [local irreducible] DQ DQS WC WO WX wd
theorem sV (a q:Nat):zD a a q=(decide (1<q) && decide (a<q)):=by
 unfold zD;cases decide (1<q)<;>cases decide (a<q)<;>rfl
section
variable (p q g h:Nat)
theorem qJ (a:Nat) (ha:a<zb) (hq:q<zb):Fn Tryz.prog 170 [yd p q g h,zf a] Tr (Is (.bool (zD a a q))):=by
 have hO:=jD p q g h a a ha ha hq;generalize zD a a q=b at *;generalize (a+a)%q=R at *;refine Fn.enter Tryz.func170 rfl rfl rfl ?_;intro w hw
 repeat (first|refine Ta ?_|(refine Tm ?_;intro _)|refine WO.acall (hc:=hO) (k:=?_)|refine Tc ?_|exact Tz)
 cases b<;>exact WX.aret1 (hp:=rfl)
theorem ax (a b:Nat) (ha:a<zb) (hb:b<zb) (hq:q<zb):Fn Tryz.prog 191 [yd p q g h,zf a,zf b] Tr (Is (zf (okV (zD a b q) ((a+b)%q)))):=by
 have hO:=jD p q g h a b ha hb hq;refine Fn.enter Tryz.func191 rfl rfl rfl ?_;intro w hw
 repeat (first|refine Ta ?_|(refine Tm ?_;intro _)|refine WO.acall (hc:=hO) (k:=?_)|refine Tc ?_|exact Tz)
theorem fX (a b:Nat) (ha:a<zb) (hb:b<zb) (hq:q<zb):Fn Tryz.prog 192 [yd p q g h,zf a,zf b] Tr (Is (zf (okV (zD a b q) (a*b%q)))):=by
 have hO:=aaD p q g h a b ha hb hq;refine Fn.enter Tryz.func192 rfl rfl rfl ?_;intro w hw
 repeat (first|refine Ta ?_|(refine Tm ?_;intro _)|refine WO.acall (hc:=hO) (k:=?_)|refine Tc ?_|exact Tz)
theorem jb (l:List Nat) (pt:Option Addr) (c:Nat) (hl:∀ x∈l,x<zb) (hn:l.length≤1099511627776) (hq:q<zb) :
  Fn Tryz.prog 106 [yd p q g h,.slice pt l.length c] (RdF zc (.slice pt l.length c) l) (Is (.bool (uE q l))):=by
 have h0:=qJ p q g h 0 zq hq;have hb:=fun x (hx:x<zb)=>qJ p q g h x hx hq
 by_cases h1:1<q
 ·rw[show zD 0 0 q=true by rw[sV];simp;omega] at h0;refine Fn.enter Tryz.func106 rfl rfl rfl ?_;intro w hw;obtain⟨pt',c',e,hpc⟩:=hw;cases e
  repeat (first|refine Ta ?_|(refine Tm ?_;intro _)|refine WO.acall (hc:=h0) (k:=?_)|refine Tc ?_|exact Tz)
  rename_i g2;refine WC.loopI (σ:=Nat) (fun i=>i≤l.length∧∀ j,j<i→∀ x,l[j]?=some x→decide (x<q)=true) (fun i=>[(1,.slice pt l.length c),(2,Sx.pt g2),(5,.int .i64 (i:Int))]) (fun i=>[⟨g2,26,zR p q g h⟩]) (fun i=>l.length - i) 0 (fun i hi=>?_) ⟨Nat.zero_le _,fun j hj=>by omega⟩
  try dsimp only at hi ⊢
  obtain⟨hi,hi2⟩:=hi
  by_cases hlt:i<l.length
  ·obtain⟨x,hx⟩ : ∃ x,l[i]?=some x:=⟨_,List.getElem?_eq_getElem hlt⟩
   rcases hpc with ⟨_,h0⟩|⟨b,o,rfl,hs⟩
   ·rw[h0] at hlt;simp at hlt
   have hadd2:IntKind.i64.wrap ((i:Int)+1)=((i+1:Nat):Int):=zl (by omega) (by omega) (by omega);have hcx:cut (l.flatMap zc) (o+i*4 - o) 4=zc x:=by rw[Nat.add_sub_cancel_left];exact zx zy hx
   have hbx:=hb x (hl x (List.mem_of_getElem? hx));rw[sV,decide_eq_true h1,Bool.true_and] at hbx
   repeat (first|refine Tw ?_|(refine Tm ?_;intro _)|exact Tz)
   refine WC.dT rfl (by omega) ?_;cases hxq:(decide (x<q):Bool) with
   | false =>
    rw[hxq] at hbx;have:uE q l=false:=abe hx hxq;rw[this]
    repeat (first|refine Tw ?_|(refine Tm ?_;intro _)|exact Tz)
    refine WC.adraw 6 (k:=?_)
    iterate 6 (first|refine Da ?_|refine DQ.does (fun s _=>za (o':=o+i*4) rfl rfl hlt rfl) Dp.const ?_|refine DQ.does (fun s _=>zk (vs:=zc x) (hs:=hs) (hle:=Nat.le_add_right _ _) (hc:=hcx)) Dp.const ?_|refine DQ.acall (hc:=hbx) (k:=?_)|refine Dc ?_)
    refine DQ.anil (k:=?_);intro sx _
    repeat (first|refine Tw ?_|(refine Tm ?_;intro _)|exact Tz)
    done
   | true =>
    rw[hxq] at hbx
    repeat (first|refine Tw ?_|(refine Tm ?_;intro _)|exact Tz)
    refine WC.adraw 6 (k:=?_)
    iterate 6 (first|refine Da ?_|refine DQ.does (fun s _=>za (o':=o+i*4) rfl rfl hlt rfl) Dp.const ?_|refine DQ.does (fun s _=>zk (vs:=zc x) (hs:=hs) (hle:=Nat.le_add_right _ _) (hc:=hcx)) Dp.const ?_|refine DQ.acall (hc:=hbx) (k:=?_)|refine Dc ?_)
    refine DQ.anil (k:=?_);intro sx _
    repeat (first|refine Ta ?_|(refine Tm ?_;intro _)|refine WO.does (zh rfl rfl hadd2) ?_|refine Tc ?_|exact Tz)
    exact WX.metI (i+1) (hs:=⟨⟨by show i+1≤l.length;omega,fun j hj y hy=>by
     rcases Nat.lt_or_ge j i with h|h
     ·exact hi2 j h y hy
     ·have:j=i:=by omega
      subst this;rw[hx] at hy;cases hy;exact hxq⟩,by show l.length - (i+1)<l.length - i;omega⟩)
  ·have hi3:i=l.length:=by omega
   have:uE q l=true:=aaa h1 (by rw[← hi3];exact hi2);rw[this]
   repeat (first|refine Tw ?_|(refine Tm ?_;intro _)|exact Tz)
   refine WC.dF rfl (by omega) ?_
   repeat (first|refine Tw ?_|(refine Tm ?_;intro _)|exact Tz)
   done
 ·rw[show zD 0 0 q=false by rw[sV,decide_eq_false h1];rfl] at h0;rw[show uE q l=false by unfold uE;rw[decide_eq_false h1];rfl];clear hb;refine Fn.enter Tryz.func106 rfl rfl rfl ?_;intro w hw
  repeat (first|refine Ta ?_|(refine Tm ?_;intro _)|refine WO.acall (hc:=h0) (k:=?_)|refine Tc ?_|exact Tz)
  done
end
section
variable (p q g h:Nat)
theorem lT (m:Nat) (hm:m<9223372036854775808) (hq:q<zb):Fn Tryz.prog 81 [yd p q g h,.int .i64 (m:Int)] Tr (Is (zf (ofZ q (m:Int)))):=by
 have hO:=aaQ m (by omega);have hcv:IntKind.u64.wrap (m:Int)=(m:Int):=u64_in (by omega) (by omega)
 by_cases h0:q=0
 ·subst h0;rw[aE];refine Fn.enter Tryz.func81 rfl rfl rfl ?_;intro w hw
  repeat (first|refine Tw ?_|(refine Tm ?_;intro _)|exact Tz)
  done
 ·have hD:=aZ m q (vE (by omega)) hq (by omega);rw[q8 q m (by omega)];generalize m / q=D at *;generalize hR:m%q=R at *;have d0:decide (q=0)=false:=decide_eq_false h0;refine Fn.enter Tryz.func81 rfl rfl rfl ?_;intro w hw
  repeat (first|refine Tw ?_|(refine Tm ?_;intro _)|exact Tz)
  rw[d0]
  repeat (first|refine Ta ?_|(refine Tm ?_;intro _)|refine WO.does (mS rfl rfl (by omega)) ?_|refine Tc ?_|exact Tz)
  refine WC.adrawF [8,9] 12 (k:=?_)
  repeat (first|refine Da ?_|refine DQ.acall (hc:=hO) (k:=?_)|refine DQ.does (fun s _=>zu rfl hcv) Dp.const ?_|refine DQ.acall (hc:=hD) (k:=?_)|refine Df ?_)
  refine DQ.anil (k:=?_);intro sx _
  repeat (first|refine Tw ?_|(refine Tm ?_;intro _)|exact Tz)
  done
end
section
variable (p q g h:Nat)
theorem er (l:List Nat) (pz:Option Addr) (c x:Nat) (hl:∀ a∈l,a<zb) (hn:l.length≤1099511627776) (hq:q<zb) (hx:x<zb) (hb1:uE q l=true) (hxq:x<q) :
  Fn Tryz.prog 141 [yd p q g h,.slice pz l.length c,zf x] (RdF zc (.slice pz l.length c) l) (Is (.tuple #[zf (y9 l x%q),.int .i64 0])):=by
 have hM1:=jb p q g h l pz c hl hn hq;have hM2:=qJ p q g h x hx hq;obtain⟨h1,hlq⟩:=uA hb1;rw[sV,decide_eq_true h1,decide_eq_true hxq] at hM2;rw[hb1] at hM1;have hOf:=lT p q g h 1 (by omega) hq;rw[q8 q 1 (by omega)] at hOf;have hT:=fun a b (ha:a<q) (hb:b<q)=>by
  have:=fX p q g h a b (Nat.lt_trans ha hq) (Nat.lt_trans hb hq) hq;rw[show zD a b q=true by simp[zD,h1,ha,hb]] at this;exact this
 have hP:=fun a b (ha:a<q) (hb:b<q)=>by
  have:=ax p q g h a b (Nat.lt_trans ha hq) (Nat.lt_trans hb hq) hq;rw[show zD a b q=true by simp[zD,h1,ha,hb]] at this;exact this
 refine Fn.enter Tryz.func141 rfl rfl rfl ?_;intro w hw;have hwK:=hw;obtain⟨pt',c',e,hpc⟩:=hw;cases e
 repeat (first|refine Ta ?_|(refine Tm ?_;intro _)|refine WO.acall (hc:=hM2) (k:=?_)|refine WO.acall (hc:=hOf) (k:=?_)|refine WO.acallR (hc:=hM1) (hR:=fun w hm=>hwK.mod hm.mod) (k:=?_)|refine Tc ?_|exact Tz)
 rename_i g3 g5 g6 g8 g9
 refine WC.loopI (σ:=Nat) (fun i=>i≤l.length) (fun i=>[(1,.slice pz l.length c),(3,Sx.pt g3),(5,Sx.pt g5),(6,Sx.pt g6),(8,Sx.pt g8),(9,Sx.pt g9),(10,.int .i64 (i:Int))])
  (fun i=>[⟨g9,24,zc (x ^ i%q)⟩,⟨g8,24,zc (y9 (l.take i) x%q)⟩,⟨g6,24,zc 0⟩,⟨g5,24,zc x⟩,⟨g3,26,zR p q g h⟩]) (fun i=>l.length - i) 0 (fun i hi=>?_) (Nat.zero_le _)
  (hl:=by simp only[Nat.pow_zero,List.take_zero,y9,Nat.zero_mod];repeat (first|exact Lle.nil|refine Lle.cons Pk.a (by rfl) ?_))
 try dsimp only at hi ⊢
 by_cases hlt:i<l.length
 ·obtain⟨y,hy⟩ : ∃ y,l[i]?=some y:=⟨_,List.getElem?_eq_getElem hlt⟩
  rcases hpc with ⟨_,h0⟩|⟨b,o,rfl,hs⟩
  ·rw[h0] at hlt;simp at hlt
  have hadd2:IntKind.i64.wrap ((i:Int)+1)=((i+1:Nat):Int):=zl (by omega) (by omega) (by omega);have hcx:cut (l.flatMap zc) (o+i*4 - o) 4=zc y:=by rw[Nat.add_sub_cancel_left];exact zx zy hy
  have hyq:=hlq y (List.mem_of_getElem? hy);have hpw:x ^ i%q<q:=Nat.mod_lt _ (by omega);have hou:y9 (l.take i) x%q<q:=Nat.mod_lt _ (by omega);have hT1:=hT y (x ^ i%q) hyq hpw;have hty:y*(x ^ i%q)%q<q:=Nat.mod_lt _ (by omega);have hP1:=hP (y9 (l.take i) x%q) (y*(x ^ i%q)%q) hou hty;have hT2:=hT (x ^ i%q) x hpw hxq;have hst:=iM q x (l.take i) y;rw[List.length_take,Nat.min_eq_left (Nat.le_of_lt hlt),show l.take i++[y]=l.take (i+1) by rw[List.take_add_one,hy];rfl] at hst;simp only[okV] at hT1 hP1 hT2;rw[hst] at hP1;rw[cI] at hT2;clear hT hP hst hlq hl hM1 hM2 hOf;generalize hX2:x ^ (i+1)%q=X2 at *;generalize hP2:y9 (l.take (i+1)) x%q=P2 at *;generalize x ^ i%q=X1 at *;generalize y9 (l.take i) x%q=P1 at *;generalize y*X1%q=Y1 at *
  repeat (first|refine Tw ?_|(refine Tm ?_;intro _)|exact Tz)
  refine WC.dT rfl (by omega) ?_
  repeat (first|refine Tw ?_|(refine Tm ?_;intro _)|exact Tz)
  refine WC.adraw 10 (k:=?_)
  iterate 10 (first|refine Da ?_|refine DQ.does (fun s _=>za (o':=o+i*4) rfl rfl hlt rfl) Dp.const ?_|refine DQ.does (fun s _=>zk (vs:=zc y) (hs:=hs) (hle:=Nat.le_add_right _ _) (hc:=hcx)) Dp.const ?_|refine DQ.acall (hc:=hT1) (k:=?_)|refine DQ.acall (hc:=hP1) (k:=?_)|refine Dc ?_)
  refine DQ.anil (k:=?_);intro sx _
  repeat (first|refine Ta ?_|(refine Tm ?_;intro _)|refine WO.acall (hc:=hT2) (k:=?_)|refine WO.does (zh rfl rfl hadd2) ?_|refine Tc ?_|exact Tz)
  subst hX2 hP2;exact WX.metI (i+1) (hs:=⟨by show i+1≤l.length;omega,by show l.length - (i+1)<l.length - i;omega⟩)
 ·have hi2:i=l.length:=by omega
  subst hi2;rw[List.take_length]
  repeat (first|refine Tw ?_|(refine Tm ?_;intro _)|exact Tz)
  refine WC.dF rfl (by omega) ?_
  repeat (first|refine Tw ?_|(refine Tm ?_;intro _)|exact Tz)
  done
end
end Sx
end
end Go.Proofs.YtbbppkkhidkjpaaGreatDoor
