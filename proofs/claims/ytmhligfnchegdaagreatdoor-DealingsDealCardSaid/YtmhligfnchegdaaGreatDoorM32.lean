/- Part 32 of the proof: RfX, DlA, TwA -/
import Derived.Test.YtmhligfnchegdaaGreatDoorM30
import Derived.Test.YtmhligfnchegdaaGreatDoorM31
import Derived.Test.YtmhligfnchegdaaGreatDoorM18
import Derived.Test.YtmhligfnchegdaaGreatDoorM25
set_option linter.unusedSimpArgs false
set_option linter.unusedVariables false
namespace Go.Proofs.YtmhligfnchegdaaGreatDoor
open Go Go.RowKit Go.BigFrame
namespace Sx
attribute [local irreducible] wd DQ DQS WO WC WX
section
variable (p q g h:Nat)
theorem r14_exponent (a:Nat) (ha:a<B256) (hq:q<B256):Fn Tryz.prog 132 [grpV p q g h,numV a] Tr (Is (.bool (mayN a a q))):=by
  have hO:=r9_Add p q g h a a ha ha hq
  generalize mayN a a q=b at *
  generalize (a+a)%q=R at *
  refine Fn.enter Tryz.func132 rfl rfl rfl ?_
  intro w hw
  repeat (first|refine Ta ?_|(refine Tm ?_;intro _)|refine WO.acall (hc:=hO) (k:=?_)|refine Tc ?_|exact Tz)
  cases b<;>exact WX.aret1 (hp:=rfl)
theorem r14_power (a n:Nat) (ha:a<B256) (hn:n<B256) (hp:p<B256):Fn Tryz.prog 135 [grpV p q g h,numV a,numV n] Tr (Is (numV (okV (gMay p a) (a ^ n%p)))):=by
  have hO:=r8_Exp p q g h a n ha hn hp
  refine Fn.enter Tryz.func135 rfl rfl rfl ?_
  intro w hw
  repeat (first|refine Ta ?_|(refine Tm ?_;intro _)|refine WO.acall (hc:=hO) (k:=?_)|refine Tc ?_|exact Tz)
abbrev sixC (x0 x1 x2 x3 x4 x5:Nat):List Value:=numC x0++(numC x1++(numC x2++(numC x3++(numC x4++numC x5))))
set_option maxHeartbeats 4000000 in
theorem r14_challenge (s:ByteArray) (x0 x1 x2 x3 x4 x5:Nat) (hq:q<B256) (h0:0<q) (hs:s.size≤68719476736) :
    Fn Tryz.prog 134 [grpV p q g h,.string s,.agg (sixC x0 x1 x2 x3 x4 x5).toArray] Tr
      (Is (numV (hNum q (strB s) [be 32 x0,be 32 x1,be 32 x2,be 32 x3,be 32 x4,be 32 x5]))):=by
  have hP:=fun x=>Fn.newZ (r_PutLong [] x 0 none (by decide))
  simp only[List.nil_append] at hP
  have hb:(hBytes (strB s) [be 32 x0,be 32 x1,be 32 x2,be 32 x3,be 32 x4,be 32 x5]).length≤137438953472:=by
    simp only[hBytes,hHead,hBody,List.flatMap_cons,List.flatMap_nil,List.length_append,be_length,strB_length,List.length_nil]
    omega
  have hl:∀ X∈[be 32 x0,be 32 x1,be 32 x2,be 32 x3,be 32 x4,be 32 x5],∀ x∈X,x<256:=by
    intro X hX
    simp only[List.mem_cons,List.not_mem_nil,or_false] at hX
    rcases hX with rfl|rfl|rfl|rfl|rfl|rfl<;>exact be_lt
  have hbl:∀ x,(byC (be 32 x)).length=32:=fun x=>by rw[byC_length,be_length]
  have hN:=fun p0 p1 p2 p3 p4 p5 c0 c1 c2 c3 c4 c5 gR C=>r6_Number q s [.slice (some ⟨p0,0,none⟩) 32 c0,.slice (some ⟨p1,0,none⟩) 32 c1,.slice (some ⟨p2,0,none⟩) 32 c2,.slice (some ⟨p3,0,none⟩) 32 c3,.slice (some ⟨p4,0,none⟩) 32 c4,.slice (some ⟨p5,0,none⟩) 32 c5] [be 32 x0,be 32 x1,be 32 x2,be 32 x3,be 32 x4,be 32 x5] gR 0 C hq h0 hl hb (by simp)
  generalize hNum q (strB s) [be 32 x0,be 32 x1,be 32 x2,be 32 x3,be 32 x4,be 32 x5]=R at *
  clear hb hl
  refine Fn.enter Tryz.func134 rfl rfl rfl ?_
  intro w hw
  repeat (first|refine WX.rounds ?_|refine WC.loopU 6 ?_|refine Ta ?_|(refine Tm ?_;intro _)|refine Tc ?_|exact Tz)
  refine WO.acallA (hc:=hP x0) (hR:=fun _ _=>Rd.nil) (hm:=hbl _) (k:=fun p0 c0 r0 hp0 hp0'=>?_)
  repeat (first|refine Ta ?_|(refine Tm ?_;intro _)|(refine WO.makes (makes_build (t:=113) (cs:=[_]) rfl (by decide) rfl) ?_;intro _)|refine Tc ?_|exact Tz)
  refine WO.news (app_new (z:=[Value.slice none 0 0]) (n:=1) rfl rfl (ys:=[]) Rds.nil rfl (Rds.own (m:=1) Hs.here rfl) rfl (by decide) (by decide) (by decide) (by decide) rfl) (fun x hx=>?_)
  obtain⟨hx1,hx2⟩:=hx
  generalize x 0=g0 at *
  generalize x 1=k0 at *
  rw[List.nil_append]
  have hd0:([Value.slice (some ⟨p0,0,none⟩) 32 c0]++mkz (k0 - (0+1)) [Value.slice none 0 0]).length=k0:=by rw[List.length_append,mkz_length];simp;omega
  have he0:=hx2
  generalize mkz (k0 - (0+1)) [Value.slice none 0 0]=t0 at *
  repeat (first|refine WX.rounds ?_|refine Ta ?_|(refine Tm ?_;intro _)|refine Tc ?_|exact Tz)
  refine WO.acallA (hc:=hP x1) (hR:=fun _ _=>Rd.nil) (hm:=hbl _) (k:=fun p1 c1 r1 hp1 hp1'=>?_)
  repeat (first|refine Ta ?_|(refine Tm ?_;intro _)|(refine WO.makes (makes_build (t:=113) (cs:=[_]) rfl (by decide) rfl) ?_;intro _)|refine Tc ?_|exact Tz)
  refine WO.appB (g:=g0) (z0:=Value.slice none 0 0) (xs:=[.slice (some ⟨p0,0,none⟩) 32 c0]) (r:=t0) (ys:=[.slice (some ⟨p1,0,none⟩) 32 c1]) (m:=1) (l:=2) rfl rfl rfl hd0 (by repeat (first|exact Pk.here|apply Pk.there)) (Rds.own (m:=1) Hs.here rfl) rfl rfl rfl (by decide) he0 (by decide) (by decide) (by decide) (fun g1 k1 t1 hd1 he1=>?_)
  repeat (first|refine WX.rounds ?_|refine Ta ?_|(refine Tm ?_;intro _)|refine Tc ?_|exact Tz)
  refine WO.acallA (hc:=hP x2) (hR:=fun _ _=>Rd.nil) (hm:=hbl _) (k:=fun p2 c2 r2 hp2 hp2'=>?_)
  repeat (first|refine Ta ?_|(refine Tm ?_;intro _)|(refine WO.makes (makes_build (t:=113) (cs:=[_]) rfl (by decide) rfl) ?_;intro _)|refine Tc ?_|exact Tz)
  refine WO.appB (g:=g1) (z0:=Value.slice none 0 0) (xs:=[.slice (some ⟨p0,0,none⟩) 32 c0,.slice (some ⟨p1,0,none⟩) 32 c1]) (r:=t1) (ys:=[.slice (some ⟨p2,0,none⟩) 32 c2]) (m:=1) (l:=3) rfl rfl rfl hd1 (by repeat (first|exact Pk.here|apply Pk.there)) (Rds.own (m:=1) Hs.here rfl) rfl rfl rfl (by decide) he1 (by decide) (by decide) (by decide) (fun g2 k2 t2 hd2 he2=>?_)
  repeat (first|refine WX.rounds ?_|refine Ta ?_|(refine Tm ?_;intro _)|refine Tc ?_|exact Tz)
  refine WO.acallA (hc:=hP x3) (hR:=fun _ _=>Rd.nil) (hm:=hbl _) (k:=fun p3 c3 r3 hp3 hp3'=>?_)
  repeat (first|refine Ta ?_|(refine Tm ?_;intro _)|(refine WO.makes (makes_build (t:=113) (cs:=[_]) rfl (by decide) rfl) ?_;intro _)|refine Tc ?_|exact Tz)
  refine WO.appB (g:=g2) (z0:=Value.slice none 0 0) (xs:=[.slice (some ⟨p0,0,none⟩) 32 c0,.slice (some ⟨p1,0,none⟩) 32 c1,.slice (some ⟨p2,0,none⟩) 32 c2]) (r:=t2) (ys:=[.slice (some ⟨p3,0,none⟩) 32 c3]) (m:=1) (l:=4) rfl rfl rfl hd2 (by repeat (first|exact Pk.here|apply Pk.there)) (Rds.own (m:=1) Hs.here rfl) rfl rfl rfl (by decide) he2 (by decide) (by decide) (by decide) (fun g3 k3 t3 hd3 he3=>?_)
  repeat (first|refine WX.rounds ?_|refine Ta ?_|(refine Tm ?_;intro _)|refine Tc ?_|exact Tz)
  refine WO.acallA (hc:=hP x4) (hR:=fun _ _=>Rd.nil) (hm:=hbl _) (k:=fun p4 c4 r4 hp4 hp4'=>?_)
  repeat (first|refine Ta ?_|(refine Tm ?_;intro _)|(refine WO.makes (makes_build (t:=113) (cs:=[_]) rfl (by decide) rfl) ?_;intro _)|refine Tc ?_|exact Tz)
  refine WO.appB (g:=g3) (z0:=Value.slice none 0 0) (xs:=[.slice (some ⟨p0,0,none⟩) 32 c0,.slice (some ⟨p1,0,none⟩) 32 c1,.slice (some ⟨p2,0,none⟩) 32 c2,.slice (some ⟨p3,0,none⟩) 32 c3]) (r:=t3) (ys:=[.slice (some ⟨p4,0,none⟩) 32 c4]) (m:=1) (l:=5) rfl rfl rfl hd3 (by repeat (first|exact Pk.here|apply Pk.there)) (Rds.own (m:=1) Hs.here rfl) rfl rfl rfl (by decide) he3 (by decide) (by decide) (by decide) (fun g4 k4 t4 hd4 he4=>?_)
  repeat (first|refine WX.rounds ?_|refine Ta ?_|(refine Tm ?_;intro _)|refine Tc ?_|exact Tz)
  refine WO.acallA (hc:=hP x5) (hR:=fun _ _=>Rd.nil) (hm:=hbl _) (k:=fun p5 c5 r5 hp5 hp5'=>?_)
  repeat (first|refine Ta ?_|(refine Tm ?_;intro _)|(refine WO.makes (makes_build (t:=113) (cs:=[_]) rfl (by decide) rfl) ?_;intro _)|refine Tc ?_|exact Tz)
  refine WO.appB (g:=g4) (z0:=Value.slice none 0 0) (xs:=[.slice (some ⟨p0,0,none⟩) 32 c0,.slice (some ⟨p1,0,none⟩) 32 c1,.slice (some ⟨p2,0,none⟩) 32 c2,.slice (some ⟨p3,0,none⟩) 32 c3,.slice (some ⟨p4,0,none⟩) 32 c4]) (r:=t4) (ys:=[.slice (some ⟨p5,0,none⟩) 32 c5]) (m:=1) (l:=6) rfl rfl rfl hd4 (by repeat (first|exact Pk.here|apply Pk.there)) (Rds.own (m:=1) Hs.here rfl) rfl rfl rfl (by decide) he4 (by decide) (by decide) (by decide) (fun g5 k5 t5 hd5 he5=>?_)
  repeat (first|refine WX.rounds ?_|refine Ta ?_|(refine Tm ?_;intro _)|refine Tc ?_|exact Tz)
  refine WO.acallR (hc:=hN p0 p1 p2 p3 p4 p5 c0 c1 c2 c3 c4 c5 g5 k5) (hR:=fun w1 hm=>⟨Seg.left (Hs.seg (by repeat (first|exact Hs.here|apply Hs.there)) hm),Parts.cons (RdP.own (g:=p0) (c:=c0) (X:=be 32 x0) (r:=r0) (t:=5) hm (by repeat (first|exact Hs.here|apply Hs.there)) (by rw[← hp0,List.length_append,byC_length];omega) hp0') (Parts.cons (RdP.own (g:=p1) (c:=c1) (X:=be 32 x1) (r:=r1) (t:=5) hm (by repeat (first|exact Hs.here|apply Hs.there)) (by rw[← hp1,List.length_append,byC_length];omega) hp1') (Parts.cons (RdP.own (g:=p2) (c:=c2) (X:=be 32 x2) (r:=r2) (t:=5) hm (by repeat (first|exact Hs.here|apply Hs.there)) (by rw[← hp2,List.length_append,byC_length];omega) hp2') (Parts.cons (RdP.own (g:=p3) (c:=c3) (X:=be 32 x3) (r:=r3) (t:=5) hm (by repeat (first|exact Hs.here|apply Hs.there)) (by rw[← hp3,List.length_append,byC_length];omega) hp3') (Parts.cons (RdP.own (g:=p4) (c:=c4) (X:=be 32 x4) (r:=r4) (t:=5) hm (by repeat (first|exact Hs.here|apply Hs.there)) (by rw[← hp4,List.length_append,byC_length];omega) hp4') (Parts.cons (RdP.own (g:=p5) (c:=c5) (X:=be 32 x5) (r:=r5) (t:=5) hm (by repeat (first|exact Hs.here|apply Hs.there)) (by rw[← hp5,List.length_append,byC_length];omega) hp5') (Parts.nil))))))⟩) (k:=?_)
  repeat (first|refine Ta ?_|(refine Tm ?_;intro _)|refine Tc ?_|exact Tz)
end
end Sx
end Go.Proofs.YtmhligfnchegdaaGreatDoor
namespace Go.Proofs.YtmhligfnchegdaaGreatDoor
open Go Go.RowKit Go.BigFrame
namespace Sx
attribute [local irreducible] DQ DQS WO WC WX
theorem or_u64 {a b:Nat} (ha:a<18446744073709551616) (hb:b<18446744073709551616):IntKind.u64.wrap (((BitVec.ofInt IntKind.u64.bits ((a:Nat):Int) ||| BitVec.ofInt IntKind.u64.bits ((b:Nat):Int)).toNat:Nat):Int)=((a ||| b:Nat):Int):=by
  have e:(BitVec.ofInt IntKind.u64.bits ((a:Nat):Int) ||| BitVec.ofInt IntKind.u64.bits ((b:Nat):Int)).toNat=a ||| b:=by
    rw[BitVec.toNat_or,BitVec.toNat_ofInt,BitVec.toNat_ofInt]
    have e1:(((a:Nat):Int)%((2 ^ IntKind.u64.bits:Nat):Int)).toNat=a:=by show (((a:Nat):Int)%18446744073709551616).toNat=a;omega
    have e2:(((b:Nat):Int)%((2 ^ IntKind.u64.bits:Nat):Int)).toNat=b:=by show (((b:Nat):Int)%18446744073709551616).toNat=b;omega
    rw[e1,e2]
  rw[e]
  have:=Nat.or_lt_two_pow (n:=64) ha hb
  exact u64_in (by omega) (by omega)
theorem or_lt64 {a b:Nat} (ha:a<18446744073709551616) (hb:b<18446744073709551616):a ||| b<18446744073709551616:=Nat.or_lt_two_pow (n:=64) ha hb
theorem or3_zero {a b c:Nat}:a ||| b ||| c=0↔a=0∧b=0∧c=0:=by
  refine⟨fun h=>?_,fun ⟨h1,h2,h3⟩=>by rw[h1,h2,h3];rfl⟩
  have h1:=Nat.left_le_or (n:=a) (m:=b)
  have h2:=Nat.right_le_or (n:=a) (m:=b)
  have h3:=Nat.left_le_or (n:=a ||| b) (m:=c)
  have h4:=Nat.right_le_or (n:=a ||| b) (m:=c)
  omega
theorem c_above (a m:Nat) (ha:a<B256) (hm:m<9223372036854775808):Fn Tryz.prog 43 [numV a,.int .i64 (m:Int)] Tr (Is (.bool (decide (m<a)))):=by
  have hp:=word_parts ha
  have o1:=or_u64 (wd_lt 1 a) (wd_lt 2 a)
  have o2:=or_u64 (or_lt64 (wd_lt 1 a) (wd_lt 2 a)) (wd_lt 3 a)
  have oz:=or3_zero (a:=wd 1 a) (b:=wd 2 a) (c:=wd 3 a)
  have hcv:IntKind.u64.wrap (m:Int)=(m:Int):=u64_in (by omega) (by omega)
  by_cases hz:wd 1 a ||| wd 2 a ||| wd 3 a=0
  · have hlt:=hp.2 (oz.1 hz)
    have w0:wd 0 a=a:=Nat.mod_eq_of_lt hlt
    have d1:decide (((wd 1 a ||| wd 2 a ||| wd 3 a:Nat):Int)≠0)=false:=decide_eq_false (fun h=>h (by omega))
    have d2:decide ((m:Int)<((wd 0 a:Nat):Int))=decide (m<a):=by rw[w0];simp
    generalize wd 1 a ||| wd 2 a ||| wd 3 a=Z at *
    generalize wd 1 a ||| wd 2 a=Y at *
    refine Fn.enter Tryz.func43 rfl rfl rfl ?_
    intro w hw
    repeat (first|refine Ta ?_|(refine Tm ?_;intro _)|refine WO.does (does_or rfl rfl o1) ?_|refine WO.does (does_or rfl rfl o2) ?_|refine Tc ?_|exact Tz)
    rw[d1]
    repeat (first|refine Ta ?_|(refine Tm ?_;intro _)|refine WO.does (does_conv rfl hcv) ?_|refine Tc ?_|exact Tz)
    rw[d2]
    repeat (first|refine Ta ?_|(refine Tm ?_;intro _)|refine Tc ?_|exact Tz)
  · have hge:¬ a<18446744073709551616:=fun h=>hz (oz.2 (hp.1 h))
    have d1:decide (((wd 1 a ||| wd 2 a ||| wd 3 a:Nat):Int)≠0)=true:=decide_eq_true (fun h=>hz (by omega))
    rw[show decide (m<a)=true from decide_eq_true (by omega)]
    generalize wd 1 a ||| wd 2 a ||| wd 3 a=Z at *
    generalize wd 1 a ||| wd 2 a=Y at *
    refine Fn.enter Tryz.func43 rfl rfl rfl ?_
    intro w hw
    repeat (first|refine Ta ?_|(refine Tm ?_;intro _)|refine WO.does (does_or rfl rfl o1) ?_|refine WO.does (does_or rfl rfl o2) ?_|refine Tc ?_|exact Tz)
    rw[d1]
    repeat (first|refine Ta ?_|(refine Tm ?_;intro _)|refine Tc ?_|exact Tz)
theorem cut_flat {α:Type} {f:α→List Value} {k:Nat} (hk:∀ x,(f x).length=k):∀ {xs:List α} {i:Nat} {x:α},xs[i]?=some x→cut (xs.flatMap f) (i*k) k=f x
  | [],i,x,h=>by simp at h
  | y::r,0,x,h=>by
    simp at h;subst h
    simp[cut,← hk y]
  | y::r,i+1,x,h=>by
    have:=cut_flat hk (xs:=r) (i:=i) (x:=x) (by simpa using h)
    rw[← this]
    unfold cut
    rw[List.flatMap_cons,show (i+1)*k=(f y).length+i*k by rw[hk,Nat.succ_mul];omega,← List.drop_drop,List.drop_left]
def ixI {α:Type} (P:α→Bool):List α→Int
  | []=>-1
  | x::r=>if P x then 0 else if ixI P r<0 then -1 else ixI P r+1
theorem ixI_iff {α:Type} (P:α→Bool):∀ xs:List α,0≤ixI P xs↔xs.any P=true
  | []=>by simp[ixI]
  | x::r=>by
    have ih:=ixI_iff P r
    have e:ixI P (x::r)=if P x then 0 else if ixI P r<0 then -1 else ixI P r+1:=rfl
    by_cases h:P x=true
    · have e2:ixI P (x::r)=0:=by rw[e,if_pos h]
      rw[e2,List.any_cons,h];simp
    · have e2:ixI P (x::r)=if ixI P r<0 then -1 else ixI P r+1:=by rw[e,if_neg h]
      rw[e2,List.any_cons,show P x=false by simpa using h,Bool.false_or,← ih]
      split<;>omega
theorem ixI_any {α:Type} (P:α→Bool) (xs:List α):decide (0≤ixI P xs)=xs.any P :=
  Bool.eq_iff_iff.2 (by rw[decide_eq_true_iff];exact ixI_iff P xs)
theorem ixI_drop {α:Type} (P:α→Bool):∀ (xs:List α) (i:Nat),(∀ j,j<i→∀ x,xs[j]?=some x→P x=false)→ixI P xs=(if ixI P (xs.drop i)<0 then -1 else ixI P (xs.drop i)+i)
  | xs,0,_=>by
    simp only[List.drop_zero]
    have:ixI P xs = -1∨0≤ixI P xs:=by
      cases xs with
      | nil=>exact .inl rfl
      | cons x r => simp only [ixI]; split; · exact .inr (by decide)
                    split
                    · exact .inl rfl
                    · right;omega
    split<;>omega
  | [],i+1,_=>by simp[ixI]
  | x::r,i+1,h=>by
    have hx:=h 0 (by omega) x rfl
    have ih:=ixI_drop P r i (fun j hj y hy=>h (j+1) (by omega) y (by simpa using hy))
    simp only[ixI,hx,List.drop_succ_cons,Bool.false_eq_true,if_false]
    rw[ih]
    split<;>split<;>omega
theorem ixI_at {α:Type} (P:α→Bool) {xs:List α} {i:Nat} {x:α} (h0:∀ j,j<i→∀ x,xs[j]?=some x→P x=false) (hx:xs[i]?=some x) (hp:P x=true):ixI P xs=i:=by
  rw[ixI_drop P xs i h0]
  have hlt:i<xs.length:=by
    rcases Nat.lt_or_ge i xs.length with h|h
    · exact h
    · rw[List.getElem?_eq_none h] at hx;cases hx
  have:xs.drop i=x::xs.drop (i+1):=by
    rw[List.drop_eq_getElem_cons hlt]
    rw[List.getElem?_eq_getElem hlt] at hx
    cases hx;rfl
  rw[this]
  simp[ixI,hp]
theorem ixI_none {α:Type} (P:α→Bool) {xs:List α} (h0:∀ j,j<xs.length→∀ x,xs[j]?=some x→P x=false):ixI P xs = -1:=by
  rw[ixI_drop P xs xs.length h0];simp[ixI]
abbrev keyC (k:Nat × Nat):List Value:=[.int .u64 ((wd 0 k.1:Nat):Int),.int .u64 ((wd 1 k.1:Nat):Int),.int .u64 ((wd 2 k.1:Nat):Int),.int .u64 ((wd 3 k.1:Nat):Int),.int .u64 ((wd 0 k.2:Nat):Int),.int .u64 ((wd 1 k.2:Nat):Int),.int .u64 ((wd 2 k.2:Nat):Int),.int .u64 ((wd 3 k.2:Nat):Int)]
abbrev keyV (k:Nat × Nat):Value:=.agg #[.int .u64 ((wd 0 k.1:Nat):Int),.int .u64 ((wd 1 k.1:Nat):Int),.int .u64 ((wd 2 k.1:Nat):Int),.int .u64 ((wd 3 k.1:Nat):Int),.int .u64 ((wd 0 k.2:Nat):Int),.int .u64 ((wd 1 k.2:Nat):Int),.int .u64 ((wd 2 k.2:Nat):Int),.int .u64 ((wd 3 k.2:Nat):Int)]
theorem numC_len (x:Nat):(numC x).length=4:=rfl
theorem keyC_len (k:Nat × Nat):(keyC k).length=8:=rfl
set_option maxHeartbeats 1000000 in
theorem c_IndexNum {f:Nat} [Cal Tryz.prog f] (caps:List Value) (Pb:Nat→Bool) (xs:List (Nat)) (b o c:Nat) (R:World→Prop) (hst:Stable R) (hn:xs.length≤1099511627776)
    (hf:∀ x∈xs,Fn Tryz.prog f ([numV x]++caps) R (Is (.bool (Pb x)))) :
    Fn Tryz.prog 222 [.slice (some ⟨b,o,none⟩) xs.length c,.func (.func f) #[] caps.toArray] (fun w=>Seg w b o (xs.flatMap numC)∧R w) (Is (.int .i64 (ixI Pb xs))):=by
  refine Fn.enter Tryz.func222 rfl rfl rfl ?_
  intro w hw
  obtain⟨hw,hwR⟩:=hw
  repeat (first|refine Ta ?_|(refine Tm ?_;intro _)|refine Tc ?_|exact Tz)
  refine WC.loopI (σ:=Nat) (fun i=>i≤xs.length∧∀ j,j<i→∀ x,xs[j]?=some x→Pb x=false) (fun i=>[(0,.slice (some ⟨b,o,none⟩) xs.length c),(1,.func (.func f) #[] caps.toArray),(7,.int .i64 (xs.length:Int)),(8,.int .i64 (i:Int))]) (fun _=>[]) (fun i=>xs.length - i) 0 (fun i hi=>?_) ⟨Nat.zero_le _,fun j hj=>by omega⟩
  try dsimp only at hi ⊢
  obtain⟨hi,h0⟩:=hi
  by_cases hlt:i<xs.length
  · obtain⟨x,hx⟩ : ∃ x,xs[i]?=some x:=⟨_,List.getElem?_eq_getElem hlt⟩
    have hcx:cut (xs.flatMap numC) (o+i*4 - o) 4=numC x:=by rw[Nat.add_sub_cancel_left];exact cut_flat numC_len hx
    have hcall:=hf x (List.mem_of_getElem? hx)
    cases hp:Pb x with
    | true =>
      rw[ixI_at Pb h0 hx hp]
      rw[hp] at hcall
      repeat (first|refine Ta ?_|(refine Tm ?_;intro _)|refine Tc ?_|exact Tz)
      refine WC.dT rfl (by omega) ?_
      repeat (first|refine Ta ?_|(refine Tm ?_;intro _)|refine WO.does (does_indexSlice (o':=o+i*4) rfl rfl hlt rfl) ?_|refine WO.does (a_loadF (vs:=numC x) (hs:=hw) (hle:=Nat.le_add_right _ _) (hc:=hcx)) ?_|refine WO.acallV (hc:=hcall) (hR:=fun w' hm=>hst _ _ hwR hm.mod.below) (k:=?_)|refine Tc ?_|exact Tz)
    | false =>
      rw[hp] at hcall
      repeat (first|refine Ta ?_|(refine Tm ?_;intro _)|refine Tc ?_|exact Tz)
      refine WC.dT rfl (by omega) ?_
      repeat (first|refine Ta ?_|(refine Tm ?_;intro _)|refine WO.does (does_indexSlice (o':=o+i*4) rfl rfl hlt rfl) ?_|refine WO.does (a_loadF (vs:=numC x) (hs:=hw) (hle:=Nat.le_add_right _ _) (hc:=hcx)) ?_|refine WO.acallV (hc:=hcall) (hR:=fun w' hm=>hst _ _ hwR hm.mod.below) (k:=?_)|refine Tc ?_|exact Tz)
      refine WX.metI (i+1) (hs:=⟨⟨by show i+1≤xs.length;omega,fun j hj y hy=>by
        rcases Nat.lt_or_ge j i with h|h
        · exact h0 j h y hy
        · have:j=i:=by omega
          subst this
          rw[hx] at hy;cases hy;exact hp⟩,by show xs.length - (i+1)<xs.length - i;omega⟩)
  · have hi2:i=xs.length:=by omega
    rw[ixI_none Pb (by rw[← hi2];exact h0)]
    repeat (first|refine Ta ?_|(refine Tm ?_;intro _)|refine Tc ?_|exact Tz)
    refine WC.dF rfl (by omega) ?_
    repeat (first|refine Ta ?_|(refine Tm ?_;intro _)|refine Tc ?_|exact Tz)
theorem c_ContainsNum {f:Nat} [Cal Tryz.prog f] (caps:List Value) (Pb:Nat→Bool) (xs:List (Nat)) (b o c:Nat) (R:World→Prop) (hst:Stable R) (hn:xs.length≤1099511627776)
    (hf:∀ x∈xs,Fn Tryz.prog f ([numV x]++caps) R (Is (.bool (Pb x)))) :
    Fn Tryz.prog 139 [.slice (some ⟨b,o,none⟩) xs.length c,.func (.func f) #[] caps.toArray] (fun w=>Seg w b o (xs.flatMap numC)∧R w) (Is (.bool (xs.any Pb))):=by
  have hI:=c_IndexNum caps Pb xs b o c R hst hn hf
  rw[← ixI_any]
  generalize ixI Pb xs=r at *
  refine Fn.enter Tryz.func139 rfl rfl rfl ?_
  intro w hw
  obtain⟨hw,hwR⟩:=hw
  repeat (first|refine Ta ?_|(refine Tm ?_;intro _)|refine WO.acallR (hc:=hI) (hR:=fun w' hm=>⟨hw.mod hm.mod (by simp),hst _ _ hwR hm.mod.below⟩) (k:=?_)|refine Tc ?_|exact Tz)
set_option maxHeartbeats 1000000 in
theorem c_IndexKey {f:Nat} [Cal Tryz.prog f] (caps:List Value) (Pb:Nat × Nat→Bool) (xs:List (Nat × Nat)) (b o c:Nat) (R:World→Prop) (hst:Stable R) (hn:xs.length≤1099511627776)
    (hf:∀ x∈xs,Fn Tryz.prog f ([keyV x]++caps) R (Is (.bool (Pb x)))) :
    Fn Tryz.prog 142 [.slice (some ⟨b,o,none⟩) xs.length c,.func (.func f) #[] caps.toArray] (fun w=>Seg w b o (xs.flatMap keyC)∧R w) (Is (.int .i64 (ixI Pb xs))):=by
  refine Fn.enter Tryz.func142 rfl rfl rfl ?_
  intro w hw
  obtain⟨hw,hwR⟩:=hw
  repeat (first|refine Ta ?_|(refine Tm ?_;intro _)|refine Tc ?_|exact Tz)
  refine WC.loopI (σ:=Nat) (fun i=>i≤xs.length∧∀ j,j<i→∀ x,xs[j]?=some x→Pb x=false) (fun i=>[(0,.slice (some ⟨b,o,none⟩) xs.length c),(1,.func (.func f) #[] caps.toArray),(7,.int .i64 (xs.length:Int)),(8,.int .i64 (i:Int))]) (fun _=>[]) (fun i=>xs.length - i) 0 (fun i hi=>?_) ⟨Nat.zero_le _,fun j hj=>by omega⟩
  try dsimp only at hi ⊢
  obtain⟨hi,h0⟩:=hi
  by_cases hlt:i<xs.length
  · obtain⟨x,hx⟩ : ∃ x,xs[i]?=some x:=⟨_,List.getElem?_eq_getElem hlt⟩
    have hcx:cut (xs.flatMap keyC) (o+i*8 - o) 8=keyC x:=by rw[Nat.add_sub_cancel_left];exact cut_flat keyC_len hx
    have hcall:=hf x (List.mem_of_getElem? hx)
    cases hp:Pb x with
    | true =>
      rw[ixI_at Pb h0 hx hp]
      rw[hp] at hcall
      repeat (first|refine Ta ?_|(refine Tm ?_;intro _)|refine Tc ?_|exact Tz)
      refine WC.dT rfl (by omega) ?_
      repeat (first|refine Ta ?_|(refine Tm ?_;intro _)|refine WO.does (does_indexSlice (o':=o+i*8) rfl rfl hlt rfl) ?_|refine WO.does (a_loadF (vs:=keyC x) (hs:=hw) (hle:=Nat.le_add_right _ _) (hc:=hcx)) ?_|refine WO.acallV (hc:=hcall) (hR:=fun w' hm=>hst _ _ hwR hm.mod.below) (k:=?_)|refine Tc ?_|exact Tz)
    | false =>
      rw[hp] at hcall
      repeat (first|refine Ta ?_|(refine Tm ?_;intro _)|refine Tc ?_|exact Tz)
      refine WC.dT rfl (by omega) ?_
      repeat (first|refine Ta ?_|(refine Tm ?_;intro _)|refine WO.does (does_indexSlice (o':=o+i*8) rfl rfl hlt rfl) ?_|refine WO.does (a_loadF (vs:=keyC x) (hs:=hw) (hle:=Nat.le_add_right _ _) (hc:=hcx)) ?_|refine WO.acallV (hc:=hcall) (hR:=fun w' hm=>hst _ _ hwR hm.mod.below) (k:=?_)|refine Tc ?_|exact Tz)
      refine WX.metI (i+1) (hs:=⟨⟨by show i+1≤xs.length;omega,fun j hj y hy=>by
        rcases Nat.lt_or_ge j i with h|h
        · exact h0 j h y hy
        · have:j=i:=by omega
          subst this
          rw[hx] at hy;cases hy;exact hp⟩,by show xs.length - (i+1)<xs.length - i;omega⟩)
  · have hi2:i=xs.length:=by omega
    rw[ixI_none Pb (by rw[← hi2];exact h0)]
    repeat (first|refine Ta ?_|(refine Tm ?_;intro _)|refine Tc ?_|exact Tz)
    refine WC.dF rfl (by omega) ?_
    repeat (first|refine Ta ?_|(refine Tm ?_;intro _)|refine Tc ?_|exact Tz)
theorem c_ContainsKey {f:Nat} [Cal Tryz.prog f] (caps:List Value) (Pb:Nat × Nat→Bool) (xs:List (Nat × Nat)) (b o c:Nat) (R:World→Prop) (hst:Stable R) (hn:xs.length≤1099511627776)
    (hf:∀ x∈xs,Fn Tryz.prog f ([keyV x]++caps) R (Is (.bool (Pb x)))) :
    Fn Tryz.prog 45 [.slice (some ⟨b,o,none⟩) xs.length c,.func (.func f) #[] caps.toArray] (fun w=>Seg w b o (xs.flatMap keyC)∧R w) (Is (.bool (xs.any Pb))):=by
  have hI:=c_IndexKey caps Pb xs b o c R hst hn hf
  rw[← ixI_any]
  generalize ixI Pb xs=r at *
  refine Fn.enter Tryz.func45 rfl rfl rfl ?_
  intro w hw
  obtain⟨hw,hwR⟩:=hw
  repeat (first|refine Ta ?_|(refine Tm ?_;intro _)|refine WO.acallR (hc:=hI) (hR:=fun w' hm=>⟨hw.mod hm.mod (by simp),hst _ _ hwR hm.mod.below⟩) (k:=?_)|refine Tc ?_|exact Tz)
end Sx
end Go.Proofs.YtmhligfnchegdaaGreatDoor
namespace Go.Proofs.YtmhligfnchegdaaGreatDoor
open Go Go.RowKit Go.BigFrame
namespace Sx
attribute [local irreducible] wd DQ DQS WO WC WX
abbrev pfC (k:Nat × Nat):List Value:=twoC k.1 k.2
theorem pfC_len (k:Nat × Nat):(pfC k).length=8:=rfl
set_option maxHeartbeats 2000000
theorem t_TwinNums (xs:List (Nat)) (pt:Option Addr) (c:Nat) (hn:xs.length≤100) :
    Fn Tryz.prog 6 [.slice pt xs.length c] (RdF numC (.slice pt xs.length c) xs) (NewC 24 xs.length (xs.length+1) (xs.flatMap numC++(numC 77))):=by
  have hadd:IntKind.i64.wrap ((xs.length:Int)+1)=((xs.length+1:Nat):Int):=i64_in' (by omega) (by omega) (by omega)
  refine Fn.enter Tryz.func6 rfl rfl rfl ?_
  intro w hw
  obtain⟨pt',c',e,hpc⟩:=hw
  cases e
  repeat (first|refine Ta ?_|(refine Tm ?_;intro _)|refine WO.does (does_add rfl rfl hadd) ?_|(refine WO.makes (makes_slice (l:=0) (c:=xs.length+1) rfl rfl (by omega) (by omega) (by omega)) ?_;intro g)|refine Tc ?_|exact Tz)
  refine WC.loopI (σ:=Nat) (fun i=>i≤xs.length) (fun i=>[(0,.slice pt xs.length c),(3,.slice (some ⟨g,0,none⟩) i (xs.length+1)),(4,.int .i64 (i:Int))]) (fun i=>[⟨g,24,(xs.take i).flatMap numC++mkz (xs.length+1 - i) (numC 0)⟩]) (fun i=>xs.length - i) 0 (fun i hi=>?_) (Nat.zero_le _)
  try dsimp only at hi ⊢
  by_cases hlt:i<xs.length
  · obtain⟨x,hx⟩ : ∃ x,xs[i]?=some x:=⟨_,List.getElem?_eq_getElem hlt⟩
    rcases hpc with ⟨_,h0⟩|⟨b,o,rfl,hs⟩
    · rw[h0] at hlt;simp at hlt
    have hadd2:IntKind.i64.wrap ((i:Int)+1)=((i+1:Nat):Int):=i64_in' (by omega) (by omega) (by omega)
    have hcx:cut (xs.flatMap numC) (o+i*4 - o) 4=numC x:=by rw[Nat.add_sub_cancel_left];exact cut_flat numC_len hx
    have hov:=over_twin (f:=numC) (z:=numC 0) (m:=xs.length+1 - i) numC_len rfl hx (by omega)
    rw[show xs.length+1 - i - 1=xs.length+1 - (i+1) by omega] at hov
    have hle:i*(numC 0).length+(numC x).length≤((xs.take i).flatMap numC++mkz (xs.length+1 - i) (numC 0)).length:=by
      rw[List.length_append,flat_length numC_len,mkz_length,List.length_take,Nat.min_eq_left (by omega)]
      show i*4+4≤i*4+(xs.length+1 - i)*4
      have:1*4≤(xs.length+1 - i)*4:=Nat.mul_le_mul_right _ (by omega)
      omega
    repeat (first|refine Ta ?_|(refine Tm ?_;intro _)|refine Tc ?_|exact Tz)
    refine WC.dT rfl (by omega) ?_
    repeat (first|refine Ta ?_|(refine Tm ?_;intro _)|refine WO.does (does_indexSlice (o':=o+i*4) rfl rfl hlt rfl) ?_|refine WO.does (a_loadF (vs:=numC x) (hs:=hs) (hle:=Nat.le_add_right _ _) (hc:=hcx)) ?_|(refine WO.makes (makes_build (t:=30) (cs:=numC x) rfl (by decide) rfl) ?_;intro g2)|refine WO.both (app_room (s:=undef) (z:=numC 0) rfl rfl (Rds.own (m:=4) Hs.here rfl) rfl (by omega) rfl (by repeat (first|exact Rp.here|apply Rp.there)) hov hle rfl (by decide)) ?_|refine WO.does (does_add rfl rfl hadd2) ?_|refine Tc ?_|exact Tz)
    exact WX.metI (i+1) (hs:=⟨by show i+1≤xs.length;omega,by show xs.length - (i+1)<xs.length - i;omega⟩)
  · have hi2:i=xs.length:=by omega
    subst hi2
    have hov:=over_spare (f:=numC) (xs:=xs) (z:=numC 0) (s:=numC 77) numC_len rfl rfl
    have hle:xs.length*(numC 0).length+(numC 77).length≤(xs.flatMap numC++mkz 1 (numC 0)).length:=by
      rw[List.length_append,flat_length numC_len,mkz_length]
      show xs.length*4+4≤xs.length*4+1*4
      omega
    rw[List.take_length,show xs.length+1 - xs.length=1 by omega]
    repeat (first|refine Ta ?_|(refine Tm ?_;intro _)|refine Tc ?_|exact Tz)
    refine WC.dF rfl (by omega) ?_
    repeat (first|refine Ta ?_|(refine Tm ?_;intro _)|refine WO.does (does_buildA (cs:=numC 77) rfl rfl (by kernel_rfl)) ?_|(refine WO.makes (makes_build (t:=30) (cs:=numC 77) rfl (by decide) rfl) ?_;intro g2)|refine WO.both (app_room (s:=undef) (z:=numC 0) rfl rfl (Rds.own (m:=4) Hs.here rfl) rfl (by omega) rfl (by repeat (first|exact Rp.here|apply Rp.there)) hov hle rfl (by decide)) ?_|refine WO.does (does_sliceTo (h:=xs.length) rfl rfl (by omega)) ?_|refine Tc ?_|exact Tz)
    exact WX.retC
theorem t_TwinKeys (xs:List (Nat × Nat)) (pt:Option Addr) (c:Nat) (hn:xs.length≤100) :
    Fn Tryz.prog 18 [.slice pt xs.length c] (RdF keyC (.slice pt xs.length c) xs) (NewC 76 xs.length (xs.length+1) (xs.flatMap keyC++(twoC 77 0))):=by
  have hadd:IntKind.i64.wrap ((xs.length:Int)+1)=((xs.length+1:Nat):Int):=i64_in' (by omega) (by omega) (by omega)
  refine Fn.enter Tryz.func18 rfl rfl rfl ?_
  intro w hw
  obtain⟨pt',c',e,hpc⟩:=hw
  cases e
  repeat (first|refine Ta ?_|(refine Tm ?_;intro _)|refine WO.does (does_add rfl rfl hadd) ?_|(refine WO.makes (makes_slice (l:=0) (c:=xs.length+1) rfl rfl (by omega) (by omega) (by omega)) ?_;intro g)|refine Tc ?_|exact Tz)
  refine WC.loopI (σ:=Nat) (fun i=>i≤xs.length) (fun i=>[(0,.slice pt xs.length c),(3,.slice (some ⟨g,0,none⟩) i (xs.length+1)),(4,.int .i64 (i:Int))]) (fun i=>[⟨g,76,(xs.take i).flatMap keyC++mkz (xs.length+1 - i) (twoC 0 0)⟩]) (fun i=>xs.length - i) 0 (fun i hi=>?_) (Nat.zero_le _)
  try dsimp only at hi ⊢
  by_cases hlt:i<xs.length
  · obtain⟨x,hx⟩ : ∃ x,xs[i]?=some x:=⟨_,List.getElem?_eq_getElem hlt⟩
    rcases hpc with ⟨_,h0⟩|⟨b,o,rfl,hs⟩
    · rw[h0] at hlt;simp at hlt
    have hadd2:IntKind.i64.wrap ((i:Int)+1)=((i+1:Nat):Int):=i64_in' (by omega) (by omega) (by omega)
    have hcx:cut (xs.flatMap keyC) (o+i*8 - o) 8=keyC x:=by rw[Nat.add_sub_cancel_left];exact cut_flat keyC_len hx
    have hov:=over_twin (f:=keyC) (z:=twoC 0 0) (m:=xs.length+1 - i) keyC_len rfl hx (by omega)
    rw[show xs.length+1 - i - 1=xs.length+1 - (i+1) by omega] at hov
    have hle:i*(twoC 0 0).length+(keyC x).length≤((xs.take i).flatMap keyC++mkz (xs.length+1 - i) (twoC 0 0)).length:=by
      rw[List.length_append,flat_length keyC_len,mkz_length,List.length_take,Nat.min_eq_left (by omega)]
      show i*8+8≤i*8+(xs.length+1 - i)*8
      have:1*8≤(xs.length+1 - i)*8:=Nat.mul_le_mul_right _ (by omega)
      omega
    repeat (first|refine Ta ?_|(refine Tm ?_;intro _)|refine Tc ?_|exact Tz)
    refine WC.dT rfl (by omega) ?_
    repeat (first|refine Ta ?_|(refine Tm ?_;intro _)|refine WO.does (does_indexSlice (o':=o+i*8) rfl rfl hlt rfl) ?_|refine WO.does (a_loadF (vs:=keyC x) (hs:=hs) (hle:=Nat.le_add_right _ _) (hc:=hcx)) ?_|(refine WO.makes (makes_build (t:=27) (cs:=keyC x) rfl (by decide) rfl) ?_;intro g2)|refine WO.both (app_room (s:=undef) (z:=twoC 0 0) rfl rfl (Rds.own (m:=8) Hs.here rfl) rfl (by omega) rfl (by repeat (first|exact Rp.here|apply Rp.there)) hov hle rfl (by decide)) ?_|refine WO.does (does_add rfl rfl hadd2) ?_|refine Tc ?_|exact Tz)
    exact WX.metI (i+1) (hs:=⟨by show i+1≤xs.length;omega,by show xs.length - (i+1)<xs.length - i;omega⟩)
  · have hi2:i=xs.length:=by omega
    subst hi2
    have hov:=over_spare (f:=keyC) (xs:=xs) (z:=twoC 0 0) (s:=twoC 77 0) keyC_len rfl rfl
    have hle:xs.length*(twoC 0 0).length+(twoC 77 0).length≤(xs.flatMap keyC++mkz 1 (twoC 0 0)).length:=by
      rw[List.length_append,flat_length keyC_len,mkz_length]
      show xs.length*8+8≤xs.length*8+1*8
      omega
    rw[List.take_length,show xs.length+1 - xs.length=1 by omega]
    repeat (first|refine Ta ?_|(refine Tm ?_;intro _)|refine Tc ?_|exact Tz)
    refine WC.dF rfl (by omega) ?_
    repeat (first|refine Ta ?_|(refine Tm ?_;intro _)|refine WO.does (does_buildA (cs:=numC 77) rfl rfl (by kernel_rfl)) ?_|refine WO.does (does_buildT (t:=76) (cs:=twoC 77 0) rfl (by kernel_rfl)) ?_|(refine WO.makes (makes_build (t:=27) (cs:=twoC 77 0) rfl (by decide) rfl) ?_;intro g2)|refine WO.both (app_room (s:=undef) (z:=twoC 0 0) rfl rfl (Rds.own (m:=8) Hs.here rfl) rfl (by omega) rfl (by repeat (first|exact Rp.here|apply Rp.there)) hov hle rfl (by decide)) ?_|refine WO.does (does_sliceTo (h:=xs.length) rfl rfl (by omega)) ?_|refine Tc ?_|exact Tz)
    exact WX.retC
end Sx
end Go.Proofs.YtmhligfnchegdaaGreatDoor
