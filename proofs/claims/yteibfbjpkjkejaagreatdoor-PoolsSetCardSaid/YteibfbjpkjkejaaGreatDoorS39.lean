/- Part 39 of the proof. -/
import Derived.Test.YteibfbjpkjkejaaGreatDoorS38
set_option linter.unusedSimpArgs false
set_option linter.unusedVariables false
set_option maxHeartbeats 8000000
namespace Go.Proofs.YteibfbjpkjkejaaGreatDoor
section
open Go Go.RowKit Go.BigFrame
namespace Sx
attribute [local irreducible] DQ DQS WC WO WX wd
section
variable (p q g h:Nat)
theorem dI (key:Nat) (H:List Nat) (hl:H.length=32) :
  Fn Tryz.prog 100 [yo p q g h,zj key,.agg (byC H).toArray] Tr
   (Ex (fun x=>.func (.func 132) #[] #[pt (x 0),pt (x 1),pt (x 2)]) (fun x=>[⟨x 2,60,byC H⟩,⟨x 1,24,zc key⟩,⟨x 0,26,zL p q g h⟩]) (fun _=>True)):=by
 have hbH:(byC H).length=32:=by rw[zh,hl]
 refine Fn.enter Tryz.func100 rfl rfl rfl ?_;intro w hw
 repeat (first|refine Ta ?_|(refine Tm ?_;intro _)|refine WO.does (zW rfl rfl) ?_|refine Tc ?_|exact Tz)
 rename_i g3 g4 g5;exact WX.ret1 rfl (by exact zt rfl) [⟨g5,60,byC H⟩,⟨g4,24,zc key⟩,⟨g3,26,zL p q g h⟩] (by repeat (first|exact Lle.nil|refine Lle.c ?_)) ⟨fun i=>if i=0 then g3 else if i=1 then g4 else g5,rfl,rfl,trivial⟩
theorem abG (x d c S:Nat) (H:List Nat) (hp:p<zd) (hq:q<zd) (hg:g<zd) (hx:x<zd) (hd:d<zd) (hl:H.length=32) (hB:sgB p q g x d=false) :
  Fn Tryz.prog 50 [yo p q g h,zj x,.agg (byC H).toArray,zj d] Tr (Is (prV false c S)):=by
 have hE:=ud p q g h g x hg hx hp;have hX:=fun b=>da p q g h [x,d] (some ⟨b,0,none⟩) 2 (by intro a ha;simp only[List.mem_cons,List.not_mem_nil,or_false] at ha;rcases ha with rfl|rfl<;>assumption) (by show 2≤1099511627776;omega) hq;have hbH:(byC H).length=32:=by rw[zh,hl]
 unfold sgB at hB;cases e1:yB p g with
 | false =>
  rw[e1] at hE;refine Fn.enter Tryz.func50 rfl rfl rfl ?_;intro w hw
  repeat (first|refine Ta ?_|(refine Tm ?_;intro _)|refine WO.acall (hc:=hE) (k:=?_)|refine WO.does (ug rfl rfl (by decide)) ?_|refine Tc ?_|exact Tz)
  done
 | true =>
 rw[e1] at hE hB;generalize g ^ x%p=y at *;cases e2:decide (x=0) with
 | true =>
  refine Fn.enter Tryz.func50 rfl rfl rfl ?_;intro w hw
  repeat (first|refine Ta ?_|(refine Tm ?_;intro _)|refine WO.acall (hc:=hE) (k:=?_)|refine WO.does (zO rfl rfl rfl) ?_|refine WO.does (zx rfl rfl hx zD e2) ?_|refine Tc ?_|exact Tz)
  done
 | false =>
 cases e3:decide (d=0) with
 | true =>
  refine Fn.enter Tryz.func50 rfl rfl rfl ?_;intro w hw
  repeat (first|refine Ta ?_|(refine Tm ?_;intro _)|refine WO.acall (hc:=hE) (k:=?_)|refine WO.does (zO rfl rfl rfl) ?_|refine WO.does (zx rfl rfl hx zD e2) ?_|refine WO.does (zx rfl rfl hd zD e3) ?_|refine Tc ?_|exact Tz)
  done
 | false =>
 have e4:([x,d].all fun x=>zJ x x q)=false:=by
  simp at e2 e3;simpa [e2,e3] using hB
 rw[e4] at hX;refine Fn.enter Tryz.func50 rfl rfl rfl ?_;intro w hw
 repeat (first|refine Ta ?_|(refine Tm ?_;intro _)|refine WO.acall (hc:=hE) (k:=?_)|refine WO.does (zO rfl rfl rfl) ?_|refine WO.does (zx rfl rfl hx zD e2) ?_|refine WO.does (zx rfl rfl hd zD e3) ?_|(refine WO.makes (ze (cs:=zc x++zc d) rfl (by decide) rfl) ?_;intro _)|refine WO.acallR (hc:=hX _) (hR:=fun w1 hm=>RdF.seg (f:=zc) (xs:=[x,d]) (r:=[]) (Hs.sg hm)) (k:=?_)|refine Tc ?_|exact Tz)
 done
theorem ach (x d c:Nat) (H:List Nat) (hp:p<zd) (hq:q<zd) (hg:g<zd) (hx:x<zd) (hd:d<zd) (hH:∀ b∈H,b<256) (hl:H.length=32) (hB:sgB p q g x d=true) (hc:sgC p q g x d H=c) :
  Fn Tryz.prog 50 [yo p q g h,zj x,.agg (byC H).toArray,zj d] Tr (Is (prV true c ((d+x*c%q)%q))):=by
 have hE1:=ud p q g h g x hg hx hp;have hE2:=ud p q g h g d hg hd hp;have hX:=fun b=>da p q g h [x,d] (some ⟨b,0,none⟩) 2 (by intro a ha;simp only[List.mem_cons,List.not_mem_nil,or_false] at ha;rcases ha with rfl|rfl<;>assumption) (by show 2≤1099511627776;omega) hq;have hbH:(byC H).length=32:=by rw[zh,hl]
 unfold sgB at hB;simp only[Bool.and_eq_true,decide_eq_true_eq] at hB;obtain⟨⟨⟨⟨e1,e2⟩,e3⟩,e4⟩,e5⟩:=hB;rw[e1] at hE1 hE2;have d4:decide (x=0)=false:=decide_eq_false e4;have d5:decide (d=0)=false:=decide_eq_false e5;rw[show ([x,d].all fun x=>zJ x x q)=true by simp[e2,e3]] at hX;have hq1:=(zK e2).1;have hxq:=(zK e2).2.1;have hdq:=(zK e3).2.1;have hcl:c<q:=by rw[← hc];exact vZ (by omega) _ _
 have hCh:=fun gG gK gH=>ji p q g h (g ^ x%p) (g ^ d%p) gG gK gH H hq (by omega) hH hl;rw[show ew q (g ^ x%p) (g ^ d%p) H=c from hc] at hCh;have hM:=kU p q g h x c hx (Nat.lt_trans hcl hq) hq;rw[show zJ x c q=true by simp[zJ,hq1,hxq,hcl]] at hM;have hml:x*c%q<q:=Nat.mod_lt _ (by omega);have hA:=nn p q g h d (x*c%q) hd (Nat.lt_trans hml hq) hq;rw[show zJ d (x*c%q) q=true by simp[zJ,hq1,hdq,hml]] at hA;have hS:=dI p q g h (g ^ x%p) H hl;clear hc;generalize (d+x*c%q)%q=S at *;generalize x*c%q=M at *;generalize g ^ x%p=P1 at *;generalize g ^ d%p=P2 at *;refine Fn.enter Tryz.func50 rfl rfl rfl ?_;intro w hw
 repeat (first|refine Ta ?_|(refine Tm ?_;intro _)|refine WO.acall (hc:=hE1) (k:=?_)|refine WO.acall (hc:=hE2) (k:=?_)|refine WO.does (zO rfl rfl rfl) ?_|refine WO.does (zx rfl rfl hx zD d4) ?_|refine WO.does (zx rfl rfl hd zD d5) ?_|(refine WO.makes (ze (cs:=zc x++zc d) rfl (by decide) rfl) ?_;intro _)|refine WO.acallR (hc:=hX _) (hR:=fun w1 hm=>RdF.seg (f:=zc) (xs:=[x,d]) (r:=[]) (Hs.sg hm)) (k:=?_)|refine Tc ?_|exact Tz)
 refine WC.adraw 7 (k:=?_)
 iterate 2 (refine DQ.auto (k:=?_))
 refine DQ.does (fun s _=>zy (vs:=byC H) (hc:=zz hbH) (hl:=hbH)) Dp.const ?_
 refine DQ.callsE (fs:=fun _=>[]) (cs:=fun _=>[]) (R:=fun _=>Tr) (vf:=fun _ x=>.func (.func 132) #[] #[pt (x 0),pt (x 1),pt (x 2)]) (Nf:=fun _ x=>[⟨x 2,60,byC H⟩,⟨x 1,24,zc P1⟩,⟨x 0,26,zL p q g h⟩]) (S:=fun _ _=>True) (fun _=>[]) (fun _=>.nil)
  (fun _=>⟨fun _=>0,trivial⟩) (fun _ _=>hS) (fun _=>rfl) (fun _=>rfl) (fun _=>rfl) (fun _ _ w hm=>trivial) Dp.const Dp.const Dp.const ?_
 try dsimp only[List.map_cons,List.map_nil,List.cons_append,List.nil_append]
 refine DQ.auto (k:=?_)
 refine DQ.callsE (fs:=fun _=>[]) (cs:=fun s=>[pt (s 3 0),pt (s 3 1),pt (s 3 2)]) (R:=fun s w=>Seg w (s 3 0) 0 (zL p q g h)∧Seg w (s 3 1) 0 (zc P1)∧Seg w (s 3 2) 0 (byC H)) (vf:=fun _ _=>zj c) (Nf:=fun _ _=>[]) (S:=fun _ _=>True) (fun s=>[⟨s 3 2,60,byC H⟩,⟨s 3 1,24,zc P1⟩,⟨s 3 0,26,zL p q g h⟩])
  (fun s=>.cons 3 (by repeat (first|exact .head _|apply List.Mem.tail)) (by decide +kernel) (.cons 3 (by repeat (first|exact .head _|apply List.Mem.tail)) (by decide +kernel) (.cons 3 (by repeat (first|exact .head _|apply List.Mem.tail)) (by decide +kernel) .nil)))
  (fun _=>⟨fun _=>0,trivial⟩) (fun s _=>(hCh (s 3 0) (s 3 1) (s 3 2)).ex) (fun _=>rfl) (fun _=>rfl) (fun _=>rfl) (fun s _ w hm=>⟨Hs.seg (.there (.there .here)) hm,Hs.seg (.there .here) hm,Hs.seg .here hm⟩) Dp.const Dp.const Dp.const ?_
 try dsimp only[List.map_cons,List.map_nil,List.cons_append,List.nil_append]
 refine DQ.autoM (k:=?_);refine DQ.anil (k:=?_);intro sx _;generalize sx 6 0=gC
 repeat (first|refine Ta ?_|(refine Tm ?_;intro _)|refine WO.acall (hc:=hM) (k:=?_)|refine WO.acall (hc:=hA) (k:=?_)|refine Tc ?_|exact Tz)
 done
theorem ads (x d:Nat) (H:List Nat) (hp:p<zd) (hq:q<zd) (hg:g<zd) (hx:x<zd) (hd:d<zd) (hH:∀ b∈H,b<256) (hl:H.length=32) :
  Fn Tryz.prog 50 [yo p q g h,zj x,.agg (byC H).toArray,zj d] Tr (Is (prV (sgB p q g x d) (sgC p q g x d H) ((d+x*sgC p q g x d H%q)%q))):=by
 generalize hc:sgC p q g x d H=c;cases hB:sgB p q g x d with
 | false=>exact abG p q g h x d c _ H hp hq hg hx hd hl hB
 | true=>exact ach p q g h x d c H hp hq hg hx hd hH hl hB hc
end
def pwL {p:Nat}:(l:List (Nat × Nat))→(∀ x∈l,x.1<zd∧x.2<zd∧yB p x.1=true)→List (PwT p)
 | [],_=>[]
 | x::r,h=>⟨x,h x (List.mem_cons_self ..)⟩::pwL r (fun y hy=>h y (List.mem_cons_of_mem _ hy))
theorem oS {p:Nat}:∀ (l:List (Nat × Nat)) (h:∀ x∈l,x.1<zd∧x.2<zd∧yB p x.1=true),(pwL l h).map (fun x=>x.1)=l
 | [],_=>rfl
 | x::r,h=>by rw[pwL,List.map_cons,oS r]
def prD (p:Nat) (zs ws:List Nat):Nat:=(zs.zip ws).foldl (fun r x=>r*(x.1 ^ x.2%p)%p) 1
theorem eR {p:Nat} (zs ws:List Nat) (h):ue p (pwL (zs.zip ws) h)=prD p zs ws:=by
 unfold ue prD;rw[← List.foldl_map (f:=fun x:PwT p=>x.1) (g:=fun r x=>r*(x.1 ^ x.2%p)%p),oS]
theorem aaT {p:Nat} {zs ws:List Nat} (h1:1<p):prD p zs ws<p:=by
 unfold prD
 rcases List.eq_nil_or_concat (zs.zip ws) with e|⟨l,x,e⟩
 ·rw[e];exact h1
 ·rw[e,List.concat_eq_append,List.foldl_append];exact Nat.mod_lt _ (by omega)
theorem adf {p:Nat} (l:List (Nat × Nat)) (h):(pwL (p:=p) l h).length=l.length:=by
 have:=congrArg List.length (oS (p:=p) l h);rwa [List.length_map] at this
structure acM (p:Nat) (zs:List Nat):Prop where
 lt:∀ z∈zs,z<zd
 may:∀ z∈zs,yB p z=true
theorem acM.zip {p:Nat} {zs ws:List Nat} (h:acM p zs) (hw:∀ v∈ws,v<zd):∀ x∈zs.zip ws,x.1<zd∧x.2<zd∧yB p x.1=true:=fun x hx=>by
 obtain⟨a,b⟩:=x;have:=List.of_mem_zip hx;exact⟨h.lt _ this.1,hw _ this.2,h.may _ this.1⟩
section
variable (p q g h:Nat)
theorem qY (hp:p<zd) (h1:1<p) (zs ws:List Nat) (hz:acM p zs) (hw:∀ v∈ws,v<zd) (hl:ws.length=zs.length) (hne:zs≠[]) (pa pn:Option Addr) (cA cN:Nat) (hn:zs.length≤100) :
  Fn Tryz.prog 108 [yo p q g h,.slice pa zs.length cA,.slice pn zs.length cN]
   (fun w=>RdF zc (.slice pa zs.length cA) zs w∧RdF zc (.slice pn zs.length cN) ws w) (Is (.tuple #[zj (prD p zs ws),.int .i64 0])):=by
 intro w ⟨hA,hN⟩;have hwne:ws≠[]:=fun e=>hne (List.length_eq_zero_iff.1 (by rw[← hl,e];rfl));obtain⟨a0,ha0⟩ : ∃ y,zs[0]?=some y:=⟨_,List.getElem?_eq_getElem (List.length_pos_iff.2 hne)⟩;obtain⟨b0,hb0⟩ : ∃ y,ws[0]?=some y:=⟨_,List.getElem?_eq_getElem (List.length_pos_iff.2 hwne)⟩;obtain⟨bA,oA,e1,_,hsA⟩:=hA.get ha0;obtain⟨bN,oN,e2,_,hsN⟩:=hN.get hb0;subst e1 e2;have hxl:(pwL (p:=p) (zs.zip ws) (hz.zip hw)).length=zs.length:=by rw[adf,List.length_zip];omega
 have hP:=nS p q g h hp h1 (pwL (zs.zip ws) (hz.zip hw)) bA oA bN oN cA cN (by omega);rw[eR,hxl] at hP;have hm:=oS (p:=p) (zs.zip ws) (hz.zip hw);have f1:(pwL (p:=p) (zs.zip ws) (hz.zip hw)).map (fun x=>x.1.1)=zs:=by
  have:=congrArg (List.map Prod.fst) hm;rw[List.map_map,List.map_fst_zip (by omega)] at this;exact this
 have f2:(pwL (p:=p) (zs.zip ws) (hz.zip hw)).map (fun x=>x.1.2)=ws:=by
  have:=congrArg (List.map Prod.snd) hm;rw[List.map_map,List.map_snd_zip (by omega)] at this;exact this
 refine hP w ⟨RdF.lt (k:=3) (fun _=>rfl) hA hne,RdF.lt (k:=3) (fun _=>rfl) hN hwne,fun k x hx=>?_,fun k x hx=>?_⟩
 ·have:zs[k]?=some x.1.1:=by
   have e:=congrArg (fun l=>l[k]?) f1;simp only[List.getElem?_map,hx] at e;exact e.symm
  have hc:=uh (f:=zc) (k:=4) (fun _=>rfl) this;exact hsA.sub hc
 ·have:ws[k]?=some x.1.2:=by
   have e:=congrArg (fun l=>l[k]?) f2;simp only[List.getElem?_map,hx] at e;exact e.symm
  have hc:=uh (f:=zc) (k:=4) (fun _=>rfl) this;exact hsN.sub hc
end
end Sx
end
section
open Go Go.RowKit Go.BigFrame
namespace Sx
def dOf (q i k:Nat):Nat:=ofZ q ((i:Int) - (k:Int))
def oth (n i:Nat):List Nat:=((List.range n).map (· + 1)).filter (fun k=>decide (k≠i))
def dwF (q i w k:Nat):Nat:=w*uJ (dOf q i k) q%q
def dwG (q i:Nat) (l:List Nat):Bool:=l.all fun k=>decide (Nat.gcd (dOf q i k) q=1)
def dw (q n:Nat) (p:List Nat) (i:Nat):Nat:=(oth n i).foldl (dwF q i) (yH p (ofZ q (i:Int))%q)
def dwL (q n:Nat) (p:List Nat):List Nat:=(List.range n).map fun j=>dw q n p (j+1)
def ni (q n:Nat):Bool:=(List.range n).all fun j=>dwG q (j+1) (oth n (j+1))
def pkN (q k:Nat):List Nat:=List.replicate k 0++[ofZ q 1]
def duB (p q n c:Nat) (V:List Nat):Bool:=decide (n≤c) || (ni q n && (List.range (n - c)).all fun k=>decide (prD p V (dwL q n (pkN q k))=ofZ q 1))
theorem jB {q:Nat} (z:Int) (h:0<q):ofZ q z<q:=by
 unfold ofZ;split
 ·omega
 ·have h1:=Int.emod_lt_of_pos z (by omega:(0:Int)<(q:Int));have h2:=Int.emod_nonneg z (by omega:(q:Int)≠0);omega
theorem aal {q i k:Nat} (h:0<q):dOf q i k<q:=jB _ h
theorem p9 {q m:Nat} (h:2≤q) (hm:m<q):ofZ q (m:Int)=m:=by
 unfold ofZ;rw[if_neg (by omega),Int.emod_eq_of_lt (by omega) (by omega)];omega
theorem abe {q m:Nat} (h:2≤q) (h0:0<m) (hm:m<q):ofZ q (-(m:Int))=q - m:=by
 unfold ofZ;rw[if_neg (by omega)];have:(-(m:Int))%(q:Int)=((q - m:Nat):Int):=by
  rw[← Int.add_emod_right,show -(m:Int)+(q:Int)=((q - m:Nat):Int) by omega];exact Int.emod_eq_of_lt (by omega) (by omega)
 rw[this];omega
theorem ada {q i k:Nat} (h:2≤q) (hk:k≤i) (hi:i<q):dOf q i k=i - k:=by
 unfold dOf;rw[show (i:Int) - (k:Int)=((i - k:Nat):Int) by omega];exact p9 h (by omega)
theorem ko {q i k:Nat} (h:2≤q) (hk:i<k) (hi:k - i<q):dOf q i k=q - (k - i):=by
 unfold dOf;rw[show (i:Int) - (k:Int) = -((k - i:Nat):Int) by omega];exact abe h (by omega) hi
theorem m8 {n i k:Nat}:k∈oth n i↔1≤k∧k≤n∧k≠i:=by
 unfold oth;simp only[List.mem_filter,List.mem_map,List.mem_range,decide_eq_true_eq];constructor
 ·rintro ⟨⟨a,h,rfl⟩,h2⟩;exact⟨by omega,by omega,h2⟩
 ·rintro ⟨h1,h2,h3⟩;exact⟨⟨k - 1,by omega,by omega⟩,h3⟩
def e8 (m i:Nat):List Nat:=((List.range m).map (· + 1)).filter (fun k=>decide (k≠i))
theorem kV {n i:Nat}:e8 n i=oth n i:=rfl
theorem tS {m i:Nat}:e8 (m+1) i=e8 m i++(if m+1=i then [] else [m+1]):=by
 unfold e8;rw[List.range_succ,List.map_append,List.filter_append];congr 1
 by_cases h:m+1=i<;>simp[h]
theorem f9 {i m n:Nat} (h:m≤n):(e8 m i).length≤(e8 n i).length:=by
 induction h with
 | refl=>exact Nat.le_refl _
 | step _ ih=>rw[tS,List.length_append];omega
theorem abr {i m n:Nat} (h:m<n) (hi:m+1≠i):(e8 m i).length<(oth n i).length:=by
 have:=f9 (i:=i) (show m+1≤n from h);rw[tS,if_neg hi,List.length_append] at this;rw[← kV];exact this
theorem aeO {q n i:Nat} {p:List Nat} (h:0<q):dw q n p i<q:=by
 unfold dw;have key:∀ (l:List Nat) (w:Nat),w<q→l.foldl (dwF q i) w<q:=by
  intro l
  induction l with
  | nil=>exact fun w hw=>hw
  | cons a r ih=>exact fun w _=>ih _ (Nat.mod_lt _ h)
 exact key _ _ (Nat.mod_lt _ h)
theorem aaX {q i w:Nat} (l:List Nat) (h:w<q):l.foldl (dwF q i) w<q:=by
 induction l generalizing w with
 | nil=>exact h
 | cons a r ih=>exact ih (Nat.mod_lt _ (by omega))
theorem dO {q i w k:Nat} {l:List Nat}:(l++[k]).foldl (dwF q i) w=l.foldl (dwF q i) w*uJ (dOf q i k) q%q:=by rw[List.foldl_append];rfl
theorem dq {q n:Nat} {p:List Nat}:(dwL q n p).length=n:=by simp[dwL]
theorem adY {q n:Nat} {p:List Nat} (h:0<q):∀ v∈dwL q n p,v<q:=fun v hv=>by
 unfold dwL at hv;obtain⟨j,_,rfl⟩:=List.mem_map.1 hv;exact aeO h
theorem gm {q k:Nat}:(pkN q k).length=k+1:=by simp[pkN]
theorem aaK {q k:Nat} (h:0<q):∀ a∈pkN q k,a<q:=fun a ha=>by
 unfold pkN at ha;rw[List.mem_append] at ha
 rcases ha with ha|ha
 ·rw[List.eq_of_mem_replicate ha];exact h
 ·rw[List.mem_singleton] at ha;subst ha;exact jB _ h
def Pri (q:Nat):Prop:=1<q∧∀ m,0<m→m<q→Nat.gcd m q=1
theorem an (a m p:Nat):(a%p) ^ m%p=a ^ m%p:=(Nat.pow_mod a m p).symm
theorem tv (a m k p:Nat):(a ^ m%p) ^ k%p=a ^ (m*k)%p:=by rw[an,← Nat.pow_mul]
theorem rZ (a m k p:Nat):a ^ m%p*(a ^ k%p)%p=a ^ (m+k)%p:=by rw[← Nat.mul_mod,← Nat.pow_add]
theorem tR {p q a:Nat} (h:gIn p q a=true):(1<p∧a≠0∧a<p)∧a ^ q%p=1:=by
 unfold gIn at h;simp only[Bool.and_eq_true,decide_eq_true_eq] at h;exact⟨yT h.1,h.2⟩
theorem kj {p q a:Nat} (h:gIn p q a=true) (m:Nat):a ^ m%p=a ^ (m%q)%p:=by
 obtain⟨⟨h1,_,_⟩,h2⟩:=tR h;have e:a ^ m=(a ^ q) ^ (m / q)*a ^ (m%q):=by rw[← Nat.pow_mul,← Nat.pow_add,Nat.div_add_mod]
 rw[e,Nat.mul_mod,Nat.pow_mod,h2,Nat.one_pow,Nat.mod_eq_of_lt h1,Nat.one_mul,Nat.mod_mod]
theorem adk {p q a m k:Nat} (h:gIn p q a=true) (e:m%q=k%q):a ^ m%p=a ^ k%p:=by rw[kj h m,kj h k,e]
theorem eG {p a:Nat} (h1:1<p) (h2:a≠0) (h3:a<p):yB p a=true:=by
 unfold yB;simp[h1,h2,h3]
theorem o6 {p q a:Nat} (h:gIn p q a=true) (hq:0<q) (m:Nat):gIn p q (a ^ m%p)=true:=by
 obtain⟨⟨h1,_,_⟩,h2⟩:=tR h;have e:(a ^ m%p) ^ q%p=1:=by
  rw[tv,Nat.mul_comm,Nat.pow_mul,Nat.pow_mod,h2,Nat.one_pow,Nat.mod_eq_of_lt h1]
 have h0:a ^ m%p≠0:=by
  intro h0;rw[h0,Nat.zero_pow hq] at e;simp at e
 unfold gIn;rw[eG h1 h0 (Nat.mod_lt _ (by omega)),e];rfl
theorem eL {p q a:Nat} (h:gIn p q a=true) (n:Nat):exN p a n=a ^ n%p:=by
 obtain⟨⟨h1,h2,h3⟩,_⟩:=tR h;unfold exN;rw[eG h1 h2 h3];rfl
def aQ:List Nat→List Nat→Nat
 | a::r,b::s=>a*b+aQ r s
 | _,_=>0
theorem kP {p g:Nat} (h1:1<p):∀ (es ws:List Nat) (m:Nat),(es.length=ws.length) →
  ((es.map fun e=>g ^ e%p).zip ws).foldl (fun r x=>r*(x.1 ^ x.2%p)%p) (g ^ m%p)=g ^ (m+aQ es ws)%p
 | [],_,m,_=>by simp[aQ]
 | e::es,[],m,h=>by simp at h
 | e::es,w::ws,m,h=>by
  simp only[List.map_cons,List.zip_cons_cons,List.foldl_cons,aQ];rw[tv,rZ,kP h1 es ws (m+e*w) (by simpa using h),Nat.add_assoc]
theorem abg {p g:Nat} (h1:1<p) {es ws:List Nat} (h:es.length=ws.length):prD p (es.map fun e=>g ^ e%p) ws=g ^ aQ es ws%p:=by
 have:=kP (g:=g) h1 es ws 0 h;rw[Nat.pow_zero,Nat.mod_eq_of_lt h1,Nat.zero_add] at this;exact this
theorem kS (f g:Nat→Nat):∀ l:List Nat,((aQ (l.map f) (l.map g):Nat):Int)=(l.map fun i=>(f i:Int)*(g i:Int)).sum
 | []=>rfl
 | a::r=>by
  simp only[List.map_cons,aQ,List.sum_cons];have:=kS f g r;push_cast;omega
theorem cH {q r x c:Nat} (hc:c<q) (hr:r<q):((r+x*c%q)%q+x*((0+q - c)%q))%q=r%q:=by
 have h0:(0+q - c)=q - c:=by omega
 rw[h0,Nat.add_mod_mod,Nat.mod_add_mod,← Nat.add_mod_mod,Nat.mul_mod_mod,Nat.add_mod_mod];have:r+x*c+x*(q - c)=r+x*q:=by rw[Nat.add_assoc,← Nat.mul_add];congr 2;omega
 rw[this,Nat.add_mul_mod_self_right]
theorem oG {p q a r x c:Nat} (h:gIn p q a=true) (hc:c<q) (hr:r<q) :
  a ^ ((r+x*c%q)%q)%p*((a ^ x%p) ^ ((0+q - c)%q)%p)%p=a ^ r%p:=by
 rw[tv,rZ];exact adk h (cH hc hr)
def qB (i:Nat):List Nat→Int
 | []=>1
 | k::r=>((i:Int) - (k:Int))*qB i r
theorem aE {q:Nat} (h:1<q) (z:Int):(q:Int) ∣ z - (ofZ q z:Int):=by
 unfold ofZ;rw[if_neg (by omega),Int.toNat_of_nonneg (Int.emod_nonneg _ (by omega))];exact Int.dvd_self_sub_emod
theorem rc {q:Nat} (a:Nat):(q:Int) ∣ (a:Int) - ((a%q:Nat):Int):=by
 rw[Int.natCast_emod];exact Int.dvd_self_sub_emod
theorem bh {q d:Nat} (h:1<q) (hd:d<q) (hg:Nat.gcd d q=1):(q:Int) ∣ (d:Int)*(uJ d q:Int) - 1:=by
 have e:=(qA h hd hg).1;have:=rc (q:=q) (uJ d q*d);rw[e] at this;rw[Int.mul_comm];exact_mod_cast this
theorem pQ {q i:Nat} (h:1<q):∀ (L:List Nat) (w:Nat),(∀ k∈L,Nat.gcd (dOf q i k) q=1)→(q:Int) ∣ ((L.foldl (dwF q i) w:Nat):Int)*qB i L - (w:Int)
 | [],w,_=>by simp[qB]
 | k::r,w,hG=>by
  have ih:=pQ h r (dwF q i w k) (fun j hj=>hG j (List.mem_cons_of_mem _ hj));have hd:=bh h (aal (i:=i) (k:=k) (by omega:0<q)) (hG k List.mem_cons_self);have hz:(q:Int) ∣ ((i:Int) - (k:Int)) - (dOf q i k:Int):=aE h _;have hw:(q:Int) ∣ ((w*uJ (dOf q i k) q:Nat):Int) - (dwF q i w k:Int):=rc _;rw[List.foldl_cons];generalize r.foldl (dwF q i) (dwF q i w k)=A at *;generalize dwF q i w k=w' at *;generalize dOf q i k=d at *;generalize uJ d q=v at *;rw[show qB i (k::r)=((i:Int) - (k:Int))*qB i r from rfl];generalize qB i r=D at *;generalize (i:Int) - (k:Int)=z at *;have e:(A:Int)*(z*D) - (w:Int)=z*((A:Int)*D - w')+((z - d)*w' + (d*(w' - (w*v:Nat))+w*((d:Int)*v - 1))):=by push_cast;grind
  rw[e];refine Int.dvd_add (Int.dvd_mul_of_dvd_right ih) (Int.dvd_add (Int.dvd_mul_of_dvd_left hz) (Int.dvd_add (Int.dvd_mul_of_dvd_right ?_) (Int.dvd_mul_of_dvd_right hd)));have:=Int.dvd_neg.2 hw;rwa [Int.neg_sub] at this
def aaS:Nat→Nat
 | 0=>1
 | n+1=>(n+1)*aaS n
def bR (n i:Nat):Int:=(aaS (n - 1):Int) / qB i (oth n i)
theorem acp:∀ n∈List.range 8,∀ i∈List.range n,bR n (i+1)*qB (i+1) (oth n (i+1))=(aaS (n - 1):Int):=by decide
theorem abv:∀ n∈List.range 8,∀ e∈List.range (n - 1),((List.range n).map fun i=>bR n (i+1)*((i+1:Nat):Int) ^ e).sum=0:=by decide
theorem eF {α:Type} (f g:α→Int):∀ L:List α,(L.map fun i=>f i+g i).sum=(L.map f).sum+(L.map g).sum
 | []=>rfl
 | a::r=>by simp only[List.map_cons,List.sum_cons,eF f g r];omega
theorem lM {α:Type} (c:Int) (f:α→Int):∀ L:List α,(L.map fun i=>c*f i).sum=c*(L.map f).sum
 | []=>by simp
 | a::r=>by simp only[List.map_cons,List.sum_cons,lM c f r,Int.mul_add]
theorem fc {α:Type} (q:Int) (f g:α→Int):∀ L:List α,(∀ i∈L,q ∣ f i - g i)→q ∣ (L.map f).sum - (L.map g).sum
 | [],_=>by simp
 | a::r,h=>by
  simp only[List.map_cons,List.sum_cons];have h1:=h a List.mem_cons_self;have h2:=fc q f g r (fun i hi=>h i (List.mem_cons_of_mem _ hi));have:=Int.dvd_add h1 h2;rwa [show f a - g a+((r.map f).sum - (r.map g).sum)=f a+(r.map f).sum - (g a+(r.map g).sum) by omega] at this
theorem jx {n:Nat} (hn:n<8):∀ (l:List Nat) (k:Nat),k+l.length<n→((List.range n).map fun i=>bR n (i+1)*((i+1:Nat):Int) ^ k*(yH l (i+1):Int)).sum=0
 | [],k,_=>by
  simp only[yH];have:(fun i:Nat=>bR n (i+1)*((i+1:Nat):Int) ^ k*((0:Nat):Int))=fun _=>(0:Int):=by funext i;simp
  rw[this];generalize List.range n=L
  induction L with
  | nil=>rfl
  | cons a r ih=>simp only[List.map_cons,List.sum_cons,ih];rfl
 | c::r,k,h=>by
  have h1:=abv n (List.mem_range.2 hn) k (List.mem_range.2 (by simp at h;omega));have h2:=jx hn r (k+1) (by simp at h;omega);have e:(fun i:Nat=>bR n (i+1)*((i+1:Nat):Int) ^ k*(yH (c::r) (i+1):Int))=fun i=>(c:Int)*(bR n (i+1)*((i+1:Nat):Int) ^ k)+bR n (i+1)*((i+1:Nat):Int) ^ (k+1)*(yH r (i+1):Int):=by
   funext i;rw[show yH (c::r) (i+1)=c+(i+1)*yH r (i+1) from rfl];push_cast;rw[Int.pow_succ]
   grind
  rw[e,eF,lM,h1,h2];simp
theorem dh {q:Nat} (hP:Pri q):∀ n,n<q→Nat.gcd (aaS n) q=1
 | 0,_=>by simp[aaS]
 | n+1,h=>by
  have h1:=dh hP n (by omega);have h2:=hP.2 (n+1) (by omega) h;exact Nat.Coprime.mul_left h2 h1
theorem cn {q k y:Nat} (h:1<q):yH (pkN q k) y=y ^ k:=by
 unfold pkN;rw[j8,List.length_replicate];have:∀ k,yH (List.replicate k 0) y=0:=by
  intro k
  induction k with
  | zero=>rfl
  | succ k ih=>rw[List.replicate_succ,show yH (0::List.replicate k 0) y=0+y*yH (List.replicate k 0) y from rfl,ih,Nat.mul_zero]
 rw[this,show ofZ q 1=1 from p9 (m:=1) (by omega) (by omega)];omega
theorem dC {q n k:Nat} {l:List Nat} (hP:Pri q) (hn:n<8) (hnq:n<q) (hk:k+l.length<n) (hA:ni q n=true) :
  aQ ((List.range n).map (shN q l)) ((List.range n).map fun j=>dw q n (pkN q k) (j+1))%q=0:=by
 obtain⟨h1,hp⟩:=hP;have hs:=fc (q:Int) (fun i=>(aaS (n - 1):Int)*((shN q l i:Int)*(dw q n (pkN q k) (i+1):Int))) (fun i=>bR n (i+1)*((i+1:Nat):Int) ^ k*(yH l (i+1):Int)) (List.range n) (fun i hi=>by
  have hb:=acp n (List.mem_range.2 hn) i hi;have hG:∀ j∈oth n (i+1),Nat.gcd (dOf q (i+1) j) q=1:=by
   unfold ni at hA;have:=List.all_eq_true.1 hA i hi;unfold dwG at this;exact fun j hj=>of_decide_eq_true (List.all_eq_true.1 this j hj)
  have hf:(q:Int) ∣ (dw q n (pkN q k) (i+1):Int)*qB (i+1) (oth n (i+1)) - ((yH (pkN q k) (ofZ q ((i+1:Nat):Int))%q:Nat):Int):=pQ h1 _ _ hG;rw[p9 (m:=i+1) (by omega) (by have:=List.mem_range.1 hi;omega),cn h1] at hf;have hw:=rc (q:=q) ((i+1) ^ k);have hl:(q:Int) ∣ (yH l (i+1):Int) - (shN q l i:Int):=rc _;rw[← hb];have hpw:(((i+1) ^ k:Nat):Int)=((i+1:Nat):Int) ^ k:=by push_cast;rfl
  rw[hpw] at hw;generalize (dw q n (pkN q k) (i+1):Int)=W at *;generalize qB (i+1) (oth n (i+1))=D at *;generalize (((i+1) ^ k%q:Nat):Int)=u at *;generalize ((i+1:Nat):Int) ^ k=y at *;generalize (yH l (i+1):Int)=P at *;generalize (shN q l i:Int)=s at *;generalize bR n (i+1)=b at *;have e:b*D*(s*W) - b*y*P=(b*s)*(W*D - u)+((b*s)*(u - y)+(b*y)*(s - P)):=by grind
  rw[e];have hw':=Int.dvd_neg.2 hw;have hl':=Int.dvd_neg.2 hl;rw[Int.neg_sub] at hw' hl';exact Int.dvd_add (Int.dvd_mul_of_dvd_right hf) (Int.dvd_add (Int.dvd_mul_of_dvd_right hw') (Int.dvd_mul_of_dvd_right hl')))
 rw[jx hn l k hk,lM,Int.sub_zero,← kS] at hs;have hs' : q ∣ aaS (n - 1)*aQ ((List.range n).map (shN q l)) ((List.range n).map fun j=>dw q n (pkN q k) (j+1)):=by exact_mod_cast hs
 have hc:Nat.Coprime q (aaS (n - 1)):=Nat.Coprime.symm (dh ⟨h1,hp⟩ (n - 1) (by omega));exact Nat.mod_eq_zero_of_dvd (Nat.Coprime.dvd_of_dvd_mul_left hc hs')
theorem ja {q n:Nat} (hP:Pri q) (hnq:n<q):ni q n=true:=by
 unfold ni dwG;rw[List.all_eq_true];intro i hi;have hi':=List.mem_range.1 hi;rw[List.all_eq_true];intro k hk;obtain⟨k1,k2,k3⟩:=m8.1 hk;rw[decide_eq_true_eq];have h1:=hP.1
 rcases Nat.lt_or_ge k (i+1) with h|h
 ·rw[ada (by omega) (by omega) (by omega)];exact hP.2 _ (by omega) (by omega)
 ·rw[ko (by omega) (by omega) (by omega)];exact hP.2 _ (by omega) (by omega)
theorem gj {n d:Nat} (h2:2≤n) (hd:n<d*d) (h:∀ e,2≤e→e<d→n%e≠0):Pri n:=by
 refine⟨by omega,fun m h0 hm=>?_⟩;have hgn:Nat.gcd m n ∣ n:=Nat.gcd_dvd_right m n;have hgm:Nat.gcd m n≤m:=Nat.le_of_dvd h0 (Nat.gcd_dvd_left m n);have hg0:0<Nat.gcd m n:=Nat.gcd_pos_of_pos_left n h0;generalize Nat.gcd m n=g at *
 rcases Nat.lt_or_ge 1 g with hg|hg
 ·exfalso;obtain⟨k,rfl⟩:=hgn;have hk:1<k:=by
   rcases Nat.lt_or_ge 1 k with h1|h1
   ·exact h1
   ·have:g*k≤g*1:=Nat.mul_le_mul_left g h1;omega
  rcases Nat.lt_or_ge g d with h1|h1
  ·exact h g (by omega) h1 (Nat.mul_mod_right g k)
  ·rcases Nat.lt_or_ge k d with h3|h3
   ·exact h k (by omega) h3 (Nat.mul_mod_left g k)
   ·have:=Nat.mul_le_mul h1 h3;omega
 ·omega
end Sx
end
end Go.Proofs.YteibfbjpkjkejaaGreatDoor
