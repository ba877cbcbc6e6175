/- Part 37 of the proof. -/
import Derived.Test.YtiaibpcaloigkaaGreatDoorD35
import Derived.Test.YtiaibpcaloigkaaGreatDoorD36
set_option linter.unusedSimpArgs false
set_option linter.unusedVariables false
namespace Go.Proofs.YtiaibpcaloigkaaGreatDoor
section
open Go Go.RowKit Go.BigFrame
namespace Sx
theorem vJ {a q:Nat} (h1:1<q) (h2:a<q):zK a a q=true:=by unfold zK;simp[h1,h2]
theorem afQ {q a b:Nat} (h1:1<q) (ha:a<q) (hb:b<q):([a,b].all fun x=>zK x x q)=true:=by simp[vJ h1 ha,vJ h1 hb]
theorem sF {q x:Nat} {H:LN} (h1:1<q):yr q x H<q∧yr q x H≠0:=by
 unfold yr;split
 ·exact⟨h1,by decide⟩
 ·rename_i h;exact⟨vA Om _ _,h⟩
theorem nf {p q a:Nat} (h:kB p q a=true):gIn p q a=true∧a≠1:=by
 unfold kB at h;simpa using h
section
variable {p q g h:Nat} {f sec:Int} {N:LP} {ep d x:Nat} {l:LN}
theorem tq (hS:yX p q g h f sec N=true):kB p q g=true∧(∀ i,i<N.length→kB p q (N.getD i (0,0)).1=true∧kB p q (N.getD i (0,0)).2=true)∧N.length<8∧(N.length:Int)+sec<(q:Int)∧0≤f∧1≤sec:=by
 unfold yX at hS;simp only[Bool.and_eq_true,decide_eq_true_eq] at hS;obtain⟨⟨⟨⟨⟨⟨⟨⟨⟨⟨h1,h2⟩,h3⟩,h4⟩,h5⟩,h6⟩,h7⟩,h8⟩,h9⟩,h10⟩,h11⟩:=hS;refine⟨h9,fun i hi=>?_,by omega,h8,h1,h3⟩;have:=List.all_eq_true.1 h11 N[i] (List.getElem_mem hi);rw[List.getD_eq_getElem?_getD,List.getElem?_eq_getElem hi];simpa using this
theorem abK {k y draw:Nat} (hg:gIn p q g=true) (hy:gIn p q y=true) (h1:1<q) (hk:k<q) (hd:draw<q∧draw≠0) :
  ckB p q (zN uS) g (g ^ k%p) y (y ^ k%p) (pfN p q g k y draw).1 (pfN p q g k y draw).2=true:=by
 have hB:prB p q k g y draw=true:=by
  unfold prB;rw[y6 hg,y6 hy,vJ h1 hk,vJ h1 hd.1];simp[hd.2]
 unfold pfN;rw[hB,uu,uu];have hc:prC p q (zN uS) k g y draw<q:=vA Om _ _;have e1:=om (x:=k) hg hc hd.1;have e2:=om (x:=k) hy hc hd.1;dsimp only;generalize hC:prC p q (zN uS) k g y draw=c at *;unfold ckB;rw[hg,pd hg Om,hy,pd hy Om,vJ h1 hc,vJ h1 (Nat.mod_lt _ Om)];simp only[Bool.true_and,Bool.and_true,decide_eq_true_eq];unfold ckC vL;rw[e1,e2,← hC];rfl
theorem afV {key draw c:Nat} {H:LN} (hg:gIn p q g=true) (hk:gIn p q key=true) (hk1:key≠1) (h1:1<q) (e:g ^ x%p=key) (hd:draw<q) (hc:c<q) (hC:c=fu q key (g ^ draw%p) H) :
  rH p q g key c ((draw+x*c%q)%q) H=true:=by
 have e1:=om (x:=x) hg hc hd;rw[e] at e1;have e2:prD p [g,key] [(draw+x*c%q)%q,(0+q - c)%q]=g ^ draw%p:=by
  unfold prD;simp only[List.zip_cons_cons,List.zip_nil_left,List.foldl_cons,List.foldl_nil,Nat.one_mul,Nat.mod_mod];exact e1
 unfold rH;rw[hk,afQ h1 hc (Nat.mod_lt (draw+x*c%q) Om),e2,decide_eq_false hk1,decide_eq_true hC];rfl
theorem eX {key draw:Nat} {H:LN} (hg:gIn p q g=true) (hk:gIn p q key=true) (hk1:key≠1) (h1:1<q) (hx:x<q) (e:g ^ x%p=key) (hd:draw<q∧draw≠0) :
  rH p q g key (sgN p q g x draw H).1 (sgN p q g x draw H).2 H=true:=by
 obtain⟨⟨hp1,_,_⟩,_⟩:=uk hg;have hx0:x≠0:=by
  rintro rfl;rw[Nat.pow_zero,Nat.mod_eq_of_lt hp1] at e;exact hk1 e.symm
 have hB:sgB p q g x draw=true:=by
  unfold sgB;rw[y6 hg,vJ h1 hx,vJ h1 hd.1];simp[hx0,hd.2]
 have hs:sgN p q g x draw H=(sgC p q g x draw H,(draw+x*sgC p q g x draw H%q)%q):=by
  unfold sgN;rw[hB,uu,uu]
 have hC:sgC p q g x draw H=fu q key (g ^ draw%p) H:=by
  unfold sgC fu;rw[e]
 have hc:sgC p q g x draw H<q:=vA Om _ _;rw[hs];generalize sgC p q g x draw H=c at *;exact afV hg hk hk1 h1 e hd.1 hc hC
theorem eR (hP:Pri q) (hA:it p q g h f sec N d l x=true) :
  ckE p q g h f sec N ep d (dVs p q g l N.length) (dYs p q l N N.length) (dPs p q g l N ep d x N.length) (dSg p q g l N ep d x N.length).1 (dSg p q g l N ep d x N.length).2=none:=by
 unfold it at hA;simp only[Bool.and_eq_true] at hA;obtain⟨⟨⟨hS,hN⟩,hl⟩,hx⟩:=hA;obtain⟨hlen,hall⟩:=hl;obtain⟨hkg,hks,hn8,hnq,hf,hsec⟩:=tq hS;obtain⟨hg,_⟩:=nf hkg;have h1:=hP.1;have hn:N.length<q:=by omega
 have hlen':=of_decide_eq_true hlen;have hsh:∀ i,shN q l i<q:=fun i=>Nat.mod_lt _ Om;have hV:∀ i,dV p q g l i=g ^ shN q l i%p:=fun i=>ql hg _;have hky:∀ i,i<N.length→gIn p q (ky N i)=true:=fun i hi=>(nf (hks i hi).2).1;have hY:∀ i,i<N.length→dY p q l N i=ky N i ^ shN q l i%p:=fun i hi=>ql (hky i hi) _;have aV:∀ i,i<N.length→(dVs p q g l N.length)[i]?.getD 0=g ^ shN q l i%p:=fun i hi=>by
  unfold dVs;rw[List.getElem?_map,List.getElem?_range hi];exact hV i
 have aY:∀ i,i<N.length→(dYs p q l N N.length)[i]?.getD 0=ky N i ^ shN q l i%p:=fun i hi=>by
  unfold dYs;rw[List.getElem?_map,List.getElem?_range hi];exact hY i hi
 unfold ckE;rw[hS,if_pos rfl];have b1:shB p q N d (dVs p q g l N.length) (dYs p q l N N.length) (dPs p q g l N ep d x N.length)=true:=by
  unfold shB;rw[hN];have v1:(dVs p q g l N.length).all (gIn p q)=true:=by
   rw[List.all_eq_true];intro v hv;unfold dVs at hv;obtain⟨i,_,rfl⟩:=List.mem_map.1 hv;rw[hV];exact pd hg Om _
  have v2:(dYs p q l N N.length).all (gIn p q)=true:=by
   rw[List.all_eq_true];intro v hv;unfold dYs at hv;obtain⟨i,hi,rfl⟩:=List.mem_map.1 hv;have hi':=List.mem_range.1 hi;rw[hY i hi'];exact pd (hky i hi') Om _
  rw[v1,v2];simp[dVs,dYs,dPs]
 rw[b1,if_pos rfl];have b2:duB p q N.length (f+sec).toNat (dVs p q g l N.length)=true:=by
  have hc:(f+sec).toNat=l.length:=by omega
  rw[hc];unfold duB;rw[Bool.or_eq_true,Bool.and_eq_true];refine .inr ⟨jk hP hn,?_⟩;rw[List.all_eq_true];intro k hk;have hk':=List.mem_range.1 hk;rw[decide_eq_true_eq];have hz:=eU (l:=l) (k:=k) hP hn8 hn Om (jk hP hn);have e:dVs p q g l N.length=((List.range N.length).map (shN q l)).map (fun e=>g ^ e%p):=by
   unfold dVs;rw[List.map_map];exact List.map_congr_left (fun i _=>hV i)
  obtain⟨⟨hp1,_,_⟩,_⟩:=uk hg;rw[e,adk hp1 (by simp[dwL]),lh hg];unfold dwL;rw[hz,Nat.pow_zero,Nat.mod_eq_of_lt hp1];exact (pK (m:=1) Om Om).symm
 rw[b2,if_pos rfl];have b3:aa8 p q g N (dVs p q g l N.length) (dYs p q l N N.length) (dPs p q g l N ep d x N.length)=true:=by
  unfold aa8;rw[List.all_eq_true];intro i hi;have hi' : i<N.length:=by have:=List.mem_range.1 hi;simpa [dPs] using this
  unfold pfB;rw[aV i hi',aY i hi'];have e1:(N[i]?.getD (0,0)).2=ky N i:=by unfold ky;rw[List.getD_eq_getElem?_getD]
  have e2:(dPs p q g l N ep d x N.length)[i]?.getD (0,0)=dP p q g l N ep d x i:=by
   unfold dPs;rw[List.getElem?_map,List.getElem?_range hi'];rfl
  rw[e1,e2];exact abK hg (hky i hi') h1 (hsh i) (sF h1)
 rw[b3,if_pos rfl];obtain⟨hd1,hdn⟩:=tU hN;have hkk:=hks (d - 1) Om;unfold abw at hx;simp only[Bool.and_eq_true,decide_eq_true_eq] at hx;have hxq:x<q:=by
  have:=hx.1.1;unfold zK at this;simp only[Bool.and_eq_true,decide_eq_true_eq] at this;exact this.2
 have b4:rH p q g (N[d - 1]?.getD (0,0)).1 (dSg p q g l N ep d x N.length).1 (dSg p q g l N ep d x N.length).2 (vi ep d (dVs p q g l N.length) (dYs p q l N N.length) (dPs p q g l N ep d x N.length))=true:=by
  have e1:(N[d - 1]?.getD (0,0)).1=sgK N d:=by unfold sgK;rw[List.getD_eq_getElem?_getD]
  rw[e1];exact eX hg (nf hkk.1).1 (nf hkk.1).2 h1 hxq hx.2 (sF h1)
 rw[b4,if_pos rfl]
end
theorem abZ {p q g a b:Nat} (hP:Pri q) (hg:gIn p q g=true) (hg1:g≠1) (ha:a<q) (hb:b<q) (h:g ^ a%p=g ^ b%p):a=b:=by
 obtain⟨⟨h1,h2,h3⟩,h4⟩:=uk hg;have key:∀ a b,a<b→b<q→g ^ a%p=g ^ b%p→False:=by
  intro a b hab hb h;have e1:g ^ (a+(q - a))%p=g ^ (b+(q - a))%p:=by rw[← ux,← ux,h]
  rw[show a+(q - a)=q by omega,h4,show b+(q - a)=b - a+q by omega] at e1;have e2:g ^ (b - a+q)%p=g ^ (b - a)%p:=fG hg (by rw[Nat.add_mod_right]);rw[e2] at e1;have hd:=hP.2 (b - a) Om Om;have hi:=(tu hP.1 (by omega:b - a<q) hd).1;have e3:g ^ ((b - a)*uG (b - a) q)%p=g ^ 1%p:=fG hg (by rw[Nat.mul_comm,hi,Nat.mod_eq_of_lt hP.1]);rw[← ug,← e1,Nat.one_pow,Nat.mod_eq_of_lt h1,Nat.pow_one,Nat.mod_eq_of_lt h3] at e3;exact hg1 e3.symm
 rcases Nat.lt_trichotomy a b with h'|h'|h'
 ·exact (key a b h' hb h).elim
 ·exact h'
 ·exact (key b a h' ha h.symm).elim
def uw:List Int→Int→Int
 | [],_=>0
 | c::r,x=>c+x*uw r x
theorem qP (D:List Int) (t x:Int):uw (D++[t]) x=uw D x+t*x ^ D.length:=by
 induction D with
 | nil=>simp[uw]
 | cons a r ih =>
  rw[List.cons_append,uw,uw,ih,List.length_cons,Int.pow_succ]
  grind
theorem nq:∀ (l m:LN) (x:Nat),l.length=m.length→uw (List.zipWith (fun (a b:Nat)=>(a:Int) - (b:Int)) l m) (x:Int)=(ya l x:Int) - (ya m x:Int)
 | [],[],_,_=>by simp[uw,ya]
 | [],_::_,_,h=>by simp at h
 | _::_,[],_,h=>by simp at h
 | a::l,b::m,x,h=>by
  rw[List.zipWith_cons_cons,uw,nq l m x (by simpa using h),ya,ya];push_cast
  grind
theorem mq {n:Nat} (hn:n<8):∀ (l:List Int) (k:Nat),k+l.length<n→((List.range n).map fun i=>pQ n (i+1)*((i+1:Nat):Int) ^ k*uw l ((i+1:Nat):Int)).sum=0
 | [],k,_=>by
  have:(fun i:Nat=>pQ n (i+1)*((i+1:Nat):Int) ^ k*uw [] ((i+1:Nat):Int))=fun _=>(0:Int):=by funext i;simp[uw]
  rw[this];generalize List.range n=L
  induction L with
  | nil=>rfl
  | cons a r ih=>simp only[List.map_cons,List.sum_cons,ih];rfl
 | c::r,k,h=>by
  have h1:=iV n (List.mem_range.2 hn) k (List.mem_range.2 (by simp at h;omega));have h2:=mq hn r (k+1) (by simp at h;omega);have e:(fun i:Nat=>pQ n (i+1)*((i+1:Nat):Int) ^ k*uw (c::r) ((i+1:Nat):Int))=fun i=>c*(pQ n (i+1)*((i+1:Nat):Int) ^ k)+pQ n (i+1)*((i+1:Nat):Int) ^ (k+1)*uw r ((i+1:Nat):Int):=by
   funext i;rw[uw,Int.pow_succ]
   grind
  rw[e,pj,rB,h1,h2];simp
theorem ab9:∀ n∈List.range 8,0<n→((List.range n).map fun i=>pQ n (i+1)*((i+1:Nat):Int) ^ (n - 1)).sum=(iR (n - 1):Int):=by decide
theorem jl {α:Type} (q:Int) (f:α→Int):∀ L:List α,(∀ i∈L,q ∣ f i)→q ∣ (L.map f).sum
 | [],_=>by simp
 | a::r,h=>by
  simp only[List.map_cons,List.sum_cons];exact Int.dvd_add (h a List.mem_cons_self) (jl q f r (fun i hi=>h i (List.mem_cons_of_mem _ hi)))
theorem ml {q:Nat} (hP:Pri q):∀ (n:Nat) (D:List Int),D.length=n→n<8→n<q→(∀ i,i<n→(q:Int) ∣ uw D ((i+1:Nat):Int))→∀ d∈D,(q:Int) ∣ d
 | 0,D,h,_,_,_=>by
  rw[List.length_eq_zero_iff.1 h];simp
 | n+1,D,h,h8,hq,hz=>by
  rcases List.eq_nil_or_concat D with rfl|⟨E,t,rfl⟩
  ·simp at h
  rw[List.concat_eq_append] at *;have hE:E.length=n:=by simpa using h
  have e:(fun i:Nat=>pQ (n+1) (i+1)*uw (E++[t]) ((i+1:Nat):Int))=fun i=>pQ (n+1) (i+1)*((i+1:Nat):Int) ^ 0*uw E ((i+1:Nat):Int)+t*(pQ (n+1) (i+1)*((i+1:Nat):Int) ^ (n+1 - 1)):=by
   funext i;rw[qP,hE,Int.pow_zero,Nat.add_sub_cancel]
   grind
  have hs:=jl (q:Int) (fun i:Nat=>pQ (n+1) (i+1)*uw (E++[t]) ((i+1:Nat):Int)) (List.range (n+1)) (fun i hi=>Int.dvd_mul_of_dvd_right (hz i (List.mem_range.1 hi)));rw[e,pj,rB,mq h8 E 0 Om,ab9 (n+1) (List.mem_range.2 h8) Om,Int.zero_add,Nat.add_sub_cancel] at hs;have ht:(q:Int) ∣ t:=by
   have hc:Nat.Coprime q (iR n):=Nat.Coprime.symm (lQ hP n Om);have hs' : q ∣ iR n*t.natAbs:=by
    have:=Int.natAbs_dvd_natAbs.2 hs;rw[Int.natAbs_mul,Nat.mul_comm] at this;simpa using this
   exact Int.ofNat_dvd_left.2 (Nat.Coprime.dvd_of_dvd_mul_left hc hs')
  intro d hd
  rcases List.mem_append.1 hd with hd|hd
  ·refine ml hP n E hE Om Om (fun i hi=>?_) d hd;have:=hz i Om;rw[qP] at this;exact (Int.dvd_add_left (Int.dvd_mul_of_dvd_left ht)).1 this
  ·rw[List.mem_singleton.1 hd];exact ht
theorem gU {q:Nat} (hP:Pri q) {l m:LN} (hlm:l.length=m.length) (h8:l.length<8) (hq:l.length<q) (hl:∀ a∈l,a<q) (hm:∀ a∈m,a<q) (h:∀ i,i<l.length→ya l (i+1)%q=ya m (i+1)%q):l=m:=by
 have hz:=ml hP l.length (List.zipWith (fun (a b:Nat)=>(a:Int) - (b:Int)) l m) (by simp[hlm]) h8 hq (fun i hi=>by
  rw[nq l m _ hlm];have e:=h i hi;have h1:=uX (q:=q) (ya l (i+1));have h2:=uX (q:=q) (ya m (i+1));rw[e] at h1;have:=Int.dvd_sub h1 h2;rwa [show ∀ a b c:Int,a - c - (b - c)=a - b by intro a b c;omega] at this)
 refine List.ext_getElem hlm (fun i h1 h2=>?_);have hd:=hz ((l[i]:Int) - (m[i]:Int)) (by
  rw[List.mem_iff_getElem];exact⟨i,by simp;omega,by simp⟩)
 have ha:=hl l[i] (List.getElem_mem h1);have hb:=hm m[i] (List.getElem_mem h2);obtain⟨c,hc⟩:=hd;have hc0:c=0:=by
  rcases Int.lt_trichotomy c 0 with h'|h'|h'
  ·have:(q:Int)*c≤(q:Int)*(-1):=Int.mul_le_mul_of_nonneg_left Om Om;omega
  ·exact h'
  ·have:(q:Int)*1≤(q:Int)*c:=Int.mul_le_mul_of_nonneg_left Om Om;omega
 subst hc0;omega
section
variable {p q g h:Nat} {f sec:Int} {N:LP} {ep d x:Nat} {l m:LN}
theorem aaK {α:Type} {f g:α→Bool}:∀ {L:List α},(∀ i∈L,f i=g i)→L.all f=L.all g
 | [],_=>rfl
 | a::r,h=>by rw[List.all_cons,List.all_cons,h a List.mem_cons_self,aaK (fun i hi=>h i (List.mem_cons_of_mem _ hi))]
theorem acs:nG (fun v x=>decide (v=exN p g x)) (dVs p q g l N.length) (shL q m N.length)=(List.range N.length).all fun i=>decide (exN p g (shN q l i)=exN p g (shN q m i)):=by
 unfold nG;rw[show (dVs p q g l N.length).length=N.length by simp[dVs]];refine aaK (fun i hi=>?_);have hi':=List.mem_range.1 hi;unfold dVs shL;rw[List.getElem?_map,List.getElem?_map,List.getElem?_range hi'];rfl
theorem bT (hP:Pri q) (hS:yX p q g h f sec N=true) (hlen:(l.length:Int)=f+sec) (hall:uf q l=true) :
  abH p q g h f sec N (dVs p q g l N.length) m=decide (m=l):=by
 obtain⟨hkg,hks,hn8,hnq,hf,hsec⟩:=tq hS;obtain⟨hg,hg1⟩:=nf hkg;have hcn:l.length≤N.length:=by
  unfold yX at hS;simp only[Bool.and_eq_true,decide_eq_true_eq] at hS;omega
 have h1:=hP.1;unfold abH;rw[hS,acs]
 by_cases e:m=l
 ·subst e;rw[hlen,hall];simp[dVs]
 ·rw[decide_eq_false e]
  by_cases h2:(m.length:Int)=f+sec∧uf q m=true
  ·have hml:l.length=m.length:=by omega
   have hne:¬ ∀ i,i<l.length→ya l (i+1)%q=ya m (i+1)%q:=fun hh=>e (gU hP hml Om Om (vH hall).2 (vH h2.2).2 hh).symm;obtain⟨i,hi⟩:=Classical.not_forall.1 hne;obtain⟨hi,hne⟩:=Classical.not_imp.1 hi;have:((List.range N.length).all fun i=>decide (exN p g (shN q l i)=exN p g (shN q m i)))=false:=by
    rw[List.all_eq_false];refine⟨i,List.mem_range.2 Om,?_⟩;rw[ql hg,ql hg,decide_eq_true_eq];exact fun hh=>hne (abZ hP hg hg1 (Nat.mod_lt _ Om) (Nat.mod_lt _ Om) hh)
   rw[this];simp
  ·have:(decide ((m.length:Int)=f+sec) && uf q m)=false:=by
    rw[Bool.and_eq_false_iff]
    by_cases h3:(m.length:Int)=f+sec
    ·refine .inr ?_;cases h4:uf q m with
     | false=>rfl
     | true=>exact absurd ⟨h3,h4⟩ h2
    ·exact .inl (decide_eq_false h3)
   rw[this];simp
end
section
variable {p q g:Nat} {N:LP} {ep d x n:Nat} {l:LN}
theorem adR (hp:p<ze):∀ a∈dVs p q g l n,a<ze:=fun a ha=>by
 unfold dVs at ha;obtain⟨i,_,rfl⟩:=List.mem_map.1 ha;exact uA hp
theorem aez (hp:p<ze):∀ a∈dYs p q l N n,a<ze:=fun a ha=>by
 unfold dYs at ha;obtain⟨i,_,rfl⟩:=List.mem_map.1 ha;exact uA hp
theorem adL (hq:q<ze) (h0:0<q):zY (dPs p q g l N ep d x n):=fun a ha=>by
 unfold dPs at ha;obtain⟨i,_,rfl⟩:=List.mem_map.1 ha;exact aey h0 hq
theorem aba (hq:q<ze) (h0:0<q):(dSg p q g l N ep d x n).1<ze∧(dSg p q g l N ep d x n).2<ze:=by
 exact aeC h0 hq
end
def vg (n:Nat):Bool:=decide (2≤n) && decide (n<4294967296) && (List.range n).all fun e=>decide (e<2) || decide (n<e*e) || decide (n%e≠0)
theorem qv (n:Nat):∀ m,n<m*m→∃ d,n<d*d∧∀ e,e<d→e*e≤n
 | 0,h=>by simp at h
 | m+1,h=>by
  rcases Nat.lt_or_ge n (m*m) with h1|h1
  ·exact qv n m h1
  ·exact⟨m+1,h,fun e he=>Nat.le_trans (Nat.mul_le_mul (by omega:e≤m) (by omega:e≤m)) h1⟩
theorem ng {n:Nat} (h:vg n=true):Pri n:=by
 unfold vg at h;simp only[Bool.and_eq_true,decide_eq_true_eq,List.all_eq_true,Bool.or_eq_true,List.mem_range] at h;obtain⟨⟨h2,_⟩,ha⟩:=h;obtain⟨d,hd,hs⟩:=qv n n (by have:=Nat.mul_le_mul_right n h2;omega);refine de h2 hd (fun e he1 he2=>?_);have he:=hs e he2;have hen:e<n:=by have:=Nat.mul_le_mul_right e he1;omega
 rcases ha e hen with (h|h)|h
 ·omega
 ·omega
 ·exact h
theorem da {n d:Nat} (h2:2≤n) (h3:n<4294967296) (hd:n<d*d) (h:∀ e,2≤e→e<d→n%e≠0):vg n=true:=by
 unfold vg;simp only[Bool.and_eq_true,decide_eq_true_eq,List.all_eq_true,Bool.or_eq_true,List.mem_range];refine⟨⟨h2,h3⟩,fun e _=>?_⟩
 rcases Nat.lt_or_ge e 2 with h1|h1
 ·exact .inl (.inl h1)
 ·rcases Nat.lt_or_ge e d with h4|h4
  ·exact .inr (h e h1 h4)
  ·exact .inl (.inr (Nat.lt_of_lt_of_le hd (Nat.mul_le_mul h4 h4)))
theorem bI {n d:Nat} (h2:2≤d) (hd:d*d≤n) (h:n%d=0):vg n=false:=by
 cases hb:vg n with
 | false=>rfl
 | true =>
  exfalso;unfold vg at hb;simp only[Bool.and_eq_true,decide_eq_true_eq,List.all_eq_true,Bool.or_eq_true,List.mem_range] at hb;have hdn:d<n:=by have:=Nat.mul_le_mul_right d h2;omega
  rcases hb.2 d hdn with (h1|h1)|h1
  ·omega
  ·omega
  ·exact h1 h
theorem mg {n:Nat} (h:n<2∨4294967296≤n):vg n=false:=by
 unfold vg
 rcases h with h|h
 ·rw[decide_eq_false (show ¬ 2≤n by omega)];rfl
 ·rw[decide_eq_false (show ¬ n<4294967296 by omega)];simp
def rq (p q:Nat):Bool:=decide (wd 0 p<4294967296) && decide (1<wd 0 q) && decide (p=wd 0 p) && decide (q=wd 0 q) && vg (wd 0 p) && vg (wd 0 q) && decide ((wd 0 p - 1)%wd 0 q=0)
theorem ib {p q:Nat} (h:rq p q=true):p<4294967296∧q<4294967296∧Pri p∧Pri q:=by
 unfold rq at h;simp only[Bool.and_eq_true,decide_eq_true_eq] at h;obtain⟨⟨⟨⟨⟨⟨h1,h2⟩,h3⟩,h4⟩,h5⟩,h6⟩,h7⟩:=h;rw[← h3] at h1 h5;rw[← h4] at h6;refine⟨h1,?_,ng h5,ng h6⟩;unfold vg at h6;simp only[Bool.and_eq_true,decide_eq_true_eq] at h6;exact h6.1.2
def mB (q:Nat) (k:Nat × Nat):Bool:=decide (k.1≠0) && decide (k.2≠0) && decide (k.1<q) && decide (k.2<q)
def csK (p g hh:Nat) (k:Nat × Nat):Nat × Nat:=(exN p g k.1,exN p hh k.2)
def csN (p g a:Nat) (ks:LP):List (Nat × Nat):=ks.map (csK p g (exN p g a))
def nQ (p q g a:Nat) (f sec:Int) (ks:LP):Bool :=
 yx p g && decide (a≠0) && decide (ks.length≤7) && rq p q && (ks.all (mB q) && (decide (ks=[]) || yx p (exN p g a))) && yX p q g (exN p g a) f sec (csN p g a ks)
theorem y4 (p g a:Nat) (ks:LP):(csN p g a ks).length=ks.length:=by simp[csN]
theorem qZ {p g a i:Nat} {ks:LP} {k:Nat × Nat} (h:ks[i]?=some k):(csN p g a ks)[i]?=some (csK p g (exN p g a) k):=by unfold csN;rw[List.getElem?_map,h];rfl
theorem qI {p g a:Nat} {ks:LP} (hp:p<ze):zY (csN p g a ks):=fun x hx=>by
 obtain⟨k,_,rfl⟩:=List.mem_map.1 hx;exact⟨uA hp,uA hp⟩
structure rU (p q g a:Nat) (f sec:Int) (ks:LP):Prop where
 p32:p<4294967296
 q32:q<4294967296
 pri:Pri q
 set:yX p q g (exN p g a) f sec (csN p g a ks)=true
 scr:∀ k∈ks,k.1<q∧k.2<q
 len:ks.length≤7
theorem dh {p q g a:Nat} {f sec:Int} {ks:LP} (h:nQ p q g a f sec ks=true):rU p q g a f sec ks:=by
 unfold nQ at h;simp only[Bool.and_eq_true,decide_eq_true_eq,List.all_eq_true] at h;obtain⟨⟨⟨⟨⟨_,_⟩,h3⟩,h4⟩,h5,_⟩,h6⟩:=h;obtain⟨g1,g2,_,g4⟩:=ib h4;refine⟨g1,g2,g4,h6,fun k hk=>?_,h3⟩;have:=h5 k hk;unfold mB at this;simp only[Bool.and_eq_true,decide_eq_true_eq] at this;exact⟨this.1.2,this.2⟩
end Sx
end
end Go.Proofs.YtiaibpcaloigkaaGreatDoor
