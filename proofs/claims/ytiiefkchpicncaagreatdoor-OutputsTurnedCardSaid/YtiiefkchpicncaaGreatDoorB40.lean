/- Part 40 of the proof. -/
import Derived.Test.YtiiefkchpicncaaGreatDoorB38
import Derived.Test.YtiiefkchpicncaaGreatDoorB39
set_option linter.unusedSimpArgs false
set_option linter.unusedVariables false
namespace Go.Proofs.YtiiefkchpicncaaGreatDoor
section
open Go Go.RowKit Go.BigFrame
namespace Sx
theorem yU {a q:Nat} (h1:1<q) (h2:a<q):zQ a a q=true:=by unfold zQ;simp[h1,h2]
theorem ahI {q a b:Nat} (h1:1<q) (ha:a<q) (hb:b<q):([a,b].all fun x=>zQ x x q)=true:=by simp[yU h1 ha,yU h1 hb]
theorem oI {q x:Nat} {H:List Nat} (h1:1<q):y8 q x H<q∧y8 q x H≠0:=by
 unfold y8;split
 ·exact⟨h1,by decide⟩
 ·rename_i h;exact⟨vx Om _ _,h⟩
theorem qw {p q a:Nat} (h:kB p q a=true):gIn p q a=true∧a≠1:=by
 unfold kB at h;simpa using h
section
variable {p q g h:Nat} {f sec:Int} {N:List (Nat × Nat)} {ep d x:Nat} {l:List Nat}
theorem tV (hS:yR p q g h f sec N=true):kB p q g=true∧(∀ i,i<N.length→kB p q (N.getD i (0,0)).1=true∧kB p q (N.getD i (0,0)).2=true)∧N.length<8∧(N.length:Int)+sec<(q:Int)∧0≤f∧1≤sec:=by
 unfold yR at hS;simp only[Bool.and_eq_true,decide_eq_true_eq] at hS;obtain⟨⟨⟨⟨⟨⟨⟨⟨⟨⟨h1,h2⟩,h3⟩,h4⟩,h5⟩,h6⟩,h7⟩,h8⟩,h9⟩,h10⟩,h11⟩:=hS;refine⟨h9,fun i hi=>?_,by omega,h8,h1,h3⟩;have:=List.all_eq_true.1 h11 N[i] (List.getElem_mem hi);rw[List.getD_eq_getElem?_getD,List.getElem?_eq_getElem hi];simpa using this
theorem aex {k y draw:Nat} (hg:gIn p q g=true) (hy:gIn p q y=true) (h1:1<q) (hk:k<q) (hd:draw<q∧draw≠0) :
  ckB p q (ya uP) g (g ^ k%p) y (y ^ k%p) (pfN p q g k y draw).1 (pfN p q g k y draw).2=true:=by
 have hB:prB p q k g y draw=true:=by
  unfold prB;rw[yC hg,yC hy,yU h1 hk,yU h1 hd.1];simp[hd.2]
 unfold pfN;rw[hB,vo,vo];have hc:prC p q (ya uP) k g y draw<q:=vx Om _ _;have e1:=tM (x:=k) hg hc hd.1;have e2:=tM (x:=k) hy hc hd.1;dsimp only;generalize hC:prC p q (ya uP) k g y draw=c at *;unfold ckB;rw[hg,ux hg Om,hy,ux hy Om,yU h1 hc,yU h1 (Nat.mod_lt _ Om)];simp only[Bool.true_and,Bool.and_true,decide_eq_true_eq];unfold ckC vO;rw[e1,e2,← hC];rfl
theorem ahn {key draw c:Nat} {H:List Nat} (hg:gIn p q g=true) (hk:gIn p q key=true) (hk1:key≠1) (h1:1<q) (e:g ^ x%p=key) (hd:draw<q) (hc:c<q) (hC:c=bm q key (g ^ draw%p) H) :
  lv p q g key c ((draw+x*c%q)%q) H=true:=by
 have e1:=tM (x:=x) hg hc hd;rw[e] at e1;have e2:prD p [g,key] [(draw+x*c%q)%q,(0+q - c)%q]=g ^ draw%p:=by
  unfold prD;simp only[List.zip_cons_cons,List.zip_nil_left,List.foldl_cons,List.foldl_nil,Nat.one_mul,Nat.mod_mod];exact e1
 unfold lv;rw[hk,ahI h1 hc (Nat.mod_lt (draw+x*c%q) Om),e2,decide_eq_false hk1,decide_eq_true hC];rfl
theorem afh {key draw:Nat} {H:List Nat} (hg:gIn p q g=true) (hk:gIn p q key=true) (hk1:key≠1) (h1:1<q) (hx:x<q) (e:g ^ x%p=key) (hd:draw<q∧draw≠0) :
  lv p q g key (sgN p q g x draw H).1 (sgN p q g x draw H).2 H=true:=by
 obtain⟨⟨hp1,_,_⟩,_⟩:=vE hg;have hx0:x≠0:=by
  rintro rfl;rw[Nat.pow_zero,Nat.mod_eq_of_lt hp1] at e;exact hk1 e.symm
 have hB:sgB p q g x draw=true:=by
  unfold sgB;rw[yC hg,yU h1 hx,yU h1 hd.1];simp[hx0,hd.2]
 have hs:sgN p q g x draw H=(sgC p q g x draw H,(draw+x*sgC p q g x draw H%q)%q):=by
  unfold sgN;rw[hB,vo,vo]
 have hC:sgC p q g x draw H=bm q key (g ^ draw%p) H:=by
  unfold sgC bm;rw[e]
 have hc:sgC p q g x draw H<q:=vx Om _ _;rw[hs];generalize sgC p q g x draw H=c at *;exact ahn hg hk hk1 h1 e hd.1 hc hC
theorem aab (hP:Pri q) (hA:fS p q g h f sec N d l x=true) :
  ckE p q g h f sec N ep d (dVs p q g l N.length) (dYs p q l N N.length) (dPs p q g l N ep d x N.length) (dSg p q g l N ep d x N.length).1 (dSg p q g l N ep d x N.length).2=none:=by
 unfold fS at hA;simp only[Bool.and_eq_true] at hA;obtain⟨⟨⟨hS,hN⟩,hl⟩,hx⟩:=hA;obtain⟨hlen,hall⟩:=hl;obtain⟨hkg,hks,hn8,hnq,hf,hsec⟩:=tV hS;obtain⟨hg,_⟩:=qw hkg;have h1:=hP.1;have hn:N.length<q:=by omega
 have hlen':=of_decide_eq_true hlen;have hsh:∀ i,shN q l i<q:=fun i=>Nat.mod_lt _ Om;have hV:∀ i,dV p q g l i=g ^ shN q l i%p:=fun i=>sR hg _;have hky:∀ i,i<N.length→gIn p q (ky N i)=true:=fun i hi=>(qw (hks i hi).2).1;have hY:∀ i,i<N.length→dY p q l N i=ky N i ^ shN q l i%p:=fun i hi=>sR (hky i hi) _;have aV:∀ i,i<N.length→(dVs p q g l N.length)[i]?.getD 0=g ^ shN q l i%p:=fun i hi=>by
  unfold dVs;rw[List.getElem?_map,List.getElem?_range hi];exact hV i
 have aY:∀ i,i<N.length→(dYs p q l N N.length)[i]?.getD 0=ky N i ^ shN q l i%p:=fun i hi=>by
  unfold dYs;rw[List.getElem?_map,List.getElem?_range hi];exact hY i hi
 unfold ckE;rw[hS,if_pos rfl];have b1:shB p q N d (dVs p q g l N.length) (dYs p q l N N.length) (dPs p q g l N ep d x N.length)=true:=by
  unfold shB;rw[hN];have v1:(dVs p q g l N.length).all (gIn p q)=true:=by
   rw[List.all_eq_true];intro v hv;unfold dVs at hv;obtain⟨i,_,rfl⟩:=List.mem_map.1 hv;rw[hV];exact ux hg Om _
  have v2:(dYs p q l N N.length).all (gIn p q)=true:=by
   rw[List.all_eq_true];intro v hv;unfold dYs at hv;obtain⟨i,hi,rfl⟩:=List.mem_map.1 hv;have hi':=List.mem_range.1 hi;rw[hY i hi'];exact ux (hky i hi') Om _
  rw[v1,v2];simp[dVs,dYs,dPs]
 rw[b1,if_pos rfl];have b2:duB p q N.length (f+sec).toNat (dVs p q g l N.length)=true:=by
  have hc:(f+sec).toNat=l.length:=by omega
  rw[hc];unfold duB;rw[Bool.or_eq_true,Bool.and_eq_true];refine .inr ⟨iG hP hn,?_⟩;rw[List.all_eq_true];intro k hk;have hk':=List.mem_range.1 hk;rw[decide_eq_true_eq];have hz:=bJ (l:=l) (k:=k) hP hn8 hn Om (iG hP hn);have e:dVs p q g l N.length=((List.range N.length).map (shN q l)).map (fun e=>g ^ e%p):=by
   unfold dVs;rw[List.map_map];exact List.map_congr_left (fun i _=>hV i)
  obtain⟨⟨hp1,_,_⟩,_⟩:=vE hg;rw[e,bf hp1 (by simp[dwL]),kS hg];unfold dwL;rw[hz,Nat.pow_zero,Nat.mod_eq_of_lt hp1];exact (nA (m:=1) Om Om).symm
 rw[b2,if_pos rfl];have b3:adg p q g N (dVs p q g l N.length) (dYs p q l N N.length) (dPs p q g l N ep d x N.length)=true:=by
  unfold adg;rw[List.all_eq_true];intro i hi;have hi' : i<N.length:=by have:=List.mem_range.1 hi;simpa [dPs] using this
  unfold pfB;rw[aV i hi',aY i hi'];have e1:(N[i]?.getD (0,0)).2=ky N i:=by unfold ky;rw[List.getD_eq_getElem?_getD]
  have e2:(dPs p q g l N ep d x N.length)[i]?.getD (0,0)=dP p q g l N ep d x i:=by
   unfold dPs;rw[List.getElem?_map,List.getElem?_range hi'];rfl
  rw[e1,e2];exact aex hg (hky i hi') h1 (hsh i) (oI h1)
 rw[b3,if_pos rfl];obtain⟨hd1,hdn⟩:=yq hN;have hkk:=hks (d - 1) Om;unfold jT at hx;simp only[Bool.and_eq_true,decide_eq_true_eq] at hx;have hxq:x<q:=by
  have:=hx.1.1;unfold zQ at this;simp only[Bool.and_eq_true,decide_eq_true_eq] at this;exact this.2
 have b4:lv p q g (N[d - 1]?.getD (0,0)).1 (dSg p q g l N ep d x N.length).1 (dSg p q g l N ep d x N.length).2 (uc ep d (dVs p q g l N.length) (dYs p q l N N.length) (dPs p q g l N ep d x N.length))=true:=by
  have e1:(N[d - 1]?.getD (0,0)).1=sgK N d:=by unfold sgK;rw[List.getD_eq_getElem?_getD]
  rw[e1];exact afh hg (qw hkk.1).1 (qw hkk.1).2 h1 hxq hx.2 (oI h1)
 rw[b4,if_pos rfl]
end
theorem aft {p q g a b:Nat} (hP:Pri q) (hg:gIn p q g=true) (hg1:g≠1) (ha:a<q) (hb:b<q) (h:g ^ a%p=g ^ b%p):a=b:=by
 obtain⟨⟨h1,h2,h3⟩,h4⟩:=vE hg;have key:∀ a b,a<b→b<q→g ^ a%p=g ^ b%p→False:=by
  intro a b hab hb h;have e1:g ^ (a+(q - a))%p=g ^ (b+(q - a))%p:=by rw[← uu,← uu,h]
  rw[show a+(q - a)=q by omega,h4,show b+(q - a)=b - a+q by omega] at e1;have e2:g ^ (b - a+q)%p=g ^ (b - a)%p:=lY hg (by rw[Nat.add_mod_right]);rw[e2] at e1;have hd:=hP.2 (b - a) Om Om;have hi:=(vT hP.1 (by omega:b - a<q) hd).1;have e3:g ^ ((b - a)*yX (b - a) q)%p=g ^ 1%p:=lY hg (by rw[Nat.mul_comm,hi,Nat.mod_eq_of_lt hP.1]);rw[← yF,← e1,Nat.one_pow,Nat.mod_eq_of_lt h1,Nat.pow_one,Nat.mod_eq_of_lt h3] at e3;exact hg1 e3.symm
 rcases Nat.lt_trichotomy a b with h'|h'|h'
 ·exact (key a b h' hb h).elim
 ·exact h'
 ·exact (key b a h' ha h.symm).elim
def zS:List Int→Int→Int
 | [],_=>0
 | c::r,x=>c+x*zS r x
theorem pp (D:List Int) (t x:Int):zS (D++[t]) x=zS D x+t*x ^ D.length:=by
 induction D with
 | nil=>simp[zS]
 | cons a r ih =>
  rw[List.cons_append,zS,zS,ih,List.length_cons,Int.pow_succ]
  grind
theorem mR:∀ (l m:List Nat) (x:Nat),l.length=m.length→zS (List.zipWith (fun (a b:Nat)=>(a:Int) - (b:Int)) l m) (x:Int)=(zD l x:Int) - (zD m x:Int)
 | [],[],_,_=>by simp[zS,zD]
 | [],_::_,_,h=>by simp at h
 | _::_,[],_,h=>by simp at h
 | a::l,b::m,x,h=>by
  rw[List.zipWith_cons_cons,zS,mR l m x (by simpa using h),zD,zD];push_cast
  grind
theorem ke {n:Nat} (hn:n<8):∀ (l:List Int) (k:Nat),k+l.length<n→((List.range n).map fun i=>nL n (i+1)*((i+1:Nat):Int) ^ k*zS l ((i+1:Nat):Int)).sum=0
 | [],k,_=>by
  have:(fun i:Nat=>nL n (i+1)*((i+1:Nat):Int) ^ k*zS [] ((i+1:Nat):Int))=fun _=>(0:Int):=by funext i;simp[zS]
  rw[this];generalize List.range n=L
  induction L with
  | nil=>rfl
  | cons a r ih=>simp only[List.map_cons,List.sum_cons,ih];rfl
 | c::r,k,h=>by
  have h1:=aag n (List.mem_range.2 hn) k (List.mem_range.2 (by simp at h;omega));have h2:=ke hn r (k+1) (by simp at h;omega);have e:(fun i:Nat=>nL n (i+1)*((i+1:Nat):Int) ^ k*zS (c::r) ((i+1:Nat):Int))=fun i=>c*(nL n (i+1)*((i+1:Nat):Int) ^ k)+nL n (i+1)*((i+1:Nat):Int) ^ (k+1)*zS r ((i+1:Nat):Int):=by
   funext i;rw[zS,Int.pow_succ]
   grind
  rw[e,ni,rz,h1,h2];simp
theorem afE:∀ n∈List.range 8,0<n→((List.range n).map fun i=>nL n (i+1)*((i+1:Nat):Int) ^ (n - 1)).sum=(aap (n - 1):Int):=by decide
theorem iH {α:Type} (q:Int) (f:α→Int):∀ L:List α,(∀ i∈L,q ∣ f i)→q ∣ (L.map f).sum
 | [],_=>by simp
 | a::r,h=>by
  simp only[List.map_cons,List.sum_cons];exact Int.dvd_add (h a List.mem_cons_self) (iH q f r (fun i hi=>h i (List.mem_cons_of_mem _ hi)))
theorem mj {q:Nat} (hP:Pri q):∀ (n:Nat) (D:List Int),D.length=n→n<8→n<q→(∀ i,i<n→(q:Int) ∣ zS D ((i+1:Nat):Int))→∀ d∈D,(q:Int) ∣ d
 | 0,D,h,_,_,_=>by
  rw[List.length_eq_zero_iff.1 h];simp
 | n+1,D,h,h8,hq,hz=>by
  rcases List.eq_nil_or_concat D with rfl|⟨E,t,rfl⟩
  ·simp at h
  rw[List.concat_eq_append] at *;have hE:E.length=n:=by simpa using h
  have e:(fun i:Nat=>nL (n+1) (i+1)*zS (E++[t]) ((i+1:Nat):Int))=fun i=>nL (n+1) (i+1)*((i+1:Nat):Int) ^ 0*zS E ((i+1:Nat):Int)+t*(nL (n+1) (i+1)*((i+1:Nat):Int) ^ (n+1 - 1)):=by
   funext i;rw[pp,hE,Int.pow_zero,Nat.add_sub_cancel]
   grind
  have hs:=iH (q:Int) (fun i:Nat=>nL (n+1) (i+1)*zS (E++[t]) ((i+1:Nat):Int)) (List.range (n+1)) (fun i hi=>Int.dvd_mul_of_dvd_right (hz i (List.mem_range.1 hi)));rw[e,ni,rz,ke h8 E 0 Om,afE (n+1) (List.mem_range.2 h8) Om,Int.zero_add,Nat.add_sub_cancel] at hs;have ht:(q:Int) ∣ t:=by
   have hc:Nat.Coprime q (aap n):=Nat.Coprime.symm (jC hP n Om);have hs' : q ∣ aap n*t.natAbs:=by
    have:=Int.natAbs_dvd_natAbs.2 hs;rw[Int.natAbs_mul,Nat.mul_comm] at this;simpa using this
   exact Int.ofNat_dvd_left.2 (Nat.Coprime.dvd_of_dvd_mul_left hc hs')
  intro d hd
  rcases List.mem_append.1 hd with hd|hd
  ·refine mj hP n E hE Om Om (fun i hi=>?_) d hd;have:=hz i Om;rw[pp] at this;exact (Int.dvd_add_left (Int.dvd_mul_of_dvd_left ht)).1 this
  ·rw[List.mem_singleton.1 hd];exact ht
theorem cd {q:Nat} (hP:Pri q) {l m:List Nat} (hlm:l.length=m.length) (h8:l.length<8) (hq:l.length<q) (hl:∀ a∈l,a<q) (hm:∀ a∈m,a<q) (h:∀ i,i<l.length→zD l (i+1)%q=zD m (i+1)%q):l=m:=by
 have hz:=mj hP l.length (List.zipWith (fun (a b:Nat)=>(a:Int) - (b:Int)) l m) (by simp[hlm]) h8 hq (fun i hi=>by
  rw[mR l m _ hlm];have e:=h i hi;have h1:=vq (q:=q) (zD l (i+1));have h2:=vq (q:=q) (zD m (i+1));rw[e] at h1;have:=Int.dvd_sub h1 h2;rwa [show ∀ a b c:Int,a - c - (b - c)=a - b by intro a b c;omega] at this)
 refine List.ext_getElem hlm (fun i h1 h2=>?_);have hd:=hz ((l[i]:Int) - (m[i]:Int)) (by
  rw[List.mem_iff_getElem];exact⟨i,by simp;omega,by simp⟩)
 have ha:=hl l[i] (List.getElem_mem h1);have hb:=hm m[i] (List.getElem_mem h2);obtain⟨c,hc⟩:=hd;have hc0:c=0:=by
  rcases Int.lt_trichotomy c 0 with h'|h'|h'
  ·have:(q:Int)*c≤(q:Int)*(-1):=Int.mul_le_mul_of_nonneg_left Om Om;omega
  ·exact h'
  ·have:(q:Int)*1≤(q:Int)*c:=Int.mul_le_mul_of_nonneg_left Om Om;omega
 subst hc0;omega
section
variable {p q g h:Nat} {f sec:Int} {N:List (Nat × Nat)} {ep d x:Nat} {l m:List Nat}
theorem adA {α:Type} {f g:α→Bool}:∀ {L:List α},(∀ i∈L,f i=g i)→L.all f=L.all g
 | [],_=>rfl
 | a::r,h=>by rw[List.all_cons,List.all_cons,h a List.mem_cons_self,adA (fun i hi=>h i (List.mem_cons_of_mem _ hi))]
theorem ad2:mw (fun v x=>decide (v=exN p g x)) (dVs p q g l N.length) (shL q m N.length)=(List.range N.length).all fun i=>decide (exN p g (shN q l i)=exN p g (shN q m i)):=by
 unfold mw;rw[show (dVs p q g l N.length).length=N.length by simp[dVs]];refine adA (fun i hi=>?_);have hi':=List.mem_range.1 hi;unfold dVs shL;rw[List.getElem?_map,List.getElem?_map,List.getElem?_range hi'];rfl
theorem acC (hP:Pri q) (hS:yR p q g h f sec N=true) (hlen:(l.length:Int)=f+sec) (hall:vZ q l=true) :
  ad4 p q g h f sec N (dVs p q g l N.length) m=decide (m=l):=by
 obtain⟨hkg,hks,hn8,hnq,hf,hsec⟩:=tV hS;obtain⟨hg,hg1⟩:=qw hkg;have hcn:l.length≤N.length:=by
  unfold yR at hS;simp only[Bool.and_eq_true,decide_eq_true_eq] at hS;omega
 have h1:=hP.1;unfold ad4;rw[hS,ad2]
 by_cases e:m=l
 ·subst e;rw[hlen,hall];simp[dVs]
 ·rw[decide_eq_false e]
  by_cases h2:(m.length:Int)=f+sec∧vZ q m=true
  ·have hml:l.length=m.length:=by omega
   have hne:¬ ∀ i,i<l.length→zD l (i+1)%q=zD m (i+1)%q:=fun hh=>e (cd hP hml Om Om (vV hall).2 (vV h2.2).2 hh).symm;obtain⟨i,hi⟩:=Classical.not_forall.1 hne;obtain⟨hi,hne⟩:=Classical.not_imp.1 hi;have:((List.range N.length).all fun i=>decide (exN p g (shN q l i)=exN p g (shN q m i)))=false:=by
    rw[List.all_eq_false];refine⟨i,List.mem_range.2 Om,?_⟩;rw[sR hg,sR hg,decide_eq_true_eq];exact fun hh=>hne (aft hP hg hg1 (Nat.mod_lt _ Om) (Nat.mod_lt _ Om) hh)
   rw[this];simp
  ·have:(decide ((m.length:Int)=f+sec) && vZ q m)=false:=by
    rw[Bool.and_eq_false_iff]
    by_cases h3:(m.length:Int)=f+sec
    ·refine .inr ?_;cases h4:vZ q m with
     | false=>rfl
     | true=>exact absurd ⟨h3,h4⟩ h2
    ·exact .inl (decide_eq_false h3)
   rw[this];simp
end
def Pol (n:Nat) (F:Int→Int):Prop:=∃ C:List Int,C.length=n∧∀ x,F x=zS C x
theorem rR (n:Nat) (x:Int):zS (List.replicate n 0) x=0:=by
 induction n with
 | zero=>rfl
 | succ n ih=>rw[List.replicate_succ,zS,ih];simp
theorem dR (D E:List Int) (x:Int):zS (D++E) x=zS D x+x ^ D.length*zS E x:=by
 induction D with
 | nil=>simp[zS]
 | cons a r ih=>rw[List.cons_append,zS,zS,ih,List.length_cons,Int.pow_succ];grind
theorem qY (c:Int):∀ (D:List Int) (x:Int),zS (D.map (c * ·)) x=c*zS D x
 | [],x=>by simp[zS]
 | a::r,x=>by rw[List.map_cons,zS,qY c r,zS];grind
theorem lq:∀ (D E:List Int) (x:Int),D.length=E.length→zS (List.zipWith (· + ·) D E) x=zS D x+zS E x
 | [],[],_,_=>by simp[zS]
 | [],_::_,_,h=>by simp at h
 | _::_,[],_,h=>by simp at h
 | a::l,b::m,x,h=>by
  rw[List.zipWith_cons_cons,zS,lq l m x (by simpa using h),zS,zS]
  grind
theorem Pol.zero (n:Nat):Pol n (fun _=>0):=⟨List.replicate n 0,by simp,fun x=>(rR n x).symm⟩
theorem Pol.add {n:Nat} {F G:Int→Int}:Pol n F→Pol n G→Pol n (fun x=>F x+G x)
 | ⟨C,h1,h2⟩,⟨D,h3,h4⟩=>⟨List.zipWith (· + ·) C D,by simp[h1,h3],fun x=>by show F x+G x=_;rw[lq C D x (by rw[h1,h3]),h2,h4]⟩
theorem Pol.smul {n:Nat} {F:Int→Int} (c:Int):Pol n F→Pol n (fun x=>c*F x)
 | ⟨C,h1,h2⟩=>⟨C.map (c * ·),by simp[h1],fun x=>by show c*F x=_;rw[qY,h2]⟩
theorem Pol.up {n m:Nat} {F:Int→Int} (hnm:n≤m):Pol n F→Pol m F
 | ⟨C,h1,h2⟩=>⟨C++List.replicate (m - n) 0,by simp[h1];omega,fun x=>by rw[dR,rR,h2];simp⟩
theorem Pol.one:Pol 1 (fun _=>1):=⟨[1],rfl,fun x=>by simp[zS]⟩
theorem Pol.lin {n:Nat} {F:Int→Int} (a:Int):Pol n F→Pol (n+1) (fun x=>F x*(x - a))
 | h=>by
  have h1:Pol (n+1) (fun x=>x*F x):=by
   obtain⟨C,h1,h2⟩:=h;exact⟨0::C,by simp[h1],fun x=>by rw[zS,← h2];simp⟩
  have h2:=h1.add ((h.up (Nat.le_succ n)).smul (-a));obtain⟨C,e1,e2⟩:=h2;exact⟨C,e1,fun x=>by rw[← e2];grind⟩
theorem Pol.sum {n:Nat} (f:Nat→Int→Int):∀ L:List Nat,(∀ i∈L,Pol n (f i))→Pol n (fun x=>(L.map fun i=>f i x).sum)
 | [],_=>by simpa using Pol.zero n
 | a::r,h=>by
  have:=(h a List.mem_cons_self).add (Pol.sum f r (fun i hi=>h i (List.mem_cons_of_mem _ hi)));simpa using this
theorem kj (a:Int):∀ (C:List Int),C≠[]→∃ D:List Int,D.length+1=C.length∧∀ x,zS C x=zS D x*(x - a)+zS C a
 | [c],_=>⟨[],rfl,fun x=>by simp[zS]⟩
 | c::d::r,_=>by
  obtain⟨D,h1,h2⟩:=kj a (d::r) (by simp);refine⟨zS (d::r) a::D,by simp at h1 ⊢;omega,fun x=>?_⟩;have:=h2 x;show c+x*zS (d::r) x=(zS (d::r) a+x*zS D x)*(x - a)+(c+a*zS (d::r) a);rw[this];generalize zS (d::r) a=u;generalize zS D x=v
  grind
theorem afn {q:Nat} {u v:Int} (h:(q:Int) ∣ v*u) (hc:Nat.Coprime u.natAbs q):(q:Int) ∣ v:=by
 have h1:q ∣ v.natAbs*u.natAbs:=by
  have:=Int.natAbs_dvd_natAbs.2 h;rw[Int.natAbs_mul] at this;simpa using this
 exact Int.ofNat_dvd_left.2 (Nat.Coprime.dvd_of_dvd_mul_right hc.symm h1)
theorem Pol.none {q:Nat}:∀ (xs:List Int) (F:Int→Int),Pol xs.length F→xs.Pairwise (fun a b=>Nat.Coprime (b - a).natAbs q)→(∀ a∈xs,(q:Int) ∣ F a)→∀ x,(q:Int) ∣ F x
 | [],F,⟨C,h1,h2⟩,_,_,x=>by
  rw[h2,List.length_eq_zero_iff.1 h1];simp[zS]
 | a::r,F,⟨C,h1,h2⟩,hp,hz,x=>by
  obtain⟨D,h3,h4⟩:=kj a C (by intro e;rw[e] at h1;simp at h1);have ha:=hz a List.mem_cons_self;rw[List.pairwise_cons] at hp;have hG:=Pol.none r (zS D) ⟨D,by simp at h1;omega,fun _=>rfl⟩ hp.2 (fun b hb=>by
   have h5:=hz b (List.mem_cons_of_mem _ hb);rw[h2,h4,← h2 a] at h5;have h6:=(Int.dvd_add_left ha).1 h5;have hg:=hp.1 b hb;exact afn h6 hg) x
  rw[h2,h4,← h2 a];exact Int.dvd_add (Int.dvd_mul_of_dvd_left hG) ha
def lag (l:List Nat) (i:Nat):Nat→Int→Int
 | 0,_=>1
 | k+1,x=>if k=i then lag l i k x else lag l i k x*(x - (l.getD k 0:Nat))
theorem aT (l:List Nat) (i:Nat):∀ k,Pol (if i<k then k else k+1) (lag l i k)
 | 0=>by simpa [lag] using Pol.one
 | k+1=>by
  have ih:=aT l i k
  by_cases h:k=i
  ·subst h;rw[if_neg (Nat.lt_irrefl k)] at ih;rw[if_pos (Nat.lt_succ_self k)];have:lag l k (k+1)=lag l k k:=by funext x;simp[lag]
   rwa [this]
  ·have e:lag l i (k+1)=fun x=>lag l i k x*(x - (l.getD k 0:Nat)):=by funext x;simp[lag,h]
   rw[e];have:=ih.lin (l.getD k 0:Nat)
   rcases Nat.lt_or_ge i k with h1|h1
   ·rw[if_pos h1] at this;rwa [if_pos Om]
   ·rw[if_neg Om] at this;rwa [if_neg Om]
theorem iP {l:List Nat} {i j:Nat} (hij:j≠i):∀ {k:Nat},j<k→lag l i k (l.getD j 0:Nat)=0
 | k+1,h=>by
  rw[lag]
  rcases Nat.lt_or_ge j k with h1|h1
  ·rw[iP hij h1];simp
  ·have:k=j:=by omega
   subst this;rw[if_neg hij,Int.sub_self,Int.mul_zero]
theorem kU {q a x i:Nat} {l:List Nat} (hl:∀ y∈l,y<q) (h0:0<q):∀ k,k≤l.length→(q:Int) ∣ (prM q a (dif q l i x k):Int) - (a:Int)*lag l i k x
 | 0,_=>by simp[dif,prM,lag]
 | k+1,h=>by
  have ih:=kU (a:=a) (x:=x) (i:=i) hl h0 k Om;obtain⟨v,hv⟩ : ∃ v,l[k]?=some v:=⟨_,List.getElem?_eq_getElem Om⟩;have hvq:=hl v (List.mem_of_getElem? hv);have hg:l.getD k 0=v:=by rw[List.getD_eq_getElem?_getD,hv];rfl
  by_cases hk:k=i
  ·rw[ny hk,lag,if_pos hk];exact ih
  ·rw[oE hk hv,nN,lag,if_neg hk,hg];generalize prM q a (dif q l i x k)=P at *;generalize lag l i k x=G at *;have h1:(q:Int) ∣ ((P*((x+q - v)%q):Nat):Int) - ((P*((x+q - v)%q)%q:Nat):Int):=vq _;have h2:(q:Int) ∣ ((x+q - v:Nat):Int) - (((x+q - v)%q:Nat):Int):=vq _;have e:((x+q - v:Nat):Int)=(x:Int)+q - v:=by omega
   rw[e] at h2;generalize (x+q - v)%q=D at *;generalize P*D%q=R at *;rw[Int.natCast_mul] at h1;obtain⟨c1,h1⟩:=h1;obtain⟨c2,h2⟩:=h2;obtain⟨c3,ih⟩:=ih;refine⟨P*(1 - c2)+c3*(x - v) - c1,?_⟩;have hR:(R:Int)=P*D - q*c1:=by omega
   have hD:(D:Int)=x+q - v - q*c2:=by omega
   have hP:(P:Int)=a*G+q*c3:=by omega
   rw[hR,hD];have:a*G=(P:Int) - q*c3:=by omega
   rw[← Int.mul_assoc,this]
   grind
theorem ae (c:List Nat) (x:Nat):(zD c x:Int)=zS (c.map fun a:Nat=>(a:Int)) (x:Int):=by
 induction c with
 | nil=>simp[zD,zS]
 | cons a r ih=>rw[zD,List.map_cons,zS,← ih];push_cast;rfl
theorem ab1 {q a b:Nat} (hP:Pri q) (ha:a<q) (hb:b<q) (h:a≠b):Nat.Coprime ((b:Int) - (a:Int)).natAbs q :=
 hP.2 _ Om Om
theorem kP {q:Nat} (hP:Pri q) {l:List Nat} (hl:∀ y∈l,y<q) {x i:Nat} (hx:x<q):∀ {k:Nat},k≤l.length→(∀ j v,j<k→j≠i→l[j]?=some v→v≠x)→aaz q (dif q l i x k)=true
 | 0,_,_=>by simp[dif,aaz]
 | k+1,hk,h=>by
  have ih:=kP hP hl hx (k:=k) (i:=i) Om (fun j v h1 h2 h3=>h j v Om h2 h3)
  by_cases e:k=i
  ·rw[ny e];exact ih
  ·obtain⟨v,hv⟩ : ∃ v,l[k]?=some v:=⟨_,List.getElem?_eq_getElem Om⟩;have hvq:=hl v (List.mem_of_getElem? hv);have hne:=h k v Om e hv;rw[oE e hv];unfold aaz at *;rw[List.all_append,ih,Bool.true_and,List.all_cons,List.all_nil,Bool.and_true,decide_eq_true_eq];refine hP.2 _ ?_ (Nat.mod_lt _ Om)
   rcases Nat.lt_or_ge x v with h1|h1
   ·rw[Nat.mod_eq_of_lt Om];omega
   ·rw[show x+q - v=x - v+q by omega,Nat.add_mod_right,Nat.mod_eq_of_lt Om];omega
theorem r5 {l:List Nat} (h:l.Nodup) {i j a:Nat} (hi:l[i]?=some a) (hj:l[j]?=some a):i=j:=by
 obtain⟨h1,e1⟩:=List.getElem?_eq_some_iff.1 hi;obtain⟨h2,e2⟩:=List.getElem?_eq_some_iff.1 hj
 rcases Nat.lt_trichotomy i j with h3|h3|h3
 ·exact (List.pairwise_iff_getElem.1 h i j h1 h2 h3 (by rw[e1,e2])).elim
 ·exact h3
 ·exact (List.pairwise_iff_getElem.1 h j i h2 h1 h3 (by rw[e1,e2])).elim
theorem afu {q:Nat} (hP:Pri q) {l:List Nat} (hO:qt q l) {k:Nat} (hk:k<l.length):(q:Int) ∣ (wtI q l k:Int)*lag l k l.length (l.getD k 0:Nat) - 1:=by
 obtain⟨v,hv⟩ : ∃ v,l[k]?=some v:=⟨_,List.getElem?_eq_getElem hk⟩;have hg:l.getD k 0=v:=by rw[List.getD_eq_getElem?_getD,hv];rfl
 have hvq:=hO.lt v (List.mem_of_getElem? hv);have h1:=kU (a:=1) (x:=l.getD k 0) (i:=k) hO.lt (by have:=hP.1;omega) l.length (Nat.le_refl _);have hc:aaz q (dif q l k (l.getD k 0) l.length)=true:=kP hP hO.lt (by rw[hg];exact hvq) (Nat.le_refl _) (fun j u h1 h2 h3 e=>by
  rw[hg] at e;subst e;exact h2 (r5 hO.nd h3 hv))
 have hgc:=(nQ q (dif q l k (l.getD k 0) l.length) 1).2 ⟨Nat.gcd_one_left q,hc⟩;have hi:=(vT hP.1 (mp (by have:=hP.1;omega) hP.1 (dif q l k (l.getD k 0) l.length)) hgc).1;have h2:=vq (q:=q) (yX (prM q 1 (dif q l k (l.getD k 0) l.length)) q*prM q 1 (dif q l k (l.getD k 0) l.length));rw[hi] at h2;unfold wtI;generalize yX (prM q 1 (dif q l k (l.getD k 0) l.length)) q=I at *;generalize prM q 1 (dif q l k (l.getD k 0) l.length)=M at *;generalize lag l k l.length (l.getD k 0:Nat)=G at *;push_cast at h1 h2;obtain⟨c1,h1⟩:=h1;obtain⟨c2,h2⟩:=h2;refine⟨c2 - I*c1,?_⟩;have e1:G=M - q*c1:=by omega
 rw[e1]
 grind
theorem abR {q:Nat} (hP:Pri q) {l:List Nat} (hO:qt q l) {c:List Nat} (hc:c.length≤l.length) (x:Nat) :
  (q:Int) ∣ ((List.range l.length).map fun i=>(wtN q l x i:Int)*(zD c (l.getD i 0):Int)).sum - (zD c x:Int):=by
 have hq0:0<q:=by have:=hP.1;omega
 have hF:Pol l.length (fun y=>((List.range l.length).map fun i=>((wtI q l i:Int)*(zD c (l.getD i 0):Int))*lag l i l.length y).sum+(-1)*zS (c.map fun a:Nat=>(a:Int)) y):=by
  refine Pol.add (Pol.sum (fun i y=>((wtI q l i:Int)*(zD c (l.getD i 0):Int))*lag l i l.length y) _ (fun i hi=>Pol.smul _ ?_)) (Pol.smul _ (Pol.up (n:=c.length) hc ⟨c.map fun a:Nat=>(a:Int),by simp,fun _=>rfl⟩));have:=aT l i l.length;rwa [if_pos (List.mem_range.1 hi)] at this
 have hz:=Pol.none (q:=q) (l.map fun a:Nat=>(a:Int)) _ (by rw[List.length_map];exact hF) (by
  rw[List.pairwise_map];refine List.Pairwise.imp_of_mem (fun ha hb h=>?_) hO.nd;exact ab1 hP (hO.lt _ ha) (hO.lt _ hb) h) (fun a ha=>by
  obtain⟨v,hv,rfl⟩:=List.mem_map.1 ha;obtain⟨k,hk,e⟩:=List.mem_iff_getElem.1 hv;have hkv:l[k]?=some v:=by rw[List.getElem?_eq_getElem hk,e]
  have hg:l.getD k 0=v:=by rw[List.getD_eq_getElem?_getD,hkv];rfl
  rw[← ae];have key:∀ L:List Nat,L.Nodup→(∀ i∈L,i<l.length)→(q:Int) ∣ (L.map fun i=>((wtI q l i:Int)*(zD c (l.getD i 0):Int))*lag l i l.length (v:Int)).sum - (if k∈L then (zD c v:Int) else 0):=by
   intro L
   induction L with
   | nil=>intro _ _;simp
   | cons i r ih =>
    intro hn hlt;rw[List.nodup_cons] at hn;have ih':=ih hn.2 (fun j hj=>hlt j (List.mem_cons_of_mem _ hj));rw[List.map_cons,List.sum_cons]
    by_cases hik:k=i
    ·subst hik;rw[if_neg hn.1] at ih';rw[if_pos List.mem_cons_self];have h1:=afu hP hO hk;rw[hg] at h1 ⊢;generalize (r.map fun i=>((wtI q l i:Int)*(zD c (l.getD i 0):Int))*lag l i l.length (v:Int)).sum=S at *;generalize lag l k l.length (v:Int)=G at *;obtain⟨c1,h1⟩:=h1;obtain⟨c2,ih'⟩:=ih';refine⟨c1*zD c v+c2,?_⟩;have e1:(wtI q l k:Int)*G=1+q*c1:=by omega
     have e2:S=q*c2:=by omega
     rw[show (wtI q l k:Int)*(zD c v:Int)*G=((wtI q l k:Int)*G)*(zD c v:Int) by grind,e1,e2]
     grind
    ·have h0:lag l i l.length (v:Int)=0:=by rw[← hg];exact iP hik hk
     rw[h0,Int.mul_zero,Int.zero_add];simpa [List.mem_cons,hik] using ih'
  have:=key (List.range l.length) List.nodup_range (fun i hi=>List.mem_range.1 hi);rw[if_pos (List.mem_range.2 hk)] at this;rw[show ∀ a b:Int,a+(-1)*b=a - b by intro a b;omega];exact this) (x:Int)
 rw[← ae,show ∀ a b:Int,a+(-1)*b=a - b by intro a b;omega] at hz;have hw:(q:Int) ∣ ((List.range l.length).map fun i=>(wtN q l x i:Int)*(zD c (l.getD i 0):Int)).sum - ((List.range l.length).map fun i=>((wtI q l i:Int)*(zD c (l.getD i 0):Int))*lag l i l.length (x:Int)).sum:=by
  generalize List.range l.length=L
  induction L with
  | nil=>simp
  | cons i r ih =>
   rw[List.map_cons,List.sum_cons,List.map_cons,List.sum_cons];have h1:=kU (a:=wtI q l i) (x:=x) (i:=i) hO.lt hq0 l.length (Nat.le_refl _);rw[show prM q (wtI q l i) (dif q l i x l.length)=wtN q l x i from rfl] at h1;generalize (r.map fun i=>(wtN q l x i:Int)*(zD c (l.getD i 0):Int)).sum=S1 at *;generalize (r.map fun i=>((wtI q l i:Int)*(zD c (l.getD i 0):Int))*lag l i l.length (x:Int)).sum=S2 at *;generalize (wtN q l x i:Int)=A at *;generalize lag l i l.length (x:Int)=G at *;generalize (wtI q l i:Int)=I at *;generalize (zD c (l.getD i 0):Int)=R at *;obtain⟨c1,h1⟩:=h1;obtain⟨c2,ih⟩:=ih;exact⟨c1*R+c2,by
    have e1:A=I*G+q*c1:=by omega
    have e2:S1=S2+q*c2:=by omega
    rw[e1,e2];grind⟩
 have:=Int.dvd_add hw hz;rwa [show ∀ a b d:Int,a - b+(b - d)=a - d by intro a b d;omega] at this
theorem mV {q:Nat} (hP:Pri q) {ps:List Nat} (hO:qt q ps) {l:List Nat} (hl:l.length≤ps.length) {x:Nat} :
  aaA (ps.map fun a=>zD l a%q) (wts q ps x)%q=zD l x%q:=by
 have e1:ps.map (fun a=>zD l a%q)=(List.range ps.length).map fun i=>zD l (ps.getD i 0)%q:=by
  refine List.ext_getElem (by simp) (fun i h1 h2=>?_);simp only[List.getElem_map,List.getElem_range];rw[List.getD_eq_getElem?_getD,List.getElem?_eq_getElem (by simpa using h1)];rfl
 have h1:=abR hP hO hl x;have h2:(q:Int) ∣ ((List.range ps.length).map fun i=>((zD l (ps.getD i 0)%q:Nat):Int)*(wtN q ps x i:Int)).sum - ((List.range ps.length).map fun i=>(wtN q ps x i:Int)*(zD l (ps.getD i 0):Int)).sum:=by
  generalize List.range ps.length=L
  induction L with
  | nil=>simp
  | cons i r ih =>
   rw[List.map_cons,List.sum_cons,List.map_cons,List.sum_cons];have hm:=vq (q:=q) (zD l (ps.getD i 0));generalize ((zD l (ps.getD i 0)%q:Nat):Int)=R at *;generalize (zD l (ps.getD i 0):Int)=P at *;generalize (wtN q ps x i:Int)=W at *;obtain⟨c1,hm⟩:=hm;obtain⟨c2,ih⟩:=ih;exact⟨c2 - W*c1,by
    have e:P=R+q*c1:=by omega
    rw[e];generalize (r.map fun i=>((zD l (ps.getD i 0)%q:Nat):Int)*(wtN q ps x i:Int)).sum=S1 at *;generalize (r.map fun i=>(wtN q ps x i:Int)*(zD l (ps.getD i 0):Int)).sum=S2 at *;have e2:S1=S2+q*c2:=by omega
    rw[e2];grind⟩
 have h3:=Int.dvd_add h2 h1;rw[show ∀ a b d:Int,a - b+(b - d)=a - d by intro a b d;omega,← np (fun i=>zD l (ps.getD i 0)%q) (wtN q ps x)] at h3;rw[e1];unfold wts;exact Int.ofNat_inj.1 (by rw[Int.natCast_emod,Int.natCast_emod];exact Int.emod_eq_emod_iff_emod_sub_eq_zero.2 (Int.emod_eq_zero_of_dvd h3))
theorem abd {q:Nat} {l:List Nat} {x:Nat}:(wts q l x).length=l.length:=by simp[wts]
theorem d8 {p q h:Nat} (hP:Pri q) (hh:gIn p q h=true) {ps:List Nat} (hO:qt q ps) {l:List Nat} (hl:l.length≤ps.length) {x:Nat} :
  prD p ((ps.map fun a=>zD l a%q).map fun e=>h ^ e%p) (wts q ps x)=h ^ (zD l x%q)%p:=by
 obtain⟨⟨h1,_,_⟩,_⟩:=vE hh;rw[bf h1 (by rw[List.length_map,abd])];exact lY hh (by rw[mV hP hO hl,Nat.mod_mod])
theorem acn {p q h x s:Nat} (hh:gIn p q h=true) (hP:Pri q) (hx:x<q) (h0:x≠0):((h ^ x%p) ^ s%p) ^ yX x q%p=h ^ s%p:=by
 have hi:=(vT hP.1 hx (hP.2 x Om hx)).1;rw[yF,yF];refine lY hh ?_;rw[show x*(s*yX x q)=s*(yX x q*x) by rw[Nat.mul_comm (yX x q) x,Nat.mul_left_comm],Nat.mul_mod,hi,Nat.mul_one,Nat.mod_mod]
section
variable {p q g:Nat} {N:List (Nat × Nat)} {ep d x n:Nat} {l:List Nat}
theorem agc (hp:p<zd):∀ a∈dVs p q g l n,a<zd:=fun a ha=>by
 unfold dVs at ha;obtain⟨i,_,rfl⟩:=List.mem_map.1 ha;exact uR hp
theorem ady (hp:p<zd):∀ a∈dYs p q l N n,a<zd:=fun a ha=>by
 unfold dYs at ha;obtain⟨i,_,rfl⟩:=List.mem_map.1 ha;exact uR hp
theorem afX (hq:q<zd) (h0:0<q):zT (dPs p q g l N ep d x n):=fun a ha=>by
 unfold dPs at ha;obtain⟨i,_,rfl⟩:=List.mem_map.1 ha;exact agG h0 hq
theorem ade (hq:q<zd) (h0:0<q):(dSg p q g l N ep d x n).1<zd∧(dSg p q g l N ep d x n).2<zd:=by
 exact afV h0 hq
end
def vu (n:Nat):Bool:=decide (2≤n) && decide (n<4294967296) && (List.range n).all fun e=>decide (e<2) || decide (n<e*e) || decide (n%e≠0)
theorem pJ (n:Nat):∀ m,n<m*m→∃ d,n<d*d∧∀ e,e<d→e*e≤n
 | 0,h=>by simp at h
 | m+1,h=>by
  rcases Nat.lt_or_ge n (m*m) with h1|h1
  ·exact pJ n m h1
  ·exact⟨m+1,h,fun e he=>Nat.le_trans (Nat.mul_le_mul (by omega:e≤m) (by omega:e≤m)) h1⟩
theorem lZ {n:Nat} (h:vu n=true):Pri n:=by
 unfold vu at h;simp only[Bool.and_eq_true,decide_eq_true_eq,List.all_eq_true,Bool.or_eq_true,List.mem_range] at h;obtain⟨⟨h2,_⟩,ha⟩:=h;obtain⟨d,hd,hs⟩:=pJ n n (by have:=Nat.mul_le_mul_right n h2;omega);refine aae h2 hd (fun e he1 he2=>?_);have he:=hs e he2;have hen:e<n:=by have:=Nat.mul_le_mul_right e he1;omega
 rcases ha e hen with (h|h)|h
 ·omega
 ·omega
 ·exact h
theorem cu {n d:Nat} (h2:2≤n) (h3:n<4294967296) (hd:n<d*d) (h:∀ e,2≤e→e<d→n%e≠0):vu n=true:=by
 unfold vu;simp only[Bool.and_eq_true,decide_eq_true_eq,List.all_eq_true,Bool.or_eq_true,List.mem_range];refine⟨⟨h2,h3⟩,fun e _=>?_⟩
 rcases Nat.lt_or_ge e 2 with h1|h1
 ·exact .inl (.inl h1)
 ·rcases Nat.lt_or_ge e d with h4|h4
  ·exact .inr (h e h1 h4)
  ·exact .inl (.inr (Nat.lt_of_lt_of_le hd (Nat.mul_le_mul h4 h4)))
theorem aa7 {n d:Nat} (h2:2≤d) (hd:d*d≤n) (h:n%d=0):vu n=false:=by
 cases hb:vu n with
 | false=>rfl
 | true =>
  exfalso;unfold vu at hb;simp only[Bool.and_eq_true,decide_eq_true_eq,List.all_eq_true,Bool.or_eq_true,List.mem_range] at hb;have hdn:d<n:=by have:=Nat.mul_le_mul_right d h2;omega
  rcases hb.2 d hdn with (h1|h1)|h1
  ·omega
  ·omega
  ·exact h1 h
theorem mD {n:Nat} (h:n<2∨4294967296≤n):vu n=false:=by
 unfold vu
 rcases h with h|h
 ·rw[decide_eq_false (show ¬ 2≤n by omega)];rfl
 ·rw[decide_eq_false (show ¬ n<4294967296 by omega)];simp
def rQ (p q:Nat):Bool:=decide (wd 0 p<4294967296) && decide (1<wd 0 q) && decide (p=wd 0 p) && decide (q=wd 0 q) && vu (wd 0 p) && vu (wd 0 q) && decide ((wd 0 p - 1)%wd 0 q=0)
theorem eJ {p q:Nat} (h:rQ p q=true):p<4294967296∧q<4294967296∧Pri p∧Pri q:=by
 unfold rQ at h;simp only[Bool.and_eq_true,decide_eq_true_eq] at h;obtain⟨⟨⟨⟨⟨⟨h1,h2⟩,h3⟩,h4⟩,h5⟩,h6⟩,h7⟩:=h;rw[← h3] at h1 h5;rw[← h4] at h6;refine⟨h1,?_,lZ h5,lZ h6⟩;unfold vu at h6;simp only[Bool.and_eq_true,decide_eq_true_eq] at h6;exact h6.1.2
def ko (q:Nat) (k:Nat × Nat):Bool:=decide (k.1≠0) && decide (k.2≠0) && decide (k.1<q) && decide (k.2<q)
def csK (p g hh:Nat) (k:Nat × Nat):Nat × Nat:=(exN p g k.1,exN p hh k.2)
def csN (p g a:Nat) (ks:List (Nat × Nat)):List (Nat × Nat):=ks.map (csK p g (exN p g a))
def oJ (p q g a:Nat) (f sec:Int) (ks:List (Nat × Nat)):Bool :=
 yv p g && decide (a≠0) && decide (ks.length≤7) && rQ p q && (ks.all (ko q) && (decide (ks=[]) || yv p (exN p g a))) && yR p q g (exN p g a) f sec (csN p g a ks)
theorem yA (p g a:Nat) (ks:List (Nat × Nat)):(csN p g a ks).length=ks.length:=by simp[csN]
theorem kA {p g a i:Nat} {ks:List (Nat × Nat)} {k:Nat × Nat} (h:ks[i]?=some k):(csN p g a ks)[i]?=some (csK p g (exN p g a) k):=by unfold csN;rw[List.getElem?_map,h];rfl
theorem ki {p g a:Nat} {ks:List (Nat × Nat)} (hp:p<zd):zT (csN p g a ks):=fun x hx=>by
 obtain⟨k,_,rfl⟩:=List.mem_map.1 hx;exact⟨uR hp,uR hp⟩
structure sZ (p q g a:Nat) (f sec:Int) (ks:List (Nat × Nat)):Prop where
 p32:p<4294967296
 q32:q<4294967296
 pri:Pri q
 set:yR p q g (exN p g a) f sec (csN p g a ks)=true
 scr:∀ k∈ks,k.1<q∧k.2<q
 len:ks.length≤7
theorem lu {p q g a:Nat} {f sec:Int} {ks:List (Nat × Nat)} (h:oJ p q g a f sec ks=true):sZ p q g a f sec ks:=by
 unfold oJ at h;simp only[Bool.and_eq_true,decide_eq_true_eq,List.all_eq_true] at h;obtain⟨⟨⟨⟨⟨_,_⟩,h3⟩,h4⟩,h5,_⟩,h6⟩:=h;obtain⟨g1,g2,_,g4⟩:=eJ h4;refine⟨g1,g2,g4,h6,fun k hk=>?_,h3⟩;have:=h5 k hk;unfold ko at this;simp only[Bool.and_eq_true,decide_eq_true_eq] at this;exact⟨this.1.2,this.2⟩
end Sx
end
end Go.Proofs.YtiiefkchpicncaaGreatDoor
