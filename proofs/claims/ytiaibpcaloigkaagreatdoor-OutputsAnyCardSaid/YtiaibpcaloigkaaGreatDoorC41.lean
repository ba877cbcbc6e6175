/- Part 41 of the proof. -/
import Derived.Test.YtiaibpcaloigkaaGreatDoorC38
import Derived.Test.YtiaibpcaloigkaaGreatDoorC40
set_option linter.unusedSimpArgs false
set_option linter.unusedVariables false
namespace Go.Proofs.YtiaibpcaloigkaaGreatDoor
section
open Go Go.RowKit Go.BigFrame
namespace Sx
theorem yZ {a q:Nat} (h1:1<q) (h2:a<q):zR a a q=true:=by unfold zR;simp[h1,h2]
theorem ahr {q a b:Nat} (h1:1<q) (ha:a<q) (hb:b<q):([a,b].all fun x=>zR x x q)=true:=by simp[yZ h1 ha,yZ h1 hb]
theorem ni {q x:Nat} {H:LN} (h1:1<q):vh q x H<q∧vh q x H≠0:=by
 unfold vh;split
 ·exact⟨h1,by decide⟩
 ·rename_i h;exact⟨vC Om _ _,h⟩
theorem rS {p q a:Nat} (h:kB p q a=true):gIn p q a=true∧a≠1:=by
 unfold kB at h;simpa using h
section
variable {p q g h:Nat} {f sec:Int} {N:LP} {ep d x:Nat} {l:LN}
theorem tP (hS:yW p q g h f sec N=true):kB p q g=true∧(∀ i,i<N.length→kB p q (N.getD i (0,0)).1=true∧kB p q (N.getD i (0,0)).2=true)∧N.length<8∧(N.length:Int)+sec<(q:Int)∧0≤f∧1≤sec:=by
 unfold yW at hS;simp only[Bool.and_eq_true,decide_eq_true_eq] at hS;obtain⟨⟨⟨⟨⟨⟨⟨⟨⟨⟨h1,h2⟩,h3⟩,h4⟩,h5⟩,h6⟩,h7⟩,h8⟩,h9⟩,h10⟩,h11⟩:=hS;refine⟨h9,fun i hi=>?_,by omega,h8,h1,h3⟩;have:=List.all_eq_true.1 h11 N[i] (List.getElem_mem hi);rw[List.getD_eq_getElem?_getD,List.getElem?_eq_getElem hi];simpa using this
theorem adN {k y draw:Nat} (hg:gIn p q g=true) (hy:gIn p q y=true) (h1:1<q) (hk:k<q) (hd:draw<q∧draw≠0) :
  ckB p q (zY uY) g (g ^ k%p) y (y ^ k%p) (pfN p q g k y draw).1 (pfN p q g k y draw).2=true:=by
 have hB:prB p q k g y draw=true:=by
  unfold prB;rw[yC hg,yC hy,yZ h1 hk,yZ h1 hd.1];simp[hd.2]
 unfold pfN;rw[hB,vw,vw];have hc:prC p q (zY uY) k g y draw<q:=vC Om _ _;have e1:=tG (x:=k) hg hc hd.1;have e2:=tG (x:=k) hy hc hd.1;dsimp only;generalize hC:prC p q (zY uY) k g y draw=c at *;unfold ckB;rw[hg,uG hg Om,hy,uG hy Om,yZ h1 hc,yZ h1 (Nat.mod_lt _ Om)];simp only[Bool.true_and,Bool.and_true,decide_eq_true_eq];unfold ckC vW;rw[e1,e2,← hC];rfl
theorem ahV {key draw c:Nat} {H:LN} (hg:gIn p q g=true) (hk:gIn p q key=true) (hk1:key≠1) (h1:1<q) (e:g ^ x%p=key) (hd:draw<q) (hc:c<q) (hC:c=eO q key (g ^ draw%p) H) :
  nU p q g key c ((draw+x*c%q)%q) H=true:=by
 have e1:=tG (x:=x) hg hc hd;rw[e] at e1;have e2:prD p [g,key] [(draw+x*c%q)%q,(0+q - c)%q]=g ^ draw%p:=by
  unfold prD;simp only[List.zip_cons_cons,List.zip_nil_left,List.foldl_cons,List.foldl_nil,Nat.one_mul,Nat.mod_mod];exact e1
 unfold nU;rw[hk,ahr h1 hc (Nat.mod_lt (draw+x*c%q) Om),e2,decide_eq_false hk1,decide_eq_true hC];rfl
theorem aep {key draw:Nat} {H:LN} (hg:gIn p q g=true) (hk:gIn p q key=true) (hk1:key≠1) (h1:1<q) (hx:x<q) (e:g ^ x%p=key) (hd:draw<q∧draw≠0) :
  nU p q g key (sgN p q g x draw H).1 (sgN p q g x draw H).2 H=true:=by
 obtain⟨⟨hp1,_,_⟩,_⟩:=vD hg;have hx0:x≠0:=by
  rintro rfl;rw[Nat.pow_zero,Nat.mod_eq_of_lt hp1] at e;exact hk1 e.symm
 have hB:sgB p q g x draw=true:=by
  unfold sgB;rw[yC hg,yZ h1 hx,yZ h1 hd.1];simp[hx0,hd.2]
 have hs:sgN p q g x draw H=(sgC p q g x draw H,(draw+x*sgC p q g x draw H%q)%q):=by
  unfold sgN;rw[hB,vw,vw]
 have hC:sgC p q g x draw H=eO q key (g ^ draw%p) H:=by
  unfold sgC eO;rw[e]
 have hc:sgC p q g x draw H<q:=vC Om _ _;rw[hs];generalize sgC p q g x draw H=c at *;exact ahV hg hk hk1 h1 e hd.1 hc hC
theorem aQ (hP:Pri q) (hA:fj p q g h f sec N d l x=true) :
  ckE p q g h f sec N ep d (dVs p q g l N.length) (dYs p q l N N.length) (dPs p q g l N ep d x N.length) (dSg p q g l N ep d x N.length).1 (dSg p q g l N ep d x N.length).2=none:=by
 unfold fj at hA;simp only[Bool.and_eq_true] at hA;obtain⟨⟨⟨hS,hN⟩,hl⟩,hx⟩:=hA;obtain⟨hlen,hall⟩:=hl;obtain⟨hkg,hks,hn8,hnq,hf,hsec⟩:=tP hS;obtain⟨hg,_⟩:=rS hkg;have h1:=hP.1;have hn:N.length<q:=by omega
 have hlen':=of_decide_eq_true hlen;have hsh:∀ i,shN q l i<q:=fun i=>Nat.mod_lt _ Om;have hV:∀ i,dV p q g l i=g ^ shN q l i%p:=fun i=>sy hg _;have hky:∀ i,i<N.length→gIn p q (ky N i)=true:=fun i hi=>(rS (hks i hi).2).1;have hY:∀ i,i<N.length→dY p q l N i=ky N i ^ shN q l i%p:=fun i hi=>sy (hky i hi) _;have aV:∀ i,i<N.length→(dVs p q g l N.length)[i]?.getD 0=g ^ shN q l i%p:=fun i hi=>by
  unfold dVs;rw[List.getElem?_map,List.getElem?_range hi];exact hV i
 have aY:∀ i,i<N.length→(dYs p q l N N.length)[i]?.getD 0=ky N i ^ shN q l i%p:=fun i hi=>by
  unfold dYs;rw[List.getElem?_map,List.getElem?_range hi];exact hY i hi
 unfold ckE;rw[hS,if_pos rfl];have b1:shB p q N d (dVs p q g l N.length) (dYs p q l N N.length) (dPs p q g l N ep d x N.length)=true:=by
  unfold shB;rw[hN];have v1:(dVs p q g l N.length).all (gIn p q)=true:=by
   rw[List.all_eq_true];intro v hv;unfold dVs at hv;obtain⟨i,_,rfl⟩:=List.mem_map.1 hv;rw[hV];exact uG hg Om _
  have v2:(dYs p q l N N.length).all (gIn p q)=true:=by
   rw[List.all_eq_true];intro v hv;unfold dYs at hv;obtain⟨i,hi,rfl⟩:=List.mem_map.1 hv;have hi':=List.mem_range.1 hi;rw[hY i hi'];exact uG (hky i hi') Om _
  rw[v1,v2];simp[dVs,dYs,dPs]
 rw[b1,if_pos rfl];have b2:duB p q N.length (f+sec).toNat (dVs p q g l N.length)=true:=by
  have hc:(f+sec).toNat=l.length:=by omega
  rw[hc];unfold duB;rw[Bool.or_eq_true,Bool.and_eq_true];refine .inr ⟨it hP hn,?_⟩;rw[List.all_eq_true];intro k hk;have hk':=List.mem_range.1 hk;rw[decide_eq_true_eq];have hz:=d6 (l:=l) (k:=k) hP hn8 hn Om (it hP hn);have e:dVs p q g l N.length=((List.range N.length).map (shN q l)).map (fun e=>g ^ e%p):=by
   unfold dVs;rw[List.map_map];exact List.map_congr_left (fun i _=>hV i)
  obtain⟨⟨hp1,_,_⟩,_⟩:=vD hg;rw[e,aaa hp1 (by simp[dwL]),kH hg];unfold dwL;rw[hz,Nat.pow_zero,Nat.mod_eq_of_lt hp1];exact (nw (m:=1) Om Om).symm
 rw[b2,if_pos rfl];have b3:ac8 p q g N (dVs p q g l N.length) (dYs p q l N N.length) (dPs p q g l N ep d x N.length)=true:=by
  unfold ac8;rw[List.all_eq_true];intro i hi;have hi' : i<N.length:=by have:=List.mem_range.1 hi;simpa [dPs] using this
  unfold pfB;rw[aV i hi',aY i hi'];have e1:(N[i]?.getD (0,0)).2=ky N i:=by unfold ky;rw[List.getD_eq_getElem?_getD]
  have e2:(dPs p q g l N ep d x N.length)[i]?.getD (0,0)=dP p q g l N ep d x i:=by
   unfold dPs;rw[List.getElem?_map,List.getElem?_range hi'];rfl
  rw[e1,e2];exact adN hg (hky i hi') h1 (hsh i) (ni h1)
 rw[b3,if_pos rfl];obtain⟨hd1,hdn⟩:=yr hN;have hkk:=hks (d - 1) Om;unfold jz at hx;simp only[Bool.and_eq_true,decide_eq_true_eq] at hx;have hxq:x<q:=by
  have:=hx.1.1;unfold zR at this;simp only[Bool.and_eq_true,decide_eq_true_eq] at this;exact this.2
 have b4:nU p q g (N[d - 1]?.getD (0,0)).1 (dSg p q g l N ep d x N.length).1 (dSg p q g l N ep d x N.length).2 (uj ep d (dVs p q g l N.length) (dYs p q l N N.length) (dPs p q g l N ep d x N.length))=true:=by
  have e1:(N[d - 1]?.getD (0,0)).1=sgK N d:=by unfold sgK;rw[List.getD_eq_getElem?_getD]
  rw[e1];exact aep hg (rS hkk.1).1 (rS hkk.1).2 h1 hxq hx.2 (ni h1)
 rw[b4,if_pos rfl]
end
theorem aeA {p q g a b:Nat} (hP:Pri q) (hg:gIn p q g=true) (hg1:g≠1) (ha:a<q) (hb:b<q) (h:g ^ a%p=g ^ b%p):a=b:=by
 obtain⟨⟨h1,h2,h3⟩,h4⟩:=vD hg;have key:∀ a b,a<b→b<q→g ^ a%p=g ^ b%p→False:=by
  intro a b hab hb h;have e1:g ^ (a+(q - a))%p=g ^ (b+(q - a))%p:=by rw[← uC,← uC,h]
  rw[show a+(q - a)=q by omega,h4,show b+(q - a)=b - a+q by omega] at e1;have e2:g ^ (b - a+q)%p=g ^ (b - a)%p:=mX hg (by rw[Nat.add_mod_right]);rw[e2] at e1;have hd:=hP.2 (b - a) Om Om;have hi:=(vP hP.1 (by omega:b - a<q) hd).1;have e3:g ^ ((b - a)*y7 (b - a) q)%p=g ^ 1%p:=mX hg (by rw[Nat.mul_comm,hi,Nat.mod_eq_of_lt hP.1]);rw[← yG,← e1,Nat.one_pow,Nat.mod_eq_of_lt h1,Nat.pow_one,Nat.mod_eq_of_lt h3] at e3;exact hg1 e3.symm
 rcases Nat.lt_trichotomy a b with h'|h'|h'
 ·exact (key a b h' hb h).elim
 ·exact h'
 ·exact (key b a h' ha h.symm).elim
def zT:List Int→Int→Int
 | [],_=>0
 | c::r,x=>c+x*zT r x
theorem pc (D:List Int) (t x:Int):zT (D++[t]) x=zT D x+t*x ^ D.length:=by
 induction D with
 | nil=>simp[zT]
 | cons a r ih =>
  rw[List.cons_append,zT,zT,ih,List.length_cons,Int.pow_succ]
  grind
theorem mW:∀ (l m:LN) (x:Nat),l.length=m.length→zT (List.zipWith (fun (a b:Nat)=>(a:Int) - (b:Int)) l m) (x:Int)=(zF l x:Int) - (zF m x:Int)
 | [],[],_,_=>by simp[zT,zF]
 | [],_::_,_,h=>by simp at h
 | _::_,[],_,h=>by simp at h
 | a::l,b::m,x,h=>by
  rw[List.zipWith_cons_cons,zT,mW l m x (by simpa using h),zF,zF];push_cast
  grind
theorem m4 {n:Nat} (hn:n<8):∀ (l:List Int) (k:Nat),k+l.length<n→((List.range n).map fun i=>np n (i+1)*((i+1:Nat):Int) ^ k*zT l ((i+1:Nat):Int)).sum=0
 | [],k,_=>by
  have:(fun i:Nat=>np n (i+1)*((i+1:Nat):Int) ^ k*zT [] ((i+1:Nat):Int))=fun _=>(0:Int):=by funext i;simp[zT]
  rw[this];generalize List.range n=L
  induction L with
  | nil=>rfl
  | cons a r ih=>simp only[List.map_cons,List.sum_cons,ih];rfl
 | c::r,k,h=>by
  have h1:=eT n (List.mem_range.2 hn) k (List.mem_range.2 (by simp at h;omega));have h2:=m4 hn r (k+1) (by simp at h;omega);have e:(fun i:Nat=>np n (i+1)*((i+1:Nat):Int) ^ k*zT (c::r) ((i+1:Nat):Int))=fun i=>c*(np n (i+1)*((i+1:Nat):Int) ^ k)+np n (i+1)*((i+1:Nat):Int) ^ (k+1)*zT r ((i+1:Nat):Int):=by
   funext i;rw[zT,Int.pow_succ]
   grind
  rw[e,oL,r9,h1,h2];simp
theorem afv:∀ n∈List.range 8,0<n→((List.range n).map fun i=>np n (i+1)*((i+1:Nat):Int) ^ (n - 1)).sum=(ae (n - 1):Int):=by decide
theorem jS {α:Type} (q:Int) (f:α→Int):∀ L:List α,(∀ i∈L,q ∣ f i)→q ∣ (L.map f).sum
 | [],_=>by simp
 | a::r,h=>by
  simp only[List.map_cons,List.sum_cons];exact Int.dvd_add (h a List.mem_cons_self) (jS q f r (fun i hi=>h i (List.mem_cons_of_mem _ hi)))
theorem lu {q:Nat} (hP:Pri q):∀ (n:Nat) (D:List Int),D.length=n→n<8→n<q→(∀ i,i<n→(q:Int) ∣ zT D ((i+1:Nat):Int))→∀ d∈D,(q:Int) ∣ d
 | 0,D,h,_,_,_=>by
  rw[List.length_eq_zero_iff.1 h];simp
 | n+1,D,h,h8,hq,hz=>by
  rcases List.eq_nil_or_concat D with rfl|⟨E,t,rfl⟩
  ·simp at h
  rw[List.concat_eq_append] at *;have hE:E.length=n:=by simpa using h
  have e:(fun i:Nat=>np (n+1) (i+1)*zT (E++[t]) ((i+1:Nat):Int))=fun i=>np (n+1) (i+1)*((i+1:Nat):Int) ^ 0*zT E ((i+1:Nat):Int)+t*(np (n+1) (i+1)*((i+1:Nat):Int) ^ (n+1 - 1)):=by
   funext i;rw[pc,hE,Int.pow_zero,Nat.add_sub_cancel]
   grind
  have hs:=jS (q:Int) (fun i:Nat=>np (n+1) (i+1)*zT (E++[t]) ((i+1:Nat):Int)) (List.range (n+1)) (fun i hi=>Int.dvd_mul_of_dvd_right (hz i (List.mem_range.1 hi)));rw[e,oL,r9,m4 h8 E 0 Om,afv (n+1) (List.mem_range.2 h8) Om,Int.zero_add,Nat.add_sub_cancel] at hs;have ht:(q:Int) ∣ t:=by
   have hc:Nat.Coprime q (ae n):=Nat.Coprime.symm (kb hP n Om);have hs' : q ∣ ae n*t.natAbs:=by
    have:=Int.natAbs_dvd_natAbs.2 hs;rw[Int.natAbs_mul,Nat.mul_comm] at this;simpa using this
   exact Int.ofNat_dvd_left.2 (Nat.Coprime.dvd_of_dvd_mul_left hc hs')
  intro d hd
  rcases List.mem_append.1 hd with hd|hd
  ·refine lu hP n E hE Om Om (fun i hi=>?_) d hd;have:=hz i Om;rw[pc] at this;exact (Int.dvd_add_left (Int.dvd_mul_of_dvd_left ht)).1 this
  ·rw[List.mem_singleton.1 hd];exact ht
theorem dU {q:Nat} (hP:Pri q) {l m:LN} (hlm:l.length=m.length) (h8:l.length<8) (hq:l.length<q) (hl:∀ a∈l,a<q) (hm:∀ a∈m,a<q) (h:∀ i,i<l.length→zF l (i+1)%q=zF m (i+1)%q):l=m:=by
 have hz:=lu hP l.length (List.zipWith (fun (a b:Nat)=>(a:Int) - (b:Int)) l m) (by simp[hlm]) h8 hq (fun i hi=>by
  rw[mW l m _ hlm];have e:=h i hi;have h1:=vr (q:=q) (zF l (i+1));have h2:=vr (q:=q) (zF m (i+1));rw[e] at h1;have:=Int.dvd_sub h1 h2;rwa [show ∀ a b c:Int,a - c - (b - c)=a - b by intro a b c;omega] at this)
 refine List.ext_getElem hlm (fun i h1 h2=>?_);have hd:=hz ((l[i]:Int) - (m[i]:Int)) (by
  rw[List.mem_iff_getElem];exact⟨i,by simp;omega,by simp⟩)
 have ha:=hl l[i] (List.getElem_mem h1);have hb:=hm m[i] (List.getElem_mem h2);obtain⟨c,hc⟩:=hd;have hc0:c=0:=by
  rcases Int.lt_trichotomy c 0 with h'|h'|h'
  ·have:(q:Int)*c≤(q:Int)*(-1):=Int.mul_le_mul_of_nonneg_left Om Om;omega
  ·exact h'
  ·have:(q:Int)*1≤(q:Int)*c:=Int.mul_le_mul_of_nonneg_left Om Om;omega
 subst hc0;omega
section
variable {p q g h:Nat} {f sec:Int} {N:LP} {ep d x:Nat} {l m:LN}
theorem acO {α:Type} {f g:α→Bool}:∀ {L:List α},(∀ i∈L,f i=g i)→L.all f=L.all g
 | [],_=>rfl
 | a::r,h=>by rw[List.all_cons,List.all_cons,h a List.mem_cons_self,acO (fun i hi=>h i (List.mem_cons_of_mem _ hi))]
theorem adY:mB (fun v x=>decide (v=exN p g x)) (dVs p q g l N.length) (shL q m N.length)=(List.range N.length).all fun i=>decide (exN p g (shN q l i)=exN p g (shN q m i)):=by
 unfold mB;rw[show (dVs p q g l N.length).length=N.length by simp[dVs]];refine acO (fun i hi=>?_);have hi':=List.mem_range.1 hi;unfold dVs shL;rw[List.getElem?_map,List.getElem?_map,List.getElem?_range hi'];rfl
theorem aaH (hP:Pri q) (hS:yW p q g h f sec N=true) (hlen:(l.length:Int)=f+sec) (hall:v8 q l=true) :
  afc p q g h f sec N (dVs p q g l N.length) m=decide (m=l):=by
 obtain⟨hkg,hks,hn8,hnq,hf,hsec⟩:=tP hS;obtain⟨hg,hg1⟩:=rS hkg;have hcn:l.length≤N.length:=by
  unfold yW at hS;simp only[Bool.and_eq_true,decide_eq_true_eq] at hS;omega
 have h1:=hP.1;unfold afc;rw[hS,adY]
 by_cases e:m=l
 ·subst e;rw[hlen,hall];simp[dVs]
 ·rw[decide_eq_false e]
  by_cases h2:(m.length:Int)=f+sec∧v8 q m=true
  ·have hml:l.length=m.length:=by omega
   have hne:¬ ∀ i,i<l.length→zF l (i+1)%q=zF m (i+1)%q:=fun hh=>e (dU hP hml Om Om (vV hall).2 (vV h2.2).2 hh).symm;obtain⟨i,hi⟩:=Classical.not_forall.1 hne;obtain⟨hi,hne⟩:=Classical.not_imp.1 hi;have:((List.range N.length).all fun i=>decide (exN p g (shN q l i)=exN p g (shN q m i)))=false:=by
    rw[List.all_eq_false];refine⟨i,List.mem_range.2 Om,?_⟩;rw[sy hg,sy hg,decide_eq_true_eq];exact fun hh=>hne (aeA hP hg hg1 (Nat.mod_lt _ Om) (Nat.mod_lt _ Om) hh)
   rw[this];simp
  ·have:(decide ((m.length:Int)=f+sec) && v8 q m)=false:=by
    rw[Bool.and_eq_false_iff]
    by_cases h3:(m.length:Int)=f+sec
    ·refine .inr ?_;cases h4:v8 q m with
     | false=>rfl
     | true=>exact absurd ⟨h3,h4⟩ h2
    ·exact .inl (decide_eq_false h3)
   rw[this];simp
end
def Pol (n:Nat) (F:Int→Int):Prop:=∃ C:List Int,C.length=n∧∀ x,F x=zT C x
theorem rI (n:Nat) (x:Int):zT (List.replicate n 0) x=0:=by
 induction n with
 | zero=>rfl
 | succ n ih=>rw[List.replicate_succ,zT,ih];simp
theorem dE (D E:List Int) (x:Int):zT (D++E) x=zT D x+x ^ D.length*zT E x:=by
 induction D with
 | nil=>simp[zT]
 | cons a r ih=>rw[List.cons_append,zT,zT,ih,List.length_cons,Int.pow_succ];grind
theorem q8 (c:Int):∀ (D:List Int) (x:Int),zT (D.map (c * ·)) x=c*zT D x
 | [],x=>by simp[zT]
 | a::r,x=>by rw[List.map_cons,zT,q8 c r,zT];grind
theorem mQ:∀ (D E:List Int) (x:Int),D.length=E.length→zT (List.zipWith (· + ·) D E) x=zT D x+zT E x
 | [],[],_,_=>by simp[zT]
 | [],_::_,_,h=>by simp at h
 | _::_,[],_,h=>by simp at h
 | a::l,b::m,x,h=>by
  rw[List.zipWith_cons_cons,zT,mQ l m x (by simpa using h),zT,zT]
  grind
theorem Pol.zero (n:Nat):Pol n (fun _=>0):=⟨List.replicate n 0,by simp,fun x=>(rI n x).symm⟩
theorem Pol.add {n:Nat} {F G:Int→Int}:Pol n F→Pol n G→Pol n (fun x=>F x+G x)
 | ⟨C,h1,h2⟩,⟨D,h3,h4⟩=>⟨List.zipWith (· + ·) C D,by simp[h1,h3],fun x=>by show F x+G x=_;rw[mQ C D x (by rw[h1,h3]),h2,h4]⟩
theorem Pol.smul {n:Nat} {F:Int→Int} (c:Int):Pol n F→Pol n (fun x=>c*F x)
 | ⟨C,h1,h2⟩=>⟨C.map (c * ·),by simp[h1],fun x=>by show c*F x=_;rw[q8,h2]⟩
theorem Pol.up {n m:Nat} {F:Int→Int} (hnm:n≤m):Pol n F→Pol m F
 | ⟨C,h1,h2⟩=>⟨C++List.replicate (m - n) 0,by simp[h1];omega,fun x=>by rw[dE,rI,h2];simp⟩
theorem Pol.one:Pol 1 (fun _=>1):=⟨[1],rfl,fun x=>by simp[zT]⟩
theorem Pol.lin {n:Nat} {F:Int→Int} (a:Int):Pol n F→Pol (n+1) (fun x=>F x*(x - a))
 | h=>by
  have h1:Pol (n+1) (fun x=>x*F x):=by
   obtain⟨C,h1,h2⟩:=h;exact⟨0::C,by simp[h1],fun x=>by rw[zT,← h2];simp⟩
  have h2:=h1.add ((h.up (Nat.le_succ n)).smul (-a));obtain⟨C,e1,e2⟩:=h2;exact⟨C,e1,fun x=>by rw[← e2];grind⟩
theorem Pol.sum {n:Nat} (f:Nat→Int→Int):∀ L:List Nat,(∀ i∈L,Pol n (f i))→Pol n (fun x=>(L.map fun i=>f i x).sum)
 | [],_=>by simpa using Pol.zero n
 | a::r,h=>by
  have:=(h a List.mem_cons_self).add (Pol.sum f r (fun i hi=>h i (List.mem_cons_of_mem _ hi)));simpa using this
theorem mU (a:Int):∀ (C:List Int),C≠[]→∃ D:List Int,D.length+1=C.length∧∀ x,zT C x=zT D x*(x - a)+zT C a
 | [c],_=>⟨[],rfl,fun x=>by simp[zT]⟩
 | c::d::r,_=>by
  obtain⟨D,h1,h2⟩:=mU a (d::r) Sm;refine⟨zT (d::r) a::D,by simp at h1 ⊢;omega,fun x=>?_⟩;have:=h2 x;show c+x*zT (d::r) x=(zT (d::r) a+x*zT D x)*(x - a)+(c+a*zT (d::r) a);rw[this];generalize zT (d::r) a=u;generalize zT D x=v
  grind
theorem aff {q:Nat} {u v:Int} (h:(q:Int) ∣ v*u) (hc:Nat.Coprime u.natAbs q):(q:Int) ∣ v:=by
 have h1:q ∣ v.natAbs*u.natAbs:=by
  have:=Int.natAbs_dvd_natAbs.2 h;rw[Int.natAbs_mul] at this;simpa using this
 exact Int.ofNat_dvd_left.2 (Nat.Coprime.dvd_of_dvd_mul_right hc.symm h1)
theorem Pol.none {q:Nat}:∀ (xs:List Int) (F:Int→Int),Pol xs.length F→xs.Pairwise (fun a b=>Nat.Coprime (b - a).natAbs q)→(∀ a∈xs,(q:Int) ∣ F a)→∀ x,(q:Int) ∣ F x
 | [],F,⟨C,h1,h2⟩,_,_,x=>by
  rw[h2,List.length_eq_zero_iff.1 h1];simp[zT]
 | a::r,F,⟨C,h1,h2⟩,hp,hz,x=>by
  obtain⟨D,h3,h4⟩:=mU a C (by intro e;rw[e] at h1;simp at h1);have ha:=hz a List.mem_cons_self;rw[List.pairwise_cons] at hp;have hG:=Pol.none r (zT D) ⟨D,by simp at h1;omega,fun _=>rfl⟩ hp.2 (fun b hb=>by
   have h5:=hz b (List.mem_cons_of_mem _ hb);rw[h2,h4,← h2 a] at h5;have h6:=(Int.dvd_add_left ha).1 h5;have hg:=hp.1 b hb;exact aff h6 hg) x
  rw[h2,h4,← h2 a];exact Int.dvd_add (Int.dvd_mul_of_dvd_left hG) ha
def lag (l:LN) (i:Nat):Nat→Int→Int
 | 0,_=>1
 | k+1,x=>if k=i then lag l i k x else lag l i k x*(x - (l.getD k 0:Nat))
theorem ba (l:LN) (i:Nat):∀ k,Pol (if i<k then k else k+1) (lag l i k)
 | 0=>by simpa [lag] using Pol.one
 | k+1=>by
  have ih:=ba l i k
  by_cases h:k=i
  ·subst h;rw[if_neg (Nat.lt_irrefl k)] at ih;rw[if_pos (Nat.lt_succ_self k)];have:lag l k (k+1)=lag l k k:=by funext x;simp[lag]
   rwa [this]
  ·have e:lag l i (k+1)=fun x=>lag l i k x*(x - (l.getD k 0:Nat)):=by funext x;simp[lag,h]
   rw[e];have:=ih.lin (l.getD k 0:Nat)
   rcases Nat.lt_or_ge i k with h1|h1
   ·rw[if_pos h1] at this;rwa [if_pos Om]
   ·rw[if_neg Om] at this;rwa [if_neg Om]
theorem iA {l:LN} {i j:Nat} (hij:j≠i):∀ {k:Nat},j<k→lag l i k (l.getD j 0:Nat)=0
 | k+1,h=>by
  rw[lag]
  rcases Nat.lt_or_ge j k with h1|h1
  ·rw[iA hij h1];simp
  ·have:k=j:=by omega
   subst this;rw[if_neg hij,Int.sub_self,Int.mul_zero]
theorem kX {q a x i:Nat} {l:LN} (hl:∀ y∈l,y<q) (h0:0<q):∀ k,k≤l.length→(q:Int) ∣ (prM q a (dif q l i x k):Int) - (a:Int)*lag l i k x
 | 0,_=>by simp[dif,prM,lag]
 | k+1,h=>by
  have ih:=kX (a:=a) (x:=x) (i:=i) hl h0 k Om;obtain⟨v,hv⟩ : ∃ v,l[k]?=some v:=⟨_,List.getElem?_eq_getElem Om⟩;have hvq:=hl v (List.mem_of_getElem? hv);have hg:l.getD k 0=v:=by rw[List.getD_eq_getElem?_getD,hv];rfl
  by_cases hk:k=i
  ·rw[o6 hk,lag,if_pos hk];exact ih
  ·rw[pU hk hv,ng,lag,if_neg hk,hg];generalize prM q a (dif q l i x k)=P at *;generalize lag l i k x=G at *;have h1:(q:Int) ∣ ((P*((x+q - v)%q):Nat):Int) - ((P*((x+q - v)%q)%q:Nat):Int):=vr _;have h2:(q:Int) ∣ ((x+q - v:Nat):Int) - (((x+q - v)%q:Nat):Int):=vr _;have e:((x+q - v:Nat):Int)=(x:Int)+q - v:=by omega
   rw[e] at h2;generalize (x+q - v)%q=D at *;generalize P*D%q=R at *;rw[Int.natCast_mul] at h1;obtain⟨c1,h1⟩:=h1;obtain⟨c2,h2⟩:=h2;obtain⟨c3,ih⟩:=ih;refine⟨P*(1 - c2)+c3*(x - v) - c1,?_⟩;have hR:(R:Int)=P*D - q*c1:=by omega
   have hD:(D:Int)=x+q - v - q*c2:=by omega
   have hP:(P:Int)=a*G+q*c3:=by omega
   rw[hR,hD];have:a*G=(P:Int) - q*c3:=by omega
   rw[← Int.mul_assoc,this]
   grind
theorem dW (c:LN) (x:Nat):(zF c x:Int)=zT (c.map fun a:Nat=>(a:Int)) (x:Int):=by
 induction c with
 | nil=>simp[zF,zT]
 | cons a r ih=>rw[zF,List.map_cons,zT,← ih];push_cast;rfl
theorem aa7 {q a b:Nat} (hP:Pri q) (ha:a<q) (hb:b<q) (h:a≠b):Nat.Coprime ((b:Int) - (a:Int)).natAbs q :=
 hP.2 _ Om Om
theorem jb {q:Nat} (hP:Pri q) {l:LN} (hl:∀ y∈l,y<q) {x i:Nat} (hx:x<q):∀ {k:Nat},k≤l.length→(∀ j v,j<k→j≠i→l[j]?=some v→v≠x)→aak q (dif q l i x k)=true
 | 0,_,_=>by simp[dif,aak]
 | k+1,hk,h=>by
  have ih:=jb hP hl hx (k:=k) (i:=i) Om (fun j v h1 h2 h3=>h j v Om h2 h3)
  by_cases e:k=i
  ·rw[o6 e];exact ih
  ·obtain⟨v,hv⟩ : ∃ v,l[k]?=some v:=⟨_,List.getElem?_eq_getElem Om⟩;have hvq:=hl v (List.mem_of_getElem? hv);have hne:=h k v Om e hv;rw[pU e hv];unfold aak at *;rw[List.all_append,ih,Bool.true_and,List.all_cons,List.all_nil,Bool.and_true,decide_eq_true_eq];refine hP.2 _ ?_ (Nat.mod_lt _ Om)
   rcases Nat.lt_or_ge x v with h1|h1
   ·rw[Nat.mod_eq_of_lt Om];omega
   ·rw[show x+q - v=x - v+q by omega,Nat.add_mod_right,Nat.mod_eq_of_lt Om];omega
theorem rq {l:LN} (h:l.Nodup) {i j a:Nat} (hi:l[i]?=some a) (hj:l[j]?=some a):i=j:=by
 obtain⟨h1,e1⟩:=List.getElem?_eq_some_iff.1 hi;obtain⟨h2,e2⟩:=List.getElem?_eq_some_iff.1 hj
 rcases Nat.lt_trichotomy i j with h3|h3|h3
 ·exact (List.pairwise_iff_getElem.1 h i j h1 h2 h3 (by rw[e1,e2])).elim
 ·exact h3
 ·exact (List.pairwise_iff_getElem.1 h j i h2 h1 h3 (by rw[e1,e2])).elim
theorem aed {q:Nat} (hP:Pri q) {l:LN} (hO:qj q l) {k:Nat} (hk:k<l.length):(q:Int) ∣ (wtI q l k:Int)*lag l k l.length (l.getD k 0:Nat) - 1:=by
 obtain⟨v,hv⟩ : ∃ v,l[k]?=some v:=⟨_,List.getElem?_eq_getElem hk⟩;have hg:l.getD k 0=v:=by rw[List.getD_eq_getElem?_getD,hv];rfl
 have hvq:=hO.lt v (List.mem_of_getElem? hv);have h1:=kX (a:=1) (x:=l.getD k 0) (i:=k) hO.lt (by have:=hP.1;omega) l.length (Nat.le_refl _);have hc:aak q (dif q l k (l.getD k 0) l.length)=true:=jb hP hO.lt (by rw[hg];exact hvq) (Nat.le_refl _) (fun j u h1 h2 h3 e=>by
  rw[hg] at e;subst e;exact h2 (rq hO.nd h3 hv))
 have hgc:=(ol q (dif q l k (l.getD k 0) l.length) 1).2 ⟨Nat.gcd_one_left q,hc⟩;have hi:=(vP hP.1 (mY (by have:=hP.1;omega) hP.1 (dif q l k (l.getD k 0) l.length)) hgc).1;have h2:=vr (q:=q) (y7 (prM q 1 (dif q l k (l.getD k 0) l.length)) q*prM q 1 (dif q l k (l.getD k 0) l.length));rw[hi] at h2;unfold wtI;generalize y7 (prM q 1 (dif q l k (l.getD k 0) l.length)) q=I at *;generalize prM q 1 (dif q l k (l.getD k 0) l.length)=M at *;generalize lag l k l.length (l.getD k 0:Nat)=G at *;push_cast at h1 h2;obtain⟨c1,h1⟩:=h1;obtain⟨c2,h2⟩:=h2;refine⟨c2 - I*c1,?_⟩;have e1:G=M - q*c1:=by omega
 rw[e1]
 grind
theorem aav {q:Nat} (hP:Pri q) {l:LN} (hO:qj q l) {c:LN} (hc:c.length≤l.length) (x:Nat) :
  (q:Int) ∣ ((List.range l.length).map fun i=>(wtN q l x i:Int)*(zF c (l.getD i 0):Int)).sum - (zF c x:Int):=by
 have hq0:0<q:=by have:=hP.1;omega
 have hF:Pol l.length (fun y=>((List.range l.length).map fun i=>((wtI q l i:Int)*(zF c (l.getD i 0):Int))*lag l i l.length y).sum+(-1)*zT (c.map fun a:Nat=>(a:Int)) y):=by
  refine Pol.add (Pol.sum (fun i y=>((wtI q l i:Int)*(zF c (l.getD i 0):Int))*lag l i l.length y) _ (fun i hi=>Pol.smul _ ?_)) (Pol.smul _ (Pol.up (n:=c.length) hc ⟨c.map fun a:Nat=>(a:Int),by simp,fun _=>rfl⟩));have:=ba l i l.length;rwa [if_pos (List.mem_range.1 hi)] at this
 have hz:=Pol.none (q:=q) (l.map fun a:Nat=>(a:Int)) _ (by rw[List.length_map];exact hF) (by
  rw[List.pairwise_map];refine List.Pairwise.imp_of_mem (fun ha hb h=>?_) hO.nd;exact aa7 hP (hO.lt _ ha) (hO.lt _ hb) h) (fun a ha=>by
  obtain⟨v,hv,rfl⟩:=List.mem_map.1 ha;obtain⟨k,hk,e⟩:=List.mem_iff_getElem.1 hv;have hkv:l[k]?=some v:=by rw[List.getElem?_eq_getElem hk,e]
  have hg:l.getD k 0=v:=by rw[List.getD_eq_getElem?_getD,hkv];rfl
  rw[← dW];have key:∀ L:List Nat,L.Nodup→(∀ i∈L,i<l.length)→(q:Int) ∣ (L.map fun i=>((wtI q l i:Int)*(zF c (l.getD i 0):Int))*lag l i l.length (v:Int)).sum - (if k∈L then (zF c v:Int) else 0):=by
   intro L
   induction L with
   | nil=>intro _ _;simp
   | cons i r ih =>
    intro hn hlt;rw[List.nodup_cons] at hn;have ih':=ih hn.2 (fun j hj=>hlt j (List.mem_cons_of_mem _ hj));rw[List.map_cons,List.sum_cons]
    by_cases hik:k=i
    ·subst hik;rw[if_neg hn.1] at ih';rw[if_pos List.mem_cons_self];have h1:=aed hP hO hk;rw[hg] at h1 ⊢;generalize (r.map fun i=>((wtI q l i:Int)*(zF c (l.getD i 0):Int))*lag l i l.length (v:Int)).sum=S at *;generalize lag l k l.length (v:Int)=G at *;obtain⟨c1,h1⟩:=h1;obtain⟨c2,ih'⟩:=ih';refine⟨c1*zF c v+c2,?_⟩;have e1:(wtI q l k:Int)*G=1+q*c1:=by omega
     have e2:S=q*c2:=by omega
     rw[show (wtI q l k:Int)*(zF c v:Int)*G=((wtI q l k:Int)*G)*(zF c v:Int) by grind,e1,e2]
     grind
    ·have h0:lag l i l.length (v:Int)=0:=by rw[← hg];exact iA hik hk
     rw[h0,Int.mul_zero,Int.zero_add];simpa [List.mem_cons,hik] using ih'
  have:=key (List.range l.length) List.nodup_range (fun i hi=>List.mem_range.1 hi);rw[if_pos (List.mem_range.2 hk)] at this;rw[show ∀ a b:Int,a+(-1)*b=a - b by intro a b;omega];exact this) (x:Int)
 rw[← dW,show ∀ a b:Int,a+(-1)*b=a - b by intro a b;omega] at hz;have hw:(q:Int) ∣ ((List.range l.length).map fun i=>(wtN q l x i:Int)*(zF c (l.getD i 0):Int)).sum - ((List.range l.length).map fun i=>((wtI q l i:Int)*(zF c (l.getD i 0):Int))*lag l i l.length (x:Int)).sum:=by
  generalize List.range l.length=L
  induction L with
  | nil=>simp
  | cons i r ih =>
   rw[List.map_cons,List.sum_cons,List.map_cons,List.sum_cons];have h1:=kX (a:=wtI q l i) (x:=x) (i:=i) hO.lt hq0 l.length (Nat.le_refl _);rw[show prM q (wtI q l i) (dif q l i x l.length)=wtN q l x i from rfl] at h1;generalize (r.map fun i=>(wtN q l x i:Int)*(zF c (l.getD i 0):Int)).sum=S1 at *;generalize (r.map fun i=>((wtI q l i:Int)*(zF c (l.getD i 0):Int))*lag l i l.length (x:Int)).sum=S2 at *;generalize (wtN q l x i:Int)=A at *;generalize lag l i l.length (x:Int)=G at *;generalize (wtI q l i:Int)=I at *;generalize (zF c (l.getD i 0):Int)=R at *;obtain⟨c1,h1⟩:=h1;obtain⟨c2,ih⟩:=ih;exact⟨c1*R+c2,by
    have e1:A=I*G+q*c1:=by omega
    have e2:S1=S2+q*c2:=by omega
    rw[e1,e2];grind⟩
 have:=Int.dvd_add hw hz;rwa [show ∀ a b d:Int,a - b+(b - d)=a - d by intro a b d;omega] at this
theorem m5 {q:Nat} (hP:Pri q) {ps:LN} (hO:qj q ps) {l:LN} (hl:l.length≤ps.length) {x:Nat} :
  aae (ps.map fun a=>zF l a%q) (wts q ps x)%q=zF l x%q:=by
 have e1:ps.map (fun a=>zF l a%q)=(List.range ps.length).map fun i=>zF l (ps.getD i 0)%q:=by
  refine List.ext_getElem Sm (fun i h1 h2=>?_);simp only[List.getElem_map,List.getElem_range];rw[List.getD_eq_getElem?_getD,List.getElem?_eq_getElem (by simpa using h1)];rfl
 have h1:=aav hP hO hl x;have h2:(q:Int) ∣ ((List.range ps.length).map fun i=>((zF l (ps.getD i 0)%q:Nat):Int)*(wtN q ps x i:Int)).sum - ((List.range ps.length).map fun i=>(wtN q ps x i:Int)*(zF l (ps.getD i 0):Int)).sum:=by
  generalize List.range ps.length=L
  induction L with
  | nil=>simp
  | cons i r ih =>
   rw[List.map_cons,List.sum_cons,List.map_cons,List.sum_cons];have hm:=vr (q:=q) (zF l (ps.getD i 0));generalize ((zF l (ps.getD i 0)%q:Nat):Int)=R at *;generalize (zF l (ps.getD i 0):Int)=P at *;generalize (wtN q ps x i:Int)=W at *;obtain⟨c1,hm⟩:=hm;obtain⟨c2,ih⟩:=ih;exact⟨c2 - W*c1,by
    have e:P=R+q*c1:=by omega
    rw[e];generalize (r.map fun i=>((zF l (ps.getD i 0)%q:Nat):Int)*(wtN q ps x i:Int)).sum=S1 at *;generalize (r.map fun i=>(wtN q ps x i:Int)*(zF l (ps.getD i 0):Int)).sum=S2 at *;have e2:S1=S2+q*c2:=by omega
    rw[e2];grind⟩
 have h3:=Int.dvd_add h2 h1;rw[show ∀ a b d:Int,a - b+(b - d)=a - d by intro a b d;omega,← ob (fun i=>zF l (ps.getD i 0)%q) (wtN q ps x)] at h3;rw[e1];unfold wts;exact Int.ofNat_inj.1 (by rw[Int.natCast_emod,Int.natCast_emod];exact Int.emod_eq_emod_iff_emod_sub_eq_zero.2 (Int.emod_eq_zero_of_dvd h3))
theorem ace {q:Nat} {l:LN} {x:Nat}:(wts q l x).length=l.length:=by simp[wts]
theorem bG {p q h:Nat} (hP:Pri q) (hh:gIn p q h=true) {ps:LN} (hO:qj q ps) {l:LN} (hl:l.length≤ps.length) {x:Nat} :
  prD p ((ps.map fun a=>zF l a%q).map fun e=>h ^ e%p) (wts q ps x)=h ^ (zF l x%q)%p:=by
 obtain⟨⟨h1,_,_⟩,_⟩:=vD hh;rw[aaa h1 (by rw[List.length_map,ace])];exact mX hh (by rw[m5 hP hO hl,Nat.mod_mod])
theorem ab1 {p q h x s:Nat} (hh:gIn p q h=true) (hP:Pri q) (hx:x<q) (h0:x≠0):((h ^ x%p) ^ s%p) ^ y7 x q%p=h ^ s%p:=by
 have hi:=(vP hP.1 hx (hP.2 x Om hx)).1;rw[yG,yG];refine mX hh ?_;rw[show x*(s*y7 x q)=s*(y7 x q*x) by rw[Nat.mul_comm (y7 x q) x,Nat.mul_left_comm],Nat.mul_mod,hi,Nat.mul_one,Nat.mod_mod]
section
variable {p q g:Nat} {N:LP} {ep d x n:Nat} {l:LN}
theorem agE (hp:p<zd):∀ a∈dVs p q g l n,a<zd:=fun a ha=>by
 unfold dVs at ha;obtain⟨i,_,rfl⟩:=List.mem_map.1 ha;exact tj hp
theorem adf (hp:p<zd):∀ a∈dYs p q l N n,a<zd:=fun a ha=>by
 unfold dYs at ha;obtain⟨i,_,rfl⟩:=List.mem_map.1 ha;exact tj hp
theorem aha (hq:q<zd) (h0:0<q):zV (dPs p q g l N ep d x n):=fun a ha=>by
 unfold dPs at ha;obtain⟨i,_,rfl⟩:=List.mem_map.1 ha;exact agD h0 hq
theorem ac4 (hq:q<zd) (h0:0<q):(dSg p q g l N ep d x n).1<zd∧(dSg p q g l N ep d x n).2<zd:=by
 exact ag4 h0 hq
end
def vA (n:Nat):Bool:=decide (2≤n) && decide (n<4294967296) && (List.range n).all fun e=>decide (e<2) || decide (n<e*e) || decide (n%e≠0)
theorem qH (n:Nat):∀ m,n<m*m→∃ d,n<d*d∧∀ e,e<d→e*e≤n
 | 0,h=>by simp at h
 | m+1,h=>by
  rcases Nat.lt_or_ge n (m*m) with h1|h1
  ·exact qH n m h1
  ·exact⟨m+1,h,fun e he=>Nat.le_trans (Nat.mul_le_mul (by omega:e≤m) (by omega:e≤m)) h1⟩
theorem mw {n:Nat} (h:vA n=true):Pri n:=by
 unfold vA at h;simp only[Bool.and_eq_true,decide_eq_true_eq,List.all_eq_true,Bool.or_eq_true,List.mem_range] at h;obtain⟨⟨h2,_⟩,ha⟩:=h;obtain⟨d,hd,hs⟩:=qH n n (by have:=Nat.mul_le_mul_right n h2;omega);refine ax h2 hd (fun e he1 he2=>?_);have he:=hs e he2;have hen:e<n:=by have:=Nat.mul_le_mul_right e he1;omega
 rcases ha e hen with (h|h)|h
 ·omega
 ·omega
 ·exact h
theorem eL {n d:Nat} (h2:2≤n) (h3:n<4294967296) (hd:n<d*d) (h:∀ e,2≤e→e<d→n%e≠0):vA n=true:=by
 unfold vA;simp only[Bool.and_eq_true,decide_eq_true_eq,List.all_eq_true,Bool.or_eq_true,List.mem_range];refine⟨⟨h2,h3⟩,fun e _=>?_⟩
 rcases Nat.lt_or_ge e 2 with h1|h1
 ·exact .inl (.inl h1)
 ·rcases Nat.lt_or_ge e d with h4|h4
  ·exact .inr (h e h1 h4)
  ·exact .inl (.inr (Nat.lt_of_lt_of_le hd (Nat.mul_le_mul h4 h4)))
theorem aaD {n d:Nat} (h2:2≤d) (hd:d*d≤n) (h:n%d=0):vA n=false:=by
 cases hb:vA n with
 | false=>rfl
 | true =>
  exfalso;unfold vA at hb;simp only[Bool.and_eq_true,decide_eq_true_eq,List.all_eq_true,Bool.or_eq_true,List.mem_range] at hb;have hdn:d<n:=by have:=Nat.mul_le_mul_right d h2;omega
  rcases hb.2 d hdn with (h1|h1)|h1
  ·omega
  ·omega
  ·exact h1 h
theorem mG {n:Nat} (h:n<2∨4294967296≤n):vA n=false:=by
 unfold vA
 rcases h with h|h
 ·rw[decide_eq_false (show ¬ 2≤n by omega)];rfl
 ·rw[decide_eq_false (show ¬ n<4294967296 by omega)];simp
def qf (p q:Nat):Bool:=decide (wd 0 p<4294967296) && decide (1<wd 0 q) && decide (p=wd 0 p) && decide (q=wd 0 q) && vA (wd 0 p) && vA (wd 0 q) && decide ((wd 0 p - 1)%wd 0 q=0)
theorem em {p q:Nat} (h:qf p q=true):p<4294967296∧q<4294967296∧Pri p∧Pri q:=by
 unfold qf at h;simp only[Bool.and_eq_true,decide_eq_true_eq] at h;obtain⟨⟨⟨⟨⟨⟨h1,h2⟩,h3⟩,h4⟩,h5⟩,h6⟩,h7⟩:=h;rw[← h3] at h1 h5;rw[← h4] at h6;refine⟨h1,?_,mw h5,mw h6⟩;unfold vA at h6;simp only[Bool.and_eq_true,decide_eq_true_eq] at h6;exact h6.1.2
def lQ (q:Nat) (k:Nat × Nat):Bool:=decide (k.1≠0) && decide (k.2≠0) && decide (k.1<q) && decide (k.2<q)
def csK (p g hh:Nat) (k:Nat × Nat):Nat × Nat:=(exN p g k.1,exN p hh k.2)
def csN (p g a:Nat) (ks:LP):List (Nat × Nat):=ks.map (csK p g (exN p g a))
def lL (p q g a:Nat) (f sec:Int) (ks:LP):Bool :=
 yw p g && decide (a≠0) && decide (ks.length≤7) && qf p q && (ks.all (lQ q) && (decide (ks=[]) || yw p (exN p g a))) && yW p q g (exN p g a) f sec (csN p g a ks)
theorem yT (p g a:Nat) (ks:LP):(csN p g a ks).length=ks.length:=by simp[csN]
theorem kd {p g a i:Nat} {ks:LP} {k:Nat × Nat} (h:ks[i]?=some k):(csN p g a ks)[i]?=some (csK p g (exN p g a) k):=by unfold csN;rw[List.getElem?_map,h];rfl
theorem j2 {p g a:Nat} {ks:LP} (hp:p<zd):zV (csN p g a ks):=fun x hx=>by
 obtain⟨k,_,rfl⟩:=List.mem_map.1 hx;exact⟨tj hp,tj hp⟩
structure qb (p q g a:Nat) (f sec:Int) (ks:LP):Prop where
 p32:p<4294967296
 q32:q<4294967296
 pri:Pri q
 set:yW p q g (exN p g a) f sec (csN p g a ks)=true
 scr:∀ k∈ks,k.1<q∧k.2<q
 len:ks.length≤7
theorem ai {p q g a:Nat} {f sec:Int} {ks:LP} (h:lL p q g a f sec ks=true):qb p q g a f sec ks:=by
 unfold lL at h;simp only[Bool.and_eq_true,decide_eq_true_eq,List.all_eq_true] at h;obtain⟨⟨⟨⟨⟨_,_⟩,h3⟩,h4⟩,h5,_⟩,h6⟩:=h;obtain⟨g1,g2,_,g4⟩:=em h4;refine⟨g1,g2,g4,h6,fun k hk=>?_,h3⟩;have:=h5 k hk;unfold lQ at this;simp only[Bool.and_eq_true,decide_eq_true_eq] at this;exact⟨this.1.2,this.2⟩
end Sx
end
end Go.Proofs.YtiaibpcaloigkaaGreatDoor
