/- Part 39 of the proof. -/
import Derived.Test.YtbhblpnjhkddbaaGreatE37
import Derived.Test.YtbhblpnjhkddbaaGreatE38
set_option linter.unusedSimpArgs false
set_option linter.unusedVariables false
namespace Go.Proofs.YtbhblpnjhkddbaaGreat
section
open Go Go.RowKit Go.BigFrame
namespace Sx
attribute [local irreducible] DQ DQS WC WO wd
end Sx
end
section
open Go Go.RowKit Go.BigFrame
namespace Sx
attribute [local irreducible] DQ DQS WC WO WX wd
end Sx
end
section
open Go Go.RowKit Go.BigFrame
namespace Sx
attribute [local irreducible] DQ DQS WC WO wd
end Sx
end
section
open Go Go.RowKit Go.BigFrame
namespace Sx
attribute [local irreducible] DQ DQS WC WI WO WX wd
end Sx
end
section
open Go Go.RowKit Go.BigFrame
namespace Sx
section
attribute [local irreducible] wd
variable {w0:World} {gs:List Nat} {K:List (Nat × Value)} {L:List Ent}
end
attribute [local irreducible] wd DQ DQS WO WC WX WI
end Sx
end
section
open Go Go.RowKit Go.BigFrame
namespace Sx
attribute [local irreducible] DQ DQS WC WI WO WX wd
end Sx
end
section
open Go Go.RowKit Go.BigFrame
namespace Sx
theorem tR {a q:Nat} (h1:1<q) (h2:a<q):zK a a q=true:=by unfold zK;simp[h1,h2]
theorem cv {q x:Nat} {H:List Nat} (h1:1<q):yV q x H<q∧yV q x H≠0:=by
 unfold yV;split
 ·exact⟨h1,by decide⟩
 ·rename_i h;exact⟨ta (by omega) _ _,h⟩
theorem ii {p q a:Nat} (h:kB p q a=true):gIn p q a=true∧a≠1:=by
 unfold kB at h;simpa using h
section
variable {p q g h:Nat} {f sec:Int} {N:List (Nat × Nat)} {ep d x:Nat} {l:List Nat}
theorem fV (hS:vl p q g h f sec N=true):kB p q g=true∧(∀ i,i<N.length→kB p q (N.getD i (0,0)).1=true∧kB p q (N.getD i (0,0)).2=true)∧N.length<8∧(N.length:Int)+sec<(q:Int)∧0≤f∧1≤sec:=by
 unfold vl at hS;simp only[Bool.and_eq_true,decide_eq_true_eq] at hS;obtain⟨⟨⟨⟨⟨⟨⟨⟨⟨⟨h1,h2⟩,h3⟩,h4⟩,h5⟩,h6⟩,h7⟩,h8⟩,h9⟩,h10⟩,h11⟩:=hS;refine⟨h9,fun i hi=>?_,by omega,h8,h1,h3⟩;have:=List.all_eq_true.1 h11 N[i] (List.getElem_mem hi);rw[List.getD_eq_getElem?_getD,List.getElem?_eq_getElem hi];simpa using this
end
end Sx
end
section
open Go Go.RowKit Go.BigFrame
namespace Sx
attribute [local irreducible] DQ DQS WC WI WO WX wd
end Sx
end
section
open Go Go.RowKit Go.BigFrame
namespace Sx
def ye:List Int→Int→Int
 | [],_=>0
 | c::r,x=>c+x*ye r x
def Pol (n:Nat) (F:Int→Int):Prop:=∃ C:List Int,C.length=n∧∀ x,F x=ye C x
theorem sY (n:Nat) (x:Int):ye (List.replicate n 0) x=0:=by
 induction n with
 | zero=>rfl
 | succ n ih=>rw[List.replicate_succ,ye,ih];simp
theorem j7 (D E:List Int) (x:Int):ye (D++E) x=ye D x+x ^ D.length*ye E x:=by
 induction D with
 | nil=>simp[ye]
 | cons a r ih=>rw[List.cons_append,ye,ye,ih,List.length_cons,Int.pow_succ];grind
theorem qv (c:Int):∀ (D:List Int) (x:Int),ye (D.map (c * ·)) x=c*ye D x
 | [],x=>by simp[ye]
 | a::r,x=>by rw[List.map_cons,ye,qv c r,ye];grind
theorem nf:∀ (D E:List Int) (x:Int),D.length=E.length→ye (List.zipWith (· + ·) D E) x=ye D x+ye E x
 | [],[],_,_=>by simp[ye]
 | [],_::_,_,h=>by simp at h
 | _::_,[],_,h=>by simp at h
 | a::l,b::m,x,h=>by
  rw[List.zipWith_cons_cons,ye,nf l m x (by simpa using h),ye,ye]
  grind
theorem Pol.zero (n:Nat):Pol n (fun _=>0):=⟨List.replicate n 0,by simp,fun x=>(sY n x).symm⟩
theorem Pol.add {n:Nat} {F G:Int→Int}:Pol n F→Pol n G→Pol n (fun x=>F x+G x)
 | ⟨C,h1,h2⟩,⟨D,h3,h4⟩=>⟨List.zipWith (· + ·) C D,by simp[h1,h3],fun x=>by show F x+G x=_;rw[nf C D x (by rw[h1,h3]),h2,h4]⟩
theorem Pol.smul {n:Nat} {F:Int→Int} (c:Int):Pol n F→Pol n (fun x=>c*F x)
 | ⟨C,h1,h2⟩=>⟨C.map (c * ·),by simp[h1],fun x=>by show c*F x=_;rw[qv,h2]⟩
theorem Pol.up {n m:Nat} {F:Int→Int} (hnm:n≤m):Pol n F→Pol m F
 | ⟨C,h1,h2⟩=>⟨C++List.replicate (m - n) 0,by simp[h1];omega,fun x=>by rw[j7,sY,h2];simp⟩
theorem Pol.one:Pol 1 (fun _=>1):=⟨[1],rfl,fun x=>by simp[ye]⟩
theorem Pol.lin {n:Nat} {F:Int→Int} (a:Int):Pol n F→Pol (n+1) (fun x=>F x*(x - a))
 | h=>by
  have h1:Pol (n+1) (fun x=>x*F x):=by
   obtain⟨C,h1,h2⟩:=h;exact⟨0::C,by simp[h1],fun x=>by rw[ye,← h2];simp⟩
  have h2:=h1.add ((h.up (Nat.le_succ n)).smul (-a));obtain⟨C,e1,e2⟩:=h2;exact⟨C,e1,fun x=>by rw[← e2];grind⟩
theorem Pol.sum {n:Nat} (f:Nat→Int→Int):∀ L:List Nat,(∀ i∈L,Pol n (f i))→Pol n (fun x=>(L.map fun i=>f i x).sum)
 | [],_=>by simpa using Pol.zero n
 | a::r,h=>by
  have:=(h a List.mem_cons_self).add (Pol.sum f r (fun i hi=>h i (List.mem_cons_of_mem _ hi)));simpa using this
theorem oE (a:Int):∀ (C:List Int),C≠[]→∃ D:List Int,D.length+1=C.length∧∀ x,ye C x=ye D x*(x - a)+ye C a
 | [c],_=>⟨[],rfl,fun x=>by simp[ye]⟩
 | c::d::r,_=>by
  obtain⟨D,h1,h2⟩:=oE a (d::r) (by simp);refine⟨ye (d::r) a::D,by simp at h1 ⊢;omega,fun x=>?_⟩;have:=h2 x;show c+x*ye (d::r) x=(ye (d::r) a+x*ye D x)*(x - a)+(c+a*ye (d::r) a);rw[this];generalize ye (d::r) a=u;generalize ye D x=v
  grind
theorem aaW {q:Nat} {u v:Int} (h:(q:Int) ∣ v*u) (hc:Nat.Coprime u.natAbs q):(q:Int) ∣ v:=by
 have h1:q ∣ v.natAbs*u.natAbs:=by
  have:=Int.natAbs_dvd_natAbs.2 h;rw[Int.natAbs_mul] at this;simpa using this
 exact Int.ofNat_dvd_left.2 (Nat.Coprime.dvd_of_dvd_mul_right hc.symm h1)
theorem Pol.none {q:Nat}:∀ (xs:List Int) (F:Int→Int),Pol xs.length F→xs.Pairwise (fun a b=>Nat.Coprime (b - a).natAbs q)→(∀ a∈xs,(q:Int) ∣ F a)→∀ x,(q:Int) ∣ F x
 | [],F,⟨C,h1,h2⟩,_,_,x=>by
  rw[h2,List.length_eq_zero_iff.1 h1];simp[ye]
 | a::r,F,⟨C,h1,h2⟩,hp,hz,x=>by
  obtain⟨D,h3,h4⟩:=oE a C (by intro e;rw[e] at h1;simp at h1);have ha:=hz a List.mem_cons_self;rw[List.pairwise_cons] at hp;have hG:=Pol.none r (ye D) ⟨D,by simp at h1;omega,fun _=>rfl⟩ hp.2 (fun b hb=>by
   have h5:=hz b (List.mem_cons_of_mem _ hb);rw[h2,h4,← h2 a] at h5;have h6:=(Int.dvd_add_left ha).1 h5;have hg:=hp.1 b hb;exact aaW h6 hg) x
  rw[h2,h4,← h2 a];exact Int.dvd_add (Int.dvd_mul_of_dvd_left hG) ha
def lag (l:List Nat) (i:Nat):Nat→Int→Int
 | 0,_=>1
 | k+1,x=>if k=i then lag l i k x else lag l i k x*(x - (l.getD k 0:Nat))
theorem fP (l:List Nat) (i:Nat):∀ k,Pol (if i<k then k else k+1) (lag l i k)
 | 0=>by simpa [lag] using Pol.one
 | k+1=>by
  have ih:=fP l i k
  by_cases h:k=i
  ·subst h;rw[if_neg (Nat.lt_irrefl k)] at ih;rw[if_pos (Nat.lt_succ_self k)];have:lag l k (k+1)=lag l k k:=by funext x;simp[lag]
   rwa [this]
  ·have e:lag l i (k+1)=fun x=>lag l i k x*(x - (l.getD k 0:Nat)):=by funext x;simp[lag,h]
   rw[e];have:=ih.lin (l.getD k 0:Nat)
   rcases Nat.lt_or_ge i k with h1|h1
   ·rw[if_pos h1] at this;rwa [if_pos (by omega)]
   ·rw[if_neg (by omega)] at this;rwa [if_neg (by omega)]
theorem m8 {l:List Nat} {i j:Nat} (hij:j≠i):∀ {k:Nat},j<k→lag l i k (l.getD j 0:Nat)=0
 | k+1,h=>by
  rw[lag]
  rcases Nat.lt_or_ge j k with h1|h1
  ·rw[m8 hij h1];simp
  ·have:k=j:=by omega
   subst this;rw[if_neg hij,Int.sub_self,Int.mul_zero]
theorem mK {q a x i:Nat} {l:List Nat} (hl:∀ y∈l,y<q) (h0:0<q):∀ k,k≤l.length→(q:Int) ∣ (prM q a (dif q l i x k):Int) - (a:Int)*lag l i k x
 | 0,_=>by simp[dif,prM,lag]
 | k+1,h=>by
  have ih:=mK (a:=a) (x:=x) (i:=i) hl h0 k (by omega);obtain⟨v,hv⟩ : ∃ v,l[k]?=some v:=⟨_,List.getElem?_eq_getElem (by omega)⟩;have hvq:=hl v (List.mem_of_getElem? hv);have hg:l.getD k 0=v:=by rw[List.getD_eq_getElem?_getD,hv];rfl
  by_cases hk:k=i
  ·rw[pN hk,lag,if_pos hk];exact ih
  ·rw[q5 hk hv,pq,lag,if_neg hk,hg];generalize prM q a (dif q l i x k)=P at *;generalize lag l i k x=G at *;have h1:(q:Int) ∣ ((P*((x+q - v)%q):Nat):Int) - ((P*((x+q - v)%q)%q:Nat):Int):=sI _;have h2:(q:Int) ∣ ((x+q - v:Nat):Int) - (((x+q - v)%q:Nat):Int):=sI _;have e:((x+q - v:Nat):Int)=(x:Int)+q - v:=by omega
   rw[e] at h2;generalize (x+q - v)%q=D at *;generalize P*D%q=R at *;rw[Int.natCast_mul] at h1;obtain⟨c1,h1⟩:=h1;obtain⟨c2,h2⟩:=h2;obtain⟨c3,ih⟩:=ih;refine⟨P*(1 - c2)+c3*(x - v) - c1,?_⟩;have hR:(R:Int)=P*D - q*c1:=by omega
   have hD:(D:Int)=x+q - v - q*c2:=by omega
   have hP:(P:Int)=a*G+q*c3:=by omega
   rw[hR,hD];have:a*G=(P:Int) - q*c3:=by omega
   rw[← Int.mul_assoc,this]
   grind
theorem iH (c:List Nat) (x:Nat):(zO c x:Int)=ye (c.map fun a:Nat=>(a:Int)) (x:Int):=by
 induction c with
 | nil=>simp[zO,ye]
 | cons a r ih=>rw[zO,List.map_cons,ye,← ih];push_cast;rfl
theorem eN {q a b:Nat} (hP:Pri q) (ha:a<q) (hb:b<q) (h:a≠b):Nat.Coprime ((b:Int) - (a:Int)).natAbs q :=
 hP.2 _ (by omega) (by omega)
theorem mQ {q:Nat} (hP:Pri q) {l:List Nat} (hl:∀ y∈l,y<q) {x i:Nat} (hx:x<q):∀ {k:Nat},k≤l.length→(∀ j v,j<k→j≠i→l[j]?=some v→v≠x)→et q (dif q l i x k)=true
 | 0,_,_=>by simp[dif,et]
 | k+1,hk,h=>by
  have ih:=mQ hP hl hx (k:=k) (i:=i) (by omega) (fun j v h1 h2 h3=>h j v (by omega) h2 h3)
  by_cases e:k=i
  ·rw[pN e];exact ih
  ·obtain⟨v,hv⟩ : ∃ v,l[k]?=some v:=⟨_,List.getElem?_eq_getElem (by omega)⟩;have hvq:=hl v (List.mem_of_getElem? hv);have hne:=h k v (by omega) e hv;rw[q5 e hv];unfold et at *;rw[List.all_append,ih,Bool.true_and,List.all_cons,List.all_nil,Bool.and_true,decide_eq_true_eq];refine hP.2 _ ?_ (Nat.mod_lt _ (by omega))
   rcases Nat.lt_or_ge x v with h1|h1
   ·rw[Nat.mod_eq_of_lt (by omega)];omega
   ·rw[show x+q - v=x - v+q by omega,Nat.add_mod_right,Nat.mod_eq_of_lt (by omega)];omega
theorem rx {l:List Nat} (h:l.Nodup) {i j a:Nat} (hi:l[i]?=some a) (hj:l[j]?=some a):i=j:=by
 obtain⟨h1,e1⟩:=List.getElem?_eq_some_iff.1 hi;obtain⟨h2,e2⟩:=List.getElem?_eq_some_iff.1 hj
 rcases Nat.lt_trichotomy i j with h3|h3|h3
 ·exact (List.pairwise_iff_getElem.1 h i j h1 h2 h3 (by rw[e1,e2])).elim
 ·exact h3
 ·exact (List.pairwise_iff_getElem.1 h j i h2 h1 h3 (by rw[e1,e2])).elim
theorem aav {q:Nat} (hP:Pri q) {l:List Nat} (hO:rl q l) {k:Nat} (hk:k<l.length):(q:Int) ∣ (wtI q l k:Int)*lag l k l.length (l.getD k 0:Nat) - 1:=by
 obtain⟨v,hv⟩ : ∃ v,l[k]?=some v:=⟨_,List.getElem?_eq_getElem hk⟩;have hg:l.getD k 0=v:=by rw[List.getD_eq_getElem?_getD,hv];rfl
 have hvq:=hO.lt v (List.mem_of_getElem? hv);have h1:=mK (a:=1) (x:=l.getD k 0) (i:=k) hO.lt (by have:=hP.1;omega) l.length (Nat.le_refl _);have hc:et q (dif q l k (l.getD k 0) l.length)=true:=mQ hP hO.lt (by rw[hg];exact hvq) (Nat.le_refl _) (fun j u h1 h2 h3 e=>by
  rw[hg] at e;subst e;exact h2 (rx hO.nd h3 hv))
 have hgc:=(pX q (dif q l k (l.getD k 0) l.length) 1).2 ⟨Nat.gcd_one_left q,hc⟩;have hi:=(uy hP.1 (oF (by have:=hP.1;omega) hP.1 (dif q l k (l.getD k 0) l.length)) hgc).1;have h2:=sI (q:=q) (vU (prM q 1 (dif q l k (l.getD k 0) l.length)) q*prM q 1 (dif q l k (l.getD k 0) l.length));rw[hi] at h2;unfold wtI;generalize vU (prM q 1 (dif q l k (l.getD k 0) l.length)) q=I at *;generalize prM q 1 (dif q l k (l.getD k 0) l.length)=M at *;generalize lag l k l.length (l.getD k 0:Nat)=G at *;push_cast at h1 h2;obtain⟨c1,h1⟩:=h1;obtain⟨c2,h2⟩:=h2;refine⟨c2 - I*c1,?_⟩;have e1:G=M - q*c1:=by omega
 rw[e1]
 grind
theorem eM {q:Nat} (hP:Pri q) {l:List Nat} (hO:rl q l) {c:List Nat} (hc:c.length≤l.length) (x:Nat) :
  (q:Int) ∣ ((List.range l.length).map fun i=>(wtN q l x i:Int)*(zO c (l.getD i 0):Int)).sum - (zO c x:Int):=by
 have hq0:0<q:=by have:=hP.1;omega
 have hF:Pol l.length (fun y=>((List.range l.length).map fun i=>((wtI q l i:Int)*(zO c (l.getD i 0):Int))*lag l i l.length y).sum+(-1)*ye (c.map fun a:Nat=>(a:Int)) y):=by
  refine Pol.add (Pol.sum (fun i y=>((wtI q l i:Int)*(zO c (l.getD i 0):Int))*lag l i l.length y) _ (fun i hi=>Pol.smul _ ?_)) (Pol.smul _ (Pol.up (n:=c.length) hc ⟨c.map fun a:Nat=>(a:Int),by simp,fun _=>rfl⟩));have:=fP l i l.length;rwa [if_pos (List.mem_range.1 hi)] at this
 have hz:=Pol.none (q:=q) (l.map fun a:Nat=>(a:Int)) _ (by rw[List.length_map];exact hF) (by
  rw[List.pairwise_map];refine List.Pairwise.imp_of_mem (fun ha hb h=>?_) hO.nd;exact eN hP (hO.lt _ ha) (hO.lt _ hb) h) (fun a ha=>by
  obtain⟨v,hv,rfl⟩:=List.mem_map.1 ha;obtain⟨k,hk,e⟩:=List.mem_iff_getElem.1 hv;have hkv:l[k]?=some v:=by rw[List.getElem?_eq_getElem hk,e]
  have hg:l.getD k 0=v:=by rw[List.getD_eq_getElem?_getD,hkv];rfl
  rw[← iH];have key:∀ L:List Nat,L.Nodup→(∀ i∈L,i<l.length)→(q:Int) ∣ (L.map fun i=>((wtI q l i:Int)*(zO c (l.getD i 0):Int))*lag l i l.length (v:Int)).sum - (if k∈L then (zO c v:Int) else 0):=by
   intro L
   induction L with
   | nil=>intro _ _;simp
   | cons i r ih =>
    intro hn hlt;rw[List.nodup_cons] at hn;have ih':=ih hn.2 (fun j hj=>hlt j (List.mem_cons_of_mem _ hj));rw[List.map_cons,List.sum_cons]
    by_cases hik:k=i
    ·subst hik;rw[if_neg hn.1] at ih';rw[if_pos List.mem_cons_self];have h1:=aav hP hO hk;rw[hg] at h1 ⊢;generalize (r.map fun i=>((wtI q l i:Int)*(zO c (l.getD i 0):Int))*lag l i l.length (v:Int)).sum=S at *;generalize lag l k l.length (v:Int)=G at *;obtain⟨c1,h1⟩:=h1;obtain⟨c2,ih'⟩:=ih';refine⟨c1*zO c v+c2,?_⟩;have e1:(wtI q l k:Int)*G=1+q*c1:=by omega
     have e2:S=q*c2:=by omega
     rw[show (wtI q l k:Int)*(zO c v:Int)*G=((wtI q l k:Int)*G)*(zO c v:Int) by grind,e1,e2]
     grind
    ·have h0:lag l i l.length (v:Int)=0:=by rw[← hg];exact m8 hik hk
     rw[h0,Int.mul_zero,Int.zero_add];simpa [List.mem_cons,hik] using ih'
  have:=key (List.range l.length) List.nodup_range (fun i hi=>List.mem_range.1 hi);rw[if_pos (List.mem_range.2 hk)] at this;rw[show ∀ a b:Int,a+(-1)*b=a - b by intro a b;omega];exact this) (x:Int)
 rw[← iH,show ∀ a b:Int,a+(-1)*b=a - b by intro a b;omega] at hz;have hw:(q:Int) ∣ ((List.range l.length).map fun i=>(wtN q l x i:Int)*(zO c (l.getD i 0):Int)).sum - ((List.range l.length).map fun i=>((wtI q l i:Int)*(zO c (l.getD i 0):Int))*lag l i l.length (x:Int)).sum:=by
  generalize List.range l.length=L
  induction L with
  | nil=>simp
  | cons i r ih =>
   rw[List.map_cons,List.sum_cons,List.map_cons,List.sum_cons];have h1:=mK (a:=wtI q l i) (x:=x) (i:=i) hO.lt hq0 l.length (Nat.le_refl _);rw[show prM q (wtI q l i) (dif q l i x l.length)=wtN q l x i from rfl] at h1;generalize (r.map fun i=>(wtN q l x i:Int)*(zO c (l.getD i 0):Int)).sum=S1 at *;generalize (r.map fun i=>((wtI q l i:Int)*(zO c (l.getD i 0):Int))*lag l i l.length (x:Int)).sum=S2 at *;generalize (wtN q l x i:Int)=A at *;generalize lag l i l.length (x:Int)=G at *;generalize (wtI q l i:Int)=I at *;generalize (zO c (l.getD i 0):Int)=R at *;obtain⟨c1,h1⟩:=h1;obtain⟨c2,ih⟩:=ih;exact⟨c1*R+c2,by
    have e1:A=I*G+q*c1:=by omega
    have e2:S1=S2+q*c2:=by omega
    rw[e1,e2];grind⟩
 have:=Int.dvd_add hw hz;rwa [show ∀ a b d:Int,a - b+(b - d)=a - d by intro a b d;omega] at this
theorem oG {q:Nat} (hP:Pri q) {ps:List Nat} (hO:rl q ps) {l:List Nat} (hl:l.length≤ps.length) {x:Nat} :
  bL (ps.map fun a=>zO l a%q) (wts q ps x)%q=zO l x%q:=by
 have e1:ps.map (fun a=>zO l a%q)=(List.range ps.length).map fun i=>zO l (ps.getD i 0)%q:=by
  refine List.ext_getElem (by simp) (fun i h1 h2=>?_);simp only[List.getElem_map,List.getElem_range];rw[List.getD_eq_getElem?_getD,List.getElem?_eq_getElem (by simpa using h1)];rfl
 have h1:=eM hP hO hl x;have h2:(q:Int) ∣ ((List.range ps.length).map fun i=>((zO l (ps.getD i 0)%q:Nat):Int)*(wtN q ps x i:Int)).sum - ((List.range ps.length).map fun i=>(wtN q ps x i:Int)*(zO l (ps.getD i 0):Int)).sum:=by
  generalize List.range ps.length=L
  induction L with
  | nil=>simp
  | cons i r ih =>
   rw[List.map_cons,List.sum_cons,List.map_cons,List.sum_cons];have hm:=sI (q:=q) (zO l (ps.getD i 0));generalize ((zO l (ps.getD i 0)%q:Nat):Int)=R at *;generalize (zO l (ps.getD i 0):Int)=P at *;generalize (wtN q ps x i:Int)=W at *;obtain⟨c1,hm⟩:=hm;obtain⟨c2,ih⟩:=ih;exact⟨c2 - W*c1,by
    have e:P=R+q*c1:=by omega
    rw[e];generalize (r.map fun i=>((zO l (ps.getD i 0)%q:Nat):Int)*(wtN q ps x i:Int)).sum=S1 at *;generalize (r.map fun i=>(wtN q ps x i:Int)*(zO l (ps.getD i 0):Int)).sum=S2 at *;have e2:S1=S2+q*c2:=by omega
    rw[e2];grind⟩
 have h3:=Int.dvd_add h2 h1;rw[show ∀ a b d:Int,a - b+(b - d)=a - d by intro a b d;omega,← kD (fun i=>zO l (ps.getD i 0)%q) (wtN q ps x)] at h3;rw[e1];unfold wts;exact Int.ofNat_inj.1 (by rw[Int.natCast_emod,Int.natCast_emod];exact Int.emod_eq_emod_iff_emod_sub_eq_zero.2 (Int.emod_eq_zero_of_dvd h3))
theorem cQ {q:Nat} {l:List Nat} {x:Nat}:(wts q l x).length=l.length:=by simp[wts]
theorem iQ {p q h:Nat} (hP:Pri q) (hh:gIn p q h=true) {ps:List Nat} (hO:rl q ps) {l:List Nat} (hl:l.length≤ps.length) {x:Nat} :
  prD p ((ps.map fun a=>zO l a%q).map fun e=>h ^ e%p) (wts q ps x)=h ^ (zO l x%q)%p:=by
 obtain⟨⟨h1,_,_⟩,_⟩:=vK hh;rw[aaI h1 (by rw[List.length_map,cQ])];exact iw hh (by rw[oG hP hO hl,Nat.mod_mod])
theorem dL {p q h x s:Nat} (hh:gIn p q h=true) (hP:Pri q) (hx:x<q) (h0:x≠0):((h ^ x%p) ^ s%p) ^ vU x q%p=h ^ s%p:=by
 have hi:=(uy hP.1 hx (hP.2 x (by omega) hx)).1;rw[yJ,yJ];refine iw hh ?_;rw[show x*(s*vU x q)=s*(vU x q*x) by rw[Nat.mul_comm (vU x q) x,Nat.mul_left_comm],Nat.mul_mod,hi,Nat.mul_one,Nat.mod_mod]
def knN:List (Nat × Nat):=[(3,8),(12,3),(2,4),(8,13)]
theorem abH:Pri 11:=⟨by decide,fun m h0 h1=>by
 have:∀ m∈List.range 11,0<m→Nat.gcd m 11=1:=by decide
 exact this m (List.mem_range.2 h1) h0⟩
theorem ae:vl 23 11 4 9 1 2 knN=true:=by decide +kernel
theorem aai:qZ 23 11 4 9 1 2 knN 1 [1,2,3] 4=true:=by decide +kernel
section
variable {p q g:Nat} {N:List (Nat × Nat)} {ep d x n:Nat} {l:List Nat}
theorem bK (hp:p<zc):∀ a∈dYs p q l N n,a<zc:=fun a ha=>by
 unfold dYs at ha;obtain⟨i,_,rfl⟩:=List.mem_map.1 ha;exact fp hp
end
def vJ (n:Nat):Bool:=decide (2≤n) && decide (n<4294967296) && (List.range n).all fun e=>decide (e<2) || decide (n<e*e) || decide (n%e≠0)
theorem qH (n:Nat):∀ m,n<m*m→∃ d,n<d*d∧∀ e,e<d→e*e≤n
 | 0,h=>by simp at h
 | m+1,h=>by
  rcases Nat.lt_or_ge n (m*m) with h1|h1
  ·exact qH n m h1
  ·exact⟨m+1,h,fun e he=>Nat.le_trans (Nat.mul_le_mul (by omega:e≤m) (by omega:e≤m)) h1⟩
theorem ic {n:Nat} (h:vJ n=true):Pri n:=by
 unfold vJ at h;simp only[Bool.and_eq_true,decide_eq_true_eq,List.all_eq_true,Bool.or_eq_true,List.mem_range] at h;obtain⟨⟨h2,_⟩,ha⟩:=h;obtain⟨d,hd,hs⟩:=qH n n (by have:=Nat.mul_le_mul_right n h2;omega);refine hZ h2 hd (fun e he1 he2=>?_);have he:=hs e he2;have hen:e<n:=by have:=Nat.mul_le_mul_right e he1;omega
 rcases ha e hen with (h|h)|h
 ·omega
 ·omega
 ·exact h
theorem iT {n d:Nat} (h2:2≤n) (h3:n<4294967296) (hd:n<d*d) (h:∀ e,2≤e→e<d→n%e≠0):vJ n=true:=by
 unfold vJ;simp only[Bool.and_eq_true,decide_eq_true_eq,List.all_eq_true,Bool.or_eq_true,List.mem_range];refine⟨⟨h2,h3⟩,fun e _=>?_⟩
 rcases Nat.lt_or_ge e 2 with h1|h1
 ·exact .inl (.inl h1)
 ·rcases Nat.lt_or_ge e d with h4|h4
  ·exact .inr (h e h1 h4)
  ·exact .inl (.inr (Nat.lt_of_lt_of_le hd (Nat.mul_le_mul h4 h4)))
theorem eR {n d:Nat} (h2:2≤d) (hd:d*d≤n) (h:n%d=0):vJ n=false:=by
 cases hb:vJ n with
 | false=>rfl
 | true =>
  exfalso;unfold vJ at hb;simp only[Bool.and_eq_true,decide_eq_true_eq,List.all_eq_true,Bool.or_eq_true,List.mem_range] at hb;have hdn:d<n:=by have:=Nat.mul_le_mul_right d h2;omega
  rcases hb.2 d hdn with (h1|h1)|h1
  ·omega
  ·omega
  ·exact h1 h
theorem nI {n:Nat} (h:n<2∨4294967296≤n):vJ n=false:=by
 unfold vJ
 rcases h with h|h
 ·rw[decide_eq_false (show ¬ 2≤n by omega)];rfl
 ·rw[decide_eq_false (show ¬ n<4294967296 by omega)];simp
def js (p q g h:Nat):Bool:=decide (zy p≤32) && decide (zy q≤31) && decide (p=2*q+1) && vJ p && vJ q && gIn p q g && gIn p q h && decide (g≠1) && decide (h≠1)
def nP (p q g h:Nat) (f sec:Int) (N:List (Nat × Nat)) (l:List Nat):Bool:=decide (N.length≤100) && decide (l.length≤100) && js p q g h && vl p q g h f sec N && decide ((l.length:Int)=f+sec) && uk q l
section
variable {p q g h:Nat} {f sec:Int} {N:List (Nat × Nat)} {l:List Nat}
theorem de (hg:js p q g h=true):Pri q:=by
 unfold js at hg;simp only[Bool.and_eq_true] at hg;exact ic hg.1.1.1.1.2
theorem uz (hF:nP p q g h f sec N l=true):Pri q∧vl p q g h f sec N=true∧(l.length:Int)=f+sec∧uk q l=true∧N.length≤100∧l.length≤100:=by
 unfold nP at hF;simp only[Bool.and_eq_true,decide_eq_true_eq] at hF;obtain⟨⟨⟨⟨⟨h1,h2⟩,h3⟩,h4⟩,h5⟩,h6⟩:=hF;exact⟨de h3,h4,h5,h6,h1,h2⟩
end
end Sx
end
end Go.Proofs.YtbhblpnjhkddbaaGreat
