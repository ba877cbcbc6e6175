/- Part 35 of the proof. -/
import Derived.Test.YtiaibpcaloigkaaGreatDoorD34
set_option linter.unusedSimpArgs false
set_option linter.unusedVariables false
namespace Go.Proofs.YtiaibpcaloigkaaGreatDoor
section
open Go Go.RowKit Go.BigFrame
namespace Sx
def Pri (q:Nat):Prop:=1<q∧∀ m,0<m→m<q→Nat.gcd m q=1
theorem bz (a m p:Nat):(a%p) ^ m%p=a ^ m%p:=(Nat.pow_mod a m p).symm
theorem ug (a m k p:Nat):(a ^ m%p) ^ k%p=a ^ (m*k)%p:=by rw[bz,← Nat.pow_mul]
theorem ux (a m k p:Nat):a ^ m%p*(a ^ k%p)%p=a ^ (m+k)%p:=by rw[← Nat.mul_mod,← Nat.pow_add]
theorem uk {p q a:Nat} (h:gIn p q a=true):(1<p∧a≠0∧a<p)∧a ^ q%p=1:=by
 unfold gIn at h;simp only[Bool.and_eq_true,decide_eq_true_eq] at h;exact⟨yW h.1,h.2⟩
theorem lh {p q a:Nat} (h:gIn p q a=true) (m:Nat):a ^ m%p=a ^ (m%q)%p:=by
 obtain⟨⟨h1,_,_⟩,h2⟩:=uk h;have e:a ^ m=(a ^ q) ^ (m / q)*a ^ (m%q):=by rw[← Nat.pow_mul,← Nat.pow_add,Nat.div_add_mod]
 rw[e,Nat.mul_mod,Nat.pow_mod,h2,Nat.one_pow,Nat.mod_eq_of_lt h1,Nat.one_mul,Nat.mod_mod]
theorem fG {p q a m k:Nat} (h:gIn p q a=true) (e:m%q=k%q):a ^ m%p=a ^ k%p:=by rw[lh h m,lh h k,e]
theorem fk {p a:Nat} (h1:1<p) (h2:a≠0) (h3:a<p):yx p a=true:=by
 unfold yx;simp[h1,h2,h3]
theorem pd {p q a:Nat} (h:gIn p q a=true) (hq:0<q) (m:Nat):gIn p q (a ^ m%p)=true:=by
 obtain⟨⟨h1,_,_⟩,h2⟩:=uk h;have e:(a ^ m%p) ^ q%p=1:=by
  rw[ug,Nat.mul_comm,Nat.pow_mul,Nat.pow_mod,h2,Nat.one_pow,Nat.mod_eq_of_lt h1]
 have h0:a ^ m%p≠0:=by
  intro h0;rw[h0,Nat.zero_pow hq] at e;simp at e
 unfold gIn;rw[fk h1 h0 (Nat.mod_lt _ Om),e];rfl
theorem ql {p q a:Nat} (h:gIn p q a=true) (n:Nat):exN p a n=a ^ n%p:=by
 obtain⟨⟨h1,h2,h3⟩,_⟩:=uk h;unfold exN;rw[fk h1 h2 h3];rfl
def aao:List Nat→List Nat→Nat
 | a::r,b::s=>a*b+aao r s
 | _,_=>0
theorem jE {p g:Nat} (h1:1<p):∀ (es ws:LN) (m:Nat),(es.length=ws.length) →
  ((es.map fun e=>g ^ e%p).zip ws).foldl (fun r x=>r*(x.1 ^ x.2%p)%p) (g ^ m%p)=g ^ (m+aao es ws)%p
 | [],_,m,_=>by simp[aao]
 | e::es,[],m,h=>by simp at h
 | e::es,w::ws,m,h=>by
  simp only[List.map_cons,List.zip_cons_cons,List.foldl_cons,aao];rw[ug,ux,jE h1 es ws (m+e*w) (by simpa using h),Nat.add_assoc]
theorem adk {p g:Nat} (h1:1<p) {es ws:LN} (h:es.length=ws.length):prD p (es.map fun e=>g ^ e%p) ws=g ^ aao es ws%p:=by
 have:=jE (g:=g) h1 es ws 0 h;rw[Nat.pow_zero,Nat.mod_eq_of_lt h1,Nat.zero_add] at this;exact this
theorem ke (f g:Nat→Nat):∀ l:List Nat,((aao (l.map f) (l.map g):Nat):Int)=(l.map fun i=>(f i:Int)*(g i:Int)).sum
 | []=>rfl
 | a::r=>by
  simp only[List.map_cons,aao,List.sum_cons];have:=ke f g r;push_cast;omega
theorem bU {q r x c:Nat} (hc:c<q) (hr:r<q):((r+x*c%q)%q+x*((0+q - c)%q))%q=r%q:=by
 have h0:(0+q - c)=q - c:=by omega
 rw[h0,Nat.add_mod_mod,Nat.mod_add_mod,← Nat.add_mod_mod,Nat.mul_mod_mod,Nat.add_mod_mod];have:r+x*c+x*(q - c)=r+x*q:=by rw[Nat.add_assoc,← Nat.mul_add];congr 2;omega
 rw[this,Nat.add_mul_mod_self_right]
theorem om {p q a r x c:Nat} (h:gIn p q a=true) (hc:c<q) (hr:r<q) :
  a ^ ((r+x*c%q)%q)%p*((a ^ x%p) ^ ((0+q - c)%q)%p)%p=a ^ r%p:=by
 rw[ug,ux];exact fG h (bU hc hr)
def qd (i:Nat):List Nat→Int
 | []=>1
 | k::r=>((i:Int) - (k:Int))*qd i r
theorem bp {q:Nat} (h:1<q) (z:Int):(q:Int) ∣ z - (ofZ q z:Int):=by
 unfold ofZ;rw[if_neg Om,Int.toNat_of_nonneg (Int.emod_nonneg _ Om)];exact Int.dvd_self_sub_emod
theorem uX {q:Nat} (a:Nat):(q:Int) ∣ (a:Int) - ((a%q:Nat):Int):=by
 rw[Int.natCast_emod];exact Int.dvd_self_sub_emod
theorem cZ {q d:Nat} (h:1<q) (hd:d<q) (hg:Nat.gcd d q=1):(q:Int) ∣ (d:Int)*(uG d q:Int) - 1:=by
 have e:=(tu h hd hg).1;have:=uX (q:=q) (uG d q*d);rw[e] at this;rw[Int.mul_comm];exact_mod_cast this
theorem qN {q i:Nat} (h:1<q):∀ (L:LN) (w:Nat),(∀ k∈L,Nat.gcd (dOf q i k) q=1)→(q:Int) ∣ ((L.foldl (dwF q i) w:Nat):Int)*qd i L - (w:Int)
 | [],w,_=>by simp[qd]
 | k::r,w,hG=>by
  have ih:=qN h r (dwF q i w k) (fun j hj=>hG j (List.mem_cons_of_mem _ hj));have hd:=cZ h (aaH (i:=i) (k:=k) (by omega:0<q)) (hG k List.mem_cons_self);have hz:(q:Int) ∣ ((i:Int) - (k:Int)) - (dOf q i k:Int):=bp h _;have hw:(q:Int) ∣ ((w*uG (dOf q i k) q:Nat):Int) - (dwF q i w k:Int):=uX _;rw[List.foldl_cons];generalize r.foldl (dwF q i) (dwF q i w k)=A at *;generalize dwF q i w k=w' at *;generalize dOf q i k=d at *;generalize uG d q=v at *;rw[show qd i (k::r)=((i:Int) - (k:Int))*qd i r from rfl];generalize qd i r=D at *;generalize (i:Int) - (k:Int)=z at *;have e:(A:Int)*(z*D) - (w:Int)=z*((A:Int)*D - w')+((z - d)*w' + (d*(w' - (w*v:Nat))+w*((d:Int)*v - 1))):=by push_cast;grind
  rw[e];refine Int.dvd_add (Int.dvd_mul_of_dvd_right ih) (Int.dvd_add (Int.dvd_mul_of_dvd_left hz) (Int.dvd_add (Int.dvd_mul_of_dvd_right ?_) (Int.dvd_mul_of_dvd_right hd)));have:=Int.dvd_neg.2 hw;rwa [Int.neg_sub] at this
def iR:Nat→Nat
 | 0=>1
 | n+1=>(n+1)*iR n
def pQ (n i:Nat):Int:=(iR (n - 1):Int) / qd i (oth n i)
theorem ac3:∀ n∈List.range 8,∀ i∈List.range n,pQ n (i+1)*qd (i+1) (oth n (i+1))=(iR (n - 1):Int):=by decide
theorem iV:∀ n∈List.range 8,∀ e∈List.range (n - 1),((List.range n).map fun i=>pQ n (i+1)*((i+1:Nat):Int) ^ e).sum=0:=by decide
theorem pj {α:Type} (f g:α→Int):∀ L:List α,(L.map fun i=>f i+g i).sum=(L.map f).sum+(L.map g).sum
 | []=>rfl
 | a::r=>by simp only[List.map_cons,List.sum_cons,pj f g r];omega
theorem rB {α:Type} (c:Int) (f:α→Int):∀ L:List α,(L.map fun i=>c*f i).sum=c*(L.map f).sum
 | []=>by simp
 | a::r=>by simp only[List.map_cons,List.sum_cons,rB c f r,Int.mul_add]
theorem d7 {α:Type} (q:Int) (f g:α→Int):∀ L:List α,(∀ i∈L,q ∣ f i - g i)→q ∣ (L.map f).sum - (L.map g).sum
 | [],_=>by simp
 | a::r,h=>by
  simp only[List.map_cons,List.sum_cons];have h1:=h a List.mem_cons_self;have h2:=d7 q f g r (fun i hi=>h i (List.mem_cons_of_mem _ hi));have:=Int.dvd_add h1 h2;rwa [show f a - g a+((r.map f).sum - (r.map g).sum)=f a+(r.map f).sum - (g a+(r.map g).sum) by omega] at this
theorem jA {n:Nat} (hn:n<8):∀ (l:LN) (k:Nat),k+l.length<n→((List.range n).map fun i=>pQ n (i+1)*((i+1:Nat):Int) ^ k*(ya l (i+1):Int)).sum=0
 | [],k,_=>by
  simp only[ya];have:(fun i:Nat=>pQ n (i+1)*((i+1:Nat):Int) ^ k*((0:Nat):Int))=fun _=>(0:Int):=by funext i;simp
  rw[this];generalize List.range n=L
  induction L with
  | nil=>rfl
  | cons a r ih=>simp only[List.map_cons,List.sum_cons,ih];rfl
 | c::r,k,h=>by
  have h1:=iV n (List.mem_range.2 hn) k (List.mem_range.2 (by simp at h;omega));have h2:=jA hn r (k+1) (by simp at h;omega);have e:(fun i:Nat=>pQ n (i+1)*((i+1:Nat):Int) ^ k*(ya (c::r) (i+1):Int))=fun i=>(c:Int)*(pQ n (i+1)*((i+1:Nat):Int) ^ k)+pQ n (i+1)*((i+1:Nat):Int) ^ (k+1)*(ya r (i+1):Int):=by
   funext i;rw[show ya (c::r) (i+1)=c+(i+1)*ya r (i+1) from rfl];push_cast;rw[Int.pow_succ]
   grind
  rw[e,pj,rB,h1,h2];simp
theorem lQ {q:Nat} (hP:Pri q):∀ n,n<q→Nat.gcd (iR n) q=1
 | 0,_=>by simp[iR]
 | n+1,h=>by
  have h1:=lQ hP n Om;have h2:=hP.2 (n+1) Om h;exact Nat.Coprime.mul_left h2 h1
theorem aac {q k y:Nat} (h:1<q):ya (pkN q k) y=y ^ k:=by
 unfold pkN;rw[jL,List.length_replicate];have:∀ k,ya (List.replicate k 0) y=0:=by
  intro k
  induction k with
  | zero=>rfl
  | succ k ih=>rw[List.replicate_succ,show ya (0::List.replicate k 0) y=0+y*ya (List.replicate k 0) y from rfl,ih,Nat.mul_zero]
 rw[this,show ofZ q 1=1 from pK (m:=1) Om Om];omega
theorem eU {q n k:Nat} {l:LN} (hP:Pri q) (hn:n<8) (hnq:n<q) (hk:k+l.length<n) (hA:oL q n=true) :
  aao ((List.range n).map (shN q l)) ((List.range n).map fun j=>dw q n (pkN q k) (j+1))%q=0:=by
 obtain⟨h1,hp⟩:=hP;have hs:=d7 (q:Int) (fun i=>(iR (n - 1):Int)*((shN q l i:Int)*(dw q n (pkN q k) (i+1):Int))) (fun i=>pQ n (i+1)*((i+1:Nat):Int) ^ k*(ya l (i+1):Int)) (List.range n) (fun i hi=>by
  have hb:=ac3 n (List.mem_range.2 hn) i hi;have hG:∀ j∈oth n (i+1),Nat.gcd (dOf q (i+1) j) q=1:=by
   unfold oL at hA;have:=List.all_eq_true.1 hA i hi;unfold dwG at this;exact fun j hj=>of_decide_eq_true (List.all_eq_true.1 this j hj)
  have hf:(q:Int) ∣ (dw q n (pkN q k) (i+1):Int)*qd (i+1) (oth n (i+1)) - ((ya (pkN q k) (ofZ q ((i+1:Nat):Int))%q:Nat):Int):=qN h1 _ _ hG;rw[pK (m:=i+1) Om (by have:=List.mem_range.1 hi;omega),aac h1] at hf;have hw:=uX (q:=q) ((i+1) ^ k);have hl:(q:Int) ∣ (ya l (i+1):Int) - (shN q l i:Int):=uX _;rw[← hb];have hpw:(((i+1) ^ k:Nat):Int)=((i+1:Nat):Int) ^ k:=by push_cast;rfl
  rw[hpw] at hw;generalize (dw q n (pkN q k) (i+1):Int)=W at *;generalize qd (i+1) (oth n (i+1))=D at *;generalize (((i+1) ^ k%q:Nat):Int)=u at *;generalize ((i+1:Nat):Int) ^ k=y at *;generalize (ya l (i+1):Int)=P at *;generalize (shN q l i:Int)=s at *;generalize pQ n (i+1)=b at *;have e:b*D*(s*W) - b*y*P=(b*s)*(W*D - u)+((b*s)*(u - y)+(b*y)*(s - P)):=by grind
  rw[e];have hw':=Int.dvd_neg.2 hw;have hl':=Int.dvd_neg.2 hl;rw[Int.neg_sub] at hw' hl';exact Int.dvd_add (Int.dvd_mul_of_dvd_right hf) (Int.dvd_add (Int.dvd_mul_of_dvd_right hw') (Int.dvd_mul_of_dvd_right hl')))
 rw[jA hn l k hk,rB,Int.sub_zero,← ke] at hs;have hs' : q ∣ iR (n - 1)*aao ((List.range n).map (shN q l)) ((List.range n).map fun j=>dw q n (pkN q k) (j+1)):=by exact_mod_cast hs
 have hc:Nat.Coprime q (iR (n - 1)):=Nat.Coprime.symm (lQ ⟨h1,hp⟩ (n - 1) Om);exact Nat.mod_eq_zero_of_dvd (Nat.Coprime.dvd_of_dvd_mul_left hc hs')
theorem jk {q n:Nat} (hP:Pri q) (hnq:n<q):oL q n=true:=by
 unfold oL dwG;rw[List.all_eq_true];intro i hi;have hi':=List.mem_range.1 hi;rw[List.all_eq_true];intro k hk;obtain⟨k1,k2,k3⟩:=ka.1 hk;rw[decide_eq_true_eq];have h1:=hP.1
 rcases Nat.lt_or_ge k (i+1) with h|h
 ·rw[adE Om Om Om];exact hP.2 _ Om Om
 ·rw[kb Om Om Om];exact hP.2 _ Om Om
theorem de {n d:Nat} (h2:2≤n) (hd:n<d*d) (h:∀ e,2≤e→e<d→n%e≠0):Pri n:=by
 refine⟨by omega,fun m h0 hm=>?_⟩;have hgn:Nat.gcd m n ∣ n:=Nat.gcd_dvd_right m n;have hgm:Nat.gcd m n≤m:=Nat.le_of_dvd h0 (Nat.gcd_dvd_left m n);have hg0:0<Nat.gcd m n:=Nat.gcd_pos_of_pos_left n h0;generalize Nat.gcd m n=g at *
 rcases Nat.lt_or_ge 1 g with hg|hg
 ·exfalso;obtain⟨k,rfl⟩:=hgn;have hk:1<k:=by
   rcases Nat.lt_or_ge 1 k with h1|h1
   ·exact h1
   ·have:g*k≤g*1:=Nat.mul_le_mul_left g h1;omega
  rcases Nat.lt_or_ge g d with h1|h1
  ·exact h g Om h1 (Nat.mul_mod_right g k)
  ·rcases Nat.lt_or_ge k d with h3|h3
   ·exact h k Om h3 (Nat.mul_mod_left g k)
   ·have:=Nat.mul_le_mul h1 h3;omega
 ·omega
end Sx
end
end Go.Proofs.YtiaibpcaloigkaaGreatDoor
