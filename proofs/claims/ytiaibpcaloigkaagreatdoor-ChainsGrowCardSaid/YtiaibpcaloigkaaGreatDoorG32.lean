/- Part 32 of the proof. -/
import Derived.Test.YtiaibpcaloigkaaGreatDoorG31
set_option linter.unusedSimpArgs false
set_option linter.unusedVariables false
set_option maxHeartbeats 8000000
namespace Go.Proofs.YtiaibpcaloigkaaGreatDoor
section
open Go Go.RowKit Go.BigFrame
namespace Sx
attribute [local irreducible] DQ WC WO WX wd
def pwL {p:Nat}:(l:LP)→(∀ x∈l,x.1<ze∧x.2<ze∧yB p x.1=true)→List (PwT p)
 | [],_=>[]
 | x::r,h=>⟨x,h x (List.mem_cons_self ..)⟩::pwL r (fun y hy=>h y (List.mem_cons_of_mem _ hy))
theorem ou {p:Nat}:∀ (l:LP) (h:∀ x∈l,x.1<ze∧x.2<ze∧yB p x.1=true),(pwL l h).map (fun x=>x.1)=l
 | [],_=>rfl
 | x::r,h=>by rw[pwL,List.map_cons,ou r]
def prD (p:Nat) (zs ws:LN):Nat:=(zs.zip ws).foldl (fun r x=>r*(x.1 ^ x.2%p)%p) 1
theorem dQ {p:Nat} (zs ws:LN) (h):uv p (pwL (zs.zip ws) h)=prD p zs ws:=by
 unfold uv prD;rw[← List.foldl_map (f:=fun x:PwT p=>x.1) (g:=fun r x=>r*(x.1 ^ x.2%p)%p),ou]
theorem ab2 {p:Nat} {zs ws:LN} (h1:1<p):prD p zs ws<p:=by
 unfold prD
 rcases List.eq_nil_or_concat (zs.zip ws) with e|⟨l,x,e⟩
 ·rw[e];exact h1
 ·rw[e,List.concat_eq_append,List.foldl_append];exact Nat.mod_lt _ Om
theorem agt {p:Nat} (l:LP) (h):(pwL (p:=p) l h).length=l.length:=by
 have:=congrArg List.length (ou (p:=p) l h);rwa [List.length_map] at this
structure ad6 (p:Nat) (zs:LN):Prop where
 lt:∀ z∈zs,z<ze
 may:∀ z∈zs,yB p z=true
theorem ad6.zip {p:Nat} {zs ws:LN} (h:ad6 p zs) (hw:∀ v∈ws,v<ze):∀ x∈zs.zip ws,x.1<ze∧x.2<ze∧yB p x.1=true:=fun x hx=>by
 obtain⟨a,b⟩:=x;have:=List.of_mem_zip hx;exact⟨h.lt _ this.1,hw _ this.2,h.may _ this.1⟩
section
variable (p q g h:Nat)
theorem pu (hp:p<ze) (h1:1<p) (zs ws:LN) (hz:ad6 p zs) (hw:∀ v∈ws,v<ze) (hl:ws.length=zs.length) (hne:zs≠[]) (pa pn:Option Addr) (cA cN:Nat) (hn:zs.length≤100) :
  Fn Tryz.prog 154 [vV p q g h,.slice pa zs.length cA,.slice pn zs.length cN]
   (fun w=>RdF zc (.slice pa zs.length cA) zs w∧RdF zc (.slice pn zs.length cN) ws w) (Is (.tuple #[zk (prD p zs ws),.int .i64 0])):=by
 intro w ⟨hA,hN⟩;have hwne:ws≠[]:=fun e=>hne (List.length_eq_zero_iff.1 (by rw[← hl,e];rfl));obtain⟨a0,ha0⟩ : ∃ y,zs[0]?=some y:=⟨_,List.getElem?_eq_getElem (List.length_pos_iff.2 hne)⟩;obtain⟨b0,hb0⟩ : ∃ y,ws[0]?=some y:=⟨_,List.getElem?_eq_getElem (List.length_pos_iff.2 hwne)⟩;obtain⟨bA,oA,e1,_,hsA⟩:=hA.get ha0;obtain⟨bN,oN,e2,_,hsN⟩:=hN.get hb0;subst e1 e2;have hxl:(pwL (p:=p) (zs.zip ws) (hz.zip hw)).length=zs.length:=by rw[agt,List.length_zip];omega
 have hP:=mc p q g h hp h1 (pwL (zs.zip ws) (hz.zip hw)) bA oA bN oN cA cN Om;rw[dQ,hxl] at hP;have hm:=ou (p:=p) (zs.zip ws) (hz.zip hw);have f1:(pwL (p:=p) (zs.zip ws) (hz.zip hw)).map (fun x=>x.1.1)=zs:=by
  have:=congrArg (List.map Prod.fst) hm;rw[List.map_map,List.map_fst_zip Om] at this;exact this
 have f2:(pwL (p:=p) (zs.zip ws) (hz.zip hw)).map (fun x=>x.1.2)=ws:=by
  have:=congrArg (List.map Prod.snd) hm;rw[List.map_map,List.map_snd_zip Om] at this;exact this
 refine hP w ⟨RdF.lt (k:=3) (fun _=>rfl) hA hne,RdF.lt (k:=3) (fun _=>rfl) hN hwne,fun k x hx=>?_,fun k x hx=>?_⟩
 ·have:zs[k]?=some x.1.1:=by
   have e:=congrArg (fun l=>l[k]?) f1;simp only[List.getElem?_map,hx] at e;exact e.symm
  have hc:=uk (f:=zc) (k:=4) (fun _=>rfl) this;exact hsA.sub hc
 ·have:ws[k]?=some x.1.2:=by
   have e:=congrArg (fun l=>l[k]?) f2;simp only[List.getElem?_map,hx] at e;exact e.symm
  have hc:=uk (f:=zc) (k:=4) (fun _=>rfl) this;exact hsN.sub hc
end
end Sx
end
section
open Go Go.RowKit Go.BigFrame
namespace Sx
def dOf (q i k:Nat):Nat:=ofZ q ((i:Int) - (k:Int))
def oth (n i:Nat):List Nat:=((List.range n).map (· + 1)).filter (fun k=>decide (k≠i))
def dwF (q i w k:Nat):Nat:=w*uX (dOf q i k) q%q
def dwG (q i:Nat) (l:LN):Bool:=l.all fun k=>decide (Nat.gcd (dOf q i k) q=1)
def dw (q n:Nat) (p:LN) (i:Nat):Nat:=(oth n i).foldl (dwF q i) (ye p (ofZ q (i:Int))%q)
def dwL (q n:Nat) (p:LN):List Nat:=(List.range n).map fun j=>dw q n p (j+1)
def nD (q n:Nat):Bool:=(List.range n).all fun j=>dwG q (j+1) (oth n (j+1))
def pkN (q k:Nat):List Nat:=List.replicate k 0++[ofZ q 1]
def duB (p q n c:Nat) (V:LN):Bool:=decide (n≤c) || (nD q n && (List.range (n - c)).all fun k=>decide (prD p V (dwL q n (pkN q k))=ofZ q 1))
theorem jn {q:Nat} (z:Int) (h:0<q):ofZ q z<q:=by
 unfold ofZ;split
 ·omega
 ·have h1:=Int.emod_lt_of_pos z (by omega:(0:Int)<(q:Int));have h2:=Int.emod_nonneg z (by omega:(q:Int)≠0);omega
theorem acw {q i k:Nat} (h:0<q):dOf q i k<q:=jn _ h
theorem oQ {q m:Nat} (h:2≤q) (hm:m<q):ofZ q (m:Int)=m:=by
 unfold ofZ;rw[if_neg Om,Int.emod_eq_of_lt Om Om];omega
theorem aeY {q m:Nat} (h:2≤q) (h0:0<m) (hm:m<q):ofZ q (-(m:Int))=q - m:=by
 unfold ofZ;rw[if_neg Om];have:(-(m:Int))%(q:Int)=((q - m:Nat):Int):=by
  rw[← Int.add_emod_right,show -(m:Int)+(q:Int)=((q - m:Nat):Int) by omega];exact Int.emod_eq_of_lt Om Om
 rw[this];omega
theorem age {q i k:Nat} (h:2≤q) (hk:k≤i) (hi:i<q):dOf q i k=i - k:=by
 unfold dOf;rw[show (i:Int) - (k:Int)=((i - k:Nat):Int) by omega];exact oQ h Om
theorem im {q i k:Nat} (h:2≤q) (hk:i<k) (hi:k - i<q):dOf q i k=q - (k - i):=by
 unfold dOf;rw[show (i:Int) - (k:Int) = -((k - i:Nat):Int) by omega];exact aeY h Om hi
theorem kJ {n i k:Nat}:k∈oth n i↔1≤k∧k≤n∧k≠i:=by
 unfold oth;simp only[List.mem_filter,List.mem_map,List.mem_range,decide_eq_true_eq];constructor
 ·rintro ⟨⟨a,h,rfl⟩,h2⟩;exact⟨by omega,by omega,h2⟩
 ·rintro ⟨h1,h2,h3⟩;exact⟨⟨k - 1,by omega,by omega⟩,h3⟩
def bz (m i:Nat):List Nat:=((List.range m).map (· + 1)).filter (fun k=>decide (k≠i))
theorem jQ {n i:Nat}:bz n i=oth n i:=rfl
theorem tH {m i:Nat}:bz (m+1) i=bz m i++(if m+1=i then [] else [m+1]):=by
 unfold bz;rw[List.range_succ,List.map_append,List.filter_append];congr 1
 by_cases h:m+1=i<;>simp[h]
theorem aa {i m n:Nat} (h:m≤n):(bz m i).length≤(bz n i).length:=by
 induction h with
 | refl=>exact Nat.le_refl _
 | step _ ih=>rw[tH,List.length_append];omega
theorem aeO {i m n:Nat} (h:m<n) (hi:m+1≠i):(bz m i).length<(oth n i).length:=by
 have:=aa (i:=i) (show m+1≤n from h);rw[tH,if_neg hi,List.length_append] at this;rw[← jQ];exact this
theorem ag4 {q n i:Nat} {p:LN} (h:0<q):dw q n p i<q:=by
 unfold dw;have key:∀ (l:LN) (w:Nat),w<q→l.foldl (dwF q i) w<q:=by
  intro l
  induction l with
  | nil=>exact fun w hw=>hw
  | cons a r ih=>exact fun w _=>ih _ (Nat.mod_lt _ h)
 exact key _ _ (Nat.mod_lt _ h)
theorem ad7 {q i w:Nat} (l:LN) (h:w<q):l.foldl (dwF q i) w<q:=by
 induction l generalizing w with
 | nil=>exact h
 | cons a r ih=>exact ih (Nat.mod_lt _ Om)
theorem ej {q i w k:Nat} {l:LN}:(l++[k]).foldl (dwF q i) w=l.foldl (dwF q i) w*uX (dOf q i k) q%q:=by rw[List.foldl_append];rfl
theorem bJ {q n:Nat} {p:LN}:(dwL q n p).length=n:=by simp[dwL]
theorem afi {q n:Nat} {p:LN} (h:0<q):∀ v∈dwL q n p,v<q:=fun v hv=>by
 unfold dwL at hv;obtain⟨j,_,rfl⟩:=List.mem_map.1 hv;exact ag4 h
theorem eG {q k:Nat}:(pkN q k).length=k+1:=by simp[pkN]
theorem acI {q k:Nat} (h:0<q):∀ a∈pkN q k,a<q:=fun a ha=>by
 unfold pkN at ha;rw[List.mem_append] at ha
 rcases ha with ha|ha
 ·rw[List.eq_of_mem_replicate ha];exact h
 ·rw[List.mem_singleton] at ha;subst ha;exact jn _ h
def Pri (q:Nat):Prop:=1<q∧∀ m,0<m→m<q→Nat.gcd m q=1
theorem abn (a m p:Nat):(a%p) ^ m%p=a ^ m%p:=(Nat.pow_mod a m p).symm
theorem uG (a m k p:Nat):(a ^ m%p) ^ k%p=a ^ (m*k)%p:=by rw[abn,← Nat.pow_mul]
theorem uM (a m k p:Nat):a ^ m%p*(a ^ k%p)%p=a ^ (m+k)%p:=by rw[← Nat.mul_mod,← Nat.pow_add]
theorem uH {p q a:Nat} (h:gIn p q a=true):(1<p∧a≠0∧a<p)∧a ^ q%p=1:=by
 unfold gIn at h;simp only[Bool.and_eq_true,decide_eq_true_eq] at h;exact⟨y7 h.1,h.2⟩
theorem kY {p q a:Nat} (h:gIn p q a=true) (m:Nat):a ^ m%p=a ^ (m%q)%p:=by
 obtain⟨⟨h1,_,_⟩,h2⟩:=uH h;have e:a ^ m=(a ^ q) ^ (m / q)*a ^ (m%q):=by rw[← Nat.pow_mul,← Nat.pow_add,Nat.div_add_mod]
 rw[e,Nat.mul_mod,Nat.pow_mod,h2,Nat.one_pow,Nat.mod_eq_of_lt h1,Nat.one_mul,Nat.mod_mod]
theorem bp {p q a m k:Nat} (h:gIn p q a=true) (e:m%q=k%q):a ^ m%p=a ^ k%p:=by rw[kY h m,kY h k,e]
theorem dK {p a:Nat} (h1:1<p) (h2:a≠0) (h3:a<p):yB p a=true:=by
 unfold yB;simp[h1,h2,h3]
theorem ng {p q a:Nat} (h:gIn p q a=true) (hq:0<q) (m:Nat):gIn p q (a ^ m%p)=true:=by
 obtain⟨⟨h1,_,_⟩,h2⟩:=uH h;have e:(a ^ m%p) ^ q%p=1:=by
  rw[uG,Nat.mul_comm,Nat.pow_mul,Nat.pow_mod,h2,Nat.one_pow,Nat.mod_eq_of_lt h1]
 have h0:a ^ m%p≠0:=by
  intro h0;rw[h0,Nat.zero_pow hq] at e;simp at e
 unfold gIn;rw[dK h1 h0 (Nat.mod_lt _ Om),e];rfl
theorem pL {p q a:Nat} (h:gIn p q a=true) (n:Nat):exN p a n=a ^ n%p:=by
 obtain⟨⟨h1,h2,h3⟩,_⟩:=uH h;unfold exN;rw[dK h1 h2 h3];rfl
def abG:List Nat→List Nat→Nat
 | a::r,b::s=>a*b+abG r s
 | _,_=>0
theorem jD {p g:Nat} (h1:1<p):∀ (es ws:LN) (m:Nat),(es.length=ws.length) →
  ((es.map fun e=>g ^ e%p).zip ws).foldl (fun r x=>r*(x.1 ^ x.2%p)%p) (g ^ m%p)=g ^ (m+abG es ws)%p
 | [],_,m,_=>by simp[abG]
 | e::es,[],m,h=>by simp at h
 | e::es,w::ws,m,h=>by
  simp only[List.map_cons,List.zip_cons_cons,List.foldl_cons,abG];rw[uG,uM,jD h1 es ws (m+e*w) (by simpa using h),Nat.add_assoc]
theorem ad1 {p g:Nat} (h1:1<p) {es ws:LN} (h:es.length=ws.length):prD p (es.map fun e=>g ^ e%p) ws=g ^ abG es ws%p:=by
 have:=jD (g:=g) h1 es ws 0 h;rw[Nat.pow_zero,Nat.mod_eq_of_lt h1,Nat.zero_add] at this;exact this
theorem jH (f g:Nat→Nat):∀ l:List Nat,((abG (l.map f) (l.map g):Nat):Int)=(l.map fun i=>(f i:Int)*(g i:Int)).sum
 | []=>rfl
 | a::r=>by
  simp only[List.map_cons,abG,List.sum_cons];have:=jH f g r;push_cast;omega
theorem aU {q r x c:Nat} (hc:c<q) (hr:r<q):((r+x*c%q)%q+x*((0+q - c)%q))%q=r%q:=by
 have h0:(0+q - c)=q - c:=by omega
 rw[h0,Nat.add_mod_mod,Nat.mod_add_mod,← Nat.add_mod_mod,Nat.mul_mod_mod,Nat.add_mod_mod];have:r+x*c+x*(q - c)=r+x*q:=by rw[Nat.add_assoc,← Nat.mul_add];congr 2;omega
 rw[this,Nat.add_mul_mod_self_right]
theorem ob {p q a r x c:Nat} (h:gIn p q a=true) (hc:c<q) (hr:r<q) :
  a ^ ((r+x*c%q)%q)%p*((a ^ x%p) ^ ((0+q - c)%q)%p)%p=a ^ r%p:=by
 rw[uG,uM];exact bp h (aU hc hr)
def qt (i:Nat):List Nat→Int
 | []=>1
 | k::r=>((i:Int) - (k:Int))*qt i r
theorem aP {q:Nat} (h:1<q) (z:Int):(q:Int) ∣ z - (ofZ q z:Int):=by
 unfold ofZ;rw[if_neg Om,Int.toNat_of_nonneg (Int.emod_nonneg _ Om)];exact Int.dvd_self_sub_emod
theorem tj {q:Nat} (a:Nat):(q:Int) ∣ (a:Int) - ((a%q:Nat):Int):=by
 rw[Int.natCast_emod];exact Int.dvd_self_sub_emod
theorem abu {q d:Nat} (h:1<q) (hd:d<q) (hg:Nat.gcd d q=1):(q:Int) ∣ (d:Int)*(uX d q:Int) - 1:=by
 have e:=(tW h hd hg).1;have:=tj (q:=q) (uX d q*d);rw[e] at this;rw[Int.mul_comm];exact_mod_cast this
theorem pw {q i:Nat} (h:1<q):∀ (L:LN) (w:Nat),(∀ k∈L,Nat.gcd (dOf q i k) q=1)→(q:Int) ∣ ((L.foldl (dwF q i) w:Nat):Int)*qt i L - (w:Int)
 | [],w,_=>by simp[qt]
 | k::r,w,hG=>by
  have ih:=pw h r (dwF q i w k) (fun j hj=>hG j (List.mem_cons_of_mem _ hj));have hd:=abu h (acw (i:=i) (k:=k) (by omega:0<q)) (hG k List.mem_cons_self);have hz:(q:Int) ∣ ((i:Int) - (k:Int)) - (dOf q i k:Int):=aP h _;have hw:(q:Int) ∣ ((w*uX (dOf q i k) q:Nat):Int) - (dwF q i w k:Int):=tj _;rw[List.foldl_cons];generalize r.foldl (dwF q i) (dwF q i w k)=A at *;generalize dwF q i w k=w' at *;generalize dOf q i k=d at *;generalize uX d q=v at *;rw[show qt i (k::r)=((i:Int) - (k:Int))*qt i r from rfl];generalize qt i r=D at *;generalize (i:Int) - (k:Int)=z at *;have e:(A:Int)*(z*D) - (w:Int)=z*((A:Int)*D - w')+((z - d)*w' + (d*(w' - (w*v:Nat))+w*((d:Int)*v - 1))):=by push_cast;grind
  rw[e];refine Int.dvd_add (Int.dvd_mul_of_dvd_right ih) (Int.dvd_add (Int.dvd_mul_of_dvd_left hz) (Int.dvd_add (Int.dvd_mul_of_dvd_right ?_) (Int.dvd_mul_of_dvd_right hd)));have:=Int.dvd_neg.2 hw;rwa [Int.neg_sub] at this
def am:Nat→Nat
 | 0=>1
 | n+1=>(n+1)*am n
def nu (n i:Nat):Int:=(am (n - 1):Int) / qt i (oth n i)
theorem aeo:∀ n∈List.range 8,∀ i∈List.range n,nu n (i+1)*qt (i+1) (oth n (i+1))=(am (n - 1):Int):=by decide
theorem cW:∀ n∈List.range 8,∀ e∈List.range (n - 1),((List.range n).map fun i=>nu n (i+1)*((i+1:Nat):Int) ^ e).sum=0:=by decide
theorem o5 {α:Type} (f g:α→Int):∀ L:List α,(L.map fun i=>f i+g i).sum=(L.map f).sum+(L.map g).sum
 | []=>rfl
 | a::r=>by simp only[List.map_cons,List.sum_cons,o5 f g r];omega
theorem rC {α:Type} (c:Int) (f:α→Int):∀ L:List α,(L.map fun i=>c*f i).sum=c*(L.map f).sum
 | []=>by simp
 | a::r=>by simp only[List.map_cons,List.sum_cons,rC c f r,Int.mul_add]
theorem fS {α:Type} (q:Int) (f g:α→Int):∀ L:List α,(∀ i∈L,q ∣ f i - g i)→q ∣ (L.map f).sum - (L.map g).sum
 | [],_=>by simp
 | a::r,h=>by
  simp only[List.map_cons,List.sum_cons];have h1:=h a List.mem_cons_self;have h2:=fS q f g r (fun i hi=>h i (List.mem_cons_of_mem _ hi));have:=Int.dvd_add h1 h2;rwa [show f a - g a+((r.map f).sum - (r.map g).sum)=f a+(r.map f).sum - (g a+(r.map g).sum) by omega] at this
theorem jI {n:Nat} (hn:n<8):∀ (l:LN) (k:Nat),k+l.length<n→((List.range n).map fun i=>nu n (i+1)*((i+1:Nat):Int) ^ k*(ye l (i+1):Int)).sum=0
 | [],k,_=>by
  simp only[ye];have:(fun i:Nat=>nu n (i+1)*((i+1:Nat):Int) ^ k*((0:Nat):Int))=fun _=>(0:Int):=by funext i;simp
  rw[this];generalize List.range n=L
  induction L with
  | nil=>rfl
  | cons a r ih=>simp only[List.map_cons,List.sum_cons,ih];rfl
 | c::r,k,h=>by
  have h1:=cW n (List.mem_range.2 hn) k (List.mem_range.2 (by simp at h;omega));have h2:=jI hn r (k+1) (by simp at h;omega);have e:(fun i:Nat=>nu n (i+1)*((i+1:Nat):Int) ^ k*(ye (c::r) (i+1):Int))=fun i=>(c:Int)*(nu n (i+1)*((i+1:Nat):Int) ^ k)+nu n (i+1)*((i+1:Nat):Int) ^ (k+1)*(ye r (i+1):Int):=by
   funext i;rw[show ye (c::r) (i+1)=c+(i+1)*ye r (i+1) from rfl];push_cast;rw[Int.pow_succ]
   grind
  rw[e,o5,rC,h1,h2];simp
theorem kF {q:Nat} (hP:Pri q):∀ n,n<q→Nat.gcd (am n) q=1
 | 0,_=>by simp[am]
 | n+1,h=>by
  have h1:=kF hP n Om;have h2:=hP.2 (n+1) Om h;exact Nat.Coprime.mul_left h2 h1
theorem aaM {q k y:Nat} (h:1<q):ye (pkN q k) y=y ^ k:=by
 unfold pkN;rw[fg,List.length_replicate];have:∀ k,ye (List.replicate k 0) y=0:=by
  intro k
  induction k with
  | zero=>rfl
  | succ k ih=>rw[List.replicate_succ,show ye (0::List.replicate k 0) y=0+y*ye (List.replicate k 0) y from rfl,ih,Nat.mul_zero]
 rw[this,show ofZ q 1=1 from oQ (m:=1) Om Om];omega
theorem eT {q n k:Nat} {l:LN} (hP:Pri q) (hn:n<8) (hnq:n<q) (hk:k+l.length<n) (hA:nD q n=true) :
  abG ((List.range n).map (shN q l)) ((List.range n).map fun j=>dw q n (pkN q k) (j+1))%q=0:=by
 obtain⟨h1,hp⟩:=hP;have hs:=fS (q:Int) (fun i=>(am (n - 1):Int)*((shN q l i:Int)*(dw q n (pkN q k) (i+1):Int))) (fun i=>nu n (i+1)*((i+1:Nat):Int) ^ k*(ye l (i+1):Int)) (List.range n) (fun i hi=>by
  have hb:=aeo n (List.mem_range.2 hn) i hi;have hG:∀ j∈oth n (i+1),Nat.gcd (dOf q (i+1) j) q=1:=by
   unfold nD at hA;have:=List.all_eq_true.1 hA i hi;unfold dwG at this;exact fun j hj=>of_decide_eq_true (List.all_eq_true.1 this j hj)
  have hf:(q:Int) ∣ (dw q n (pkN q k) (i+1):Int)*qt (i+1) (oth n (i+1)) - ((ye (pkN q k) (ofZ q ((i+1:Nat):Int))%q:Nat):Int):=pw h1 _ _ hG;rw[oQ (m:=i+1) Om (by have:=List.mem_range.1 hi;omega),aaM h1] at hf;have hw:=tj (q:=q) ((i+1) ^ k);have hl:(q:Int) ∣ (ye l (i+1):Int) - (shN q l i:Int):=tj _;rw[← hb];have hpw:(((i+1) ^ k:Nat):Int)=((i+1:Nat):Int) ^ k:=by push_cast;rfl
  rw[hpw] at hw;generalize (dw q n (pkN q k) (i+1):Int)=W at *;generalize qt (i+1) (oth n (i+1))=D at *;generalize (((i+1) ^ k%q:Nat):Int)=u at *;generalize ((i+1:Nat):Int) ^ k=y at *;generalize (ye l (i+1):Int)=P at *;generalize (shN q l i:Int)=s at *;generalize nu n (i+1)=b at *;have e:b*D*(s*W) - b*y*P=(b*s)*(W*D - u)+((b*s)*(u - y)+(b*y)*(s - P)):=by grind
  rw[e];have hw':=Int.dvd_neg.2 hw;have hl':=Int.dvd_neg.2 hl;rw[Int.neg_sub] at hw' hl';exact Int.dvd_add (Int.dvd_mul_of_dvd_right hf) (Int.dvd_add (Int.dvd_mul_of_dvd_right hw') (Int.dvd_mul_of_dvd_right hl')))
 rw[jI hn l k hk,rC,Int.sub_zero,← jH] at hs;have hs' : q ∣ am (n - 1)*abG ((List.range n).map (shN q l)) ((List.range n).map fun j=>dw q n (pkN q k) (j+1)):=by exact_mod_cast hs
 have hc:Nat.Coprime q (am (n - 1)):=Nat.Coprime.symm (kF ⟨h1,hp⟩ (n - 1) Om);exact Nat.mod_eq_zero_of_dvd (Nat.Coprime.dvd_of_dvd_mul_left hc hs')
theorem ja {q n:Nat} (hP:Pri q) (hnq:n<q):nD q n=true:=by
 unfold nD dwG;rw[List.all_eq_true];intro i hi;have hi':=List.mem_range.1 hi;rw[List.all_eq_true];intro k hk;obtain⟨k1,k2,k3⟩:=kJ.1 hk;rw[decide_eq_true_eq];have h1:=hP.1
 rcases Nat.lt_or_ge k (i+1) with h|h
 ·rw[age Om Om Om];exact hP.2 _ Om Om
 ·rw[im Om Om Om];exact hP.2 _ Om Om
end Sx
end
section
open Go Go.RowKit Go.BigFrame
namespace Sx
attribute [local irreducible] DQ WC WO wd
def tf (e:Int):Value:=.iface 252 (.agg #[.int .i64 e])
theorem sH (x:Nat):Fn Tryz.prog 151 [zk x,.int .i64 0] Tr (Is (zk x)):=by
 refine Fn.enter Tryz.func151 rfl rfl rfl ?_;intro w hw
 repeat (first|refine WO.does (zA rfl rfl rfl) ?_|refine Ta ?_|refine Tm fun _=>?_|refine Tc ?_|exact Tz)
theorem tP:Tryz.prog.concrete 252=true:=Kr
theorem f9 (x:Nat) (e:Int) (he:e≠0):FnE Tryz.prog 151 [zk x,.int .i64 e] [] Tr (ahV (tf e)):=by
 refine FnE.enter Tryz.func151 rfl rfl rfl ?_;intro w hw
 repeat (first|refine WO.does (yR rfl rfl he) ?_|refine WO.does (vG tP rfl) ?_|refine Ta ?_|refine Tm fun _=>?_|refine Tc ?_|exact Tz)
 refine WO.panics rfl ?_;intro a w2 h1 h2 h3 h4;exact⟨h1,(by intro e;cases e),[],Lle.nil.me h4,rfl⟩
theorem aaV (i k:Int):Fn Tryz.prog 200 [.int .i64 i,.int .i64 k] Tr (Ex (fun s=>.func (.func 239) #[] #[pt (s 0),pt (s 1)]) (fun s=>[⟨s 0,3,[.int .i64 k]⟩,⟨s 1,3,[.int .i64 i]⟩]) (fun _=>True)):=by
 refine Fn.enter Tryz.func200 rfl rfl rfl ?_;intro w hw
 repeat (first|refine Ta ?_|refine Tm fun _=>?_|refine WO.does (zH rfl rfl) ?_|refine Tc ?_|exact Tz)
 rename_i g1 g2;exact WX.ret1 rfl (zK rfl) [⟨g2,3,[.int .i64 k]⟩,⟨g1,3,[.int .i64 i]⟩] (by repeat (first|exact Lle.nil|refine Lle.c ?_)) ⟨fun j=>if j=0 then g2 else g1,rfl,rfl,trivial⟩
theorem ec (m i k gN gI l:Nat) (hn:k≤7) (hi:i≤7) (J:List Nat→World→Prop) (E:List PanicEntry→World→Prop) (hJo:∀ s A B,J s A→Mod [] A B→J s B)
  (hY:∀ pre x W,x∈oth k i→J pre W→pre.length<(oth k i).length→YieldAt (fw none) (m - 1) Tryz.prog l #[.int .i64 ((x:Nat):Int)] W fun e W'=>(e=.returned (.bool true)∧J (pre++[x]) W'∧KpB [gN,gI] W W')∨(∃ ch,e=.panicked ch∧E ch W'))
  (W:World) (hN:Seg W gN 0 [.int .i64 (k:Int)]) (hI:Seg W gI 0 [.int .i64 (i:Int)]) (hlt:∀ j∈[gN,gI],j<W.heap.size) (h0:J [] W) :
  CallsIn (fw none) m Tryz.prog 239 [.func (.yield l) #[] #[],pt gN,pt gI].toArray W fun e W'=>((∃ v,e=.returned v)∧∃ xs,xs=oth k i∧J xs W')∨(∃ ch,e=.panicked ch∧E ch W'):=by
 refine uN (n:=19) Tryz.func239 rfl rfl rfl ?_;have hQ:¬ LetsOut (bodyPost Tryz.prog Tryz.f239 fun e W'=>((∃ v,e=.returned v)∧∃ xs,xs=oth k i∧J xs W')∨(∃ ch,e=.panicked ch∧E ch W')):=by
  rintro ⟨a,w,⟨⟨v,h⟩,_⟩|⟨ch,h,_⟩⟩<;>cases h
 refine WI.seq (WI.region ?_ (by exact hQ));refine WO.auto (k:=?_);refine WO.nil (WX.seqI ?_);refine WI.block ?_;refine WI.loopW (σ:=Nat) (fun j=>[(0,.func (.yield l) #[] #[]),(1,pt gN),(2,pt gI),(4,.int .i64 ((j+1:Nat):Int))]) (fun j w=>j≤k∧J (bz j i) w∧KpB [gN,gI] W w) (fun j=>k - j) 0 (fun w hw=>⟨Nat.zero_le _,hJo _ W w h0 hw.mod,yA.of_mod hw.mod (fun j hj=>⟨hlt j hj,by simp⟩),hw.mod.size⟩) ?_ ?_
 ·repeat (first|exact Kle.nil|refine Kle.cons rfl rfl ?_)
 ·rintro j w1 ⟨hk,hJ,hKp⟩;have hlw:∀ g∈[gN,gI],g<w1.heap.size:=fun g hg=>Nat.lt_of_lt_of_le (hlt g hg) hKp.2;have hN':=hKp.1.seg (b:=gN) Sm hN;have hI':=hKp.1.seg (b:=gI) Sm hI;have hadd:IntKind.i64.wrap (((j+1:Nat):Int)+1)=((j+1+1:Nat):Int):=zl Om Om Om;have hKm:∀ {gs:LN} {A B:World},Mod [] A B→(∀ g∈[gN,gI],g<A.heap.size)→KpB [gN,gI] A B:=fun hm h=>⟨yA.of_mod hm (fun g hg=>⟨h g hg,by simp⟩),hm.size⟩;refine WI.seq (WI.seq (WI.region ?_ (by exact hQ)));refine WO.auto (k:=?_);refine WO.does (zm (hs:=hN')) ?_
  by_cases hkl:j<k
  ·refine WO.does (nE rfl rfl Om) ?_;refine WO.nil (WX.seqI ?_);refine WI.condT rfl ?_;refine WI.skip (WX.seqI ?_);refine WI.seq ?_;refine WI.block ?_
   by_cases hji:j+1=i
   ·have hJ2:J (bz (j+1) i) w1:=by rw[tH,if_pos hji,List.append_nil];exact hJ
    refine WI.seq (WI.region ?_ (by exact hQ));refine WO.auto (k:=?_);refine WO.does (zm (hs:=hI')) ?_;refine WO.does (zA rfl rfl (by rw[hji])) ?_
    repeat (first|refine Tw ?_|refine Tm fun _=>?_|exact Tz)
    refine WX.seqI ?_;refine WI.condF rfl ?_;refine WI.skip (WX.blk_normal (WX.seqI ?_));refine WI.region ?_ (by exact hQ);refine WO.auto (k:=?_);refine WO.does (zi rfl rfl hadd) ?_;refine WO.auto (k:=?_);refine WO.nil ?_;exact WX.metW (j+1) (by show k - (j+1)<k - j;omega) Kle.a (fun w4 h4=>⟨by omega,hJo _ _ _ hJ2 h4.mod,hKp.trans (hKm (gs:=[]) h4.mod hlw)⟩)
   ·have hlen:=aeO (n:=k) hkl hji;refine WI.seq (WI.regionY 6 (by exact hQ) ?_);simp only[List.take_succ_cons,List.take_zero,List.drop_succ_cons,List.drop_zero];refine WO.auto (k:=?_);refine WO.does (zm (hs:=hI')) ?_;refine WO.does (yR rfl rfl Om) ?_
    repeat (first|refine Tw ?_|refine Tm fun _=>?_|exact Tz)
    refine WX.woi ?_;refine WOI.yieldP (vs:=[.int .i64 ((j+1:Nat):Int)]) rfl rfl (fun w2 h2=>hY (bz j i) (j+1) w2 (kJ.2 ⟨by omega,by omega,hji⟩) (hJo _ _ _ hJ h2.mod) hlen) (fun w2 e w3 h2 hR=>?_);have hKw:KpB [gN,gI] W w2:=hKp.trans (hKm (gs:=[]) h2.mod hlw)
    rcases hR with ⟨rfl,hR,hK3⟩|⟨ch,rfl,hE⟩
    ·refine .inl ⟨true,rfl,?_⟩;have hJ2:J (bz (j+1) i) w3:=by rw[tH,if_neg hji];exact hR
     have hKz:=hKw.trans hK3;have hlz:∀ g∈[gN,gI],g<w3.heap.size:=fun g hg=>Nat.lt_of_lt_of_le (hlt g hg) hKz.2;refine WOI.of (by exact hQ) ?_
     repeat (first|refine Tw ?_|refine Tm fun _=>?_|exact Tz)
     refine WX.seqI ?_;refine WI.condF rfl ?_;refine WI.skip (WX.blk_normal (WX.seqI ?_));refine WI.region ?_ (by exact hQ);refine WO.auto (k:=?_);refine WO.does (zi rfl rfl hadd) ?_;refine WO.auto (k:=?_);refine WO.nil ?_;exact WX.metW (j+1) (by show k - (j+1)<k - j;omega) Kle.a (fun w4 h4=>⟨by omega,hJo _ _ _ hJ2 h4.mod,hKz.trans (hKm (gs:=[]) h4.mod hlz)⟩)
    ·exact .inr ⟨ch,rfl,fun a ha=>⟨ha,.inr ⟨ch,rfl,hE⟩⟩⟩
  ·refine WO.does (rW rfl rfl Om) ?_;refine WO.nil (WX.seqI ?_);refine WI.condF rfl ?_;refine WI.exit (WX.then_exit (WX.then_exit (WX.blk_exit ?_)));intro a w4 g1 g2 g3 g4;obtain rfl:j=k:=by omega
   exact bodyPost_end (results_none rfl _ _ _) g1 (.inl ⟨⟨_,rfl⟩,_,jQ,hJo _ _ _ hJ g4.mod⟩)
abbrev OtT (n i:Nat):Type:={ x:Nat // x∈oth n i }
theorem iE (m i k gN gI:Nat) (hn:k≤7) (hi:i≤7) (w:World) (hN:Seg w gN 0 [.int .i64 (k:Int)]) (hI:Seg w gI 0 [.int .i64 (i:Int)]) (hlt:∀ j∈[gN,gI],j<w.heap.size) :
  ahL m Tryz.prog 239 #[pt gN,pt gI] (fun x:OtT k i=>#[.int .i64 (x.1:Int)]) (KpB [gN,gI]) (fun xs=>xs.map (fun x=>x.1)=oth k i) (oth k i).length w:=fun l J E W hW hJ hY h0=>by
 have hk:yA [gN,gI] w W:=fun j hj=>hW.block j (hlt j hj)
 refine (ec m i k gN gI l hn hi (fun s W=>∃ xs:List (OtT k i),xs.map (fun x=>x.1)=s∧J xs W) E
  (fun s A B ⟨xs,e,h⟩ hm=>⟨xs,e,hJ xs A B none h ⟨hm.os,hm.tape,hm.output,hm.size,fun j hj _=>hm.block j hj Sm⟩ Sm⟩)
  (fun pre x W1 hx ⟨xs,e,h⟩ hl=>?_) W (hk.seg Sm hN) (hk.seg Sm hI) (fun j hj=>Nat.lt_of_lt_of_le (hlt j hj) hW.size) ⟨[],rfl,h0⟩).mono ?_
 ·obtain⟨fn,tmps,asg,body,h1,h2⟩:=hY xs ⟨x,hx⟩ W1 h (by rw[← e,List.length_map] at hl;exact hl);refine⟨fn,tmps,asg,body,h1,h2.mono ?_⟩;rintro e' W' (⟨g1,g2,g3⟩|g)
  ·exact .inl ⟨g1,⟨xs++[⟨x,hx⟩],by rw[List.map_append,e];rfl,g2⟩,g3⟩
  ·exact .inr g
 ·rintro e' W' (⟨g1,xs,g2,ys,g3,g4⟩|g)
  ·exact .inl ⟨g1,ys,g3.trans g2,g4⟩
  ·exact .inr g
end Sx
end
section
open Go Go.RowKit Go.BigFrame
namespace Sx
attribute [local irreducible] DQ WC WO WX wd
theorem o8 (v:Value) (w:World):(binOp .eql 20 (.iface 252 v) .nilIface).run Tryz.prog w=.ok (.bool false) w:=Kr
theorem lK (w:World):(binOp .eql 20 .nilIface .nilIface).run Tryz.prog w=.ok (.bool true) w:=Kr
theorem qh (x y:Operand) (v:Value) (w:World):(eqGuard .eql 20 x y (.iface 252 v) .nilIface).run Tryz.prog w=.ok () w:=Kr
theorem nq (w:World):(eqGuard .eql 20 (.tmp 5) (.const .nilIface) .nilIface .nilIface).run Tryz.prog w=.ok () w:=Kr
theorem kt (v:Value) (w:World):(Instr.typeAssert (.iface 252 v) 20 252 true).run Tryz.prog w=.ok (.tuple #[v,.bool true]) w:=Kr
theorem aa4 (g2 g3:Nat) (e x y:Int) (w:World) (h2:(⟨g2,3,[.int .i64 x]⟩ : Ent).ok w) (h3:(⟨g3,54,[.int .i64 y]⟩ : Ent).ok w) (hne:g2≠g3) :
  CallsD Tryz.prog 194 [pt g2,pt g3].toArray (.panicking [{ v:=tf e,recovered:=false }]) w
   (fun en u' w'=>en=.returned (.tuple #[])∧u'=.panicking [{ v:=tf e,recovered:=true }]∧Me w [g2,g3] [⟨g2,3,[.int .i64 1]⟩,⟨g3,54,[.int .i64 e]⟩] w'):=by
 have hme:Me w [g2,g3] [⟨g2,3,[.int .i64 x]⟩,⟨g3,54,[.int .i64 y]⟩] w:=⟨.refl _ _,by simp only[List.mem_cons,List.not_mem_nil,or_false];rintro e (rfl|rfl)<;>assumption,by simp,by simpa using hne⟩;refine qP (u':=.panicking [{ v:=tf e,recovered:=true }]) (v:=tf e) (n:=13) Tryz.func194 rfl rfl rfl rfl (fun c0 cs hm=>.inl (by simp[recoverD,hm])) hme (fun c0 cs=>?_);unfold tf
 repeat (first|refine WO.does (mO rfl rfl (o8 _) (qh _ _ _)) ?_|refine WO.does (kT rfl (kt _)) ?_|refine Tj ?_|intro _|refine Tc ?_|exact Tz)
 rename_i gX;refine WC.mainV [2,3] [(0,Ap gX),(1,.int .i64 e)] Dtt ?_;refine WT.with [⟨gX,252,[.int .i64 e]⟩] Kr (Tlv.auto (Tlv.auto Tlv.nil)) (fun hc hT=>?_)
 refine WT.one (m:=2) rfl hc hT ?_;refine WO.stores zo ?_;refine WO.nil (WX.wt [] ?_);refine WT.one (m:=3) rfl hc hT ?_;refine WO.stores zo ?_;refine WO.nil (WX.wt [] ?_);refine WT.fin [3] 1 hc rfl (by rfl) ?_;clear hc hT;refine WX.blk_normal (WX.un (fun a w5 k1 k2 k3 k4=>?_));exact⟨k1,_,rfl,_,results_none rfl _ _ _,rfl,rfl,Lle.me (by repeat (first|exact Lle.nil|refine Lle.c ?_)) k4⟩
theorem afG (g2 g3:Nat) (x y:Int) (w:World) (h2:(⟨g2,3,[.int .i64 x]⟩ : Ent).ok w) (h3:(⟨g3,54,[.int .i64 y]⟩ : Ent).ok w) (hne:g2≠g3) :
  CallsD Tryz.prog 194 [pt g2,pt g3].toArray .returning w
   (fun en u' w'=>en=.returned (.tuple #[])∧u'=.returning∧Me w [g2,g3] [⟨g2,3,[.int .i64 x]⟩,⟨g3,54,[.int .i64 y]⟩] w'):=by
 have hme:Me w [g2,g3] [⟨g2,3,[.int .i64 x]⟩,⟨g3,54,[.int .i64 y]⟩] w:=⟨.refl _ _,by simp only[List.mem_cons,List.not_mem_nil,or_false];rintro e (rfl|rfl)<;>assumption,by simp,by simpa using hne⟩;refine qP (u':=.returning) (v:=.nilIface) (n:=13) Tryz.func194 rfl rfl rfl rfl (fun c0 cs hm=>.inr ⟨by simp[recoverD,hm],rfl,rfl⟩) hme (fun c0 cs=>?_)
 repeat (first|refine WO.does (ml rfl rfl lK nq) ?_|refine Tj ?_|intro _|refine Tc ?_|exact Tz)
 refine WX.un (fun a w5 k1 k2 k3 k4=>?_);exact⟨k1,_,rfl,_,results_none rfl _ _ _,rfl,rfl,k4⟩
theorem qQ (g2 g3:Nat) (w:World):(invoke (.fn (.func 194) #[pt g2,pt g3]) #[]).run Tryz.prog w=.ok (.enter 194 [pt g2,pt g3].toArray) w:=Kr
def StP (post:Ending→List Ent→Prop):Value→List Ent→Prop:=fun v N=>(v=.tuple #[.int .i64 0,.int .i64 0]∧∃ u,post (.returned u) N)∨(∃ k,v=.tuple #[.int .i64 1,.int .i64 k]∧post (.panicked [{ v:=tf k,recovered:=false }]) N)
theorem nT {f:FuncId} [Cal Tryz.prog f] {caps:LV} {M:List Ent} {Rq:World→Prop} {post:Ending→List Ent→Prop} (hc:FnE Tryz.prog f caps M Rq post) (hst:∀ w w',Rq w→Mod (M.map Ent.g) w w'→Rq w')
  (hp:∀ e N,post e N→(∃ v,e=.returned v)∨(∃ k,e=.panicked [{ v:=tf k,recovered:=false }])) :
  FnL Tryz.prog 149 [.func (.func f) #[] caps.toArray] M Rq (StP post):=by
 intro w hok hnd hw;refine calls_of_wp_defers Tryz.func149 rfl ?_;obtain⟨a,ha⟩ : ∃ a:Act,a = { tmps:=[Value.func (.func f) #[] caps.toArray].toArray++Array.replicate (Tryz.f149.ntmps - [Value.func (.func f) #[] caps.toArray].toArray.size) undef,defers:=[] }:=⟨_,rfl⟩;have a1:a.defers=[]:=by rw[ha]
 have a2:a.tmps.size=7:=by rw[ha];rfl
 have a3:Kn [(0,.func (.func f) #[] caps.toArray)] a:=fun t x hv=>by
  have:=pv (args:=[Value.func (.func f) #[] caps.toArray]) (n:=7) Sm t x hv;rw[ha];exact this
 rw[← ha];clear ha;have a4:Me w (M.map Ent.g) M w:=⟨.refl _ _,hok,fun e he=>.inr (List.mem_map.2 ⟨e,he,rfl⟩),hnd⟩
 suffices HH:WC Tryz.prog w (M.map Ent.g) 7 _ (bodyPostD Tryz.prog Tryz.f149 (nA w (M.map Ent.g) (StP post))) [(0,.func (.func f) #[] caps.toArray)] M from HH.app a1 a2 a3 a4
 clear a1 a2 a3 a4
 repeat (first|refine Tj ?_|intro _|refine WO.does (zH rfl rfl) ?_|refine Tc ?_|exact Tz)
 rename_i g2 g3;have hgs:∀ {N:List Ent} {A B:Ent} {w1:World},Me w (M.map Ent.g) (A::B::N) w1→A.g≠B.g:=fun h=>by have:=h.nodup;simp at this;exact fun e=>this.1.1 e
 refine WO.defers rfl (fun a w1 d1 d2 d3 d4=>?_);show Code.wp _ _ _ _ _;refine WO.tail (w0:=w) (gs:=M.map Ent.g) (n:=7) (K:=[(3,pt g3),(2,pt g2),(0,.func (.func f) #[] caps.toArray)]) d1 d2 (Kle.kn d3 Kle.a) d4 ?_
 have hfin:∀ (N:List Ent) (x y:Int) (a:Act) (w4:World),Kn [(3,pt g3),(2,pt g2)] a→Me w (M.map Ent.g) (⟨g2,3,[.int .i64 x]⟩::⟨g3,54,[.int .i64 y]⟩::N) w4→StP post (.tuple #[.int .i64 x,.int .i64 y]) N →
   Leaves Tryz.prog Tryz.f149 a.tmps (nA w (M.map Ent.g) (StP post)) [] .returning w4:=fun N x y a w4 hk hm hq=>by
  refine⟨.tuple #[.int .i64 x,.int .i64 y],?_,_,N,rfl,hm.tail.tail,hq⟩;have hm2:Me w4 [g2,g3] [⟨g2,3,[.int .i64 x]⟩,⟨g3,54,[.int .i64 y]⟩] w4:=⟨.refl _ _,fun e he=>hm.ok e (by rcases List.mem_cons.1 he with rfl|he;exact List.mem_cons_self;rw[List.mem_singleton] at he;subst he;exact List.mem_cons_of_mem _ List.mem_cons_self),by simp,by simpa using hgs hm⟩;have h:=aa9 (P:=Tryz.prog) (tJ (P:=Tryz.prog) (p:=2) (t:=3) (K:=[(3,pt g3),(2,pt g2)]) rfl Hs.here rfl a w4 hk hm2) (tJ (P:=Tryz.prog) (p:=3) (t:=54) (K:=[(3,pt g3),(2,pt g2)]) rfl (Hs.there Hs.here) rfl a w4 hk hm2);rw[yz,show Tryz.f149.results=#[.cell 2 3,.cell 3 54] from rfl,Sem.run_bind,h];rfl
 repeat (first|refine Tk ?_|intro _|exact Tz)
 refine WO.callsEV (fs:=[]) (cs:=caps) (hc:=hc) rfl rfl Sm (List.perm_append_comm (l₁:=[_,_]) (l₂:=M)) (fun w2 hm=>hst w w2 hw hm.mod) (fun v N hq=>?_) (fun ch N hq=>?_)
 ·refine WO.nil (WX.un (fun a w3 f1 f2 f3 f4=>?_));show Code.wp _ _ _ _ _;have f5:=f4.perm (L':=⟨g3,54,[.int .i64 0]⟩::⟨g2,3,[.int .i64 0]⟩::N) (List.perm_append_comm (l₁:=N));refine WO.tail (w0:=w) (gs:=M.map Ent.g) (n:=7) (K:=[(3,pt g3),(2,pt g2)]) (ds:=[{ target:=.fn (.func 194) [pt g2,pt g3].toArray,args:=#[] }]) (by simp[dfA,f1]) f2 (Kle.kn f3 Kle.a) f5 ?_;refine WO.stores zo ?_;refine WO.stores zo ?_;refine WO.nil (WX.un (fun a w4 h1 h2 h3 h4=>?_));show Code.wp _ _ _ _ _;refine wp_ret ?_;have hds:(dfA [{ target:=.fn (.func 194) [pt g2,pt g3].toArray,args:=#[] }] a).defers=[{ target:=.fn (.func 194) [pt g2,pt g3].toArray,args:=#[] }]:=by simp[dfA,h1]
  show Leaves Tryz.prog Tryz.f149 a.tmps _ (dfA _ a).defers .returning w4;rw[hds];have h5:=h4.perm (L':=⟨g2,3,[.int .i64 0]⟩::⟨g3,54,[.int .i64 0]⟩::N) (List.Perm.swap _ _ _);refine leaves_cons (f:=194) (args:=[pt g2,pt g3].toArray) Sm (qQ g2 g3 _) ?_;refine (afG g2 g3 0 0 w4 (h5.ok _ List.mem_cons_self) (h5.ok _ (List.mem_cons_of_mem _ List.mem_cons_self)) (hgs h5)).mono ?_;rintro e u' w5 ⟨rfl,rfl,hm5⟩;exact hfin N 0 0 a w5 h3 (Me.callL (M:=[_,_]) h5 hm5) (.inl ⟨rfl,v,hq⟩)
 ·obtain⟨k,rfl⟩ : ∃ k,ch=[{ v:=tf k,recovered:=false }]:=by
   rcases hp _ _ hq with ⟨v,h⟩|⟨k,h⟩
   ·cases h
   ·cases h;exact⟨k,rfl⟩
  refine WX.un (fun a w3 f1 f2 f3 f4=>?_);have f5:=f4.perm (L':=⟨g3,54,[.int .i64 0]⟩::⟨g2,3,[.int .i64 0]⟩::N) (List.perm_append_comm (l₁:=N));have h5:=f5.perm (L':=⟨g2,3,[.int .i64 0]⟩::⟨g3,54,[.int .i64 0]⟩::N) (List.Perm.swap _ _ _);have hds:(dfA [{ target:=.fn (.func 194) [pt g2,pt g3].toArray,args:=#[] }] a).defers=[{ target:=.fn (.func 194) [pt g2,pt g3].toArray,args:=#[] }]:=by simp[dfA,f1]
  show Leaves Tryz.prog Tryz.f149 a.tmps _ (dfA _ a).defers (.panicking _) w3;rw[hds];refine leaves_cons (f:=194) (args:=[pt g2,pt g3].toArray) Sm (qQ g2 g3 _) ?_;refine (aa4 g2 g3 k 0 0 w3 (h5.ok _ List.mem_cons_self) (h5.ok _ (List.mem_cons_of_mem _ List.mem_cons_self)) (hgs h5)).mono ?_;rintro e u' w5 ⟨rfl,rfl,hm5⟩;exact hfin N 1 k a w5 (Kle.kn f3 Kle.a) (Me.callL (M:=[_,_]) h5 hm5) (.inr ⟨k,rfl,hq⟩)
end Sx
end
section
open Go Go.RowKit Go.BigFrame
namespace Sx
attribute [local irreducible] DQ WC WO wd
theorem acR (p q g h i k:Nat) (hi:i≤7) (hk:k≤7) (h1:i - k<q) (h2:k - i<q) (hq2:2≤q) (hq:q<ze):Fn Tryz.prog 152 [vV p q g h,.int .i64 ((i:Int) - (k:Int))] Tr (Is (zk (dOf q i k))):=by
 by_cases hik:k≤i
 ·have:=jK p q g h (i - k) Om hq;rw[show (((i - k:Nat)):Int)=(i:Int) - (k:Int) by omega] at this;exact this
 ·have:=dm p q g h (k - i) Om Om h2 hq;rw[im hq2 Om h2,show (i:Int) - (k:Int) = -((k - i:Nat):Int) by omega];exact this
section
variable (q n:Nat) (P:LN)
def wdM (j v:Nat):List Value:=((List.range j).map fun i=>dw q n P (i+1)).flatMap zc++(zc v++mkz (n - (j+1)) (zc 0))
def wdL (j:Nat):List Value:=((List.range j).map fun i=>dw q n P (i+1)).flatMap zc++mkz (n - j) (zc 0)
theorem ir {j:Nat}:(((List.range j).map fun i=>dw q n P (i+1)).flatMap zc).length=j*4:=by rw[zF zU];simp
theorem jd (a b:Nat) (z:LV):mkz (a+b) z=mkz a z++mkz b z:=by
 unfold mkz;rw[← List.replicate_append_replicate,List.flatten_append]
theorem ahp {j:Nat} (h:j<n):wdL q n P j=wdM q n P j 0:=by
 unfold wdL wdM;rw[show n - j=1+(n - (j+1)) by omega,jd,show mkz 1 (zc 0)=zc 0 by simp[mkz]]
theorem ahz {j:Nat}:wdM q n P j (dw q n P (j+1))=wdL q n P (j+1):=by
 unfold wdL wdM;rw[List.range_succ,List.map_append,List.flatMap_append,List.append_assoc];simp
theorem cd {j v:Nat}:cut (wdM q n P j v) (0+j*4) 4=zc v:=by
 unfold cut wdM;rw[Nat.zero_add,List.drop_append_of_le_length (by rw[ir];omega),List.drop_of_length_le (by rw[ir];omega),List.nil_append,List.take_append_of_le_length (by simp[zc])];rfl
theorem js {j v v' : Nat}:over (wdM q n P j v) (0+j*4) (zc v')=wdM q n P j v':=by
 unfold over wdM;have hp:=ir q n P (j:=j);generalize ((List.range j).map fun i=>dw q n P (i+1)).flatMap zc=A at *;rw[Nat.zero_add,List.take_append_of_le_length Om,List.take_of_length_le Om,show j*4+(zc v').length=A.length+4 by rw[hp];rfl,← List.drop_drop,List.drop_left,List.append_assoc];rfl
theorem dZ {j v:Nat}:Nat.ble (0+j*4+4) (wdM q n P j v).length=true:=by
 rw[Nat.ble_eq];unfold wdM;rw[List.length_append,ir,List.length_append,show (zc v).length=4 from rfl];omega
end
end Sx
end
section
open Go Go.RowKit Go.BigFrame
namespace Sx
attribute [local irreducible] DQ WC WI WO WX wd
section
variable (p q g h:Nat) (P:LN) (n gp cp gO gV gG gP gN:Nat)
def W1P:Ending→List Ent→Prop:=fun e N=>(nD q n=true∧(∃ v,e=.returned v)∧N=[⟨gO,24,wdL q n P n⟩,⟨gV,46,[AQ gO n n]⟩,⟨gG,26,yI p q g h⟩,⟨gP,46,[AQ gp P.length cp]⟩,⟨gN,3,[.int .i64 (n:Int)]⟩])∨(nD q n=false∧e=.panicked [{ v:=tf 7,recovered:=false }])
theorem adN {q d:Nat} (h:Nat.gcd d q=1) (h1:1<q) (hd:d<q):fK d q=0∧zP d d q=true:=by
 have hm:zP d d q=true:=by simp[zP,h1,hd]
 exact⟨by unfold fK;rw[hm,if_pos rfl,if_pos h],hm⟩
theorem adD {q d:Nat} (h:¬ Nat.gcd d q=1) (h1:1<q) (hd:d<q):fK d q=7∧zP d d q=true:=by
 have hm:zP d d q=true:=by simp[zP,h1,hd]
 exact⟨by unfold fK;rw[hm,if_pos rfl,if_neg h],hm⟩
theorem abM {i k:Nat} (hi:i<n) (hk:k∈oth n (i+1)) (hb:¬ Nat.gcd (dOf q (i+1) k) q=1):nD q n=false:=by
 rw[Bool.eq_false_iff];intro hA;have h1:=List.all_eq_true.1 (List.all_eq_true.1 hA i (List.mem_range.2 hi)) k hk;exact hb (by simpa using h1)
theorem abz {i k:Nat} {l:LN} (h:dwG q i l=true) (hk:Nat.gcd (dOf q i k) q=1):dwG q i (l++[k])=true:=by
 unfold dwG at *;rw[List.all_append,h];simp[hk]
set_option maxRecDepth 20000 in
theorem adS (hn7:n≤7) (hnq:n<q) (hq:q<ze) (hP:uz q P=true) (hPb:∀ a∈P,a<ze) (hPl:P.length≤100) :
  FnE Tryz.prog 199 [pt gV,pt gG,pt gP,pt gN] [⟨gO,24,mkz n (zc 0)⟩,⟨gV,46,[AQ gO n n]⟩,⟨gG,26,yI p q g h⟩,⟨gP,46,[AQ gp P.length cp]⟩,⟨gN,3,[.int .i64 (n:Int)]⟩] (fun w=>Seg w gp 0 (P.flatMap zc)∧gp<w.heap.size∧gp ∉ [gO,gV,gG,gP,gN]) (W1P p q g h P n gp cp gO gV gG gP gN):=by
 rintro w hok hnd ⟨hSp,hlp,hgp⟩;have h1q:1<q:=(vW hP).1;have h0q:0<q:=by omega
 refine WU.calls (n:=53) (m:=40) Tryz.func199 rfl rfl rfl (fun a a1 a2 a3=>?_);have a4:Me w [gO,gV,gG,gP,gN] [⟨gO,24,mkz n (zc 0)⟩,⟨gV,46,[AQ gO n n]⟩,⟨gG,26,yI p q g h⟩,⟨gP,46,[AQ gp P.length cp]⟩,⟨gN,3,[.int .i64 (n:Int)]⟩] w:=⟨.refl _ _,hok,fun e he=>.inr (List.mem_map.2 ⟨e,he,rfl⟩),hnd⟩;refine WU.seqR (ds:=[]) (w0:=w) (gs:=[gO,gV,gG,gP,gN]) (n:=53) a1 a2 a3 a4 ?_
 repeat (first|refine Tk ?_|intro _|exact Tz)
 refine WX.z (fun a w1 c1 c2 c3 c4=>?_);refine WU.block ?_;refine WU.loop (σ:=Nat) (fun j a W=>∃ ds mk,a.defers=ds∧Marks W ds mk∧(∀ D∈mk,w.heap.size≤D)∧a.tmps.size=53∧Kn [(0,pt gV),(1,pt gG),(2,pt gP),(3,pt gN),(6,AQ gO n n),(7,.int .i64 (n:Int)),(8,.int .i64 (j:Int))] a∧j≤n∧(∀ i,i<j→dwG q (i+1) (oth n (i+1))=true)∧Me w [gO,gV,gG,gP,gN] [⟨gO,24,wdL q n P j⟩,⟨gV,46,[AQ gO n n]⟩,⟨gG,26,yI p q g h⟩,⟨gP,46,[AQ gp P.length cp]⟩,⟨gN,3,[.int .i64 (n:Int)]⟩] W) (fun j=>n - j) 0 ⟨[],[],c1,.nil,by simp,c2,Kle.kn c3 Kle.a,Nat.zero_le _,fun i hi=>absurd hi (Nat.not_lt_zero _),c4⟩ (fun j a W hI=>?_);clear c1 c2 c3 c4 a1 a2 a3 a4 hok;obtain⟨ds,mk,c1,hmk,hmw,c2,c3,hj,hgd,c4⟩:=hI;have hsz:=c4.mod.size;have hSpW:Seg W gp 0 (P.flatMap zc):=hSp.mod c4.mod hgp;have hmkg:∀ D∈mk,D ∉ [gO,gV,gG,gP,gN]:=fun D hD hm=>by
  obtain⟨e,he,hg⟩:=List.mem_map.1 (show D∈([⟨gO,24,wdL q n P j⟩,⟨gV,46,[AQ gO n n]⟩,⟨gG,26,yI p q g h⟩,⟨gP,46,[AQ gp P.length cp]⟩,⟨gN,3,[.int .i64 (n:Int)]⟩]:List Ent).map Ent.g from hm);exact hmk.apart (c4.ok e he) (by rw[hg];exact hD)
 have c40:=c4;have hb:Me W [gO,gV,gG,gP,gN] [⟨gO,24,wdL q n P j⟩,⟨gV,46,[AQ gO n n]⟩,⟨gG,26,yI p q g h⟩,⟨gP,46,[AQ gp P.length cp]⟩,⟨gN,3,[.int .i64 (n:Int)]⟩] W:=⟨.refl _ _,c4.ok,fun e he=>.inr (List.mem_map.2 ⟨e,he,rfl⟩),c4.nodup⟩
 by_cases hlt:j<n
 ·rw[ahp q n P hlt] at hb;have hadd:IntKind.i64.wrap ((j:Int)+1)=((j+1:Nat):Int):=zl Om Om Om;have hOf:Fn Tryz.prog 152 [vV p q g h,.int .i64 ((j+1:Nat):Int)] Tr (Is (zk (ofZ q ((j+1:Nat):Int)))):=jK p q g h (j+1) Om hq;have hxq:ofZ q ((j+1:Nat):Int)<q:=jn _ h0q;have hAt:=mg p q g h P (some ⟨gp,0,none⟩) cp (ofZ q ((j+1:Nat):Int)) hPb Om hq (Nat.lt_trans hxq hq) hP hxq;have hmY:=sH (ye P (ofZ q ((j+1:Nat):Int))%q);have hV0q:(ye P (ofZ q ((j+1:Nat):Int))%q)<q:=Nat.mod_lt _ h0q;generalize hV0:(ye P (ofZ q ((j+1:Nat):Int))%q)=v0 at hAt hmY hV0q;refine WU.seqR (ds:=ds) (w0:=W) (gs:=[gO,gV,gG,gP,gN]) (n:=53) c1 c2 c3 hb ?_;refine WO.does (vy rfl rfl Om) ?_;refine WO.nil (WX.z (fun a W1 c1 c2 c3 c4=>?_));refine WU.seq (WU.cond (t:=true) (c3.eval (x:=.tmp 9) rfl) (WU.of (wp_skip ?_)));show WU _ _ _ _ _ _;refine WU.seq (WU.block ?_);refine WU.seqR c1 c2 c3 c4 ?_
  repeat (first|refine Tk ?_|intro _|exact Tz)
  rename_i g4;refine WX.z (fun a W1 c1 c2 c3 c4=>?_);refine WU.seqD 13 c1 c2 c3 c4 ?_
  iterate 6 refine Dx ?_
  refine DQ.does (fun s _=>zi rfl rfl hadd) Dp.const ?_;refine DQ.acallM (hc:=hOf) (hR:=fun _ _=>trivial) (k:=?_);refine DQ.acallM (hc:=hAt) (hR:=fun w1 hm=>⟨_,_,rfl,.inr ⟨gp,0,rfl,hSpW.mod hm.mod hgp⟩⟩) (k:=?_)
  iterate 2 refine Dx ?_
  refine DQ.acallM (hc:=hmY) (hR:=fun _ _=>trivial) (k:=?_);refine DQ.does (fun s _=>zb (o':=0+j*4) rfl rfl hlt rfl) Dp.const ?_;refine DQ.anil (k:=?_);intro sx _;refine WO.stores (zo (vs:=zc v0) (cs':=wdM q n P j v0) (hc:=js q n P) (hle:=dZ q n P)) ?_;refine WO.nil (WX.z (fun a W1 c1 c2 c3 c4=>?_));refine WU.seqR c1 c2 c3 c4 ?_;refine WO.auto (k:=?_);refine WO.does (zi rfl rfl hadd) ?_;refine WO.auto (k:=?_);refine WO.acallX (hc:=aaV ((j+1:Nat):Int) (n:Int)) (hR:=fun _ _=>trivial) (k:=fun s _=>?_);generalize s 0=gA;generalize s 1=gB;clear s;simp only[List.cons_append,List.nil_append];refine WO.nil (WX.z (fun a W1 c1 c2 c3 c4=>?_));refine WU.block ?_;have oA:=c4.ok ⟨gA,_,_⟩ (Hs.mem Hs.a);have oB:=c4.ok ⟨gB,_,_⟩ (Hs.mem Hs.a);have o4:=c4.ok ⟨g4,_,_⟩ (Hs.mem Hs.a);have lO:=(c4.ok ⟨gO,_,_⟩ (Hs.mem Hs.a)).lt;have lV:=(c4.ok ⟨gV,_,_⟩ (Hs.mem Hs.a)).lt;have lG:=(c4.ok ⟨gG,_,_⟩ (Hs.mem Hs.a)).lt;have lP:=(c4.ok ⟨gP,_,_⟩ (Hs.mem Hs.a)).lt;have lN:=(c4.ok ⟨gN,_,_⟩ (Hs.mem Hs.a)).lt;have sA:=oA.seg 0;have sB:=oB.seg 0;have lA:=oA.lt;have lB:=oB.lt;have l4:=o4.lt;have hnd6:=c4.nodup;simp only[List.drop_zero] at sA sB;dsimp only at lA lB l4 lO lV lG lP lN;have hAB:gA ∉ g4::[gO,gV,gG,gP,gN]∧gB ∉ g4::[gO,gV,gG,gP,gN]:=by
   simp only[List.map_cons,List.map_nil,List.nodup_cons,List.mem_cons,not_or] at hnd6;simp only[List.mem_cons,List.not_mem_nil,or_false,not_or];exact⟨⟨hnd6.1.2.1,hnd6.1.2.2.1,hnd6.1.2.2.2.1,hnd6.1.2.2.2.2.1,hnd6.1.2.2.2.2.2.1,hnd6.1.2.2.2.2.2.2.1⟩,⟨hnd6.2.1.1,hnd6.2.1.2.1,hnd6.2.1.2.2.1,hnd6.2.1.2.2.2.1,hnd6.2.1.2.2.2.2.1,hnd6.2.1.2.2.2.2.2.1⟩⟩
  have hG6:∀ k∈g4::[gO,gV,gG,gP,gN],k<W1.heap.size:=by simp only[List.mem_cons,List.not_mem_nil,or_false];rintro k (rfl|rfl|rfl|rfl|rfl|rfl)<;>assumption
  have hsz1:=c4.mod.size;have c4b:Me W [gO,gV,gG,gP,gN] [⟨g4,3,[.int .i64 (j:Int)]⟩,⟨gO,24,wdM q n P j v0⟩,⟨gV,46,[AQ gO n n]⟩,⟨gG,26,yI p q g h⟩,⟨gP,46,[AQ gp P.length cp]⟩,⟨gN,3,[.int .i64 (n:Int)]⟩] W1:=Lle.me (by repeat (first|exact Lle.nil|refine Lle.c ?_)) c4;clear c4 hnd6;have hK2:∀ k∈[gA,gB],k<W1.heap.size:=by simp only[List.mem_cons,List.not_mem_nil,or_false];rintro k (rfl|rfl)<;>assumption
  refine WU.range (α:=OtT n (j+1)) (m:=2) (a:=a) (w:=W1) Tryz.func199 (g:=.tmp 27) (gf:=239) (lb:=#[pt gA,pt gB]) (c3.eval (x:=.tmp 27) rfl) (enters_of Tryz.func239 Kr rfl) (encs:=fun x=>#[.int .i64 (x.1:Int)]) (fun _=>rfl)
   (iE 2 (j+1) n gA gB hn7 Om W1 sA sB hK2) KpB.trans (KpB.put hK2)
   (fun (pre:List (OtT n (j+1))) W2=>Me W [gO,gV,gG,gP,gN] [⟨g4,3,[.int .i64 (j:Int)]⟩,⟨gO,24,wdM q n P j ((pre.map fun x=>x.1).foldl (dwF q (j+1)) v0)⟩,⟨gV,46,[AQ gO n n]⟩,⟨gG,26,yI p q g h⟩,⟨gP,46,[AQ gp P.length cp]⟩,⟨gN,3,[.int .i64 (n:Int)]⟩] W2∧W1.heap.size≤W2.heap.size∧dwG q (j+1) (pre.map fun x=>x.1)=true) (fun pre A B row hs hgr hr=>⟨hs.1.ownG hsz1 hgr hr,Nat.le_trans hs.2.1 hgr.size,hs.2.2⟩) ⟨c4b,Nat.le_refl _,rfl⟩ (fun ch W2=>ch=[{ v:=tf 7,recovered:=false }]∧Me W [gO,gV,gG,gP,gN] [] W2∧nD q n=false) (fun (x:OtT n (j+1)) a2 _=>a2.defers=[]∧a2.tmps.size=53∧Kn [(0,pt gV),(1,pt gG),(2,pt gP),(3,pt gN),(4,pt g4),(5,.int .i64 (x.1:Int))] a2) (fun x a2 _ _ _ _ hs _ _=>hs) ?assign ?body ?done ?pan
  case assign =>
   intro lr pre y W2 K hI2 hK;have hQ:¬ LetsOut (Exit.then K (fun _ _ _=>False)):=fun ⟨_,_,h⟩=>h;have hkn:Kn ([(28,.int .i64 (y.1:Int))]++[(0,pt gV),(1,pt gG),(2,pt gP),(3,pt gN),(4,pt g4)]) { tmps:=((#[28]:Array Tmp).zip #[.int .i64 (y.1:Int)]).foldl (fun t (p,v)=>t.setIfInBounds p v) a.tmps,defers:=[] }:=by
    have k00:Kn [(0,pt gV),(1,pt gG),(2,pt gP),(3,pt gN),(4,pt g4)] a:=Kle.kn c3 Kle.a;have k0:Kn [(0,pt gV),(1,pt gG),(2,pt gP),(3,pt gN),(4,pt g4)] ({ a with defers:=[] }:Act):=k00;have k1:=k0.put (d:=28) (by show 28<a.tmps.size;omega) (.int .i64 (y.1:Int));intro t v ht;have k4:=k1 t v ht;simpa [Act.put,Array.zip] using k4
   suffices HH:WI (some lr) 1 Tryz.prog W2 [] 53 _ (Exit.then K (fun _ _ _=>False)) ([(28,.int .i64 (y.1:Int))]++[(0,pt gV),(1,pt gG),(2,pt gP),(3,pt gN),(4,pt g4)]) [] from HH.app rfl (by simp[c2]) hkn (Me.refl W2 [])
   refine WI.region ?_ (by exact hQ);refine WO.auto (k:=?_);refine WO.nil (WX.un (fun a2 W3 e1 e2 e3 e4=>?_));exact hK a2 W3 ⟨e4.mod.size,fun k o _ hk _=>(e4.mod.block k (Array.getElem?_eq_some_iff.1 hk).1 Sm).trans hk⟩ ⟨yA.of_mod e4.mod (fun k hk=>⟨Nat.lt_of_lt_of_le (hK2 k hk) hI2.2.1,by simp⟩),e4.mod.size⟩ ⟨hI2.1.below e4.mod.below,Nat.le_trans hI2.2.1 e4.mod.size,hI2.2.2⟩ ⟨e1,e2,Kle.kn e3 Kle.a⟩
  case body =>
   rintro lr pre ⟨y,hy⟩ a2 W2 hl ⟨hI1,hI2,hI3⟩ ⟨e1,e2,e3⟩ hlen;obtain⟨hy1,hy2,hy3⟩:=kJ.1 hy;dsimp only at e3;have hcur:((pre.map fun x=>x.1).foldl (dwF q (j+1)) v0)<q:=ad7 _ hV0q;have hsn:(((pre++[(⟨y,hy⟩ : OtT n (j+1))]).map fun x=>x.1).foldl (dwF q (j+1)) v0)=((pre.map fun x=>x.1).foldl (dwF q (j+1)) v0)*uX (dOf q (j+1) y) q%q:=by rw[List.map_append,List.map_singleton];exact ej
   have hdl:dOf q (j+1) y<q:=acw h0q;have hDf:=acR p q g h (j+1) y Om Om Om Om Om hq;have hIv:=af8 p q g h (dOf q (j+1) y) (Nat.lt_trans hdl hq) hq;have hsub:IntKind.i64.wrap (((j+1:Nat):Int) - (y:Int))=((j+1:Nat):Int) - (y:Int):=i64_in Om Om;have hm0:Me W2 (g4::[gO,gV,gG,gP,gN]) [⟨g4,3,[.int .i64 (j:Int)]⟩,⟨gO,24,wdM q n P j ((pre.map fun x=>x.1).foldl (dwF q (j+1)) v0)⟩,⟨gV,46,[AQ gO n n]⟩,⟨gG,26,yI p q g h⟩,⟨gP,46,[AQ gp P.length cp]⟩,⟨gN,3,[.int .i64 (n:Int)]⟩] W2:=⟨.refl _ _,hI1.ok,fun e he=>.inr (List.mem_map.2 ⟨e,he,rfl⟩),hI1.nodup⟩
   by_cases hgcd:Nat.gcd (dOf q (j+1) y) q=1
   ·obtain⟨hv1,hv2⟩:=adN hgcd h1q hdl;have hI3':=abz q (i:=j+1) hI3 hgcd;rw[hv1,hv2,show okV true (uX (dOf q (j+1) y) q)=uX (dOf q (j+1) y) q from rfl] at hIv;have hil:=eb (a:=dOf q (j+1) y) (m:=q) h1q hdl;have hM1:=sH (uX (dOf q (j+1) y) q);have hMu:=ju p q g h ((pre.map fun x=>x.1).foldl (dwF q (j+1)) v0) (uX (dOf q (j+1) y) q) (Nat.lt_trans hcur hq) (Nat.lt_trans hil hq) hq;rw[show zP ((pre.map fun x=>x.1).foldl (dwF q (j+1)) v0) (uX (dOf q (j+1) y) q) q=true by unfold zP;rw[decide_eq_true h1q,decide_eq_true hcur,decide_eq_true hil];rfl] at hMu;have hM2:=sH (((pre.map fun x=>x.1).foldl (dwF q (j+1)) v0)*uX (dOf q (j+1) y) q%q);rw[← hsn] at hMu hM2;simp only[rE,okV,okE,if_true,if_pos] at hMu;generalize hnv:(((pre++[(⟨y,hy⟩ : OtT n (j+1))]).map fun x=>x.1).foldl (dwF q (j+1)) v0)=nv at hMu hM2 hsn;generalize uX (dOf q (j+1) y) q=iv at *;generalize dOf q (j+1) y=dd at *;generalize ((pre.map fun x=>x.1).foldl (dwF q (j+1)) v0)=cur at *
    suffices HH:WI (some lr) 1 Tryz.prog W2 (g4::[gO,gV,gG,gP,gN]) 53 _ (aha W1.heap.size (KpB [gA,gB]) (fun (pre:List (OtT n (j+1))) W2=>Me W [gO,gV,gG,gP,gN] [⟨g4,3,[.int .i64 (j:Int)]⟩,⟨gO,24,wdM q n P j ((pre.map fun x=>x.1).foldl (dwF q (j+1)) v0)⟩,⟨gV,46,[AQ gO n n]⟩,⟨gG,26,yI p q g h⟩,⟨gP,46,[AQ gp P.length cp]⟩,⟨gN,3,[.int .i64 (n:Int)]⟩] W2∧W1.heap.size≤W2.heap.size∧dwG q (j+1) (pre.map fun x=>x.1)=true) (fun ch W2=>ch=[{ v:=tf 7,recovered:=false }]∧Me W [gO,gV,gG,gP,gN] [] W2∧nD q n=false) (pre++[⟨y,hy⟩]) W2) [(0,pt gV),(1,pt gG),(2,pt gP),(3,pt gN),(4,pt g4),(5,.int .i64 (y:Int))] [⟨g4,3,[.int .i64 (j:Int)]⟩,⟨gO,24,wdM q n P j cur⟩,⟨gV,46,[AQ gO n n]⟩,⟨gG,26,yI p q g h⟩,⟨gP,46,[AQ gp P.length cp]⟩,⟨gN,3,[.int .i64 (n:Int)]⟩] from HH.app e1 e2 e3 hm0
    refine WI.block ?_;refine WI.draw 23 (fun ⟨_,_,h⟩=>h) ?_
    iterate 5 refine Dx ?_
    refine DQ.does (fun s _=>zb (o':=0+j*4) rfl rfl hlt rfl) Dp.const ?_;refine DQ.does (fun s _=>zw (vs:=zc cur) (hc:=cd q n P)) Dp.const ?_
    iterate 3 refine Dx ?_
    refine DQ.does (fun s _=>zi rfl rfl hadd) Dp.const ?_;refine Dx ?_;refine DQ.does (fun s _=>zG rfl rfl hsub) Dp.const ?_;refine DQ.acallM (hc:=hDf) (hR:=fun _ _=>trivial) (k:=?_);refine DQ.acallM (hc:=hIv) (hR:=fun _ _=>trivial) (k:=?_)
    iterate 2 refine Dx ?_
    refine DQ.acallM (hc:=hM1) (hR:=fun _ _=>trivial) (k:=?_);refine DQ.acallM (hc:=hMu) (hR:=fun _ _=>trivial) (k:=?_)
    iterate 2 refine Dx ?_
    refine DQ.acallM (hc:=hM2) (hR:=fun _ _=>trivial) (k:=?_);refine DQ.does (fun s _=>zb (o':=0+j*4) rfl rfl hlt rfl) Dp.const ?_;refine DQ.anil (k:=?_);intro sx _;refine WO.stores (zo (vs:=zc nv) (cs':=wdM q n P j nv) (hc:=js q n P) (hle:=dZ q n P)) ?_;refine WO.nil (WX.blk_normal (WX.un (fun a3 W3 f1 f2 f3 f4=>?_)));refine⟨⟨f4.mod.size,fun k o hk0 hk _=>(f4.mod.block k (Array.getElem?_eq_some_iff.1 hk).1 (fun hx=>by have:=hG6 k hx;omega)).trans hk⟩,⟨yA.of_mod f4.mod (fun k hk=>⟨Nat.lt_of_lt_of_le (hK2 k hk) hI2,by
     rcases List.mem_cons.1 hk with rfl|hk
     ·exact hAB.1
     ·rw[List.mem_singleton] at hk;subst hk;exact hAB.2⟩),f4.mod.size⟩,?_,Nat.le_trans hI2 f4.mod.size,?_⟩
    ·rw[hnv];have:=Me.callL (M:=[⟨g4,3,[.int .i64 (j:Int)]⟩,⟨gO,24,wdM q n P j cur⟩,⟨gV,46,[AQ gO n n]⟩,⟨gG,26,yI p q g h⟩,⟨gP,46,[AQ gp P.length cp]⟩,⟨gN,3,[.int .i64 (n:Int)]⟩]) (R:=[]) (by simpa using hI1) f4;simpa using this
    ·rw[List.map_append];exact hI3'
   ·obtain⟨hv1,hv2⟩:=adD hgcd h1q hdl;have hbad:=abM q n hlt hy hgcd;rw[hv1,hv2] at hIv;rw[show okV true (uX (dOf q (j+1) y) q)=uX (dOf q (j+1) y) q from rfl] at hIv;have hM1:=f9 (uX (dOf q (j+1) y) q) 7 Dtt;generalize uX (dOf q (j+1) y) q=iv at *;generalize dOf q (j+1) y=dd at *;generalize ((pre.map fun x=>x.1).foldl (dwF q (j+1)) v0)=cur at *
    suffices HH:WI (some lr) 1 Tryz.prog W2 (g4::[gO,gV,gG,gP,gN]) 53 _ (aha W1.heap.size (KpB [gA,gB]) (fun (pre:List (OtT n (j+1))) W2=>Me W [gO,gV,gG,gP,gN] [⟨g4,3,[.int .i64 (j:Int)]⟩,⟨gO,24,wdM q n P j ((pre.map fun x=>x.1).foldl (dwF q (j+1)) v0)⟩,⟨gV,46,[AQ gO n n]⟩,⟨gG,26,yI p q g h⟩,⟨gP,46,[AQ gp P.length cp]⟩,⟨gN,3,[.int .i64 (n:Int)]⟩] W2∧W1.heap.size≤W2.heap.size∧dwG q (j+1) (pre.map fun x=>x.1)=true) (fun ch W2=>ch=[{ v:=tf 7,recovered:=false }]∧Me W [gO,gV,gG,gP,gN] [] W2∧nD q n=false) (pre++[⟨y,hy⟩]) W2) [(0,pt gV),(1,pt gG),(2,pt gP),(3,pt gN),(4,pt g4),(5,.int .i64 (y:Int))] [⟨g4,3,[.int .i64 (j:Int)]⟩,⟨gO,24,wdM q n P j cur⟩,⟨gV,46,[AQ gO n n]⟩,⟨gG,26,yI p q g h⟩,⟨gP,46,[AQ gp P.length cp]⟩,⟨gN,3,[.int .i64 (n:Int)]⟩] from HH.app e1 e2 e3 hm0
    refine WI.block ?_
    refine WI.pan (p:=17) (T:=[(0,AQ gO n n),(1,.int .i64 (j:Int)),(2,vV p q g h),(3,AQ gO n n),(4,.int .i64 (j:Int)),(5,.pointer (some ⟨gO,0+j*4,none⟩)),(6,zk cur),(7,vV p q g h),(8,vV p q g h),(9,.int .i64 (j:Int)),(10,.int .i64 ((j+1:Nat):Int)),(11,.int .i64 (y:Int)),(12,.int .i64 (((j+1:Nat):Int) - (y:Int))),(13,zk dd),(14,.tuple #[zk iv,.int .i64 7]),(15,zk iv),(16,.int .i64 7)])
     (fun ⟨_,_,h⟩=>h) Kr ?_ (by rfl) rfl ?_
    ·exact Tlq.auto (Tlq.auto (Tlq.auto (Tlq.auto (Tlq.auto (Tlq.auto (Tlq.auto (Tlq.auto (Tlq.auto (Tlq.auto (Tlq.auto (Tlq.auto (Tlq.auto (Tlq.auto (Tlq.auto (Tlq.auto (Tlq.auto .nil)) (ho:=by rfl) (h:=by exact Quo.call (fs:=[]) (cs:=[]) (vs:=[vV p q g h,zk dd]) (ar:=[vV p q g h,zk dd]) hIv rfl rfl rfl (fun _ _=>trivial))) (ho:=by rfl) (h:=by exact Quo.call (fs:=[]) (cs:=[]) (vs:=[vV p q g h,.int .i64 (((j+1:Nat):Int) - (y:Int))]) (ar:=[vV p q g h,.int .i64 (((j+1:Nat):Int) - (y:Int))]) hDf rfl rfl rfl (fun _ _=>trivial))) (ho:=by rfl) (h:=by exact Quo.does (zG rfl rfl hsub)))) (ho:=by rfl) (h:=by exact Quo.does (zi rfl rfl hadd)))))) (ho:=by rfl) (h:=by exact Quo.does (zw (vs:=zc cur) (hc:=cd q n P)))) (ho:=by rfl) (h:=by exact Quo.does (zb (o':=0+j*4) rfl rfl hlt rfl)))))))
    ·refine WO.callsEV (fs:=[]) (cs:=[]) (M:=[]) (hc:=hM1) rfl rfl rfl (.refl _) (fun _ _=>trivial) (fun v N hq=>by cases hq) (fun ch N hq=>?_);cases hq;refine WX.un (fun a3 W3 f1 f2 f3 f4=>?_);refine⟨f1,⟨f4.mod.size,fun k o hk0 hk _=>(f4.mod.block k (Array.getElem?_eq_some_iff.1 hk).1 (fun hx=>by have:=hG6 k hx;omega)).trans hk⟩,rfl,?_,hbad⟩;have:=Me.callL (M:=[⟨g4,3,[.int .i64 (j:Int)]⟩,⟨gO,24,wdM q n P j cur⟩,⟨gV,46,[AQ gO n n]⟩,⟨gG,26,yI p q g h⟩,⟨gP,46,[AQ gp P.length cp]⟩,⟨gN,3,[.int .i64 (n:Int)]⟩]) (R:=[]) (by simpa using hI1) (N:=[]) ⟨f4.mod,by simp,by simp,by simp⟩;simpa using this
  case done =>
   rintro D xs W2 hD hS ⟨hI1,hI2,hI3⟩ hK;show WU _ _ _ _ _ _;refine WU.reg (ds:={ target:=.collected D,args:=#[] }::ds) (w0:=W2) (gs:=[]) (n:=53) (K:=[(0,pt gV),(1,pt gG),(2,pt gP),(3,pt gN),(6,AQ gO n n),(7,.int .i64 (n:Int)),(8,.int .i64 (j:Int))]) (L:=[]) (by rw[← c1]) c2 (Kle.kn c3 Kle.a) (Me.refl W2 []) ?_;refine WO.does (zi rfl rfl hadd) ?_;refine WO.auto (k:=?_);refine WO.nil (WX.un (fun a3 W3 e1 e2 e3 e4=>?_));rw[hS] at hI1 hI3;have hdw:(oth n (j+1)).foldl (dwF q (j+1)) v0=dw q n P (j+1):=by rw[← hV0];rfl
   rw[hdw,ahz] at hI1;have hblk:∀ k,k<W.heap.size→k ∉ [gO,gV,gG,gP,gN]→W3.heap[k]?=W.heap[k]?:=fun k h1 h2=>(e4.mod.block k (Nat.lt_of_lt_of_le h1 hI1.mod.size) Sm).trans (hI1.mod.block k h1 h2);refine⟨j+1,by omega,{ target:=.collected D,args:=#[] }::ds,D::mk,by simp[dfA,e1],.cons ((e4.mod.block D (Array.getElem?_eq_some_iff.1 hK).1 Sm).trans hK) (fun h=>by have:=hmk.lt D h;omega) (hmk.keep (fun D' hD'=>hblk D' (hmk.lt D' hD') (hmkg D' hD'))),fun D' hD'=>?_,e2,Kle.kn e3 Kle.a,by omega,fun i hi=>?_,?_⟩
   ·rcases List.mem_cons.1 hD' with rfl|h
    ·omega
    ·exact hmw D' h
   ·by_cases hij:i=j
    ·subst hij;exact hI3
    ·exact hgd i Om
   ·have h5:Me W [gO,gV,gG,gP,gN] [⟨gO,24,wdL q n P (j+1)⟩,⟨gV,46,[AQ gO n n]⟩,⟨gG,26,yI p q g h⟩,⟨gP,46,[AQ gp P.length cp]⟩,⟨gN,3,[.int .i64 (n:Int)]⟩] W2:=hI1.tail;have:=Me.callL (M:=[⟨gO,24,wdL q n P j⟩,⟨gV,46,[AQ gO n n]⟩,⟨gG,26,yI p q g h⟩,⟨gP,46,[AQ gp P.length cp]⟩,⟨gN,3,[.int .i64 (n:Int)]⟩]) (R:=[]) (by simpa using c40) h5;have h6:Me w [gO,gV,gG,gP,gN] [⟨gO,24,wdL q n P (j+1)⟩,⟨gV,46,[AQ gO n n]⟩,⟨gG,26,yI p q g h⟩,⟨gP,46,[AQ gp P.length cp]⟩,⟨gN,3,[.int .i64 (n:Int)]⟩] W2:=by simpa using this
    exact h6.below e4.mod.below
  case pan =>
   rintro D ch W2 hD ⟨rfl,hm2,hbad⟩ hK;show LeavesInM Fence.wide 40 Tryz.prog Tryz.f199 a.tmps _ ({ target:=.collected D,args:=#[] }::a.defers) (.panicking _) W2;rw[c1];refine Marks.leave Sm (.cons (l:=mk) hK (fun h=>by have:=hmk.lt D h;omega) (hmk.keep (fun D' hD'=>hm2.mod.block D' (hmk.lt D' hD') (hmkg D' hD')))) (fun w' g1 g2 g3 g5 g6=>?_);refine⟨by simp,[],?_,.inr ⟨hbad,rfl⟩⟩;have h7:Me w [gO,gV,gG,gP,gN] [] W2:=⟨c40.mod.trans hm2.mod,by simp,by simp,by simp⟩;refine h7.marks (l:=D::mk) (fun D' hD'=>?_) Sm g1 g2 g3 g5 g6
   rcases List.mem_cons.1 hD' with rfl|h
   ·omega
   ·exact hmw D' h
 ·obtain rfl:j=n:=by omega
  have hall:nD q j=true:=by
   unfold nD;rw[List.all_eq_true];intro i hi;exact hgd i (List.mem_range.1 hi)
  refine WU.seqR (ds:=ds) (w0:=W) (gs:=[gO,gV,gG,gP,gN]) (n:=53) c1 c2 c3 hb ?_;refine WO.does (z7 rfl rfl Om) ?_;refine WO.nil (WX.z (fun a W1 c1 c2 c3 c4=>?_));refine WU.seq (WU.cond (t:=false) (c3.eval (x:=.tmp 9) rfl) (WU.of (wp_exit ?_)));show LeavesInM Fence.wide 40 Tryz.prog Tryz.f199 a.tmps _ a.defers .returning W1;rw[c1];have hblk:∀ k,k<W.heap.size→k ∉ [gO,gV,gG,gP,gN]→W1.heap[k]?=W.heap[k]?:=fun k h1 h2=>c4.mod.block k h1 h2;refine Marks.leave Sm (hmk.keep (fun D' hD'=>hblk D' (hmk.lt D' hD') (hmkg D' hD'))) (fun w' g1 g2 g3 g5 g6=>?_);refine⟨.tuple #[],results_none rfl _ _ _,by simp,_,?_,.inl ⟨hall,⟨_,rfl⟩,rfl⟩⟩;have h5:=Me.callL (M:=[⟨gO,24,wdL q j P j⟩,⟨gV,46,[AQ gO j j]⟩,⟨gG,26,yI p q g h⟩,⟨gP,46,[AQ gp P.length cp]⟩,⟨gN,3,[.int .i64 (j:Int)]⟩]) (R:=[]) (by simpa using c40) c4;have h6:Me w [gO,gV,gG,gP,gN] [⟨gO,24,wdL q j P j⟩,⟨gV,46,[AQ gO j j]⟩,⟨gG,26,yI p q g h⟩,⟨gP,46,[AQ gp P.length cp]⟩,⟨gN,3,[.int .i64 (j:Int)]⟩] W1:=by simpa using h5
  refine h6.marks (l:=mk) hmw (fun e he hm=>?_) g1 g2 g3 g5 g6;exact hmkg _ hm (List.mem_map.2 ⟨e,he,rfl⟩)
end
section
variable (p q g h:Nat) (P:LN) (n gp cp:Nat)
theorem acU:wdL q n P n=(dwL q n P).flatMap zc:=by
 unfold wdL dwL;rw[Nat.sub_self,show mkz 0 (zc 0)=[] from rfl,List.append_nil]
theorem aaZ {gO gV gG gP gN:Nat}:∀ e N,W1P p q g h P n gp cp gO gV gG gP gN e N→(∃ v,e=.returned v)∨(∃ k,e=.panicked [{ v:=tf k,recovered:=false }]):=fun e N h=>by
 rcases h with ⟨_,h,_⟩|⟨_,h⟩
 ·exact .inl h
 ·exact .inr ⟨7,h⟩
theorem agE (hn1:1≤n) (hn7:n≤7) (hnq:n<q) (hq:q<ze) (hP:uz q P=true) (hPb:∀ a∈P,a<ze) (hPl:P.length<n) :
  Fn Tryz.prog 153 [vV p q g h,.int .i64 (n:Int),AQ gp P.length cp] (fun w=>Seg w gp 0 (P.flatMap zc)∧gp<w.heap.size)
   (fun v N=>(nD q n=true∧∃ g',v=.tuple #[AQ g' n n,.int .i64 0]∧N=[⟨g',24,(dwL q n P).flatMap zc⟩])∨(nD q n=false∧v=.tuple #[.slice none 0 0,.int .i64 7]∧N=[])):=by
 have hSt:=fun gO gV gG gP gN=>nT (adS p q g h P n gp cp gO gV gG gP gN hn7 hnq hq hP hPb Om) (fun w w' hR hm=>⟨hR.1.mod hm hR.2.2,Nat.lt_of_lt_of_le hR.2.1 hm.size,hR.2.2⟩) (aaZ p q g h P n gp cp);refine Fn.enter Tryz.func153 rfl rfl rfl ?_;intro w hw;obtain⟨hwS,hwl⟩:=hw
 repeat (first|refine WO.does (z7 rfl rfl Om) ?_|refine WO.does (yn rfl rfl Om) ?_|refine WO.does (zY rfl rfl Om) ?_|refine WO.does (zH rfl rfl) ?_|refine Tj ?_|intro _|(refine WO.makes (yp (l:=n) (c:=n) rfl rfl (Nat.le_refl _) Om Om) ?_;intro _)|refine Tc ?_|exact Tz)
 rename_i gG gN gP gO gV;refine WO.mine (fun hmn=>?_);have hnot:gp ∉ [gO,gV,gG,gP,gN]:=by
  have hx:∀ e∈_,_:=hmn;intro hm;have key:∀ k∈[gO,gV,gG,gP,gN],w.heap.size≤k:=by
   intro k hk;simp only[List.mem_cons,List.not_mem_nil,or_false] at hk
   rcases hk with rfl|rfl|rfl|rfl|rfl<;>exact (hmn ⟨_,_,_⟩ (Hs.mem Hs.a)).resolve_right Sm
  have:=key gp hm;omega
 clear hmn;refine WO.callsL (hc:=hSt gO gV gG gP gN) (hp:=.cons Pk.a (.cons Pk.a (.cons Pk.a (.cons Pk.a (.cons Pk.a .nil))))) (fun w' hm=>⟨hwS.mod hm.mod Sm,Nat.lt_of_lt_of_le hwl hm.mod.size,hnot⟩) (fun v N hv=>?_)
 rcases hv with ⟨rfl,u,hu⟩|⟨k,rfl,hu⟩
 ·obtain⟨hall,rfl⟩ : nD q n=true∧N=_:=by
   rcases hu with ⟨h1,_,h2⟩|⟨_,h2⟩
   ·exact⟨h1,h2⟩
   ·cases h2
  rw[acU];simp only[List.cons_append,List.nil_append]
  repeat (first|refine WO.does (zR rfl rfl Dtt) ?_|refine Tj ?_|intro _|refine Tc ?_|exact Tz)
  exact WX.ret2 rfl Rv.t Rv.t [⟨gO,24,(dwL q n P).flatMap zc⟩] (Lle.c Lle.nil) (.inl ⟨hall,gO,rfl,rfl⟩)
 ·obtain⟨hall,rfl⟩ : nD q n=false∧k=7:=by
   rcases hu with ⟨_,⟨_,h2⟩,_⟩|⟨h1,h2⟩
   ·cases h2
   ·refine⟨h1,?_⟩;simp only[Ending.panicked.injEq,List.cons.injEq,PanicEntry.mk.injEq,tf,Value.iface.injEq,true_and,and_true] at h2;simpa using h2
  repeat (first|refine WO.does (zO rfl rfl rfl) ?_|refine Tj ?_|intro _|refine Tc ?_|exact Tz)
  exact WX.ret2 rfl Rv.t Rv.t [] Lle.nil (.inr ⟨hall,rfl,rfl⟩)
end
theorem RdF.ownD {α:Type} {f:α→List Value} {xs:List α} {w:World} {g o n c:Nat} (hs:Seg w g o (xs.flatMap f)) (hn:xs.length=n):RdF f (.slice (some ⟨g,o,none⟩) n c) xs w:=by
 subst hn;exact RdF.seg (r:=[]) (by rw[List.append_nil];exact hs)
theorem aa0 {q k:Nat}:over (mkz (k+1) (zc 0)) (k*4) (zc (ofZ q 1))=(pkN q k).flatMap zc:=by
 have h1:(mkz k (zc 0)).length=k*4:=by rw[zV];rfl
 have h2:mkz k (zc 0)=(List.replicate k 0).flatMap zc:=by
  unfold mkz;rw[List.flatMap_def,List.map_replicate]
 unfold over pkN;rw[jd,show mkz 1 (zc 0)=zc 0 by simp[mkz],List.take_append_of_le_length Om,List.take_of_length_le Om,List.flatMap_append,← h2,show k*4+(zc (ofZ q 1)).length=(mkz k (zc 0)).length+4 by rw[h1];rfl,← List.drop_drop,List.drop_left];simp[zc]
theorem ad2 {k:Nat}:Nat.ble (k*4+4) (mkz (k+1) (zc 0)).length=true:=by
 rw[Nat.ble_eq,zV,show (zc 0).length=4 from rfl];omega
theorem abq {q k:Nat} (h:1<q) (hk:k≤100):uz q (pkN q k)=true:=by
 unfold uz;simp only[Bool.and_eq_true,decide_eq_true_eq,List.all_eq_true];exact⟨h,fun a ha=>by simpa using acI Om a ha⟩
section
variable (p q g h:Nat) (V:LN) (n cV c bA oA gV gG gC:Nat)
def CkP:Ending→List Ent→Prop:=fun e _=>(duB p q n c V=true∧∃ v,e=.returned v)∨(duB p q n c V=false∧∃ k,e=.panicked [{ v:=tf k,recovered:=false }])
set_option maxRecDepth 20000 in
theorem abf (hVn:V.length=n) (hn1:1≤n) (hn7:n≤7) (hc1:1≤c) (hcn:c≤n) (hnq:n<q) (hq:q<ze) (hp:p<ze) (h1p:1<p) (hV:ad6 p V) :
  FnE Tryz.prog 150 [pt gV,pt gG,pt gC] [⟨gV,46,[.slice (some ⟨bA,oA,none⟩) n cV]⟩,⟨gG,26,yI p q g h⟩,⟨gC,3,[.int .i64 (c:Int)]⟩] (fun w=>Seg w bA oA (V.flatMap zc)∧bA<w.heap.size∧bA ∉ [gV,gG,gC]) (CkP p q V n c):=by
 refine FnE.enter (n:=62) Tryz.func150 rfl rfl rfl ?_;rintro w ⟨hsA,hlA,hbA⟩;have h0q:0<q:=by omega
 have ho:ofZ q ((1:Nat):Int)=ofZ q 1:=rfl;have hOf:Fn Tryz.prog 152 [vV p q g h,.int .i64 1] Tr (Is (zk (ofZ q 1))):=jK p q g h 1 Om hq;have hol:ofZ q 1<q:=jn _ h0q;have holb:=Nat.lt_trans hol hq
 repeat (first|refine Tk ?_|intro _|exact Tz)
 refine WC.loopI (σ:=Nat) (fun i=>i≤n) (fun i=>[(0,pt gV),(1,pt gG),(2,pt gC),(9,.slice (some ⟨bA,oA,none⟩) n cV),(10,.int .i64 (n:Int)),(11,.int .i64 (i:Int))]) (fun _=>[⟨gV,46,[.slice (some ⟨bA,oA,none⟩) n cV]⟩,⟨gG,26,yI p q g h⟩,⟨gC,3,[.int .i64 (c:Int)]⟩]) (fun i=>n - i) 0 (fun i hi=>?_) (Nat.zero_le _)
 try dsimp only at hi ⊢
 by_cases hlt:i<n
 ·obtain⟨x,hx⟩ : ∃ y,V[i]?=some y:=⟨_,List.getElem?_eq_getElem Om⟩;have hxm:=List.mem_of_getElem? hx;have hxb:=hV.lt x hxm;have hcA:cut (V.flatMap zc) (oA+i*4 - oA) 4=zc x:=by rw[Nat.add_sub_cancel_left];exact uk (f:=zc) (k:=4) (fun _=>rfl) hx
  have hadd2:IntKind.i64.wrap ((i:Int)+1)=((i+1:Nat):Int):=zl Om Om Om;have hE:=vQ p q g h x 0 hxb zE hp;rw[hV.may x hxm] at hE;simp only[rE,okV,okE,if_true,if_pos] at hE;generalize x ^ 0%p=y at hE;have hM:=sH y
  repeat (first|refine Tk ?_|intro _|exact Tz)
  refine WC.dT rfl Om ?_
  repeat (first|refine WO.does (zb (o':=oA+i*4) rfl rfl hlt rfl) ?_|refine WO.does (zn (vs:=zc x) (hs:=hsA) (hle:=Nat.le_add_right _ _) (hc:=hcA) (hb:=hbA)) ?_|refine WO.does (zi rfl rfl hadd2) ?_|refine Tj ?_|intro _|refine WO.acall (hc:=hE) (k:=?_)|refine WO.acall (hc:=hM) (k:=?_)|refine Tc ?_|exact Tz)
  exact WX.metI (i+1) (hs:=⟨by show i+1≤n;omega,by show n - (i+1)<n - i;omega⟩)
 ·have hi2:i=n:=by omega
  subst hi2;clear hi hlt;have hsub:IntKind.i64.wrap ((i:Int) - (c:Int))=((i - c:Nat):Int):=by rw[i64_in Om Om];omega
  repeat (first|refine Tk ?_|intro _|exact Tz)
  refine WC.dF rfl Om ?_
  repeat (first|refine WO.does (zG rfl rfl hsub) ?_|refine Tj ?_|intro _|refine Tc ?_|exact Tz)
  refine WC.loopI (σ:=Nat) (fun k=>k≤i - c∧(0<k→nD q i=true)∧∀ j,j<k→prD p V (dwL q i (pkN q j))=ofZ q 1) (fun k=>[(0,pt gV),(1,pt gG),(2,pt gC),(26,.int .i64 ((i - c:Nat):Int)),(27,.int .i64 (k:Int))]) (fun _=>[⟨gV,46,[.slice (some ⟨bA,oA,none⟩) i cV]⟩,⟨gG,26,yI p q g h⟩,⟨gC,3,[.int .i64 (c:Int)]⟩]) (fun k=>(i - c) - k) 0 (fun k hk=>?_) ⟨Nat.zero_le _,fun h=>absurd h Dtt,fun j hj=>absurd hj (Nat.not_lt_zero _)⟩
  try dsimp only at hk ⊢
  obtain⟨hk,hall,hpr⟩:=hk
  by_cases hlt:k<i - c
  ·have hadd2:IntKind.i64.wrap ((k:Int)+1)=((k+1:Nat):Int):=zl Om Om Om
   repeat (first|refine Tk ?_|intro _|exact Tz)
   refine WC.dT rfl Om ?_
   repeat (first|refine WO.does (zi rfl rfl hadd2) ?_|refine Tj ?_|intro _|(refine WO.makes (yp (l:=k+1) (c:=k+1) rfl rfl (Nat.le_refl _) Om Om) ?_;intro _)|refine WO.acall (hc:=hOf) (k:=?_)|refine Tc ?_|exact Tz)
   rename_i gP;refine WO.stores (zo (vs:=zc (ofZ q 1)) (cs':=(pkN q k).flatMap zc) (hc:=aa0) (hle:=ad2)) ?_;have hW:=agE p q g h (pkN q k) i gP (k+1) hn1 hn7 hnq hq (abq Om Om) (fun a ha=>Nat.lt_trans (acI h0q a ha) hq) (by rw[eG];omega);rw[eG] at hW
   repeat (first|refine Tk ?_|intro _|exact Tz)
   refine WO.calls (fs:=[]) (cs:=[]) hW rfl rfl rfl (fun w1 hm=>?_) (fun u N hu=>?_)
   ·have hs:Seg w1 gP 0 ((pkN q k).flatMap zc):=Hs.sg hm;exact⟨hs,RdF.lt (f:=zc) (k:=3) (fun _=>rfl) (RdF.ownD (c:=0) hs rfl) (by unfold pkN;simp)⟩
   rcases hu with ⟨hal,gW,rfl,rfl⟩|⟨hal,rfl,rfl⟩
   ·try dsimp only[List.cons_append,List.nil_append]
    have hm0:=sH 0;have hPd:=pu p q g h hp h1p V (dwL q i (pkN q k)) hV (fun v hv=>Nat.lt_trans (afi h0q v hv) hq) (by rw[bJ,hVn]) (by rintro rfl;rw[← hVn] at hn1;exact absurd hn1 Dtt) (some ⟨bA,oA,none⟩) (some ⟨gW,0,none⟩) cV i Om;rw[hVn] at hPd;have hRl:=Nat.lt_trans (ab2 (zs:=V) (ws:=dwL q i (pkN q k)) h1p) hp;generalize hR:prD p V (dwL q i (pkN q k))=R at hPd hRl;have hmR:=sH R
    repeat (first|refine Tj ?_|intro _|refine WO.acall (hc:=hm0) (k:=?_)|refine Tc ?_|exact Tz)
    refine WC.adraw 10 (k:=?_)
    iterate 3 refine Dx ?_
    refine DQ.acallM (hc:=hPd) (hR:=fun w1 hm=>⟨RdF.ownD (hsA.mod hm.mod hbA) hVn,RdF.ownD (Hs.sg hm) bJ⟩) (k:=?_)
    iterate 2 refine Dx ?_
    refine DQ.acallM (hc:=hmR) (hR:=fun _ _=>trivial) (k:=?_);refine Dx ?_;refine DQ.acallM (hc:=hOf) (hR:=fun _ _=>trivial) (k:=?_);refine Dx ?_;refine DQ.anil (k:=?_);intro sx _
    by_cases hRe:R=ofZ q 1
    ·repeat (first|refine Tk ?_|intro _|exact Tz)
     refine WC.dF rfl (by simpa using hRe) ?_
     repeat (first|refine WO.does (zi rfl rfl hadd2) ?_|refine Tj ?_|intro _|refine Tc ?_|exact Tz)
     exact WX.metI (k+1) (hs:=⟨⟨by omega,fun _=>hal,fun j hj=>by
      by_cases hjk:j=k
      ·subst hjk;rw[hR];exact hRe
      ·exact hpr j Om⟩,by show i - c - (k+1)<i - c - k;omega⟩)
    ·have hbad:duB p q i c V=false:=by
      unfold duB;rw[decide_eq_false Om,Bool.false_or,Bool.and_eq_false_iff];right;rw[List.all_eq_false];exact⟨k,List.mem_range.2 hlt,by rw[hR];simpa using hRe⟩
     repeat (first|refine Tk ?_|intro _|exact Tz)
     refine WC.dT rfl (by simpa using hRe) ?_
     repeat (first|refine WO.does (vG tP rfl) ?_|refine Tj ?_|intro _|refine Tc ?_|exact Tz)
     refine WO.panics rfl ?_
     repeat (first|refine WX.pseq ?_|refine WX.pblk ?_)
     exact WX.pfn [] Lle.nil (.inr ⟨hbad,0,rfl⟩)
   ·try dsimp only[List.cons_append,List.nil_append]
    have hbad:duB p q i c V=false:=by
     unfold duB;rw[decide_eq_false Om,hal];rfl
    repeat (first|refine Tk ?_|intro _|exact Tz)
    refine WO.callsEV (fs:=[]) (cs:=[]) (M:=[]) (hc:=f9 0 7 Dtt) rfl rfl rfl (.refl _) (fun _ _=>trivial) (fun v N hq=>by cases hq) (fun ch N hq=>?_);cases hq
    repeat (first|refine WX.pseq ?_|refine WX.pblk ?_)
    exact WX.pfn [] Lle.nil (.inr ⟨hbad,7,rfl⟩)
  ·have hkc:k=i - c:=by omega
   have hgood:duB p q i c V=true:=by
    unfold duB
    by_cases hic:i≤c
    ·rw[decide_eq_true hic,Bool.true_or]
    ·rw[hall Om,Bool.true_and,Bool.or_eq_true];right;rw[List.all_eq_true];intro j hj;have:=hpr j (by rw[hkc];exact List.mem_range.1 hj);simpa using this
   repeat (first|refine Tk ?_|intro _|exact Tz)
   refine WC.dF rfl Om ?_
   repeat (first|refine Tk ?_|intro _|exact Tz)
   refine WX.un (fun a w2 h1 h2 h3 h4=>?_);exact⟨h1,.tuple #[],results_none rfl _ _ _,(by intro e;cases e),_,h4,.inl ⟨hgood,_,rfl⟩⟩
theorem aa6:∀ e N,CkP p q V n c e N→(∃ v,e=.returned v)∨(∃ k,e=.panicked [{ v:=tf k,recovered:=false }]):=fun e N h=>by
 rcases h with ⟨_,h⟩|⟨_,h⟩
 ·exact .inl h
 ·exact .inr h
def CkA (b:Bool):Value→List Ent→Prop:=fun v N=>∃ e:Int,v=.tuple #[.bool b,.int .i64 e]∧(b=true→e=0)∧N=[]
theorem abm (hVn:V.length=n) (hn1:1≤n) (hn7:n≤7) (hc1:1≤c) (hcn:c≤n) (hnq:n<q) (hq:q<ze) (hp:p<ze) (h1p:1<p) (hV:ad6 p V) :
  Fn Tryz.prog 83 [vV p q g h,.slice (some ⟨bA,oA,none⟩) n cV,.int .i64 (c:Int)] (fun w=>Seg w bA oA (V.flatMap zc)∧bA<w.heap.size) (CkA (duB p q n c V)):=by
 have hSt:=fun gV gG gC=>nT (abf p q g h V n cV c bA oA gV gG gC hVn hn1 hn7 hc1 hcn hnq hq hp h1p hV) (fun w w' hR hm=>⟨hR.1.mod hm hR.2.2,Nat.lt_of_lt_of_le hR.2.1 hm.size,hR.2.2⟩) (aa6 p q V n c);refine Fn.enter Tryz.func83 rfl rfl rfl ?_;intro w hw;obtain⟨hwS,hwl⟩:=hw
 repeat (first|refine WO.does (z7 rfl rfl Om) ?_|refine WO.does (yn rfl rfl Om) ?_|refine WO.does (zH rfl rfl) ?_|refine Tj ?_|intro _|refine Tc ?_|exact Tz)
 rename_i gG gV gC;refine WO.mine (fun hmn=>?_);have hnot:bA ∉ [gV,gG,gC]:=by
  intro hm;have key:∀ k∈[gV,gG,gC],w.heap.size≤k:=by
   intro k hk;simp only[List.mem_cons,List.not_mem_nil,or_false] at hk
   rcases hk with rfl|rfl|rfl<;>exact (hmn ⟨_,_,_⟩ (Hs.mem Hs.a)).resolve_right Sm
  have:=key bA hm;omega
 clear hmn;refine WO.callsL (hc:=hSt gV gG gC) (hp:=.cons Pk.a (.cons Pk.a (.cons Pk.a .nil))) (fun w' hm=>⟨hwS.mod hm.mod Sm,Nat.lt_of_lt_of_le hwl hm.mod.size,hnot⟩) (fun v N hv=>?_)
 rcases hv with ⟨rfl,u,hu⟩|⟨k,rfl,hu⟩
 ·obtain hall:duB p q n c V=true:=by
   rcases hu with ⟨h1,_⟩|⟨_,_,h2⟩
   ·exact h1
   ·cases h2
  rw[hall]
  repeat (first|refine WO.does (zO rfl rfl rfl) ?_|refine Tj ?_|intro _|refine Tc ?_|exact Tz)
  exact WX.ret2 rfl Rv.t Rv.t [] Lle.nil ⟨0,rfl,fun _=>rfl,rfl⟩
 ·obtain hall:duB p q n c V=false:=by
   rcases hu with ⟨_,_,h2⟩|⟨h1,_⟩
   ·cases h2
   ·exact h1
  rw[hall]
  repeat (first|refine WO.does (zR rfl rfl Dtt) ?_|refine Tj ?_|intro _|refine Tc ?_|exact Tz)
  exact WX.ret2 rfl Rv.t Rv.t [] Lle.nil ⟨k,rfl,(fun h=>by cases h),rfl⟩
end
end Sx
end
section
open Go Go.RowKit Go.BigFrame
namespace Sx
theorem jm (a b:Nat):Tryz.prog.keyLits 3 49 (vC a b)=some [.int .u64 ((wd 0 a:Nat):Int),.int .u64 ((wd 1 a:Nat):Int),.int .u64 ((wd 2 a:Nat):Int),.int .u64 ((wd 3 a:Nat):Int),.int .u64 ((wd 0 b:Nat):Int),.int .u64 ((wd 1 b:Nat):Int),.int .u64 ((wd 2 b:Nat):Int),.int .u64 ((wd 3 b:Nat):Int)]:=by
 have c1:Tryz.prog.cellsOf 49=8:=Kr
 have c2:Tryz.prog.cellsOf 24=4:=Kr
 have k1:=pZ a;have k2:=pZ b;unfold Program.keyLits;simp[Tryz.underlying49,c1,c2,zc] at k1 k2 ⊢;simp[k1,k2]
theorem aF {a b c:Nat} (ha:a<ze) (hb:b<ze) (w:World):(Op.equalIn 10000 49 (.agg (vC a c).toArray) (.agg (vC b c).toArray)).run Tryz.prog w=.ok (decide (a=b)) w:=by
 obtain⟨r,hr,hiff⟩:=run_equalIn_deep (P:=Tryz.prog) 9997 3 49 Kr w 3 3 (.agg (vC a c).toArray) (.agg (vC b c).toArray) _ _ Kr Kr (jm a c) (jm b c);have e:r=decide (a=b):=by
  rw[Bool.eq_iff_iff,hiff];simp only[decide_eq_true_eq,List.cons.injEq,Lit.int.injEq,true_and,and_true,Int.ofNat_inj];constructor
  ·rintro ⟨h0,h1,h2,h3⟩;exact abZ ha hb h0 h1 h2 h3
  ·rintro rfl;exact⟨rfl,rfl,rfl,rfl⟩
 rw[hr,e]
theorem aT:over (zc 0) (0*1) (cellsOf (Value.int .u64 1))=zc 1:=Kr
section
attribute [local irreducible] wd
variable {w0:World} {gs:LN} {K:List (Nat × Value)} {L:List Ent}
theorem abC {x y:Operand} {yt ty:TypeId} {a b c:Nat} (hx:ev K x=some (.agg (vC a c).toArray)) (hy:ev K y=some (.agg (vC b c).toArray)) (ha:a<ze) (hb:b<ze) :
  Does Tryz.prog w0 gs K L (.binOp .eql 49 x y yt) ty (.bool (decide (a=b))):=by
 intro ac w hk _ o ho _;simp only[execOp,ho,hk.eval hx,hk.eval hy,Sem.run_bind,eO,Result.andThen_ok,run_eql_struct,aF ha hb,Sem.run_pure]
theorem lY {x y:Operand} {yt ty:TypeId} {a:Nat} {r:Bool} (hx:ev K x=some (zk a)) (hy:ev K y=some (.agg (over (zc 0) (0*1) (cellsOf (Value.int .u64 1))).toArray)) (ha:a<ze) (hr:decide (a=1)=r) :
  Does Tryz.prog w0 gs K L (.binOp .eql 24 x y yt) ty (.bool r):=zB hx (by rw[hy,aT]) ha y8 hr
end
attribute [local irreducible] wd DQ WO WC WX WI
def rX (p q g key C S:Nat) (H:LN):Bool:=gIn p q key && !decide (key=1) && ([C,S].all fun x=>zP x x q) && decide (C=eo q key (prD p [g,key] [S,(0+q - C)%q]) H)
section
variable (p q g h:Nat)
theorem qO (key C S:Nat) (H:LN) (hp:p<ze) (hq:q<ze) (hg:g<ze) (hk:key<ze) (hC:C<ze) (hS:S<ze) (hH:∀ b∈H,b<256) (hl:H.length=32) (hgm:yB p g=true) :
  Fn Tryz.prog 87 [vV p q g h,zk key,.agg (byC H).toArray,.agg (vC C S).toArray] Tr (Is (.bool (rX p q g key C S H))):=by
 have hI:=r9 p q g h key hk hp hq;have hX:=fun b=>eZ p q g h [C,S] (some ⟨b,0,none⟩) 2 (by intro a ha;simp only[List.mem_cons,List.not_mem_nil,or_false] at ha;rcases ha with rfl|rfl<;>assumption) (by show 2≤1099511627776;omega) hq;have hbH:(byC H).length=32:=by rw[zd,hl]
 cases e1:gIn p q key with
 | false =>
  rw[e1] at hI;rw[show rX p q g key C S H=false by unfold rX;rw[e1];rfl];refine Fn.enter Tryz.func87 rfl rfl rfl ?_;intro w hw
  repeat (first|refine Tj ?_|intro _|refine WO.acall (hc:=hI) (k:=?_)|refine Tc ?_|exact Tz)
  done
 | true =>
 rw[e1] at hI;cases e2:decide (key=1) with
 | true =>
  rw[show rX p q g key C S H=false by unfold rX;rw[e1,e2];rfl];refine Fn.enter Tryz.func87 rfl rfl rfl ?_;intro w hw
  repeat (first|refine Tj ?_|intro _|refine WO.acall (hc:=hI) (k:=?_)|refine WO.does (lY rfl rfl hk e2) ?_|refine Tc ?_|exact Tz)
  done
 | false =>
 cases e3:([C,S].all fun x=>zP x x q) with
 | false =>
  rw[e3] at hX;rw[show rX p q g key C S H=false by unfold rX;rw[e1,e2,e3];rfl];refine Fn.enter Tryz.func87 rfl rfl rfl ?_;intro w hw
  repeat (first|refine Tj ?_|intro _|refine WO.acall (hc:=hI) (k:=?_)|refine WO.does (lY rfl rfl hk e2) ?_|(refine WO.makes (zh (cs:=zc C++zc S) rfl Dtt rfl) ?_;intro _)|refine WO.acallR (hc:=hX _) (hR:=fun w1 hm=>RdF.seg (f:=zc) (xs:=[C,S]) (r:=[]) (Hs.sg hm)) (k:=?_)|refine Tc ?_|exact Tz)
  done
 | true =>
 rw[e3] at hX;have e4:zP C C q=true∧zP S S q=true:=by simpa using e3
 obtain⟨hq1,hCq,_⟩:=zQ e4.1;have hU:=acl p q g h 0 C zE hC hq;rw[show zP 0 C q=true by simp[zP,hq1,hCq];omega] at hU;have hBq:(0+q - C)%q<q:=Nat.mod_lt _ Om;rw[show rX p q g key C S H=decide (C=eo q key (prD p [g,key] [S,(0+q - C)%q]) H) by unfold rX;rw[e1,e2,e3];rfl];have h1p:1<p:=(y7 hgm).1;have hPd:=fun b1 b2=>pu p q g h hp h1p [g,key] [S,(0+q - C)%q] ⟨by simp;exact⟨hg,hk⟩,by simp;exact⟨hgm,vj e1⟩⟩ (by rintro v hv;simp only[List.mem_cons,List.not_mem_nil,or_false] at hv;rcases hv with h|h<;>rw[h]<;>first|exact hS|exact Nat.lt_trans hBq hq) rfl Sm (some ⟨b1,0,none⟩) (some ⟨b2,0,none⟩) 2 2 Sm;have hRl:=Nat.lt_trans (ab2 (zs:=[g,key]) (ws:=[S,(0+q - C)%q]) h1p) hp;generalize prD p [g,key] [S,(0+q - C)%q]=R at *;generalize (0+q - C)%q=B at *;have hCh:=fun gG gK gH=>jz p q g h key R gG gK gH H hq Om hH hl;have hcl:eo q key R H<ze:=Nat.lt_trans (vX Om _ _) hq;have hSg:=dh p q g h key H hl;generalize eo q key R H=c at *;refine Fn.enter Tryz.func87 rfl rfl rfl ?_;intro w hw
 repeat (first|refine Tj ?_|intro _|refine WO.acall (hc:=hI) (k:=?_)|refine WO.does (lY rfl rfl hk e2) ?_|(refine WO.makes (zh (cs:=zc C++zc S) rfl Dtt rfl) ?_;intro _)|refine WO.acallR (hc:=hX _) (hR:=fun w1 hm=>RdF.seg (f:=zc) (xs:=[C,S]) (r:=[]) (Hs.sg hm)) (k:=?_)|refine WO.acall (hc:=hU) (k:=?_)|(refine WO.makes (zh (cs:=zc g++zc key) rfl Dtt rfl) ?_;intro _)|(refine WO.makes (zh (cs:=zc S++zc B) rfl Dtt rfl) ?_;intro _)|refine WO.acallR (hc:=hPd _ _) (hR:=fun w1 hm=>⟨RdF.seg (f:=zc) (xs:=[g,key]) (r:=[]) (Hs.sg hm),RdF.seg (f:=zc) (xs:=[S,B]) (r:=[]) (Hs.sg hm)⟩) (k:=?_)|refine Tc ?_|exact Tz)
 refine WC.adraw 16 (k:=?_)
 iterate 6 refine Dx ?_
 refine DQ.does (fun s _=>zw (vs:=byC H) (hc:=zt hbH) (hl:=hbH)) Dp.const ?_
 refine DQ.callsE (fs:=fun _=>[]) (cs:=fun _=>[]) (R:=fun _=>Tr) (vf:=fun _ x=>.func (.func 203) #[] #[pt (x 0),pt (x 1),pt (x 2)]) (Nf:=fun _ x=>[⟨x 2,70,byC H⟩,⟨x 1,24,zc key⟩,⟨x 0,26,yI p q g h⟩]) (S:=fun _ _=>True) (fun _=>[]) (fun _=>.nil)
  (fun _=>⟨fun _=>0,trivial⟩) (fun _ _=>hSg) (fun _=>rfl) (fun _=>rfl) (fun _=>rfl) (fun _ _ w hm=>trivial) Dp.const Dp.const Dp.const ?_
 try dsimp only[List.map_cons,List.map_nil,List.cons_append,List.nil_append]
 refine Dx ?_
 refine DQ.callsE (fs:=fun _=>[]) (cs:=fun s=>[pt (s 7 0),pt (s 7 1),pt (s 7 2)]) (R:=fun s w=>Seg w (s 7 0) 0 (yI p q g h)∧Seg w (s 7 1) 0 (zc key)∧Seg w (s 7 2) 0 (byC H)) (vf:=fun _ _=>zk c) (Nf:=fun _ _=>[]) (S:=fun _ _=>True) (fun s=>[⟨s 7 2,70,byC H⟩,⟨s 7 1,24,zc key⟩,⟨s 7 0,26,yI p q g h⟩])
  (fun s=>.cons 7 Mh.a Dkk (.cons 7 Mh.a Dkk (.cons 7 Mh.a Dkk .nil)))
  (fun _=>⟨fun _=>0,trivial⟩) (fun s _=>(hCh (s 7 0) (s 7 1) (s 7 2)).ex) (fun _=>rfl) (fun _=>rfl) (fun _=>rfl) (fun s _ w hm=>⟨Hs.seg (.there (.there .here)) hm,Hs.seg (.there .here) hm,Hs.seg .here hm⟩) Dp.const Dp.const Dp.const ?_
 try dsimp only[List.map_cons,List.map_nil,List.cons_append,List.nil_append]
 iterate 3 refine Dx ?_
 refine DQ.does (fun s _=>abC (a:=C) (b:=c) (c:=S) rfl rfl hC hcl) Dp.const ?_
 iterate 2 refine Dx ?_
 refine DQ.anil (k:=?_);intro sx _
 repeat (first|refine Tk ?_|intro _|exact Tz)
 done
end
end Sx
end
section
open Go Go.RowKit Go.BigFrame
namespace Sx
theorem eu {n d:Nat} (h2:2≤n) (hd:n<d*d) (h:∀ e,2≤e→e<d→n%e≠0):Pri n:=by
 refine⟨by omega,fun m h0 hm=>?_⟩;have hgn:Nat.gcd m n ∣ n:=Nat.gcd_dvd_right m n;have hgm:Nat.gcd m n≤m:=Nat.le_of_dvd h0 (Nat.gcd_dvd_left m n);have hg0:0<Nat.gcd m n:=Nat.gcd_pos_of_pos_left n h0;generalize Nat.gcd m n=g at *
 rcases Nat.lt_or_ge 1 g with hg|hg
 ·exfalso;obtain⟨k,rfl⟩:=hgn;have hk:1<k:=by
   rcases Nat.lt_or_ge 1 k with h1|h1
   ·exact h1
   ·have:g*k≤g*1:=Nat.mul_le_mul_left g h1;omega
  rcases Nat.lt_or_ge g d with h1|h1
  ·exact h g Om h1 (Nat.mul_mod_right g k)
  ·rcases Nat.lt_or_ge k d with h3|h3
   ·exact h k Om h3 (Nat.mul_mod_left g k)
   ·have:=Nat.mul_le_mul h1 h3;omega
 ·omega
end Sx
end
section
open Go Go.RowKit Go.BigFrame
namespace Sx
attribute [local irreducible] DQ WC WO WX wd
end Sx
end
end Go.Proofs.YtiaibpcaloigkaaGreatDoor
