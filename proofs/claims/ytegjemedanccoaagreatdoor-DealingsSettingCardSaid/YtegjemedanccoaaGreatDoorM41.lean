/- Part 41 of the proof. -/
import Derived.Test.YtegjemedanccoaaGreatDoorM40
set_option linter.unusedSimpArgs false
set_option linter.unusedVariables false
namespace Go.Proofs.YtegjemedanccoaaGreatDoor
section
open Go Go.RowKit Go.BigFrame
namespace Sx
attribute [local irreducible] DQ DQS WC WO WX wd
def pwL {p:Nat}:(l:List (Nat × Nat))→(∀ x∈l,x.1<zc∧x.2<zc∧yC p x.1=true)→List (PwT p)
 | [],_=>[]
 | x::r,h=>⟨x,h x (List.mem_cons_self ..)⟩::pwL r (fun y hy=>h y (List.mem_cons_of_mem _ hy))
theorem oa {p:Nat}:∀ (l:List (Nat × Nat)) (h:∀ x∈l,x.1<zc∧x.2<zc∧yC p x.1=true),(pwL l h).map (fun x=>x.1)=l
 | [],_=>rfl
 | x::r,h=>by rw[pwL,List.map_cons,oa r]
def prD (p:Nat) (zs ws:List Nat):Nat:=(zs.zip ws).foldl (fun r x=>r*(x.1 ^ x.2%p)%p) 1
theorem iW {p:Nat} (zs ws:List Nat) (h):vU p (pwL (zs.zip ws) h)=prD p zs ws:=by
 unfold vU prD;rw[← List.foldl_map (f:=fun x:PwT p=>x.1) (g:=fun r x=>r*(x.1 ^ x.2%p)%p),oa]
theorem af {p:Nat} {zs ws:List Nat} (h1:1<p):prD p zs ws<p:=by
 unfold prD
 rcases List.eq_nil_or_concat (zs.zip ws) with e|⟨l,x,e⟩
 ·rw[e];exact h1
 ·rw[e,List.concat_eq_append,List.foldl_append];exact Nat.mod_lt _ (by omega)
theorem abX {p:Nat} (l:List (Nat × Nat)) (h):(pwL (p:=p) l h).length=l.length:=by
 have:=congrArg List.length (oa (p:=p) l h);rwa [List.length_map] at this
structure aaB (p:Nat) (zs:List Nat):Prop where
 lt:∀ z∈zs,z<zc
 may:∀ z∈zs,yC p z=true
theorem aaB.zip {p:Nat} {zs ws:List Nat} (h:aaB p zs) (hw:∀ v∈ws,v<zc):∀ x∈zs.zip ws,x.1<zc∧x.2<zc∧yC p x.1=true:=fun x hx=>by
 obtain⟨a,b⟩:=x;have:=List.of_mem_zip hx;exact⟨h.lt _ this.1,hw _ this.2,h.may _ this.1⟩
section
variable (p q g h:Nat)
theorem qJ (hp:p<zc) (h1:1<p) (zs ws:List Nat) (hz:aaB p zs) (hw:∀ v∈ws,v<zc) (hl:ws.length=zs.length) (hne:zs≠[]) (pa pn:Option Addr) (cA cN:Nat) (hn:zs.length≤100) :
  Fn Tryz.prog 93 [yh p q g h,.slice pa zs.length cA,.slice pn zs.length cN]
   (fun w=>RdF zb (.slice pa zs.length cA) zs w∧RdF zb (.slice pn zs.length cN) ws w) (Is (.tuple #[ze (prD p zs ws),.int .i64 0])):=by
 intro w ⟨hA,hN⟩;have hwne:ws≠[]:=fun e=>hne (List.length_eq_zero_iff.1 (by rw[← hl,e];rfl));obtain⟨a0,ha0⟩ : ∃ y,zs[0]?=some y:=⟨_,List.getElem?_eq_getElem (List.length_pos_iff.2 hne)⟩;obtain⟨b0,hb0⟩ : ∃ y,ws[0]?=some y:=⟨_,List.getElem?_eq_getElem (List.length_pos_iff.2 hwne)⟩;obtain⟨bA,oA,e1,_,hsA⟩:=hA.get ha0;obtain⟨bN,oN,e2,_,hsN⟩:=hN.get hb0;subst e1 e2;have hxl:(pwL (p:=p) (zs.zip ws) (hz.zip hw)).length=zs.length:=by rw[abX,List.length_zip];omega
 have hP:=oT p q g h hp h1 (pwL (zs.zip ws) (hz.zip hw)) bA oA bN oN cA cN (by omega);rw[iW,hxl] at hP;have hm:=oa (p:=p) (zs.zip ws) (hz.zip hw);have f1:(pwL (p:=p) (zs.zip ws) (hz.zip hw)).map (fun x=>x.1.1)=zs:=by
  have:=congrArg (List.map Prod.fst) hm;rw[List.map_map,List.map_fst_zip (by omega)] at this;exact this
 have f2:(pwL (p:=p) (zs.zip ws) (hz.zip hw)).map (fun x=>x.1.2)=ws:=by
  have:=congrArg (List.map Prod.snd) hm;rw[List.map_map,List.map_snd_zip (by omega)] at this;exact this
 refine hP w ⟨RdF.lt (k:=3) (fun _=>rfl) hA hne,RdF.lt (k:=3) (fun _=>rfl) hN hwne,fun k x hx=>?_,fun k x hx=>?_⟩
 ·have:zs[k]?=some x.1.1:=by
   have e:=congrArg (fun l=>l[k]?) f1;simp only[List.getElem?_map,hx] at e;exact e.symm
  have hc:=vR (f:=zb) (k:=4) (fun _=>rfl) this;exact hsA.sub hc
 ·have:ws[k]?=some x.1.2:=by
   have e:=congrArg (fun l=>l[k]?) f2;simp only[List.getElem?_map,hx] at e;exact e.symm
  have hc:=vR (f:=zb) (k:=4) (fun _=>rfl) this;exact hsN.sub hc
end
end Sx
end
section
open Go Go.RowKit Go.BigFrame
namespace Sx
def dOf (q i k:Nat):Nat:=ofZ q ((i:Int) - (k:Int))
def oth (n i:Nat):List Nat:=((List.range n).map (· + 1)).filter (fun k=>decide (k≠i))
def dwF (q i w k:Nat):Nat:=w*uy (dOf q i k) q%q
def dwG (q i:Nat) (l:List Nat):Bool:=l.all fun k=>decide (Nat.gcd (dOf q i k) q=1)
def dw (q n:Nat) (p:List Nat) (i:Nat):Nat:=(oth n i).foldl (dwF q i) (z7 p (ofZ q (i:Int))%q)
def dwL (q n:Nat) (p:List Nat):List Nat:=(List.range n).map fun j=>dw q n p (j+1)
def oI (q n:Nat):Bool:=(List.range n).all fun j=>dwG q (j+1) (oth n (j+1))
def pkN (q k:Nat):List Nat:=List.replicate k 0++[ofZ q 1]
def duB (p q n c:Nat) (V:List Nat):Bool:=decide (n≤c) || (oI q n && (List.range (n - c)).all fun k=>decide (prD p V (dwL q n (pkN q k))=ofZ q 1))
theorem kK {q:Nat} (z:Int) (h:0<q):ofZ q z<q:=by
 unfold ofZ;split
 ·omega
 ·have h1:=Int.emod_lt_of_pos z (by omega:(0:Int)<(q:Int));have h2:=Int.emod_nonneg z (by omega:(q:Int)≠0);omega
theorem av {q i k:Nat} (h:0<q):dOf q i k<q:=kK _ h
theorem pZ {q m:Nat} (h:2≤q) (hm:m<q):ofZ q (m:Int)=m:=by
 unfold ofZ;rw[if_neg (by omega),Int.emod_eq_of_lt (by omega) (by omega)];omega
theorem aas {q m:Nat} (h:2≤q) (h0:0<m) (hm:m<q):ofZ q (-(m:Int))=q - m:=by
 unfold ofZ;rw[if_neg (by omega)];have:(-(m:Int))%(q:Int)=((q - m:Nat):Int):=by
  rw[← Int.add_emod_right,show -(m:Int)+(q:Int)=((q - m:Nat):Int) by omega];exact Int.emod_eq_of_lt (by omega) (by omega)
 rw[this];omega
theorem ab7 {q i k:Nat} (h:2≤q) (hk:k≤i) (hi:i<q):dOf q i k=i - k:=by
 unfold dOf;rw[show (i:Int) - (k:Int)=((i - k:Nat):Int) by omega];exact pZ h (by omega)
theorem kI {q i k:Nat} (h:2≤q) (hk:i<k) (hi:k - i<q):dOf q i k=q - (k - i):=by
 unfold dOf;rw[show (i:Int) - (k:Int) = -((k - i:Nat):Int) by omega];exact aas h (by omega) hi
theorem mO {n i k:Nat}:k∈oth n i↔1≤k∧k≤n∧k≠i:=by
 unfold oth;simp only[List.mem_filter,List.mem_map,List.mem_range,decide_eq_true_eq];constructor
 ·rintro ⟨⟨a,h,rfl⟩,h2⟩;exact⟨by omega,by omega,h2⟩
 ·rintro ⟨h1,h2,h3⟩;exact⟨⟨k - 1,by omega,by omega⟩,h3⟩
def fZ (m i:Nat):List Nat:=((List.range m).map (· + 1)).filter (fun k=>decide (k≠i))
theorem lE {n i:Nat}:fZ n i=oth n i:=rfl
theorem tH {m i:Nat}:fZ (m+1) i=fZ m i++(if m+1=i then [] else [m+1]):=by
 unfold fZ;rw[List.range_succ,List.map_append,List.filter_append];congr 1
 by_cases h:m+1=i<;>simp[h]
theorem fj {i m n:Nat} (h:m≤n):(fZ m i).length≤(fZ n i).length:=by
 induction h with
 | refl=>exact Nat.le_refl _
 | step _ ih=>rw[tH,List.length_append];omega
theorem aau {i m n:Nat} (h:m<n) (hi:m+1≠i):(fZ m i).length<(oth n i).length:=by
 have:=fj (i:=i) (show m+1≤n from h);rw[tH,if_neg hi,List.length_append] at this;rw[← lE];exact this
theorem ada {q n i:Nat} {p:List Nat} (h:0<q):dw q n p i<q:=by
 unfold dw;have key:∀ (l:List Nat) (w:Nat),w<q→l.foldl (dwF q i) w<q:=by
  intro l
  induction l with
  | nil=>exact fun w hw=>hw
  | cons a r ih=>exact fun w _=>ih _ (Nat.mod_lt _ h)
 exact key _ _ (Nat.mod_lt _ h)
theorem aaE {q i w:Nat} (l:List Nat) (h:w<q):l.foldl (dwF q i) w<q:=by
 induction l generalizing w with
 | nil=>exact h
 | cons a r ih=>exact ih (Nat.mod_lt _ (by omega))
theorem fk {q i w k:Nat} {l:List Nat}:(l++[k]).foldl (dwF q i) w=l.foldl (dwF q i) w*uy (dOf q i k) q%q:=by rw[List.foldl_append];rfl
theorem im {q n:Nat} {p:List Nat}:(dwL q n p).length=n:=by simp[dwL]
theorem abQ {q n:Nat} {p:List Nat} (h:0<q):∀ v∈dwL q n p,v<q:=fun v hv=>by
 unfold dwL at hv;obtain⟨j,_,rfl⟩:=List.mem_map.1 hv;exact ada h
theorem fg {q k:Nat}:(pkN q k).length=k+1:=by simp[pkN]
theorem am {q k:Nat} (h:0<q):∀ a∈pkN q k,a<q:=fun a ha=>by
 unfold pkN at ha;rw[List.mem_append] at ha
 rcases ha with ha|ha
 ·rw[List.eq_of_mem_replicate ha];exact h
 ·rw[List.mem_singleton] at ha;subst ha;exact kK _ h
def Pri (q:Nat):Prop:=1<q∧∀ m,0<m→m<q→Nat.gcd m q=1
theorem bf (a m p:Nat):(a%p) ^ m%p=a ^ m%p:=(Nat.pow_mod a m p).symm
theorem uj (a m k p:Nat):(a ^ m%p) ^ k%p=a ^ (m*k)%p:=by rw[bf,← Nat.pow_mul]
theorem vZ (a m k p:Nat):a ^ m%p*(a ^ k%p)%p=a ^ (m+k)%p:=by rw[← Nat.mul_mod,← Nat.pow_add]
theorem uW {p q a:Nat} (h:gIn p q a=true):(1<p∧a≠0∧a<p)∧a ^ q%p=1:=by
 unfold gIn at h;simp only[Bool.and_eq_true,decide_eq_true_eq] at h;exact⟨yI h.1,h.2⟩
theorem mS {p q a:Nat} (h:gIn p q a=true) (m:Nat):a ^ m%p=a ^ (m%q)%p:=by
 obtain⟨⟨h1,_,_⟩,h2⟩:=uW h;have e:a ^ m=(a ^ q) ^ (m / q)*a ^ (m%q):=by rw[← Nat.pow_mul,← Nat.pow_add,Nat.div_add_mod]
 rw[e,Nat.mul_mod,Nat.pow_mod,h2,Nat.one_pow,Nat.mod_eq_of_lt h1,Nat.one_mul,Nat.mod_mod]
theorem eE {p q a m k:Nat} (h:gIn p q a=true) (e:m%q=k%q):a ^ m%p=a ^ k%p:=by rw[mS h m,mS h k,e]
theorem fC {p a:Nat} (h1:1<p) (h2:a≠0) (h3:a<p):yC p a=true:=by
 unfold yC;simp[h1,h2,h3]
theorem pT {p q a:Nat} (h:gIn p q a=true) (hq:0<q) (m:Nat):gIn p q (a ^ m%p)=true:=by
 obtain⟨⟨h1,_,_⟩,h2⟩:=uW h;have e:(a ^ m%p) ^ q%p=1:=by
  rw[uj,Nat.mul_comm,Nat.pow_mul,Nat.pow_mod,h2,Nat.one_pow,Nat.mod_eq_of_lt h1]
 have h0:a ^ m%p≠0:=by
  intro h0;rw[h0,Nat.zero_pow hq] at e;simp at e
 unfold gIn;rw[fC h1 h0 (Nat.mod_lt _ (by omega)),e];rfl
theorem jb {p q a:Nat} (h:gIn p q a=true) (n:Nat):exN p a n=a ^ n%p:=by
 obtain⟨⟨h1,h2,h3⟩,_⟩:=uW h;unfold exN;rw[fC h1 h2 h3];rfl
def dz:List Nat→List Nat→Nat
 | a::r,b::s=>a*b+dz r s
 | _,_=>0
theorem k8 {p g:Nat} (h1:1<p):∀ (es ws:List Nat) (m:Nat),(es.length=ws.length) →
  ((es.map fun e=>g ^ e%p).zip ws).foldl (fun r x=>r*(x.1 ^ x.2%p)%p) (g ^ m%p)=g ^ (m+dz es ws)%p
 | [],_,m,_=>by simp[dz]
 | e::es,[],m,h=>by simp at h
 | e::es,w::ws,m,h=>by
  simp only[List.map_cons,List.zip_cons_cons,List.foldl_cons,dz];rw[uj,vZ,k8 h1 es ws (m+e*w) (by simpa using h),Nat.add_assoc]
theorem aa9 {p g:Nat} (h1:1<p) {es ws:List Nat} (h:es.length=ws.length):prD p (es.map fun e=>g ^ e%p) ws=g ^ dz es ws%p:=by
 have:=k8 (g:=g) h1 es ws 0 h;rw[Nat.pow_zero,Nat.mod_eq_of_lt h1,Nat.zero_add] at this;exact this
theorem kx (f g:Nat→Nat):∀ l:List Nat,((dz (l.map f) (l.map g):Nat):Int)=(l.map fun i=>(f i:Int)*(g i:Int)).sum
 | []=>rfl
 | a::r=>by
  simp only[List.map_cons,dz,List.sum_cons];have:=kx f g r;push_cast;omega
theorem dQ {q r x c:Nat} (hc:c<q) (hr:r<q):((r+x*c%q)%q+x*((0+q - c)%q))%q=r%q:=by
 have h0:(0+q - c)=q - c:=by omega
 rw[h0,Nat.add_mod_mod,Nat.mod_add_mod,← Nat.add_mod_mod,Nat.mul_mod_mod,Nat.add_mod_mod];have:r+x*c+x*(q - c)=r+x*q:=by rw[Nat.add_assoc,← Nat.mul_add];congr 2;omega
 rw[this,Nat.add_mul_mod_self_right]
theorem ot {p q a r x c:Nat} (h:gIn p q a=true) (hc:c<q) (hr:r<q) :
  a ^ ((r+x*c%q)%q)%p*((a ^ x%p) ^ ((0+q - c)%q)%p)%p=a ^ r%p:=by
 rw[uj,vZ];exact eE h (dQ hc hr)
def qe (i:Nat):List Nat→Int
 | []=>1
 | k::r=>((i:Int) - (k:Int))*qe i r
theorem cq {q:Nat} (h:1<q) (z:Int):(q:Int) ∣ z - (ofZ q z:Int):=by
 unfold ofZ;rw[if_neg (by omega),Int.toNat_of_nonneg (Int.emod_nonneg _ (by omega))];exact Int.dvd_self_sub_emod
theorem uT {q:Nat} (a:Nat):(q:Int) ∣ (a:Int) - ((a%q:Nat):Int):=by
 rw[Int.natCast_emod];exact Int.dvd_self_sub_emod
theorem cI {q d:Nat} (h:1<q) (hd:d<q) (hg:Nat.gcd d q=1):(q:Int) ∣ (d:Int)*(uy d q:Int) - 1:=by
 have e:=(tM h hd hg).1;have:=uT (q:=q) (uy d q*d);rw[e] at this;rw[Int.mul_comm];exact_mod_cast this
theorem pk {q i:Nat} (h:1<q):∀ (L:List Nat) (w:Nat),(∀ k∈L,Nat.gcd (dOf q i k) q=1)→(q:Int) ∣ ((L.foldl (dwF q i) w:Nat):Int)*qe i L - (w:Int)
 | [],w,_=>by simp[qe]
 | k::r,w,hG=>by
  have ih:=pk h r (dwF q i w k) (fun j hj=>hG j (List.mem_cons_of_mem _ hj));have hd:=cI h (av (i:=i) (k:=k) (by omega:0<q)) (hG k List.mem_cons_self);have hz:(q:Int) ∣ ((i:Int) - (k:Int)) - (dOf q i k:Int):=cq h _;have hw:(q:Int) ∣ ((w*uy (dOf q i k) q:Nat):Int) - (dwF q i w k:Int):=uT _;rw[List.foldl_cons];generalize r.foldl (dwF q i) (dwF q i w k)=A at *;generalize dwF q i w k=w' at *;generalize dOf q i k=d at *;generalize uy d q=v at *;rw[show qe i (k::r)=((i:Int) - (k:Int))*qe i r from rfl];generalize qe i r=D at *;generalize (i:Int) - (k:Int)=z at *;have e:(A:Int)*(z*D) - (w:Int)=z*((A:Int)*D - w')+((z - d)*w' + (d*(w' - (w*v:Nat))+w*((d:Int)*v - 1))):=by push_cast;grind
  rw[e];refine Int.dvd_add (Int.dvd_mul_of_dvd_right ih) (Int.dvd_add (Int.dvd_mul_of_dvd_left hz) (Int.dvd_add (Int.dvd_mul_of_dvd_right ?_) (Int.dvd_mul_of_dvd_right hd)));have:=Int.dvd_neg.2 hw;rwa [Int.neg_sub] at this
def iA:Nat→Nat
 | 0=>1
 | n+1=>(n+1)*iA n
def pM (n i:Nat):Int:=(iA (n - 1):Int) / qe i (oth n i)
theorem abh:∀ n∈List.range 8,∀ i∈List.range n,pM n (i+1)*qe (i+1) (oth n (i+1))=(iA (n - 1):Int):=by decide
theorem fx:∀ n∈List.range 8,∀ e∈List.range (n - 1),((List.range n).map fun i=>pM n (i+1)*((i+1:Nat):Int) ^ e).sum=0:=by decide
theorem pU {α:Type} (f g:α→Int):∀ L:List α,(L.map fun i=>f i+g i).sum=(L.map f).sum+(L.map g).sum
 | []=>rfl
 | a::r=>by simp only[List.map_cons,List.sum_cons,pU f g r];omega
theorem r8 {α:Type} (c:Int) (f:α→Int):∀ L:List α,(L.map fun i=>c*f i).sum=c*(L.map f).sum
 | []=>by simp
 | a::r=>by simp only[List.map_cons,List.sum_cons,r8 c f r,Int.mul_add]
theorem iV {α:Type} (q:Int) (f g:α→Int):∀ L:List α,(∀ i∈L,q ∣ f i - g i)→q ∣ (L.map f).sum - (L.map g).sum
 | [],_=>by simp
 | a::r,h=>by
  simp only[List.map_cons,List.sum_cons];have h1:=h a List.mem_cons_self;have h2:=iV q f g r (fun i hi=>h i (List.mem_cons_of_mem _ hi));have:=Int.dvd_add h1 h2;rwa [show f a - g a+((r.map f).sum - (r.map g).sum)=f a+(r.map f).sum - (g a+(r.map g).sum) by omega] at this
theorem lR {n:Nat} (hn:n<8):∀ (l:List Nat) (k:Nat),k+l.length<n→((List.range n).map fun i=>pM n (i+1)*((i+1:Nat):Int) ^ k*(z7 l (i+1):Int)).sum=0
 | [],k,_=>by
  simp only[z7];have:(fun i:Nat=>pM n (i+1)*((i+1:Nat):Int) ^ k*((0:Nat):Int))=fun _=>(0:Int):=by funext i;simp
  rw[this];generalize List.range n=L
  induction L with
  | nil=>rfl
  | cons a r ih=>simp only[List.map_cons,List.sum_cons,ih];rfl
 | c::r,k,h=>by
  have h1:=fx n (List.mem_range.2 hn) k (List.mem_range.2 (by simp at h;omega));have h2:=lR hn r (k+1) (by simp at h;omega);have e:(fun i:Nat=>pM n (i+1)*((i+1:Nat):Int) ^ k*(z7 (c::r) (i+1):Int))=fun i=>(c:Int)*(pM n (i+1)*((i+1:Nat):Int) ^ k)+pM n (i+1)*((i+1:Nat):Int) ^ (k+1)*(z7 r (i+1):Int):=by
   funext i;rw[show z7 (c::r) (i+1)=c+(i+1)*z7 r (i+1) from rfl];push_cast;rw[Int.pow_succ]
   grind
  rw[e,pU,r8,h1,h2];simp
theorem mR {q:Nat} (hP:Pri q):∀ n,n<q→Nat.gcd (iA n) q=1
 | 0,_=>by simp[iA]
 | n+1,h=>by
  have h1:=mR hP n (by omega);have h2:=hP.2 (n+1) (by omega) h;exact Nat.Coprime.mul_left h2 h1
theorem bS {q k y:Nat} (h:1<q):z7 (pkN q k) y=y ^ k:=by
 unfold pkN;rw[j5,List.length_replicate];have:∀ k,z7 (List.replicate k 0) y=0:=by
  intro k
  induction k with
  | zero=>rfl
  | succ k ih=>rw[List.replicate_succ,show z7 (0::List.replicate k 0) y=0+y*z7 (List.replicate k 0) y from rfl,ih,Nat.mul_zero]
 rw[this,show ofZ q 1=1 from pZ (m:=1) (by omega) (by omega)];omega
theorem gl {q n k:Nat} {l:List Nat} (hP:Pri q) (hn:n<8) (hnq:n<q) (hk:k+l.length<n) (hA:oI q n=true) :
  dz ((List.range n).map (shN q l)) ((List.range n).map fun j=>dw q n (pkN q k) (j+1))%q=0:=by
 obtain⟨h1,hp⟩:=hP;have hs:=iV (q:Int) (fun i=>(iA (n - 1):Int)*((shN q l i:Int)*(dw q n (pkN q k) (i+1):Int))) (fun i=>pM n (i+1)*((i+1:Nat):Int) ^ k*(z7 l (i+1):Int)) (List.range n) (fun i hi=>by
  have hb:=abh n (List.mem_range.2 hn) i hi;have hG:∀ j∈oth n (i+1),Nat.gcd (dOf q (i+1) j) q=1:=by
   unfold oI at hA;have:=List.all_eq_true.1 hA i hi;unfold dwG at this;exact fun j hj=>of_decide_eq_true (List.all_eq_true.1 this j hj)
  have hf:(q:Int) ∣ (dw q n (pkN q k) (i+1):Int)*qe (i+1) (oth n (i+1)) - ((z7 (pkN q k) (ofZ q ((i+1:Nat):Int))%q:Nat):Int):=pk h1 _ _ hG;rw[pZ (m:=i+1) (by omega) (by have:=List.mem_range.1 hi;omega),bS h1] at hf;have hw:=uT (q:=q) ((i+1) ^ k);have hl:(q:Int) ∣ (z7 l (i+1):Int) - (shN q l i:Int):=uT _;rw[← hb];have hpw:(((i+1) ^ k:Nat):Int)=((i+1:Nat):Int) ^ k:=by push_cast;rfl
  rw[hpw] at hw;generalize (dw q n (pkN q k) (i+1):Int)=W at *;generalize qe (i+1) (oth n (i+1))=D at *;generalize (((i+1) ^ k%q:Nat):Int)=u at *;generalize ((i+1:Nat):Int) ^ k=y at *;generalize (z7 l (i+1):Int)=P at *;generalize (shN q l i:Int)=s at *;generalize pM n (i+1)=b at *;have e:b*D*(s*W) - b*y*P=(b*s)*(W*D - u)+((b*s)*(u - y)+(b*y)*(s - P)):=by grind
  rw[e];have hw':=Int.dvd_neg.2 hw;have hl':=Int.dvd_neg.2 hl;rw[Int.neg_sub] at hw' hl';exact Int.dvd_add (Int.dvd_mul_of_dvd_right hf) (Int.dvd_add (Int.dvd_mul_of_dvd_right hw') (Int.dvd_mul_of_dvd_right hl')))
 rw[lR hn l k hk,r8,Int.sub_zero,← kx] at hs;have hs' : q ∣ iA (n - 1)*dz ((List.range n).map (shN q l)) ((List.range n).map fun j=>dw q n (pkN q k) (j+1)):=by exact_mod_cast hs
 have hc:Nat.Coprime q (iA (n - 1)):=Nat.Coprime.symm (mR ⟨h1,hp⟩ (n - 1) (by omega));exact Nat.mod_eq_zero_of_dvd (Nat.Coprime.dvd_of_dvd_mul_left hc hs')
theorem lU {q n:Nat} (hP:Pri q) (hnq:n<q):oI q n=true:=by
 unfold oI dwG;rw[List.all_eq_true];intro i hi;have hi':=List.mem_range.1 hi;rw[List.all_eq_true];intro k hk;obtain⟨k1,k2,k3⟩:=mO.1 hk;rw[decide_eq_true_eq];have h1:=hP.1
 rcases Nat.lt_or_ge k (i+1) with h|h
 ·rw[ab7 (by omega) (by omega) (by omega)];exact hP.2 _ (by omega) (by omega)
 ·rw[kI (by omega) (by omega) (by omega)];exact hP.2 _ (by omega) (by omega)
theorem fo {n d:Nat} (h2:2≤n) (hd:n<d*d) (h:∀ e,2≤e→e<d→n%e≠0):Pri n:=by
 refine⟨by omega,fun m h0 hm=>?_⟩;have hgn:Nat.gcd m n ∣ n:=Nat.gcd_dvd_right m n;have hgm:Nat.gcd m n≤m:=Nat.le_of_dvd h0 (Nat.gcd_dvd_left m n);have hg0:0<Nat.gcd m n:=Nat.gcd_pos_of_pos_left n h0;generalize Nat.gcd m n=g at *
 rcases Nat.lt_or_ge 1 g with hg|hg
 ·exfalso;obtain⟨k,rfl⟩:=hgn;have hk:1<k:=by
   rcases Nat.lt_or_ge 1 k with h1|h1
   ·exact h1
   ·have:g*k≤g*1:=Nat.mul_le_mul_left g h1;omega
  rcases Nat.lt_or_ge g d with h1|h1
  ·exact h g (by omega) h1 (Nat.mul_mod_right g k)
  ·rcases Nat.lt_or_ge k d with h3|h3
   ·exact h k (by omega) h3 (Nat.mul_mod_left g k)
   ·have:=Nat.mul_le_mul h1 h3;omega
 ·omega
end Sx
end
end Go.Proofs.YtegjemedanccoaaGreatDoor
