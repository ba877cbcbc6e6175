/- Part 45 of the proof. -/
import Derived.Test.YtbhblpnjhkddbaaGreatM37
import Derived.Test.YtbhblpnjhkddbaaGreatM44
set_option linter.unusedSimpArgs false
set_option linter.unusedVariables false
namespace Go.Proofs.YtbhblpnjhkddbaaGreat
section
open Go Go.RowKit Go.BigFrame
namespace Sx
section
variable {p q g h:Nat}
theorem cR {s:List Nat} {k y draw:Nat} (hg:gIn p q g=true) (hy:gIn p q y=true) (h1:1<q) (hk:k<q) (hd:draw<q∧draw≠0) :
  ckB p q s g (g ^ k%p) y (y ^ k%p) (okV (prB p q k g y draw) (prC p q s k g y draw)) (okV (prB p q k g y draw) ((draw+k*prC p q s k g y draw%q)%q))=true:=by
 have hB:prB p q k g y draw=true:=by
  unfold prB;rw[yw hg,yw hy,so h1 hk,so h1 hd.1];simp[hd.2]
 rw[hB,ta,ta];have hc:prC p q s k g y draw<q:=tu (by omega) _ _;have e1:=kA (x:=k) hg hc hd.1;have e2:=kA (x:=k) hy hc hd.1;generalize hC:prC p q s k g y draw=c at *;unfold ckB;rw[hg,uc hg (by omega),hy,uc hy (by omega),so h1 hc,so h1 (Nat.mod_lt _ (by omega))];simp only[Bool.true_and,Bool.and_true,decide_eq_true_eq];unfold ckC ub;rw[e1,e2,← hC];rfl
def opO (p q h ep d n x y:Nat):Od:=⟨ep,d,n,opZ p q x y,abJ p q h x (opZ p q x y) (opD q x ep d n y (opZ p q x y)),opS p q h x (opZ p q x y) (opD q x ep d n y (opZ p q x y))⟩
theorem adm {q x:Nat} (hP:Pri q) (hx:x<q) (h0:x≠0):nj x q=0:=by
 unfold nj;simp[hP.2 x (by omega) hx,so hP.1 hx]
variable {f sec:Int} {N:List (Nat × Nat)} {ep d n x s:Nat} {Y:List Nat}
theorem du (hP:Pri q) (hh:gIn p q h=true) {K:Nat} (hK:K≠1) (e:h ^ x%p=K):x≠0:=by
 rintro rfl;obtain⟨⟨h1,_,_⟩,_⟩:=yg hh;rw[Nat.pow_zero,Nat.mod_eq_of_lt h1] at e;exact hK e.symm
structure ru (p q g h:Nat) (f sec:Int) (N:List (Nat × Nat)) (n x:Nat):Prop where
 pri:Pri q
 set:y6 p q g h f sec N=true
 node:ui n N=true
 lt:x<q
 key:h ^ x%p=shK N n
theorem ru.more (k:ru p q g h f sec N n x):gIn p q h=true∧h≠1∧gIn p q (shK N n)=true∧shK N n≠1∧x≠0:=by
 obtain⟨hP,hS,hn,hx,e⟩:=k;have hh:kB p q h=true:=by
  unfold y6 at hS;simp only[Bool.and_eq_true] at hS;exact hS.1.2
 obtain⟨hh1,hh2⟩:=en hh;obtain⟨n1,n2⟩:=yz hn;have hk:=((em hS).2.1 (n - 1) (by omega)).2;obtain⟨hk1,hk2⟩:=en hk;exact⟨hh1,hh2,hk1,hk2,du hP hh1 hk2 e⟩
theorem m8 (k:ru p q g h f sec N n x) (hY:Y.length=N.length) (hy:Y.getD (n - 1) 0=shK N n ^ s%p) :
  opR p q g h f sec N ep d n x Y=.tuple #[.agg (odC (opO p q h ep d n x (Y.getD (n - 1) 0))).toArray,.int .i64 0]∧(opO p q h ep d n x (Y.getD (n - 1) 0)).z=h ^ s%p:=by
 obtain⟨hh,hh1,hk,hk1,hx0⟩:=k.more;have h1:=k.pri.1;have hA:opA p q g h f sec N n x=true:=by
  unfold opA k9;rw[k.set,k.node,so h1 k.lt,yw hh,decide_eq_true k.key];rfl
 have hF:opF p q N Y n=true:=by
  unfold opF;rw[decide_eq_true hY,hy,uc hk (by omega)];rfl
 refine⟨?_,?_⟩
 ·unfold opR;rw[if_pos hA,if_pos hF,if_pos (adm k.pri k.lt hx0)];rfl
 ·show opZ p q x (Y.getD (n - 1) 0)=_;rw[hy,← k.key];exact dj hh k.pri k.lt hx0
theorem mO (k:ru p q g h f sec N n x) (hY:Y.length=N.length) (hy:Y.getD (n - 1) 0=shK N n ^ s%p) :
  abf p q g h f sec N ep d Y ep d n (opO p q h ep d n x (Y.getD (n - 1) 0)).z (opO p q h ep d n x (Y.getD (n - 1) 0)).c (opO p q h ep d n x (Y.getD (n - 1) 0)).s=true:=by
 obtain⟨hh,hh1,hk,hk1,hx0⟩:=k.more;have h1:=k.pri.1;have hz:=(m8 (ep:=ep) (d:=d) k hY hy).2;have hzy:(h ^ s%p) ^ x%p=Y.getD (n - 1) 0:=by
  rw[hy,← k.key,yr,yr,Nat.mul_comm]
 have hd:=ab (q:=q) (x:=x) (H:=opH ep d n (Y.getD (n - 1) 0) (opZ p q x (Y.getD (n - 1) 0))) h1;have hp:=cR (s:=zX tH) (k:=x) (y:=h ^ s%p) hh (uc hh (by omega) s) h1 k.lt hd;rw[k.key,hzy] at hp;unfold abf;rw[k.set,k.node,decide_eq_true hY,decide_eq_true rfl,decide_eq_true rfl];simp only[Bool.true_and];have hz' : opZ p q x (Y.getD (n - 1) 0)=h ^ s%p:=hz;show ckB p q (zX tH) h (shK N n) (opZ p q x (Y.getD (n - 1) 0)) (Y.getD (n - 1) 0) (abJ p q h x (opZ p q x (Y.getD (n - 1) 0)) (opD q x ep d n (Y.getD (n - 1) 0) (opZ p q x (Y.getD (n - 1) 0)))) (opS p q h x (opZ p q x (Y.getD (n - 1) 0)) (opD q x ep d n (Y.getD (n - 1) 0) (opZ p q x (Y.getD (n - 1) 0))))=true;unfold abJ opS opD;rw[hz'] at hp ⊢;exact hp
theorem d6 {o:Nat} (k:ru p q g h f sec N n x) (ho:o≠x):opR p q g h f sec N ep d n o Y=opE 1:=by
 obtain⟨hh,hh1,hk,hk1,hx0⟩:=k.more;have hA:opA p q g h f sec N n o=false:=by
  unfold opA k9;rw[k.set,k.node,yw hh]
  by_cases hq:o<q
  ·rw[decide_eq_false (show ¬ h ^ o%p=shK N n from fun e=>ho (aad k.pri hh hh1 hq k.lt (by rw[e,k.key])))];simp
  ·unfold zN;simp[hq]
 unfold opR;rw[if_neg (by rw[hA];decide)]
end
theorem oM {q:Nat} (hP:Pri q) {l:List Nat} (hO:tX q l):∀ {i:Nat},i≤l.length→wtE q l i=0
 | 0,_=>by simp[wtE]
 | i+1,h=>by
  have ih:=oM hP hO (i:=i) (by omega);obtain⟨v,hv⟩ : ∃ v,l[i]?=some v:=⟨_,List.getElem?_eq_getElem (by omega)⟩;have hg:l.getD i 0=v:=by rw[List.getD_eq_getElem?_getD,hv];rfl
  have hvq:=hO.lt v (List.mem_of_getElem? hv);rw[dv ih,if_pos];exact qi hP hO.lt (by rw[hg];exact hvq) (Nat.le_refl _) (fun j u h1 h2 h3 e=>by
   rw[hg] at e;subst e;exact h2 (uO hO.nd h3 hv))
theorem kb {n M:Nat} {ls:List Od} {o:Od} (hn:∀ o∈ls,1≤o.n∧o.n≤n) (h:o∈iA n M ls):o∈ls:=(pQ hn).1 (List.mem_of_mem_take h)
theorem adx {n M:Nat} {ls:List Od} (hn:∀ o∈ls,1≤o.n∧o.n≤n):(rKs n M ls).map (· + 1)=(iA n M ls).map Od.n:=by
 unfold rKs;rw[List.map_map];refine List.map_congr_left (fun o ho=>?_);have:=hn o (kb hn ho);show o.n - 1+1=o.n;omega
theorem adq {p q h n M:Nat} {l:List Nat} {ls:List Od} (hn:∀ o∈ls,1≤o.n∧o.n≤n) (hz:∀ o∈ls,o.z=h ^ (zK l o.n%q)%p) :
  rZs n M ls=(((rKs n M ls).map (· + 1)).map fun a=>zK l a%q).map fun e=>h ^ e%p:=by
 rw[adx hn,List.map_map,List.map_map];exact List.map_congr_left (fun o ho=>hz o (kb hn ho))
theorem dX {p q h n M m:Nat} {l:List Nat} {ls:List Od} (hP:Pri q) (hh:gIn p q h=true) (hn:∀ o∈ls,1≤o.n∧o.n≤n) (hz:∀ o∈ls,o.z=h ^ (zK l o.n%q)%p)
  (hO:tX q ((rKs n M ls).map (· + 1))) (hl:l.length≤(rKs n M ls).length) :
  rsL p q ((rKs n M ls).map (· + 1)) (rZs n M ls) m=osL p q h l m:=by
 unfold rsL osL;refine List.map_congr_left (fun j _=>?_);unfold rsN osN;rw[adq hn hz,ql hP hh hO (by rw[List.length_map];exact hl),uK hh];rfl
def lI (l m:List Nat):List Nat:=List.zipWith (· + ·) l m
theorem sF:∀ (l m:List Nat) (x:Nat),l.length=m.length→zK (lI l m) x=zK l x+zK m x
 | [],[],_,_=>rfl
 | [],_::_,_,h=>by simp at h
 | _::_,[],_,h=>by simp at h
 | a::l,b::m,x,h=>by
  have ih:=sF l m x (by simpa using h);show (a+b)+x*zK (lI l m) x=(a+x*zK l x)+(b+x*zK m x);rw[ih,Nat.mul_add];omega
theorem cJ {l m:List Nat} (h:l.length=m.length):(lI l m).length=l.length:=by simp[lI,h]
section
variable {p q h:Nat} (hh:gIn p q h=true)
include hh
theorem ja (a b:Nat):h ^ (a%q)%p*(h ^ (b%q)%p)%p=h ^ ((a+b)%q)%p:=by
 rw[vm];exact qo hh (by rw[Nat.mod_mod,← Nat.add_mod])
theorem aaY {l m:List Nat} (hlm:l.length=m.length) (i:Nat):osN p q h l i*osN p q h m i%p=osN p q h (lI l m) i:=by
 unfold osN scN;rw[uK hh,uK hh,uK hh,ja hh,sF l m _ hlm]
end
def sU:List Nat→List Nat→Nat
 | z::r,w::s=>z ^ w*sU r s
 | _,_=>1
theorem kH {p:Nat}:∀ (zs ws:List Nat) (a:Nat),a<p→(zs.zip ws).foldl (fun r x=>r*(x.1 ^ x.2%p)%p) a=a*sU zs ws%p
 | [],ws,a,h=>by simp[sU,Nat.mod_eq_of_lt h]
 | z::r,[],a,h=>by simp[sU,Nat.mod_eq_of_lt h]
 | z::r,w::s,a,h=>by
  rw[List.zip_cons_cons,List.foldl_cons,kH r s _ (Nat.mod_lt _ (by omega))];show a*(z ^ w%p)%p*sU r s%p=a*(z ^ w*sU r s)%p;rw[Nat.mul_mod_mod,Nat.mod_mul_mod,← Nat.mul_assoc]
theorem kM {p:Nat} (h1:1<p) (zs ws:List Nat):prD p zs ws=sU zs ws%p:=by
 unfold prD;rw[kH zs ws 1 h1,Nat.one_mul]
theorem cv (a m p:Nat):(a%p) ^ m%p=a ^ m%p:=by rw[← Nat.pow_mod]
theorem nQ {p b:Nat}:∀ (zs ws:List Nat) (k z w:Nat),zs[k]?=some z→ws[k]?=some w→sU (zs.set k (z*b%p)) ws%p=sU zs ws*b ^ w%p
 | [],_,_,_,_,h,_=>by simp at h
 | _::_,[],_,_,_,_,h=>by simp at h
 | y::r,v::s,0,z,w,h1,h2=>by
  simp only[List.getElem?_cons_zero,Option.some.injEq] at h1 h2;subst h1 h2;rw[List.set_cons_zero];show (y*b%p) ^ v*sU r s%p=y ^ v*sU r s*b ^ v%p;rw[Nat.mul_mod,cv,← Nat.mul_mod,Nat.mul_pow,Nat.mul_assoc,Nat.mul_assoc,Nat.mul_comm (b ^ v)]
 | y::r,v::s,k+1,z,w,h1,h2=>by
  rw[List.getElem?_cons_succ] at h1 h2;rw[List.set_cons_succ];show y ^ v*sU (r.set k (z*b%p)) s%p=y ^ v*sU r s*b ^ w%p;rw[Nat.mul_mod,nQ r s k z w h1 h2,← Nat.mul_mod,Nat.mul_assoc]
theorem aal {p b:Nat} (h1:1<p) {zs ws:List Nat} {k z w:Nat} (hz:zs[k]?=some z) (hw:ws[k]?=some w):prD p (zs.set k (z*b%p)) ws=prD p zs ws*b ^ w%p:=by
 rw[kM h1,kM h1,nQ zs ws k z w hz hw,Nat.mod_mul_mod]
theorem acz {p q h e b:Nat} (hh:gIn p q h=true) (hb:gIn p q b=true) (hb1:b≠1) {w:Nat} (hP:Pri q) (hw0:w≠0) (hw:w<q):h ^ e%p*b ^ w%p≠h ^ e%p:=by
 intro hc;obtain⟨⟨h1,_,_⟩,_⟩:=yg hh;obtain⟨⟨_,b2,b3⟩,b4⟩:=yg hb;have e1:h ^ e%p*(h ^ (q - e%q)%p)%p=1:=by
  rw[vm,lg hh,← Nat.mod_add_mod,Nat.add_sub_cancel' (Nat.le_of_lt (Nat.mod_lt _ (by have:=hP.1;omega))),Nat.mod_self,Nat.pow_zero,Nat.mod_eq_of_lt h1]
 have e2:b ^ w%p=1:=by
  have:=congrArg (fun t=>t*(h ^ (q - e%q)%p)%p) hc;rw[e1,Nat.mod_mul_mod,show h ^ e%p*b ^ w*(h ^ (q - e%q)%p)=h ^ e%p*(h ^ (q - e%q)%p)*b ^ w by rw[Nat.mul_right_comm],Nat.mul_mod,e1,Nat.one_mul,Nat.mod_mod] at this;exact this
 have hi:=(vw hP.1 hw (hP.2 w (by omega) hw)).1;have e3:b ^ (w*v7 w q)%p=b ^ 1%p:=qo hb (by rw[Nat.mul_comm,hi,Nat.mod_eq_of_lt hP.1]);rw[← yr,e2,Nat.one_pow,Nat.mod_eq_of_lt h1,Nat.pow_one,Nat.mod_eq_of_lt b3] at e3;exact hb1 e3.symm
theorem ac9 {q:Nat} (hP:Pri q) {l:List Nat} (hO:tX q l) {x i:Nat} (hx:x<q) (hxl:∀ v∈l,v≠x) (hi:i<l.length):wtN q l x i≠0∧wtN q l x i<q:=by
 have hq:=hP.1;refine⟨fun e=>?_,am hq⟩;obtain⟨v,hv⟩ : ∃ v,l[i]?=some v:=⟨_,List.getElem?_eq_getElem hi⟩;have hg:l.getD i 0=v:=by rw[List.getD_eq_getElem?_getD,hv];rfl
 have hvq:=hO.lt v (List.mem_of_getElem? hv);have hc:iC q (dif q l i (l.getD i 0) l.length)=true:=qi hP hO.lt (by rw[hg];exact hvq) (Nat.le_refl _) (fun j u h1 h2 h3 e=>by
  rw[hg] at e;subst e;exact h2 (uO hO.nd h3 hv))
 have hgc:=(sr q (dif q l i (l.getD i 0) l.length) 1).2 ⟨Nat.gcd_one_left q,hc⟩;have hI:=(vw hq (pc (by omega) hq (dif q l i (l.getD i 0) l.length)) hgc);have hI0:wtI q l i≠0:=by
  intro e0;have h1:=hI.1;rw[show v7 (prM q 1 (dif q l i (l.getD i 0) l.length)) q=wtI q l i from rfl,e0,Nat.zero_mul,Nat.zero_mod] at h1;cases h1
 have hI1:Nat.gcd (wtI q l i) q=1:=hP.2 _ (by omega) (iN hq);have hc2:iC q (dif q l i x l.length)=true:=qi hP hO.lt hx (Nat.le_refl _) (fun j u _ _ h3=>hxl u (List.mem_of_getElem? h3));have hG:=(sr q (dif q l i x l.length) (wtI q l i)).2 ⟨hI1,hc2⟩;rw[show prM q (wtI q l i) (dif q l i x l.length)=wtN q l x i from rfl,e,Nat.gcd_zero_left] at hG;omega
theorem take_range {α:Type} {f:Nat→α} {n M:Nat} (h:M≤n):((List.range n).map f).take M=(List.range M).map f:=by
 rw[← List.map_take];congr 1;refine List.ext_getElem (by simp[h]) (fun i h1 h2=>by simp)
theorem abn {q x k:Nat} {l:List Nat} (hk:k<l.length):(wts q l x)[k]?=some (wtN q l x k):=by
 unfold wts;rw[List.getElem?_map,List.getElem?_range hk];rfl
theorem bO {p q h:Nat} (hP:Pri q) (hh:gIn p q h=true) {ps:List Nat} (hO:tX q ps) {l:List Nat} (hl:l.length≤ps.length) {j k z b:Nat} (hj:j+1<q) (hx:∀ v∈ps,v≠q - (j+1))
  (hk:k<ps.length) (hz:((ps.map fun a=>zK l a%q).map fun e=>h ^ e%p)[k]?=some z) (hb:gIn p q b=true) (hb1:b≠1) :
  rsN p q ps (((ps.map fun a=>zK l a%q).map fun e=>h ^ e%p).set k (z*b%p)) j≠osN p q h l j:=by
 obtain⟨⟨h1,_,_⟩,_⟩:=yg hh;obtain⟨w1,w2⟩:=ac9 hP hO (x:=q - (j+1)) (by omega) hx hk;unfold rsN osN;rw[aal h1 hz (abn hk),ql hP hh hO hl,uK hh];exact acz hh hb hb1 hP w1 w2
section
variable {p q g h:Nat} {f sec:Int} {N:List (Nat × Nat)} {ep d n x:Nat} {l:List Nat}
theorem bF (hn1:1≤n) (hn2:n≤N.length):(dYs p q l N N.length).getD (n - 1) 0=exN p (shK N n) (zK l n%q):=by
 rw[List.getD_eq_getElem?_getD];unfold dYs;rw[List.getElem?_map,List.getElem?_range (by omega)];show dY p q l N (n - 1)=_;unfold dY shN;rw[show n - 1+1=n by omega];rfl
theorem pB (k:ru p q g h f sec N n x) :
  opR p q g h f sec N ep d n x (dYs p q l N N.length)=.tuple #[.agg (odC (opO p q h ep d n x ((dYs p q l N N.length).getD (n - 1) 0))).toArray,.int .i64 0] ∧
  (opO p q h ep d n x ((dYs p q l N N.length).getD (n - 1) 0)).z=h ^ (zK l n%q)%p ∧
  abf p q g h f sec N ep d (dYs p q l N N.length) ep d n (opO p q h ep d n x ((dYs p q l N N.length).getD (n - 1) 0)).z (opO p q h ep d n x ((dYs p q l N N.length).getD (n - 1) 0)).c (opO p q h ep d n x ((dYs p q l N N.length).getD (n - 1) 0)).s=true:=by
 obtain⟨n1,n2⟩:=yz k.node;have hy:(dYs p q l N N.length).getD (n - 1) 0=shK N n ^ (zK l n%q)%p:=by rw[bF n1 n2,uK k.more.2.2.1]
 have hYl:(dYs p q l N N.length).length=N.length:=by simp[dYs]
 exact⟨(m8 k hYl hy).1,(m8 (ep:=ep) (d:=d) k hYl hy).2,mO k hYl hy⟩
theorem aP {y:Nat} (hp:p<zc) (h0p:0<p) (hq:q<zc) (h0q:0<q) (hep:ep<18446744073709551616) (hd:d<256) (hn:n<256):mT (opO p q h ep d n x y) where
 e:=hep
 d:=hd
 n:=hn
 z:=Nat.lt_trans (Nat.mod_lt _ h0p) hp
 c:=aB (Nat.lt_trans (tu h0q _ _) hq)
 s:=aB (Nat.lt_trans (Nat.mod_lt _ h0q) hq)
structure OpL (p q h:Nat) (N:List (Nat × Nat)) (l:List Nat) (ep d:Nat) (ls:List Od):Prop where
 ok:∀ o∈ls,mT o
 e:∀ o∈ls,o.e=ep
 d:∀ o∈ls,o.d=d
 n:∀ o∈ls,1≤o.n∧o.n≤N.length
 z:∀ o∈ls,o.z=h ^ (zK l o.n%q)%p
 nd:(ls.map Od.n).Nodup
theorem OpL.raise {F m:Nat} {ls:List Od} (k:OpL p q h N l ep d ls) (hs:y6 p q g h (F:Int) (m:Int) N=true) (hl:F+m≤ls.length) (h0q:0<q):yY p q g h (F:Int) (m:Int) N ls=true:=by
 refine nz hs (by omega) (fun j o hj=>?_) (fun i j x y hij hi hj e=>by
  have h1:(ls.map Od.n)[i]?=some y.n:=by rw[List.getElem?_map,hi];rfl
  have h2:(ls.map Od.n)[j]?=some y.n:=by rw[List.getElem?_map,hj,e];rfl
  have:=uO k.nd h1 h2;omega)
 have hm:=List.mem_of_getElem? hj;have hh:kB p q h=true:=by
  unfold y6 at hs;simp only[Bool.and_eq_true] at hs;exact hs.1.2
 have h1:=(en hh).1;have hd0:ls.headD od0∈ls:=by
  cases ls with
  | nil=>simp at hj
  | cons a r=>simp
 unfold odB;rw[k.e o hm,k.e _ hd0,k.d o hm,k.d _ hd0,k.z o hm,yw (uc h1 h0q _)];have:=k.n o hm;unfold ui;simp[this.1,this.2]
end
def vG (n:Nat) (O:Nat→Od):List Od:=(List.range n).map fun i=>O (n - 1 - i)
section
variable {n:Nat} {O:Nat→Od} (hn:∀ t,t<n→(O t).n=t+1)
include hn
theorem aX:((vG n O).map Od.n).Nodup:=by
 unfold vG;rw[List.map_map,List.Nodup,List.pairwise_map];refine List.Pairwise.imp_of_mem (fun {a b} ha hb hab=>?_) (List.nodup_range (n:=n));have h1:=List.mem_range.1 ha;have h2:=List.mem_range.1 hb;show (O (n - 1 - a)).n≠(O (n - 1 - b)).n;rw[hn _ (by omega),hn _ (by omega)];omega
omit hn in
theorem oE {o:Od}:o∈vG n O↔∃ t,t<n∧o=O t:=by
 unfold vG;rw[List.mem_map];constructor
 ·rintro ⟨i,hi,rfl⟩;exact⟨n - 1 - i,by have:=List.mem_range.1 hi;omega,rfl⟩
 ·rintro ⟨t,ht,rfl⟩;exact⟨n - 1 - t,List.mem_range.2 (by omega),by rw[show n - 1 - (n - 1 - t)=t by omega]⟩
theorem gU:byN n (vG n O)=(List.range n).map O:=by
 have hb:∀ o∈vG n O,1≤o.n∧o.n≤n:=fun o h=>by
  obtain⟨t,ht,rfl⟩:=oE.1 h;rw[hn t ht];omega
 refine qD _ _ (sB (aX hn)) ?_ (fun o=>?_)
 ·rw[List.pairwise_map];refine List.Pairwise.imp_of_mem (fun {a b} ha hb hab=>?_) (List.pairwise_lt_range (n:=n));rw[hn _ (List.mem_range.1 ha),hn _ (List.mem_range.1 hb)];omega
 ·rw[pQ hb,oE,List.mem_map];constructor
  ·rintro ⟨t,ht,rfl⟩;exact⟨t,List.mem_range.2 ht,rfl⟩
  ·rintro ⟨t,ht,rfl⟩;exact⟨t,List.mem_range.1 ht,rfl⟩
theorem abj {M:Nat} (hM:M≤n):(rKs n M (vG n O)).map (· + 1)=(List.range M).map (· + 1):=by
 unfold rKs iA;rw[gU hn,take_range hM,List.map_map,List.map_map];refine List.map_congr_left (fun t ht=>?_);have:=List.mem_range.1 ht;show (O t).n - 1+1=t+1;rw[hn t (by omega)];omega
theorem aaz {M:Nat} (hM:M≤n):rZs n M (vG n O)=(List.range M).map fun t=>(O t).z:=by
 unfold rZs iA;rw[gU hn,take_range hM,List.map_map];rfl
end
def uV (O:Nat→Od) (T:Nat) (u:Od):Nat→Od:=fun t=>if t=T then u else O t
theorem abD {n:Nat} {O:Nat→Od} {k:Nat} {u:Od} (hk:k<n):(vG n O).set k u=vG n (uV O (n - 1 - k) u):=by
 unfold vG uV;refine List.ext_getElem (by simp) (fun i h1 h2=>?_);rw[List.getElem_set];simp only[List.getElem_map,List.getElem_range];have:i<n:=by simpa using h2
 by_cases e:k=i
 ·subst e;simp
 ·rw[if_neg e,if_neg (by omega)]
theorem acH {M:Nat} {O:Nat→Od} {T:Nat} {u:Od} (hT:T<M):((List.range M).map fun t=>(uV O T u t).z)=((List.range M).map fun t=>(O t).z).set T u.z:=by
 refine List.ext_getElem (by simp) (fun i h1 h2=>?_);rw[List.getElem_set];simp only[List.getElem_map,List.getElem_range];unfold uV
 by_cases e:T=i
 ·subst e;simp
 ·rw[if_neg e,if_neg (fun h=>e h.symm)]
theorem aaR {M:Nat} {O:Nat→Od} {T:Nat} {u:Od} (hT:M≤T):((List.range M).map fun t=>(uV O T u t).z)=(List.range M).map fun t=>(O t).z:=by
 refine List.map_congr_left (fun t ht=>?_);have:=List.mem_range.1 ht;unfold uV;rw[if_neg (by omega)]
end Sx
end
end Go.Proofs.YtbhblpnjhkddbaaGreat
