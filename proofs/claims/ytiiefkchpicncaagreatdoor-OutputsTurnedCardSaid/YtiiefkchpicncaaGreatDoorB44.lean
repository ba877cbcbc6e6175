/- Part 44 of the proof. -/
import Derived.Test.YtiiefkchpicncaaGreatDoorB40
import Derived.Test.YtiiefkchpicncaaGreatDoorB43
set_option linter.unusedSimpArgs false
set_option linter.unusedVariables false
namespace Go.Proofs.YtiiefkchpicncaaGreatDoor
section
open Go Go.RowKit Go.BigFrame
namespace Sx
section
variable {p q g h:Nat}
theorem abp {s:List Nat} {k y draw:Nat} (hg:gIn p q g=true) (hy:gIn p q y=true) (h1:1<q) (hk:k<q) (hd:draw<q∧draw≠0) :
  ckB p q s g (g ^ k%p) y (y ^ k%p) (okV (prB p q k g y draw) (prC p q s k g y draw)) (okV (prB p q k g y draw) ((draw+k*prC p q s k g y draw%q)%q))=true:=by
 have hB:prB p q k g y draw=true:=by
  unfold prB;rw[yC hg,yC hy,yU h1 hk,yU h1 hd.1];simp[hd.2]
 rw[hB,vo,vo];have hc:prC p q s k g y draw<q:=vx Om _ _;have e1:=tM (x:=k) hg hc hd.1;have e2:=tM (x:=k) hy hc hd.1;generalize hC:prC p q s k g y draw=c at *;unfold ckB;rw[hg,ux hg Om,hy,ux hy Om,yU h1 hc,yU h1 (Nat.mod_lt _ Om)];simp only[Bool.true_and,Bool.and_true,decide_eq_true_eq];unfold ckC vO;rw[e1,e2,← hC];rfl
def opO (p q h ep d n x y:Nat):Od:=⟨ep,d,n,opZ p q x y,afM p q h x (opZ p q x y) (opD q x ep d n y (opZ p q x y)),opS p q h x (opZ p q x y) (opD q x ep d n y (opZ p q x y))⟩
theorem ahu {q x:Nat} (hP:Pri q) (hx:x<q) (h0:x≠0):qz x q=0:=by
 unfold qz;simp[hP.2 x Om hx,yU hP.1 hx]
variable {f sec:Int} {N:List (Nat × Nat)} {ep d n x s:Nat} {Y:List Nat}
theorem abj (hP:Pri q) (hh:gIn p q h=true) {K:Nat} (hK:K≠1) (e:h ^ x%p=K):x≠0:=by
 rintro rfl;obtain⟨⟨h1,_,_⟩,_⟩:=vE hh;rw[Nat.pow_zero,Nat.mod_eq_of_lt h1] at e;exact hK e.symm
structure fD (p q g h:Nat) (f sec:Int) (N:List (Nat × Nat)) (n x:Nat):Prop where
 pri:Pri q
 set:yR p q g h f sec N=true
 node:uk n N=true
 lt:x<q
 key:h ^ x%p=shK N n
theorem fD.more (k:fD p q g h f sec N n x):gIn p q h=true∧h≠1∧gIn p q (shK N n)=true∧shK N n≠1∧x≠0:=by
 obtain⟨hP,hS,hn,hx,e⟩:=k;have hh:kB p q h=true:=by
  unfold yR at hS;simp only[Bool.and_eq_true] at hS;exact hS.1.2
 obtain⟨hh1,hh2⟩:=qw hh;obtain⟨n1,n2⟩:=yq hn;have hk:=((tV hS).2.1 (n - 1) Om).2;obtain⟨hk1,hk2⟩:=qw hk;exact⟨hh1,hh2,hk1,hk2,abj hP hh1 hk2 e⟩
theorem kZ (k:fD p q g h f sec N n x) (hY:Y.length=N.length) (hy:Y.getD (n - 1) 0=shK N n ^ s%p) :
  opR p q g h f sec N ep d n x Y=.tuple #[.agg (odC (opO p q h ep d n x (Y.getD (n - 1) 0))).toArray,.int .i64 0]∧(opO p q h ep d n x (Y.getD (n - 1) 0)).z=h ^ s%p:=by
 obtain⟨hh,hh1,hk,hk1,hx0⟩:=k.more;have h1:=k.pri.1;have hA:opA p q g h f sec N n x=true:=by
  unfold opA jT;rw[k.set,k.node,yU h1 k.lt,yC hh,decide_eq_true k.key];rfl
 have hF:opF p q N Y n=true:=by
  unfold opF;rw[decide_eq_true hY,hy,ux hk Om];rfl
 refine⟨?_,?_⟩
 ·unfold opR;rw[if_pos hA,if_pos hF,if_pos (ahu k.pri k.lt hx0)];rfl
 ·show opZ p q x (Y.getD (n - 1) 0)=_;rw[hy,← k.key];exact acn hh k.pri k.lt hx0
theorem kG (k:fD p q g h f sec N n x) (hY:Y.length=N.length) (hy:Y.getD (n - 1) 0=shK N n ^ s%p) :
  eQ p q g h f sec N ep d Y ep d n (opO p q h ep d n x (Y.getD (n - 1) 0)).z (opO p q h ep d n x (Y.getD (n - 1) 0)).c (opO p q h ep d n x (Y.getD (n - 1) 0)).s=true:=by
 obtain⟨hh,hh1,hk,hk1,hx0⟩:=k.more;have h1:=k.pri.1;have hz:=(kZ (ep:=ep) (d:=d) k hY hy).2;have hzy:(h ^ s%p) ^ x%p=Y.getD (n - 1) 0:=by
  rw[hy,← k.key,yF,yF,Nat.mul_comm]
 have hd:=oI (q:=q) (x:=x) (H:=opH ep d n (Y.getD (n - 1) 0) (opZ p q x (Y.getD (n - 1) 0))) h1;have hp:=abp (s:=ya tD) (k:=x) (y:=h ^ s%p) hh (ux hh Om s) h1 k.lt hd;rw[k.key,hzy] at hp;unfold eQ;rw[k.set,k.node,decide_eq_true hY,decide_eq_true rfl,decide_eq_true rfl];simp only[Bool.true_and];have hz' : opZ p q x (Y.getD (n - 1) 0)=h ^ s%p:=hz;show ckB p q (ya tD) h (shK N n) (opZ p q x (Y.getD (n - 1) 0)) (Y.getD (n - 1) 0) (afM p q h x (opZ p q x (Y.getD (n - 1) 0)) (opD q x ep d n (Y.getD (n - 1) 0) (opZ p q x (Y.getD (n - 1) 0)))) (opS p q h x (opZ p q x (Y.getD (n - 1) 0)) (opD q x ep d n (Y.getD (n - 1) 0) (opZ p q x (Y.getD (n - 1) 0))))=true;unfold afM opS opD;rw[hz'] at hp ⊢;exact hp
end
theorem it {q:Nat} (hP:Pri q) {l:List Nat} (hO:qt q l):∀ {i:Nat},i≤l.length→wtE q l i=0
 | 0,_=>by simp[wtE]
 | i+1,h=>by
  have ih:=it hP hO (i:=i) Om;obtain⟨v,hv⟩ : ∃ v,l[i]?=some v:=⟨_,List.getElem?_eq_getElem Om⟩;have hg:l.getD i 0=v:=by rw[List.getD_eq_getElem?_getD,hv];rfl
  have hvq:=hO.lt v (List.mem_of_getElem? hv);rw[aaH ih,if_pos];exact kP hP hO.lt (by rw[hg];exact hvq) (Nat.le_refl _) (fun j u h1 h2 h3 e=>by
   rw[hg] at e;subst e;exact h2 (r5 hO.nd h3 hv))
theorem iA {n M:Nat} {ls:List Od} {o:Od} (hn:∀ o∈ls,1≤o.n∧o.n≤n) (h:o∈aaB n M ls):o∈ls:=(jH hn).1 (List.mem_of_mem_take h)
theorem ahE {n M:Nat} {ls:List Od} (hn:∀ o∈ls,1≤o.n∧o.n≤n):(rKs n M ls).map (· + 1)=(aaB n M ls).map Od.n:=by
 unfold rKs;rw[List.map_map];refine List.map_congr_left (fun o ho=>?_);have:=hn o (iA hn ho);show o.n - 1+1=o.n;omega
theorem aht {p q h n M:Nat} {l:List Nat} {ls:List Od} (hn:∀ o∈ls,1≤o.n∧o.n≤n) (hz:∀ o∈ls,o.z=h ^ (zD l o.n%q)%p) :
  rZs n M ls=(((rKs n M ls).map (· + 1)).map fun a=>zD l a%q).map fun e=>h ^ e%p:=by
 rw[ahE hn,List.map_map,List.map_map];exact List.map_congr_left (fun o ho=>hz o (iA hn ho))
theorem acL {p q h n M m:Nat} {l:List Nat} {ls:List Od} (hP:Pri q) (hh:gIn p q h=true) (hn:∀ o∈ls,1≤o.n∧o.n≤n) (hz:∀ o∈ls,o.z=h ^ (zD l o.n%q)%p)
  (hO:qt q ((rKs n M ls).map (· + 1))) (hl:l.length≤(rKs n M ls).length) :
  rsL p q ((rKs n M ls).map (· + 1)) (rZs n M ls) m=osL p q h l m:=by
 unfold rsL osL;refine List.map_congr_left (fun j _=>?_);unfold rsN osN;rw[aht hn hz,d8 hP hh hO (by rw[List.length_map];exact hl),sR hh];rfl
section
variable {p q h:Nat} (hh:gIn p q h=true)
include hh
end
section
variable {p q g h:Nat} {f sec:Int} {N:List (Nat × Nat)} {ep d n x:Nat} {l:List Nat}
theorem acg (hn1:1≤n) (hn2:n≤N.length):(dYs p q l N N.length).getD (n - 1) 0=exN p (shK N n) (zD l n%q):=by
 rw[List.getD_eq_getElem?_getD];unfold dYs;rw[List.getElem?_map,List.getElem?_range Om];show dY p q l N (n - 1)=_;unfold dY shN;rw[show n - 1+1=n by omega];rfl
theorem eo (k:fD p q g h f sec N n x) :
  opR p q g h f sec N ep d n x (dYs p q l N N.length)=.tuple #[.agg (odC (opO p q h ep d n x ((dYs p q l N N.length).getD (n - 1) 0))).toArray,.int .i64 0] ∧
  (opO p q h ep d n x ((dYs p q l N N.length).getD (n - 1) 0)).z=h ^ (zD l n%q)%p ∧
  eQ p q g h f sec N ep d (dYs p q l N N.length) ep d n (opO p q h ep d n x ((dYs p q l N N.length).getD (n - 1) 0)).z (opO p q h ep d n x ((dYs p q l N N.length).getD (n - 1) 0)).c (opO p q h ep d n x ((dYs p q l N N.length).getD (n - 1) 0)).s=true:=by
 obtain⟨n1,n2⟩:=yq k.node;have hy:(dYs p q l N N.length).getD (n - 1) 0=shK N n ^ (zD l n%q)%p:=by rw[acg n1 n2,sR k.more.2.2.1]
 have hYl:(dYs p q l N N.length).length=N.length:=by simp[dYs]
 exact⟨(kZ k hYl hy).1,(kZ (ep:=ep) (d:=d) k hYl hy).2,kG k hYl hy⟩
theorem afT {y:Nat} (hp:p<zd) (h0p:0<p) (hq:q<zd) (h0q:0<q) (hep:ep<18446744073709551616) (hd:d<256) (hn:n<256):f9 (opO p q h ep d n x y) where
 e:=hep
 d:=hd
 n:=hn
 z:=Nat.lt_trans (Nat.mod_lt _ h0p) hp
 c:=pW (Nat.lt_trans (vx h0q _ _) hq)
 s:=pW (Nat.lt_trans (Nat.mod_lt _ h0q) hq)
structure OpL (p q h:Nat) (N:List (Nat × Nat)) (l:List Nat) (ep d:Nat) (ls:List Od):Prop where
 ok:∀ o∈ls,f9 o
 e:∀ o∈ls,o.e=ep
 d:∀ o∈ls,o.d=d
 n:∀ o∈ls,1≤o.n∧o.n≤N.length
 z:∀ o∈ls,o.z=h ^ (zD l o.n%q)%p
 nd:(ls.map Od.n).Nodup
theorem OpL.raise {F m:Nat} {ls:List Od} (k:OpL p q h N l ep d ls) (hs:yR p q g h (F:Int) (m:Int) N=true) (hl:F+m≤ls.length) (h0q:0<q):vQ p q g h (F:Int) (m:Int) N ls=true:=by
 refine aac hs Om (fun j o hj=>?_) (fun i j x y hij hi hj e=>by
  have h1:(ls.map Od.n)[i]?=some y.n:=by rw[List.getElem?_map,hi];rfl
  have h2:(ls.map Od.n)[j]?=some y.n:=by rw[List.getElem?_map,hj,e];rfl
  have:=r5 k.nd h1 h2;omega)
 have hm:=List.mem_of_getElem? hj;have hh:kB p q h=true:=by
  unfold yR at hs;simp only[Bool.and_eq_true] at hs;exact hs.1.2
 have h1:=(qw hh).1;have hd0:ls.headD od0∈ls:=by
  cases ls with
  | nil=>simp at hj
  | cons a r=>simp
 unfold odB;rw[k.e o hm,k.e _ hd0,k.d o hm,k.d _ hd0,k.z o hm,yC (ux h1 h0q _)];have:=k.n o hm;unfold uk;simp[this.1,this.2]
end
end Sx
end
end Go.Proofs.YtiiefkchpicncaaGreatDoor
