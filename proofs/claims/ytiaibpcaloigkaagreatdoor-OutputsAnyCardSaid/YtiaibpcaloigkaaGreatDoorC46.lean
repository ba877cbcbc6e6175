/- Part 46 of the proof. -/
import Derived.Test.YtiaibpcaloigkaaGreatDoorC41
import Derived.Test.YtiaibpcaloigkaaGreatDoorC45
set_option linter.unusedSimpArgs false
set_option linter.unusedVariables false
namespace Go.Proofs.YtiaibpcaloigkaaGreatDoor
section
open Go Go.RowKit Go.BigFrame
namespace Sx
section
variable {p q g h:Nat}
theorem abz {s:LN} {k y draw:Nat} (hg:gIn p q g=true) (hy:gIn p q y=true) (h1:1<q) (hk:k<q) (hd:draw<q∧draw≠0) :
  ckB p q s g (g ^ k%p) y (y ^ k%p) (okV (prB p q k g y draw) (prC p q s k g y draw)) (okV (prB p q k g y draw) ((draw+k*prC p q s k g y draw%q)%q))=true:=by
 have hB:prB p q k g y draw=true:=by
  unfold prB;rw[yC hg,yC hy,yZ h1 hk,yZ h1 hd.1];simp[hd.2]
 rw[hB,vw,vw];have hc:prC p q s k g y draw<q:=vC Om _ _;have e1:=tG (x:=k) hg hc hd.1;have e2:=tG (x:=k) hy hc hd.1;generalize hC:prC p q s k g y draw=c at *;unfold ckB;rw[hg,uG hg Om,hy,uG hy Om,yZ h1 hc,yZ h1 (Nat.mod_lt _ Om)];simp only[Bool.true_and,Bool.and_true,decide_eq_true_eq];unfold ckC vW;rw[e1,e2,← hC];rfl
def opO (p q h ep d n x y:Nat):Od:=⟨ep,d,n,opZ p q x y,afG p q h x (opZ p q x y) (opD q x ep d n y (opZ p q x y)),opS p q h x (opZ p q x y) (opD q x ep d n y (opZ p q x y))⟩
theorem ahE {q x:Nat} (hP:Pri q) (hx:x<q) (h0:x≠0):qk x q=0:=by
 unfold qk;simp[hP.2 x Om hx,yZ hP.1 hx]
variable {f sec:Int} {N:LP} {ep d n x s:Nat} {Y:LN}
theorem abH (hP:Pri q) (hh:gIn p q h=true) {K:Nat} (hK:K≠1) (e:h ^ x%p=K):x≠0:=by
 rintro rfl;obtain⟨⟨h1,_,_⟩,_⟩:=vD hh;rw[Nat.pow_zero,Nat.mod_eq_of_lt h1] at e;exact hK e.symm
structure ed (p q g h:Nat) (f sec:Int) (N:LP) (n x:Nat):Prop where
 pri:Pri q
 set:yW p q g h f sec N=true
 node:ut n N=true
 lt:x<q
 key:h ^ x%p=shK N n
theorem ed.more (k:ed p q g h f sec N n x):gIn p q h=true∧h≠1∧gIn p q (shK N n)=true∧shK N n≠1∧x≠0:=by
 obtain⟨hP,hS,hn,hx,e⟩:=k;have hh:kB p q h=true:=by
  unfold yW at hS;simp only[Bool.and_eq_true] at hS;exact hS.1.2
 obtain⟨hh1,hh2⟩:=rS hh;obtain⟨n1,n2⟩:=yr hn;have hk:=((tP hS).2.1 (n - 1) Om).2;obtain⟨hk1,hk2⟩:=rS hk;exact⟨hh1,hh2,hk1,hk2,abH hP hh1 hk2 e⟩
theorem jk (k:ed p q g h f sec N n x) (hY:Y.length=N.length) (hy:Y.getD (n - 1) 0=shK N n ^ s%p) :
  opR p q g h f sec N ep d n x Y=.tuple #[.agg (odC (opO p q h ep d n x (Y.getD (n - 1) 0))).toArray,.int .i64 0]∧(opO p q h ep d n x (Y.getD (n - 1) 0)).z=h ^ s%p:=by
 obtain⟨hh,hh1,hk,hk1,hx0⟩:=k.more;have h1:=k.pri.1;have hA:opA p q g h f sec N n x=true:=by
  unfold opA jz;rw[k.set,k.node,yZ h1 k.lt,yC hh,decide_eq_true k.key];rfl
 have hF:opF p q N Y n=true:=by
  unfold opF;rw[decide_eq_true hY,hy,uG hk Om];rfl
 refine⟨?_,?_⟩
 ·unfold opR;rw[if_pos hA,if_pos hF,if_pos (ahE k.pri k.lt hx0)];rfl
 ·show opZ p q x (Y.getD (n - 1) 0)=_;rw[hy,← k.key];exact ab1 hh k.pri k.lt hx0
theorem jt (k:ed p q g h f sec N n x) (hY:Y.length=N.length) (hy:Y.getD (n - 1) 0=shK N n ^ s%p) :
  eB p q g h f sec N ep d Y ep d n (opO p q h ep d n x (Y.getD (n - 1) 0)).z (opO p q h ep d n x (Y.getD (n - 1) 0)).c (opO p q h ep d n x (Y.getD (n - 1) 0)).s=true:=by
 obtain⟨hh,hh1,hk,hk1,hx0⟩:=k.more;have h1:=k.pri.1;have hz:=(jk (ep:=ep) (d:=d) k hY hy).2;have hzy:(h ^ s%p) ^ x%p=Y.getD (n - 1) 0:=by
  rw[hy,← k.key,yG,yG,Nat.mul_comm]
 have hd:=ni (q:=q) (x:=x) (H:=opH ep d n (Y.getD (n - 1) 0) (opZ p q x (Y.getD (n - 1) 0))) h1;have hp:=abz (s:=zY tx) (k:=x) (y:=h ^ s%p) hh (uG hh Om s) h1 k.lt hd;rw[k.key,hzy] at hp;unfold eB;rw[k.set,k.node,decide_eq_true hY,decide_eq_true rfl,decide_eq_true rfl];simp only[Bool.true_and];have hz' : opZ p q x (Y.getD (n - 1) 0)=h ^ s%p:=hz;show ckB p q (zY tx) h (shK N n) (opZ p q x (Y.getD (n - 1) 0)) (Y.getD (n - 1) 0) (afG p q h x (opZ p q x (Y.getD (n - 1) 0)) (opD q x ep d n (Y.getD (n - 1) 0) (opZ p q x (Y.getD (n - 1) 0)))) (opS p q h x (opZ p q x (Y.getD (n - 1) 0)) (opD q x ep d n (Y.getD (n - 1) 0) (opZ p q x (Y.getD (n - 1) 0))))=true;unfold afG opS opD;rw[hz'] at hp ⊢;exact hp
end
theorem iJ {q:Nat} (hP:Pri q) {l:LN} (hO:qj q l):∀ {i:Nat},i≤l.length→wtE q l i=0
 | 0,_=>by simp[wtE]
 | i+1,h=>by
  have ih:=iJ hP hO (i:=i) Om;obtain⟨v,hv⟩ : ∃ v,l[i]?=some v:=⟨_,List.getElem?_eq_getElem Om⟩;have hg:l.getD i 0=v:=by rw[List.getD_eq_getElem?_getD,hv];rfl
  have hvq:=hO.lt v (List.mem_of_getElem? hv);rw[abA ih,if_pos];exact jb hP hO.lt (by rw[hg];exact hvq) (Nat.le_refl _) (fun j u h1 h2 h3 e=>by
   rw[hg] at e;subst e;exact h2 (rq hO.nd h3 hv))
theorem iM {n M:Nat} {ls:List Od} {o:Od} (hn:∀ o∈ls,1≤o.n∧o.n≤n) (h:o∈aah n M ls):o∈ls:=(lW hn).1 (List.mem_of_mem_take h)
theorem ahQ {n M:Nat} {ls:List Od} (hn:∀ o∈ls,1≤o.n∧o.n≤n):(rKs n M ls).map (· + 1)=(aah n M ls).map Od.n:=by
 unfold rKs;rw[List.map_map];refine List.map_congr_left (fun o ho=>?_);have:=hn o (iM hn ho);show o.n - 1+1=o.n;omega
theorem ahX {p q h n M:Nat} {l:LN} {ls:List Od} (hn:∀ o∈ls,1≤o.n∧o.n≤n) (hz:∀ o∈ls,o.z=h ^ (zF l o.n%q)%p) :
  rZs n M ls=(((rKs n M ls).map (· + 1)).map fun a=>zF l a%q).map fun e=>h ^ e%p:=by
 rw[ahQ hn,List.map_map,List.map_map];exact List.map_congr_left (fun o ho=>hz o (iM hn ho))
theorem acn {p q h n M m:Nat} {l:LN} {ls:List Od} (hP:Pri q) (hh:gIn p q h=true) (hn:∀ o∈ls,1≤o.n∧o.n≤n) (hz:∀ o∈ls,o.z=h ^ (zF l o.n%q)%p)
  (hO:qj q ((rKs n M ls).map (· + 1))) (hl:l.length≤(rKs n M ls).length) :
  rsL p q ((rKs n M ls).map (· + 1)) (rZs n M ls) m=osL p q h l m:=by
 unfold rsL osL;refine List.map_congr_left (fun j _=>?_);unfold rsN osN;rw[ahX hn hz,bG hP hh hO (by rw[List.length_map];exact hl),sy hh];rfl
section
variable {p q g h:Nat} {f sec:Int} {N:LP} {ep d n x:Nat} {l:LN}
theorem aa8 (hn1:1≤n) (hn2:n≤N.length):(dYs p q l N N.length).getD (n - 1) 0=exN p (shK N n) (zF l n%q):=by
 rw[List.getD_eq_getElem?_getD];unfold dYs;rw[List.getElem?_map,List.getElem?_range Om];show dY p q l N (n - 1)=_;unfold dY shN;rw[show n - 1+1=n by omega];rfl
theorem fo (k:ed p q g h f sec N n x) :
  opR p q g h f sec N ep d n x (dYs p q l N N.length)=.tuple #[.agg (odC (opO p q h ep d n x ((dYs p q l N N.length).getD (n - 1) 0))).toArray,.int .i64 0] ∧
  (opO p q h ep d n x ((dYs p q l N N.length).getD (n - 1) 0)).z=h ^ (zF l n%q)%p ∧
  eB p q g h f sec N ep d (dYs p q l N N.length) ep d n (opO p q h ep d n x ((dYs p q l N N.length).getD (n - 1) 0)).z (opO p q h ep d n x ((dYs p q l N N.length).getD (n - 1) 0)).c (opO p q h ep d n x ((dYs p q l N N.length).getD (n - 1) 0)).s=true:=by
 obtain⟨n1,n2⟩:=yr k.node;have hy:(dYs p q l N N.length).getD (n - 1) 0=shK N n ^ (zF l n%q)%p:=by rw[aa8 n1 n2,sy k.more.2.2.1]
 have hYl:(dYs p q l N N.length).length=N.length:=by simp[dYs]
 exact⟨(jk k hYl hy).1,(jk (ep:=ep) (d:=d) k hYl hy).2,jt k hYl hy⟩
theorem age {y:Nat} (hp:p<zd) (h0p:0<p) (hq:q<zd) (h0q:0<q) (hep:ep<18446744073709551616) (hd:d<256) (hn:n<256):ae6 (opO p q h ep d n x y) where
 e:=hep
 d:=hd
 n:=hn
 z:=Nat.lt_trans (Nat.mod_lt _ h0p) hp
 c:=pI (Nat.lt_trans (vC h0q _ _) hq)
 s:=pI (Nat.lt_trans (Nat.mod_lt _ h0q) hq)
structure OpL (p q h:Nat) (N:LP) (l:LN) (ep d:Nat) (ls:List Od):Prop where
 ok:∀ o∈ls,ae6 o
 e:∀ o∈ls,o.e=ep
 d:∀ o∈ls,o.d=d
 n:∀ o∈ls,1≤o.n∧o.n≤N.length
 z:∀ o∈ls,o.z=h ^ (zF l o.n%q)%p
 nd:(ls.map Od.n).Nodup
theorem OpL.raise {F m:Nat} {ls:List Od} (k:OpL p q h N l ep d ls) (hs:yW p q g h (F:Int) (m:Int) N=true) (hl:F+m≤ls.length) (h0q:0<q):vQ p q g h (F:Int) (m:Int) N ls=true:=by
 refine dB hs Om (fun j o hj=>?_) (fun i j x y hij hi hj e=>by
  have h1:(ls.map Od.n)[i]?=some y.n:=by rw[List.getElem?_map,hi];rfl
  have h2:(ls.map Od.n)[j]?=some y.n:=by rw[List.getElem?_map,hj,e];rfl
  have:=rq k.nd h1 h2;omega)
 have hm:=List.mem_of_getElem? hj;have hh:kB p q h=true:=by
  unfold yW at hs;simp only[Bool.and_eq_true] at hs;exact hs.1.2
 have h1:=(rS hh).1;have hd0:ls.headD od0∈ls:=by
  cases ls with
  | nil=>simp at hj
  | cons a r=>simp
 unfold odB;rw[k.e o hm,k.e _ hd0,k.d o hm,k.d _ hd0,k.z o hm,yC (uG h1 h0q _)];have:=k.n o hm;unfold ut;simp[this.1,this.2]
end
end Sx
end
end Go.Proofs.YtiaibpcaloigkaaGreatDoor
