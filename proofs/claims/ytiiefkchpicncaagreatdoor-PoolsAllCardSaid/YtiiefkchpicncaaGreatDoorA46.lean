/- Part 46 of the proof. -/
import Derived.Test.YtiiefkchpicncaaGreatDoorA43
import Derived.Test.YtiiefkchpicncaaGreatDoorA45
set_option linter.unusedSimpArgs false
set_option linter.unusedVariables false
namespace Go.Proofs.YtiiefkchpicncaaGreatDoor
section
open Go Go.RowKit Go.BigFrame
namespace Sx
theorem ui {a q:Nat} (h1:1<q) (h2:a<q):zE a a q=true:=by unfold zE;simp[h1,h2]
theorem ae2 {q a b:Nat} (h1:1<q) (ha:a<q) (hb:b<q):([a,b].all fun x=>zE x x q)=true:=by simp[ui h1 ha,ui h1 hb]
theorem jk {q x:Nat} {H:List Nat} (h1:1<q):vd q x H<q∧vd q x H≠0:=by
 unfold vd;split
 ·exact⟨h1,by decide⟩
 ·rename_i h;exact⟨vM Om _ _,h⟩
theorem ed {p q a:Nat} (h:kB p q a=true):gIn p q a=true∧a≠1:=by
 unfold kB at h;simpa using h
section
variable {p q g h:Nat} {f sec:Int} {N:List (Nat × Nat)} {ep d x:Nat} {l:List Nat}
theorem nA (hS:v6 p q g h f sec N=true):kB p q g=true∧(∀ i,i<N.length→kB p q (N.getD i (0,0)).1=true∧kB p q (N.getD i (0,0)).2=true)∧N.length<8∧(N.length:Int)+sec<(q:Int)∧0≤f∧1≤sec:=by
 unfold v6 at hS;simp only[Bool.and_eq_true,decide_eq_true_eq] at hS;obtain⟨⟨⟨⟨⟨⟨⟨⟨⟨⟨h1,h2⟩,h3⟩,h4⟩,h5⟩,h6⟩,h7⟩,h8⟩,h9⟩,h10⟩,h11⟩:=hS;refine⟨h9,fun i hi=>?_,by omega,h8,h1,h3⟩;have:=List.all_eq_true.1 h11 N[i] (List.getElem_mem hi);rw[List.getD_eq_getElem?_getD,List.getElem?_eq_getElem hi];simpa using this
theorem abk {k y draw:Nat} (hg:gIn p q g=true) (hy:gIn p q y=true) (h1:1<q) (hk:k<q) (hd:draw<q∧draw≠0) :
  ckB p q (yb uA) g (g ^ k%p) y (y ^ k%p) (pfN p q g k y draw).1 (pfN p q g k y draw).2=true:=by
 have hB:prB p q k g y draw=true:=by
  unfold prB;rw[y8 hg,y8 hy,ui h1 hk,ui h1 hd.1];simp[hd.2]
 unfold pfN;rw[hB,sT,sT];have hc:prC p q (yb uA) k g y draw<q:=vM Om _ _;have e1:=pw (x:=k) hg hc hd.1;have e2:=pw (x:=k) hy hc hd.1;dsimp only;generalize hC:prC p q (yb uA) k g y draw=c at *;unfold ckB;rw[hg,pK hg Om,hy,pK hy Om,ui h1 hc,ui h1 (Nat.mod_lt _ Om)];simp only[Bool.true_and,Bool.and_true,decide_eq_true_eq];unfold ckC vH;rw[e1,e2,← hC];rfl
theorem aeR {key draw c:Nat} {H:List Nat} (hg:gIn p q g=true) (hk:gIn p q key=true) (hk1:key≠1) (h1:1<q) (e:g ^ x%p=key) (hd:draw<q) (hc:c<q) (hC:c=fI q key (g ^ draw%p) H) :
  nq p q g key c ((draw+x*c%q)%q) H=true:=by
 have e1:=pw (x:=x) hg hc hd;rw[e] at e1;have e2:prD p [g,key] [(draw+x*c%q)%q,(0+q - c)%q]=g ^ draw%p:=by
  unfold prD;simp only[List.zip_cons_cons,List.zip_nil_left,List.foldl_cons,List.foldl_nil,Nat.one_mul,Nat.mod_mod];exact e1
 unfold nq;rw[hk,ae2 h1 hc (Nat.mod_lt (draw+x*c%q) Om),e2,decide_eq_false hk1,decide_eq_true hC];rfl
theorem abc {key draw:Nat} {H:List Nat} (hg:gIn p q g=true) (hk:gIn p q key=true) (hk1:key≠1) (h1:1<q) (hx:x<q) (e:g ^ x%p=key) (hd:draw<q∧draw≠0) :
  nq p q g key (sgN p q g x draw H).1 (sgN p q g x draw H).2 H=true:=by
 obtain⟨⟨hp1,_,_⟩,_⟩:=tM hg;have hx0:x≠0:=by
  rintro rfl;rw[Nat.pow_zero,Nat.mod_eq_of_lt hp1] at e;exact hk1 e.symm
 have hB:sgB p q g x draw=true:=by
  unfold sgB;rw[y8 hg,ui h1 hx,ui h1 hd.1];simp[hx0,hd.2]
 have hs:sgN p q g x draw H=(sgC p q g x draw H,(draw+x*sgC p q g x draw H%q)%q):=by
  unfold sgN;rw[hB,sT,sT]
 have hC:sgC p q g x draw H=fI q key (g ^ draw%p) H:=by
  unfold sgC fI;rw[e]
 have hc:sgC p q g x draw H<q:=vM Om _ _;rw[hs];generalize sgC p q g x draw H=c at *;exact aeR hg hk hk1 h1 e hd.1 hc hC
theorem dh (hP:Pri q) (hA:jT p q g h f sec N d l x=true) :
  ckE p q g h f sec N ep d (dVs p q g l N.length) (dYs p q l N N.length) (dPs p q g l N ep d x N.length) (dSg p q g l N ep d x N.length).1 (dSg p q g l N ep d x N.length).2=none:=by
 unfold jT at hA;simp only[Bool.and_eq_true] at hA;obtain⟨⟨⟨hS,hN⟩,hl⟩,hx⟩:=hA;obtain⟨hlen,hall⟩:=hl;obtain⟨hkg,hks,hn8,hnq,hf,hsec⟩:=nA hS;obtain⟨hg,_⟩:=ed hkg;have h1:=hP.1;have hn:N.length<q:=by omega
 have hlen':=of_decide_eq_true hlen;have hsh:∀ i,shN q l i<q:=fun i=>Nat.mod_lt _ Om;have hV:∀ i,dV p q g l i=g ^ shN q l i%p:=fun i=>dD hg _;have hky:∀ i,i<N.length→gIn p q (ky N i)=true:=fun i hi=>(ed (hks i hi).2).1;have hY:∀ i,i<N.length→dY p q l N i=ky N i ^ shN q l i%p:=fun i hi=>dD (hky i hi) _;have aV:∀ i,i<N.length→(dVs p q g l N.length)[i]?.getD 0=g ^ shN q l i%p:=fun i hi=>by
  unfold dVs;rw[List.getElem?_map,List.getElem?_range hi];exact hV i
 have aY:∀ i,i<N.length→(dYs p q l N N.length)[i]?.getD 0=ky N i ^ shN q l i%p:=fun i hi=>by
  unfold dYs;rw[List.getElem?_map,List.getElem?_range hi];exact hY i hi
 unfold ckE;rw[hS,if_pos rfl];have b1:shB p q N d (dVs p q g l N.length) (dYs p q l N N.length) (dPs p q g l N ep d x N.length)=true:=by
  unfold shB;rw[hN];have v1:(dVs p q g l N.length).all (gIn p q)=true:=by
   rw[List.all_eq_true];intro v hv;unfold dVs at hv;obtain⟨i,_,rfl⟩:=List.mem_map.1 hv;rw[hV];exact pK hg Om _
  have v2:(dYs p q l N N.length).all (gIn p q)=true:=by
   rw[List.all_eq_true];intro v hv;unfold dYs at hv;obtain⟨i,hi,rfl⟩:=List.mem_map.1 hv;have hi':=List.mem_range.1 hi;rw[hY i hi'];exact pK (hky i hi') Om _
  rw[v1,v2];simp[dVs,dYs,dPs]
 rw[b1,if_pos rfl];have b2:duB p q N.length (f+sec).toNat (dVs p q g l N.length)=true:=by
  have hc:(f+sec).toNat=l.length:=by omega
  rw[hc];unfold duB;rw[Bool.or_eq_true,Bool.and_eq_true];refine .inr ⟨kw hP hn,?_⟩;rw[List.all_eq_true];intro k hk;have hk':=List.mem_range.1 hk;rw[decide_eq_true_eq];have hz:=eG (l:=l) (k:=k) hP hn8 hn Om (kw hP hn);have e:dVs p q g l N.length=((List.range N.length).map (shN q l)).map (fun e=>g ^ e%p):=by
   unfold dVs;rw[List.map_map];exact List.map_congr_left (fun i _=>hV i)
  obtain⟨⟨hp1,_,_⟩,_⟩:=tM hg;rw[e,abQ hp1 (by simp[dwL]),mM hg];unfold dwL;rw[hz,Nat.pow_zero,Nat.mod_eq_of_lt hp1];exact (pL (m:=1) Om Om).symm
 rw[b2,if_pos rfl];have b3:aaz p q g N (dVs p q g l N.length) (dYs p q l N N.length) (dPs p q g l N ep d x N.length)=true:=by
  unfold aaz;rw[List.all_eq_true];intro i hi;have hi' : i<N.length:=by have:=List.mem_range.1 hi;simpa [dPs] using this
  unfold pfB;rw[aV i hi',aY i hi'];have e1:(N[i]?.getD (0,0)).2=ky N i:=by unfold ky;rw[List.getD_eq_getElem?_getD]
  have e2:(dPs p q g l N ep d x N.length)[i]?.getD (0,0)=dP p q g l N ep d x i:=by
   unfold dPs;rw[List.getElem?_map,List.getElem?_range hi'];rfl
  rw[e1,e2];exact abk hg (hky i hi') h1 (hsh i) (jk h1)
 rw[b3,if_pos rfl];obtain⟨hd1,hdn⟩:=si hN;have hkk:=hks (d - 1) Om;unfold acU at hx;simp only[Bool.and_eq_true,decide_eq_true_eq] at hx;have hxq:x<q:=by
  have:=hx.1.1;unfold zE at this;simp only[Bool.and_eq_true,decide_eq_true_eq] at this;exact this.2
 have b4:nq p q g (N[d - 1]?.getD (0,0)).1 (dSg p q g l N ep d x N.length).1 (dSg p q g l N ep d x N.length).2 (yN ep d (dVs p q g l N.length) (dYs p q l N N.length) (dPs p q g l N ep d x N.length))=true:=by
  have e1:(N[d - 1]?.getD (0,0)).1=sgK N d:=by unfold sgK;rw[List.getD_eq_getElem?_getD]
  rw[e1];exact abc hg (ed hkk.1).1 (ed hkk.1).2 h1 hxq hx.2 (jk h1)
 rw[b4,if_pos rfl]
end
section
variable {p q g:Nat} {N:List (Nat × Nat)} {ep d x n:Nat} {l:List Nat}
theorem adE (hp:p<zd):∀ a∈dVs p q g l n,a<zd:=fun a ha=>by
 unfold dVs at ha;obtain⟨i,_,rfl⟩:=List.mem_map.1 ha;exact tz hp
theorem adi (hp:p<zd):∀ a∈dYs p q l N n,a<zd:=fun a ha=>by
 unfold dYs at ha;obtain⟨i,_,rfl⟩:=List.mem_map.1 ha;exact tz hp
theorem ael (hq:q<zd) (h0:0<q):yz (dPs p q g l N ep d x n):=fun a ha=>by
 unfold dPs at ha;obtain⟨i,_,rfl⟩:=List.mem_map.1 ha;exact aek h0 hq
theorem aas (hq:q<zd) (h0:0<q):(dSg p q g l N ep d x n).1<zd∧(dSg p q g l N ep d x n).2<zd:=by
 exact adA h0 hq
end
def y4 (n:Nat):Bool:=decide (2≤n) && decide (n<4294967296) && (List.range n).all fun e=>decide (e<2) || decide (n<e*e) || decide (n%e≠0)
theorem pq (n:Nat):∀ m,n<m*m→∃ d,n<d*d∧∀ e,e<d→e*e≤n
 | 0,h=>by simp at h
 | m+1,h=>by
  rcases Nat.lt_or_ge n (m*m) with h1|h1
  ·exact pq n m h1
  ·exact⟨m+1,h,fun e he=>Nat.le_trans (Nat.mul_le_mul (by omega:e≤m) (by omega:e≤m)) h1⟩
theorem nT {n:Nat} (h:y4 n=true):Pri n:=by
 unfold y4 at h;simp only[Bool.and_eq_true,decide_eq_true_eq,List.all_eq_true,Bool.or_eq_true,List.mem_range] at h;obtain⟨⟨h2,_⟩,ha⟩:=h;obtain⟨d,hd,hs⟩:=pq n n (by have:=Nat.mul_le_mul_right n h2;omega);refine fH h2 hd (fun e he1 he2=>?_);have he:=hs e he2;have hen:e<n:=by have:=Nat.mul_le_mul_right e he1;omega
 rcases ha e hen with (h|h)|h
 ·omega
 ·omega
 ·exact h
theorem iT {n d:Nat} (h2:2≤n) (h3:n<4294967296) (hd:n<d*d) (h:∀ e,2≤e→e<d→n%e≠0):y4 n=true:=by
 unfold y4;simp only[Bool.and_eq_true,decide_eq_true_eq,List.all_eq_true,Bool.or_eq_true,List.mem_range];refine⟨⟨h2,h3⟩,fun e _=>?_⟩
 rcases Nat.lt_or_ge e 2 with h1|h1
 ·exact .inl (.inl h1)
 ·rcases Nat.lt_or_ge e d with h4|h4
  ·exact .inr (h e h1 h4)
  ·exact .inl (.inr (Nat.lt_of_lt_of_le hd (Nat.mul_le_mul h4 h4)))
theorem cG {n d:Nat} (h2:2≤d) (hd:d*d≤n) (h:n%d=0):y4 n=false:=by
 cases hb:y4 n with
 | false=>rfl
 | true =>
  exfalso;unfold y4 at hb;simp only[Bool.and_eq_true,decide_eq_true_eq,List.all_eq_true,Bool.or_eq_true,List.mem_range] at hb;have hdn:d<n:=by have:=Nat.mul_le_mul_right d h2;omega
  rcases hb.2 d hdn with (h1|h1)|h1
  ·omega
  ·omega
  ·exact h1 h
theorem nS {n:Nat} (h:n<2∨4294967296≤n):y4 n=false:=by
 unfold y4
 rcases h with h|h
 ·rw[decide_eq_false (show ¬ 2≤n by omega)];rfl
 ·rw[decide_eq_false (show ¬ n<4294967296 by omega)];simp
def rb (p q:Nat):Bool:=decide (wd 0 p<4294967296) && decide (1<wd 0 q) && decide (p=wd 0 p) && decide (q=wd 0 q) && y4 (wd 0 p) && y4 (wd 0 q) && decide ((wd 0 p - 1)%wd 0 q=0)
theorem jN {p q:Nat} (h:rb p q=true):p<4294967296∧q<4294967296∧Pri p∧Pri q:=by
 unfold rb at h;simp only[Bool.and_eq_true,decide_eq_true_eq] at h;obtain⟨⟨⟨⟨⟨⟨h1,h2⟩,h3⟩,h4⟩,h5⟩,h6⟩,h7⟩:=h;rw[← h3] at h1 h5;rw[← h4] at h6;refine⟨h1,?_,nT h5,nT h6⟩;unfold y4 at h6;simp only[Bool.and_eq_true,decide_eq_true_eq] at h6;exact h6.1.2
def my (q:Nat) (k:Nat × Nat):Bool:=decide (k.1≠0) && decide (k.2≠0) && decide (k.1<q) && decide (k.2<q)
def csK (p g hh:Nat) (k:Nat × Nat):Nat × Nat:=(exN p g k.1,exN p hh k.2)
def csN (p g a:Nat) (ks:List (Nat × Nat)):List (Nat × Nat):=ks.map (csK p g (exN p g a))
def nn (p q g a:Nat) (f sec:Int) (ks:List (Nat × Nat)):Bool :=
 yq p g && decide (a≠0) && decide (ks.length≤7) && rb p q && (ks.all (my q) && (decide (ks=[]) || yq p (exN p g a))) && v6 p q g (exN p g a) f sec (csN p g a ks)
theorem ub (p g a:Nat) (ks:List (Nat × Nat)):(csN p g a ks).length=ks.length:=by simp[csN]
theorem fz {p g a i:Nat} {ks:List (Nat × Nat)} {k:Nat × Nat} (h:ks[i]?=some k):(csN p g a ks)[i]?=some (csK p g (exN p g a) k):=by unfold csN;rw[List.getElem?_map,h];rfl
theorem jl {p g a:Nat} {ks:List (Nat × Nat)} (hp:p<zd):yz (csN p g a ks):=fun x hx=>by
 obtain⟨k,_,rfl⟩:=List.mem_map.1 hx;exact⟨tz hp,tz hp⟩
structure dE (p q g a:Nat) (f sec:Int) (ks:List (Nat × Nat)):Prop where
 p32:p<4294967296
 q32:q<4294967296
 pri:Pri q
 set:v6 p q g (exN p g a) f sec (csN p g a ks)=true
 scr:∀ k∈ks,k.1<q∧k.2<q
 len:ks.length≤7
theorem dJ {p q g a:Nat} {f sec:Int} {ks:List (Nat × Nat)} (h:nn p q g a f sec ks=true):dE p q g a f sec ks:=by
 unfold nn at h;simp only[Bool.and_eq_true,decide_eq_true_eq,List.all_eq_true] at h;obtain⟨⟨⟨⟨⟨_,_⟩,h3⟩,h4⟩,h5,_⟩,h6⟩:=h;obtain⟨g1,g2,_,g4⟩:=jN h4;refine⟨g1,g2,g4,h6,fun k hk=>?_,h3⟩;have:=h5 k hk;unfold my at this;simp only[Bool.and_eq_true,decide_eq_true_eq] at this;exact⟨this.1.2,this.2⟩
end Sx
end
end Go.Proofs.YtiiefkchpicncaaGreatDoor
