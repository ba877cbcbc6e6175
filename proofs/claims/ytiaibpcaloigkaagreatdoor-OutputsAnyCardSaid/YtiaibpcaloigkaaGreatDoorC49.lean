/- Part 49 of the proof. -/
import Derived.Test.YtiaibpcaloigkaaGreatDoorC46
import Derived.Test.YtiaibpcaloigkaaGreatDoorC47
import Derived.Test.YtiaibpcaloigkaaGreatDoorC48
set_option linter.unusedSimpArgs false
set_option linter.unusedVariables false
set_option maxHeartbeats 8000000
namespace Go.Proofs.YtiaibpcaloigkaaGreatDoor
section
open Go Go.RowKit Go.BigFrame
namespace Sx
attribute [local irreducible] DQ WC WO WX wd
section
variable (p q g h:Nat) (F m:Nat) (pt:Option Addr) (c:Nat) (N:LP) (l:LN) (ep d:Nat) (ls:List Od) (pl:Option Addr) (cl:Nat)
theorem abN (hp:p<zd) (hq:q<zd) (hg:g<zd) (hh:h<zd) (hN:zV N) (hNl:N.length≤100) (hP:Pri q) (hs:yW p q g h (F:Int) (m:Int) N=true) (hl:l.length=F+m)
  (k:OpL p q h N l ep d ls) (hlen:F+m≤ls.length) (hle:ls.length≤N.length) :
  Fn Tryz.prog 95 [stV p q g h (F:Int) (m:Int) (.slice pt N.length c),.slice pl ls.length cl] (fun w=>RdF yx (.slice pt N.length c) N w∧RdF odC (.slice pl ls.length cl) ls w)
   (Ex (fun s=>.tuple #[AX (s 0) m m,.int .i64 0]) (fun s=>[⟨s 0,24,(osL p q h l m).flatMap zc⟩]) (fun _=>True)):=by
 have hsp:=ya hs;have hB:=k.raise hs hlen Om;obtain⟨_,hR⟩:=ah6 hB hsp.2.1 hsp.2.2.1 (M:=F+m) Om k.ok;have hO:=mF (q:=q) (ks:=rKs N.length (F+m) ls) (fun e=>by have:=hR.kl;rw[e] at this;simp at this;omega) hR.nd hR.lt (by rw[hR.kl];omega);have hkh:gIn p q h=true:=by
  have hs':=hs;unfold yW at hs';simp only[Bool.and_eq_true] at hs';exact (rS hs'.1.2).1
 have e1:=acn (M:=F+m) (m:=m) hP hkh k.n k.z hO (by rw[hR.kl];omega);have e2:=iJ hP hO (Nat.le_refl _);refine (cF p q g h pt c N pl cl ls F m hp hq hg hh hN hNl k.ok Om hs hlen hle).weak (fun w hw=>hw) (fun v L hv=>?_);have hv1:=hv.1 hB;unfold oRY at hv1;rw[e1,e2] at hv1
 rcases hv1 with ⟨h0,_⟩|⟨_,g1,h1,h2⟩
 ·exact absurd rfl h0
 ·exact⟨fun _=>g1,h1,h2,trivial⟩
end
end Sx
end
section
open Go Go.RowKit Go.BigFrame
namespace Sx
section
variable {p q g h:Nat} {f sec:Int} {N:LP} {ep d x:Nat} {l X:LN}
structure OpF (p q g h:Nat) (f sec:Int) (N:LP) (ep d:Nat) (l X:LN) (O:Nat→Od) (t:Nat):Prop where
 r:opR p q g h f sec N ep d (t+1) (X.getD t 0) (dYs p q l N N.length)=.tuple #[.agg (odC (O t)).toArray,.int .i64 0]
 ck:eB p q g h f sec N ep d (dYs p q l N N.length) ep d (t+1) (O t).z (O t).c (O t).s=true
 ok:ae6 (O t)
 e:(O t).e=ep
 d:(O t).d=d
 n:(O t).n=t+1
 z:(O t).z=h ^ (zF l (t+1)%q)%p
end
section
variable {p q g a F m:Nat} {ks:LP}
theorem da (hc:qb p q g a (F:Int) (m:Int) ks) {t:Nat} (ht:t<ks.length):ed p q g (exN p g a) (F:Int) (m:Int) (csN p g a ks) (t+1) ((ks.map Prod.snd).getD t 0):=by
 obtain⟨k,hk⟩ : ∃ k,ks[t]?=some k:=⟨_,List.getElem?_eq_getElem ht⟩;have hx:(ks.map Prod.snd).getD t 0=k.2:=by simp[List.getD,hk]
 have hh:kB p q (exN p g a)=true:=by
  have hS:=hc.set;unfold yW at hS;simp only[Bool.and_eq_true] at hS;exact hS.1.2
 refine⟨hc.pri,hc.set,?_,?_,?_⟩
 ·unfold ut;rw[yT,decide_eq_true Om,decide_eq_true Om];rfl
 ·rw[hx];exact (hc.scr k (List.mem_of_getElem? hk)).2
 ·have hs:shK (csN p g a ks) (t+1)=exN p (exN p g a) k.2:=by
   unfold shK;rw[Nat.add_sub_cancel,List.getD,kd hk];rfl
  rw[hx,hs,sy (rS hh).1]
theorem aS (hc:qb p q g a (F:Int) (m:Int) ks) {ep d:Nat} (hp:p<zd) (hq:q<zd) (hep:ep<18446744073709551616) (hd:d<256) (l:LN) :
  ∃ O:Nat→Od,∀ t,t<ks.length→OpF p q g (exN p g a) (F:Int) (m:Int) (csN p g a ks) ep d l (ks.map Prod.snd) O t:=by
 obtain⟨hn1,hn7,hnq,hf0,hsec1,hfs,hmg,hmh⟩:=ya hc.set;rw[yT] at hn7;refine⟨fun t=>opO p q (exN p g a) ep d (t+1) ((ks.map Prod.snd).getD t 0) ((dYs p q l (csN p g a ks) (csN p g a ks).length).getD t 0),fun t ht=>?_⟩;have k:=da hc ht;obtain⟨h1,h2,h3⟩:=fo (ep:=ep) (d:=d) (l:=l) k;obtain⟨⟨hp1,_,_⟩,_⟩:=vD k.more.1;exact⟨h1,h3,age hp Om hq Om hep hd Om,rfl,rfl,rfl,h2⟩
end
def fG (ck:Od→Bool) (A:List Od) (x:Od):List Od:=if (A.any fun y=>x.n == y.n)=false∧ck x=true then A++[x] else A
def tp (ck:Od→Bool) (ls:List Od):List Od:=ls.foldl (fG ck) []
theorem bu {ck:Od→Bool} {ls:List Od} {i:Nat} {x:Od} (h:ls[i]?=some x):tp ck (ls.take (i+1))=fG ck (tp ck (ls.take i)) x:=by
 unfold tp;rw[List.take_add_one,h,List.foldl_append];rfl
theorem aj {ck:Od→Bool} {ls:List Od} {x:Od}:tp ck (ls++[x])=fG ck (tp ck ls) x:=by
 unfold tp;rw[List.foldl_append];rfl
theorem dn {α:Type} {C:List α→Prop} (h0:C []) (h1:∀ l x,C l→C (l++[x])) (l:List α):C l:=by
 have key:∀ l:List α,C l.reverse:=fun l=>by
  induction l with
  | nil=>exact h0
  | cons a l ih=>rw[List.reverse_cons];exact h1 _ _ ih
 have:=key l.reverse;rwa [List.reverse_reverse] at this
structure aih (ck:Od→Bool) (ls A:List Od):Prop where
 nd:(A.map Od.n).Nodup
 sub:∀ x∈A,x∈ls∧ck x=true
 all:∀ x∈ls,ck x=true→x.n∈A.map Od.n
theorem afN {A:List Od} {n:Nat}:(A.any fun y=>n == y.n)=true↔n∈A.map Od.n:=by
 rw[List.any_eq_true,List.mem_map];constructor
 ·rintro ⟨y,hy,h⟩;exact⟨y,hy,by simpa using Eq.symm (by simpa using h)⟩
 ·rintro ⟨y,hy,h⟩;exact⟨y,hy,by simp[h]⟩
theorem rC (ck:Od→Bool) (ls:List Od):aih ck ls (tp ck ls):=by
 induction ls using dn with
 | h0=>exact⟨by simp[tp],by simp[tp],by simp⟩
 | h1 l x ih =>
  rw[aj];unfold fG;split
  ·rename_i h;obtain⟨h1,h2⟩:=h;have hn:x.n ∉ (tp ck l).map Od.n:=fun hm=>by rw[afN.2 hm] at h1;cases h1
   refine⟨?_,fun y hy=>?_,fun y hy hc=>?_⟩
   ·rw[List.map_append,List.nodup_append];refine⟨ih.nd,by simp,fun b hb c hc=>?_⟩;have:c=x.n:=by simpa using hc
    rw[this];exact fun e=>hn (e ▸ hb)
   ·rcases List.mem_append.1 hy with hy|hy
    ·exact⟨List.mem_append_left _ (ih.sub y hy).1,(ih.sub y hy).2⟩
    ·rw[List.mem_singleton.1 hy];exact⟨by simp,h2⟩
   ·rw[List.map_append]
    rcases List.mem_append.1 hy with hy|hy
    ·exact List.mem_append_left _ (ih.all y hy hc)
    ·rw[List.mem_singleton.1 hy];simp
  ·rename_i h;refine⟨ih.nd,fun y hy=>⟨List.mem_append_left _ (ih.sub y hy).1,(ih.sub y hy).2⟩,fun y hy hc=>?_⟩
   rcases List.mem_append.1 hy with hy|hy
   ·exact ih.all y hy hc
   ·rw[List.mem_singleton.1 hy] at hc ⊢;apply Classical.byContradiction;intro hn;refine h ⟨?_,hc⟩;cases e:((tp ck l).any fun y=>x.n == y.n) with
    | false=>rfl
    | true=>exact absurd (afN.1 e) hn
theorem rz {α:Type} [DecidableEq α]:∀ {l m:List α},l.Nodup→(∀ x∈l,x∈m)→l.length≤m.length
 | [],_,_,_=>Nat.zero_le _
 | a::l,m,hd,hs=>by
  rw[List.nodup_cons] at hd;have ha:=hs a Sm;have ih:=rz (m:=m.erase a) hd.2 (fun x hx=>(List.mem_erase_of_ne (fun e=>by rw[e] at hx;exact hd.1 hx)).2 (hs x (by simp[hx])));rw[List.length_erase_of_mem ha] at ih;have:0<m.length:=List.length_pos_of_mem ha;rw[List.length_cons];omega
theorem abl {ck:Od→Bool} {ls:List Od} {M:LN} (h:∀ x∈ls,ck x=true→x.n∈M):(tp ck ls).length≤M.length:=by
 have k:=rC ck ls;have:=rz k.nd (m:=M) (fun n hn=>by
  obtain⟨x,hx,rfl⟩:=List.mem_map.1 hn;exact h x (k.sub x hx).1 (k.sub x hx).2)
 rwa [List.length_map] at this
theorem eS {ck:Od→Bool} {ls:List Od} {M:LN} (hM:M.Nodup) (h:∀ n∈M,∃ x∈ls,ck x=true∧x.n=n):M.length≤(tp ck ls).length:=by
 have k:=rC ck ls;have:=rz hM (m:=(tp ck ls).map Od.n) (fun n hn=>by
  obtain⟨x,hx,hc,rfl⟩:=h n hn;exact k.all x hx hc)
 rwa [List.length_map] at this
theorem abW {p q g h:Nat} {f sec:Int} {N:LP} {ep d:Nat} {l X:LN} {O:Nat→Od} (hO:∀ t,t<N.length→OpF p q g h f sec N ep d l X O t) {ck:Od→Bool} {ls:List Od} (hk:∀ x∈ls,ck x=true→∃ t,t<N.length∧x=O t) :
  OpL p q h N l ep d (tp ck ls)∧(tp ck ls).length≤N.length:=by
 have k:=rC ck ls;have key:∀ o∈tp ck ls,∃ t,t<N.length∧o=O t:=fun o ho=>hk o (k.sub o ho).1 (k.sub o ho).2;refine⟨⟨?_,?_,?_,?_,?_,k.nd⟩,?_⟩
 ·intro o ho;obtain⟨t,ht,rfl⟩:=key o ho;exact (hO t ht).ok
 ·intro o ho;obtain⟨t,ht,rfl⟩:=key o ho;exact (hO t ht).e
 ·intro o ho;obtain⟨t,ht,rfl⟩:=key o ho;exact (hO t ht).d
 ·intro o ho;obtain⟨t,ht,rfl⟩:=key o ho;rw[(hO t ht).n];omega
 ·intro o ho;obtain⟨t,ht,rfl⟩:=key o ho;rw[(hO t ht).z,(hO t ht).n]
 ·have:=abl (ck:=ck) (ls:=ls) (M:=(List.range N.length).map (· + 1)) (fun x hx hc=>by
   obtain⟨t,ht,rfl⟩:=hk x hx hc;rw[(hO t ht).n];exact List.mem_map.2 ⟨t,List.mem_range.2 ht,rfl⟩)
  rwa [List.length_map,List.length_range] at this
theorem tN {n i:Nat} (h:i<n):dqD n i=i+1:=by
 unfold dqD;rw[Nat.mod_eq_of_lt h];omega
theorem afi {n s a b:Nat} (hb:b<n) (hab:a<b) (e:(s+a)%n=(s+b)%n):False:=by
 have h1:=Nat.div_add_mod (s+a) n;have h2:=Nat.div_add_mod (s+b) n;rw[e] at h1;have h3:n*((s+b) / n)=n*((s+a) / n)+(b - a):=by omega
 have h4:n ∣ b - a:=by
  have d1:n ∣ n*((s+b) / n):=⟨_,rfl⟩;have d2:n ∣ n*((s+a) / n):=⟨_,rfl⟩;rw[h3] at d1;exact (Nat.dvd_add_right d2).1 d1
 have h5:=Nat.le_of_dvd Om h4;omega
theorem qM {n s:Nat}:∀ {many:Nat},many≤n→((List.range many).map fun k=>(s+k)%n+1).Nodup
 | 0,_=>by simp
 | m+1,h=>by
  rw[List.range_succ,List.map_append,List.nodup_append];refine⟨qM Om,by simp,fun a ha b hb=>?_⟩;obtain⟨k,hk,rfl⟩:=List.mem_map.1 ha;have hk:=List.mem_range.1 hk;have:b=(s+m)%n+1:=by simpa using hb
  rw[this];intro e;exact afi (n:=n) (s:=s) (a:=k) (b:=m) Om hk Om
def nE (O:Nat→Nat→Od) (n s many mL:Nat):List Od:=(List.range mL).flatMap fun i=>(List.range many).map fun k=>O i ((s+k)%n)
theorem aE {O:Nat→Nat→Od} {n s many mL:Nat} {x:Od} (hx:x∈nE O n s many mL):∃ i,i<mL∧∃ k,k<many∧x=O i ((s+k)%n):=by
 obtain⟨i,hi,h1⟩:=List.mem_flatMap.1 hx;obtain⟨k,hk,rfl⟩:=List.mem_map.1 h1;exact⟨i,List.mem_range.1 hi,k,List.mem_range.1 hk,rfl⟩
theorem aex {O:Nat→Nat→Od} {n s many mL i k:Nat} (hi:i<mL) (hk:k<many):O i ((s+k)%n)∈nE O n s many mL :=
 List.mem_flatMap.2 ⟨i,List.mem_range.2 hi,List.mem_map.2 ⟨k,List.mem_range.2 hk,rfl⟩⟩
section
variable {p q g h:Nat} {f sec:Int} {N:LP} {ep:Nat} {lP:Nat→List Nat} {X:LN} {O:Nat→Nat→Od} {mL:Nat}
def ckO (p q g h:Nat) (f sec:Int) (N:LP) (ep:Nat) (lP:Nat→List Nat) (i:Nat) (x:Od):Bool:=eB p q g h f sec N ep (i+1) (dYs p q (lP i) N N.length) x.e x.d x.n x.z x.c x.s
theorem aaZ {i:Nat} {x:Od} (hc:ckO p q g h f sec N ep lP i x=true):x.e=ep∧x.d=i+1:=by
 unfold ckO eB at hc;simp only[Bool.and_eq_true,decide_eq_true_eq] at hc;exact⟨hc.1.1.1.1.2,hc.1.1.1.2⟩
theorem adO {s many:Nat} (h0:0<N.length) (hO:∀ i,i<mL→∀ t,t<N.length→OpF p q g h f sec N ep (i+1) (lP i) X (O i) t) {i:Nat} {x:Od} (hx:x∈nE O N.length s many mL) (hc:ckO p q g h f sec N ep lP i x=true) :
  ∃ k,k<many∧x=O i ((s+k)%N.length):=by
 obtain⟨j,hj,k,hk,rfl⟩:=aE hx;have h1:=(hO j hj _ (Nat.mod_lt (s+k) h0)).d;have h2:=(aaZ hc).2;have:j=i:=by omega
 exact⟨k,hk,by rw[this]⟩
theorem adP {i t:Nat} (ht:t<N.length) (hO:OpF p q g h f sec N ep (i+1) (lP i) X (O i) t):ckO p q g h f sec N ep lP i (O i t)=true:=by
 unfold ckO;rw[hO.e,hO.d,hO.n];exact hO.ck
theorem abS {s many:Nat} (h0:0<N.length) (hm:many≤N.length) (hO:∀ i,i<mL→∀ t,t<N.length→OpF p q g h f sec N ep (i+1) (lP i) X (O i) t) {i:Nat} {ls:List Od} (hl:∀ k,k<many→O i ((s+k)%N.length)∈ls) (hi:i<mL) :
  many≤(tp (ckO p q g h f sec N ep lP i) ls).length:=by
 have:=eS (ck:=ckO p q g h f sec N ep lP i) (ls:=ls) (qM (n:=N.length) (s:=s) hm) (fun n hn=>by
  obtain⟨k,hk,rfl⟩:=List.mem_map.1 hn;have ht:=Nat.mod_lt (s+k) h0;exact⟨_,hl k (List.mem_range.1 hk),adP ht (hO i hi _ ht),(hO i hi _ ht).n⟩)
 rwa [List.length_map,List.length_range] at this
end
end Sx
end
section
open Go Go.RowKit Go.BigFrame
namespace Sx
attribute [local irreducible] DQ WC WO WX wd
theorem Pk.mid {g t:Nat} {cs:LV} {L2:List Ent}:∀ L1:List Ent,Pk (L1++(⟨g,t,cs⟩::L2)) g t cs (L1++L2)
 | []=>.here
 | _::L1=>.there (Pk.mid L1)
section
variable {P:Program} {w0:World} {gs:LN} {nn:Nat} {ops:List Oper} {Q:Exit→Act→World→Prop} {K:List (Nat × Value)} {rest:List Oper}
variable {d:Nat} {ty:TypeId} {pos:String} {after:Array Edge} {gd:Option (Nat × Bool)}
theorem WO.appR {st xt e size bts g c n m l:Nat} {z ys B:LV} {x y:Operand} {v:Value} {L L1 L2:List Ent} [SlT P st e size] [SlT P xt e size] [ElT P e bts z] (hs:size=z.length) (hx:ev K x=some (agV g c n n)) (hy:ev K y=some v)
  (hL:L=L1++(rwL e g B (mkz (c - n) z) n++L2)) (hB:B.length=n*z.length) (hr:0<n→n≤c∧c<9223372036854775808) (hrd:Rds w0 gs L v m ys) (hyl:ys.length=m*z.length) (h1:ys.all Value.oneCell'=true) (hm:0<m) (hl:n+m=l) (hlb:l<9223372036854775808) (hnc:l*bts≤140737488355328) (hb:bts≠0) (ht:e≠0)
  (k:∀ g' c',c' < 9223372036854775808→l≤c'→WO P w0 gs nn ops Q ((d,AX g' l c')::K) (⟨g',e,B++ys++mkz (c' - l) z⟩::(L1++L2)) rest) (hd:Nat.blt d nn=true:=by rfl) (hw:wk ops K gd=some true:=by rfl) :
  WO P w0 gs nn ops Q K L (⟨some d,.call { callee:=.builtin .append,args:=#[x,y],argTypes:=#[st,xt] },ty,pos,after,gd⟩::rest):=by
 subst hL;cases n with
 | zero =>
  have hB0:B=[]:=List.length_eq_zero_iff.1 Om;subst hB0;obtain rfl:m=l:=by omega
  exact WO.appNZ (z:=z) hs hx hy hrd hyl hm hlb hnc hb (fun g' c' a b=>by have:=k g' c' a b;simpa [rwL] using this) hd hw
 | succ n =>
  obtain⟨r1,r2⟩:=hr Om;exact WO.appKZ (z:=z) hs hx hy hB r1 (Pk.mid L1) hrd hyl h1 hl hlb r2 hnc hb ht k hd hw
end
def wy0:Bool→Nat→Nat→Value
 | true,m,g=>AX g m m
 | false,_,_=>.slice none 0 0
def wyE:Bool→Int
 | true=>0
 | false=>7
abbrev wyV (b:Bool) (m g:Nat):Value:=.tuple #[wy0 b m g,.int .i64 (wyE b)]
def wyN:Bool→List Nat→Nat→List Ent
 | true,os,g=>[⟨g,24,os.flatMap zc⟩]
 | false,_,_=>[]
def Wy (b:Bool) (m:Nat) (os:LN):Value→List Ent→Prop:=Ex (fun s=>wyV b m (s 0)) (fun s=>wyN b os (s 0)) (fun _=>True)
def feR:Nat→Int
 | 0=>0
 | _+1=>7
theorem abj {R:World→Prop} (hR:∀ w w',R w→Mod [] w w'→R w') {f1 f2:Nat} [Cal Tryz.prog f1] [Cal Tryz.prog f2] (c1 c2:LV) (b1 b2:Bool) (m:Nat) (os:LN) (h1:Fn Tryz.prog f1 c1 R (Wy b1 m os)) (h2:Fn Tryz.prog f2 c2 R (Wy b2 m os)) (gR c:Nat) :
  Fn Tryz.prog 33 [AX gR 2 c] (fun w=>Seg w gR 0 [fV (f1,c1),fV (f2,c2)]∧R w) (Wy (b1 || b2) m os):=by
 refine Fn.enter Tryz.func33 rfl rfl rfl ?_;intro w hw;obtain⟨hwF,hwR⟩:=hw
 repeat (first|refine Tk ?_|intro _|exact Tz)
 refine WC.loopI (σ:=Nat) (fun i=>i=0∨(i=1∧b1=false)∨(i=2∧b1=false∧b2=false)) (fun i=>[(2,.slice none 0 0),(3,.int .i64 (feR i)),(6,AX gR 2 c),(7,.int .i64 2),(8,.int .i64 (i:Int))]) (fun _=>[]) (fun i=>2 - i) 0 (fun i hi=>?_) (.inl rfl)
 try dsimp only at hi ⊢
 rcases hi with rfl|⟨rfl,hb1⟩|⟨rfl,hb1,hb2⟩
 ·repeat (first|refine WO.does (zb (o':=0+0*1) rfl rfl Dt rfl) ?_|refine WO.does (zn (v:=fV (f1,c1)) (hs:=hwF) (hle:=Nat.zero_le _) (hc:=rfl)) ?_|refine Tj ?_|intro _|refine Tc ?_|exact Tz)
  refine WO.calls (fs:=[]) (cs:=c1) h1 rfl rfl Sm (fun w1 hm=>hR _ _ hwR hm.mod) (fun v N hv=>?_);obtain⟨s,rfl,rfl,_⟩:=hv;cases b1 with
  | true =>
   dsimp only[wy0,wyE,wyN,List.cons_append,List.nil_append]
   repeat (first|refine WO.does (zZ rfl rfl Dt) ?_|refine Tj ?_|intro _|refine Tc ?_|exact Tz)
   exact WX.ret2 rfl Rv.t Rv.t [⟨s 0,24,os.flatMap zc⟩] (Lle.c Lle.nil) ⟨s,rfl,rfl,trivial⟩
  | false =>
   dsimp only[wy0,wyE,wyN,List.cons_append,List.nil_append]
   repeat (first|refine WO.does (zt rfl rfl Dt) ?_|refine Tj ?_|intro _|refine Tc ?_|exact Tz)
   exact WX.metI 1 (hs:=⟨.inr (.inl ⟨rfl,rfl⟩),by decide⟩)
 ·subst hb1
  repeat (first|refine WO.does (zb (o':=0+1*1) rfl rfl Dt rfl) ?_|refine WO.does (zn (v:=fV (f2,c2)) (hs:=hwF) (hle:=Nat.zero_le _) (hc:=rfl)) ?_|refine Tj ?_|intro _|refine Tc ?_|exact Tz)
  refine WO.calls (fs:=[]) (cs:=c2) h2 rfl rfl Sm (fun w1 hm=>hR _ _ hwR hm.mod) (fun v N hv=>?_);obtain⟨s,rfl,rfl,_⟩:=hv;cases b2 with
  | true =>
   dsimp only[wy0,wyE,wyN,List.cons_append,List.nil_append]
   repeat (first|refine WO.does (zZ rfl rfl Dt) ?_|refine Tj ?_|intro _|refine Tc ?_|exact Tz)
   exact WX.ret2 rfl Rv.t Rv.t [⟨s 0,24,os.flatMap zc⟩] (Lle.c Lle.nil) ⟨s,rfl,rfl,trivial⟩
  | false =>
   dsimp only[wy0,wyE,wyN,List.cons_append,List.nil_append]
   repeat (first|refine WO.does (zt rfl rfl Dt) ?_|refine Tj ?_|intro _|refine Tc ?_|exact Tz)
   exact WX.metI 2 (hs:=⟨.inr (.inr ⟨rfl,rfl,rfl⟩),by decide⟩)
 ·subst hb1 hb2
  repeat (first|refine Tk ?_|intro _|exact Tz)
  exact WX.ret2 rfl Rv.t Rv.t [] Lle.nil ⟨fun _=>0,rfl,rfl,trivial⟩
abbrev evC (sD sO sS:Value):List Value:=[sD,sO,sS]
abbrev evV (sD sO sS:Value):Value:=.agg #[sD,sO,sS]
structure Sw where
 e:Nat
 d:Nat
 pt:Option Addr
 P:List Nat
 c:Nat
def swC (x:Sw):List Value:=[.int .u64 (x.e:Int),.int .u8 (x.d:Int),.slice x.pt x.P.length x.c]
theorem dQ (x:Sw):(swC x).length=3:=rfl
structure EvR (ep:Nat) (pD:Option Addr) (cD:Nat) (T:List (Dd × Dk)) (pO:Option Addr) (cO:Nat) (ls:List Od) (pS:Option Addr) (cS:Nat) (SH:List Sw) (w:World):Prop where
 d:RdF (ddC ep) (.slice pD T.length cD) T w
 a:∀ y∈T,aR w y.1 y.2
 o:RdF odC (.slice pO ls.length cO) ls w
 s:RdF swC (.slice pS SH.length cS) SH w
 p:∀ x∈SH,RdF zc (.slice x.pt x.P.length x.c) x.P w
theorem aR.mod {w w' : World} {x:Dd} {b:Dk} (h:aR w x b) (hm:Mod [] w w'):aR w' x b:=⟨h.v.mod hm,h.y.mod hm,h.p.mod hm⟩
theorem EvR.mod {ep cD cO cS:Nat} {pD pO pS:Option Addr} {T:List (Dd × Dk)} {ls:List Od} {SH:List Sw} {w w' : World} (h:EvR ep pD cD T pO cO ls pS cS SH w) (hm:Mod [] w w'):EvR ep pD cD T pO cO ls pS cS SH w' :=
 ⟨h.d.mod hm,fun y hy=>(h.a y hy).mod hm,h.o.mod hm,h.s.mod hm,fun x hx=>(h.p x hx).mod hm⟩
section
variable (p q g h F m:Nat) (pt:Option Addr) (c:Nat) (N:LP) (ep:Nat) (y:Dd × Dk) (sD sO sS:Value)
theorem bd:Fn Tryz.prog 34 [stV p q g h (F:Int) (m:Int) (.slice pt N.length c),.agg (ddC ep y).toArray,evV sD sO sS] Tr
  (Ex (fun s=>fV (88,[Sx.pt (s 2),Sx.pt (s 1),Sx.pt (s 0)])) (fun s=>[⟨s 2,59,evC sD sO sS⟩,⟨s 1,51,ddC ep y⟩,⟨s 0,36,stC p q g h (F:Int) (m:Int) (.slice pt N.length c)⟩]) (fun _=>True)):=by
 refine Fn.enter Tryz.func34 rfl rfl rfl ?_;intro w hw
 repeat (first|refine WO.does (zH rfl rfl) ?_|refine Tj ?_|intro _|refine Tc ?_|exact Tz)
 rename_i g0 g1 g2;exact WX.ret1 rfl Rv.t [⟨g2,59,evC sD sO sS⟩,⟨g1,51,ddC ep y⟩,⟨g0,36,stC p q g h (F:Int) (m:Int) (.slice pt N.length c)⟩] (by repeat (first|exact Lle.nil|refine Lle.c ?_)) ⟨fun i=>match i with|0=>g0|1=>g1|_=>g2,rfl,rfl,trivial⟩
theorem fF:Fn Tryz.prog 35 [stV p q g h (F:Int) (m:Int) (.slice pt N.length c),.agg (ddC ep y).toArray,evV sD sO sS] Tr
  (Ex (fun s=>fV (91,[Sx.pt (s 2),Sx.pt (s 1),Sx.pt (s 0)])) (fun s=>[⟨s 2,59,evC sD sO sS⟩,⟨s 1,51,ddC ep y⟩,⟨s 0,36,stC p q g h (F:Int) (m:Int) (.slice pt N.length c)⟩]) (fun _=>True)):=by
 refine Fn.enter Tryz.func35 rfl rfl rfl ?_;intro w hw
 repeat (first|refine WO.does (zH rfl rfl) ?_|refine Tj ?_|intro _|refine Tc ?_|exact Tz)
 rename_i g0 g1 g2;exact WX.ret1 rfl Rv.t [⟨g2,59,evC sD sO sS⟩,⟨g1,51,ddC ep y⟩,⟨g0,36,stC p q g h (F:Int) (m:Int) (.slice pt N.length c)⟩] (by repeat (first|exact Lle.nil|refine Lle.c ?_)) ⟨fun i=>match i with|0=>g0|1=>g1|_=>g2,rfl,rfl,trivial⟩
end
section
variable (p q g h F m:Nat) (pt:Option Addr) (c:Nat) (N:LP) (ep:Nat) (y:Dd × Dk) (pD:Option Addr) (cD:Nat) (T:List (Dd × Dk)) (pO:Option Addr) (cO:Nat) (ls:List Od) (pS:Option Addr) (cS:Nat) (SH:List Sw) (gE gD gS:Nat) (os:LN)
structure WyR (w:World):Prop where
 e:Seg w gE 0 (evC (.slice pD T.length cD) (.slice pO ls.length cO) (.slice pS SH.length cS))
 d:Seg w gD 0 (ddC ep y)
 s:Seg w gS 0 (stC p q g h (F:Int) (m:Int) (.slice pt N.length c))
 n:RdF yx (.slice pt N.length c) N w
 v:EvR ep pD cD T pO cO ls pS cS SH w
 a:aR w y.1 y.2
theorem WyR.mod {w w' : World} (k:WyR p q g h F m pt c N ep y pD cD T pO cO ls pS cS SH gE gD gS w) (hm:Mod [] w w'):WyR p q g h F m pt c N ep y pD cD T pO cO ls pS cS SH gE gD gS w' :=
 ⟨k.e.mod hm Sm,k.d.mod hm Sm,k.s.mod hm Sm,k.n.mod hm,k.v.mod hm,k.a.mod hm⟩
def swB (ep d:Nat) (x:Sw):Bool:=decide (x.e=ep) && decide (x.d=d)
theorem abF (hp:p<zd) (hq:q<zd) (hg:g<zd) (hh:h<zd) (hN:zV N) (hNl:N.length≤100) (hF:F≤10) (hm:m≤10) (hf:afl y.1) (hV:∀ a∈y.1.V,a<zd) (hSl:SH.length≤1000)
  (hSn:∀ x∈SH,(∀ a∈x.P,a<zd)∧x.P.length≤100) (hS:∀ x∈SH,swB ep y.1.d x=true→afc p q g h (F:Int) (m:Int) N y.1.V x.P=true∧mq p q g h (F:Int) (m:Int) N x.P=true∧osL p q h x.P m=os) :
  Fn Tryz.prog 88 [Sx.pt gE,Sx.pt gD,Sx.pt gS] (WyR p q g h F m pt c N ep y pD cD T pO cO ls pS cS SH gE gD gS) (Wy (SH.any (swB ep y.1.d)) m os):=by
 refine Fn.enter Tryz.func88 rfl rfl rfl ?_;intro w hw;obtain⟨w1,w2,w3,w4,w5,w6⟩:=hw
 repeat (first|refine Tk ?_|intro _|exact Tz)
 refine WC.loopI (σ:=Nat) (fun i=>i≤SH.length∧∀ x∈SH.take i,swB ep y.1.d x=false) (fun i=>[(0,Sx.pt gE),(1,Sx.pt gD),(2,Sx.pt gS),(3,.slice none 0 0),(4,.int .i64 0),(8,.slice pS SH.length cS),(9,.int .i64 (SH.length:Int)),(10,.int .i64 (i:Int))]) (fun _=>[]) (fun i=>SH.length - i) 0 (fun i hi=>?_) ⟨Nat.zero_le _,by simp⟩
 try dsimp only at hi ⊢
 obtain⟨hi,hno⟩:=hi
 by_cases hlt:i<SH.length
 ·obtain⟨x,hx⟩ : ∃ x,SH[i]?=some x:=⟨_,List.getElem?_eq_getElem hlt⟩;have hxm:=List.mem_of_getElem? hx;obtain⟨bS,oS,rfl,_,hsS⟩:=id w5.s |>.get hx
  have hcx:cut (SH.flatMap swC) (oS+i*3 - oS) 3=swC x:=by rw[Nat.add_sub_cancel_left];exact zB dQ hx
  have hadd2:IntKind.i64.wrap ((i:Int)+1)=((i+1:Nat):Int):=zo Om Om Om;have hgo:swB ep y.1.d x=false→i+1≤SH.length∧∀ z∈SH.take (i+1),swB ep y.1.d z=false:=fun hb=>⟨by omega,fun z hz=>by
   rw[List.take_add_one,hx] at hz
   rcases List.mem_append.1 hz with hz|hz
   ·exact hno z hz
   ·have:z=x:=by simpa using hz
    rw[this];exact hb⟩
  have hme:SH.length - (i+1)<SH.length - i:=by omega
  by_cases he:x.e=ep
  ·by_cases hd:x.d=y.1.d
   ·have hb:swB ep y.1.d x=true:=by unfold swB;rw[decide_eq_true he,decide_eq_true hd];rfl
    have hany:SH.any (swB ep y.1.d)=true:=List.any_eq_true.2 ⟨x,hxm,hb⟩;rw[hany];obtain⟨k1,k2,k3⟩:=hS x hxm hb;obtain⟨k4,k5⟩:=hSn x hxm;have hC:=ad5 p q g h (F:Int) (m:Int) pt (some ⟨y.2.v,0,none⟩) (some ⟨y.2.y,0,none⟩) (some ⟨y.2.p,0,none⟩) c y.1.V.length y.1.Y.length y.1.P.length N ep y.1.d y.1.V y.1.Y y.1.P y.1.c y.1.s x.P x.pt x.c hp hq hg hh hN hNl Om Om Om Om hV hf.vl k4 k5;rw[k1] at hC;have hO:=acK p q g h (F:Int) pt c N x.pt x.c x.P m hp hq hg hh hN hNl k4 k5 Om Om Om k2;rw[k3] at hO
    repeat (first|refine Tk ?_|intro _|exact Tz)
    refine WC.dT rfl Om ?_
    repeat (first|refine WO.does (zb (o':=oS+i*3) rfl rfl hlt rfl) ?_|refine WO.does (zk (vs:=swC x) (hs:=hsS) (hle:=Nat.le_add_right _ _) (hc:=hcx)) ?_|refine WO.does (zP rfl rfl Om) ?_|refine WO.does (zk (vs:=ddC ep y) (hs:=w2) (hc:=rfl)) ?_|refine WO.does (zk (vs:=stC p q g h (F:Int) (m:Int) (.slice pt N.length c)) (hs:=w3) (hc:=rfl)) ?_|refine WO.acallR (hc:=hC) (hR:=fun wx hm=>⟨w4.mod hm.mod,w6.v.mod hm.mod,(w5.p x hxm).mod hm.mod⟩) (k:=?_)|refine Tj ?_|intro _|refine Tc ?_|exact Tz)
    refine WO.acallX (hc:=hO) (hR:=fun wx hm=>⟨w4.mod hm.mod,(w5.p x hxm).mod hm.mod⟩) (k:=fun s _=>?_)
    repeat (first|refine Tk ?_|intro _|exact Tz)
    exact WX.ret2 rfl Rv.t Rv.t [⟨s 0,24,os.flatMap zc⟩] (Lle.c Lle.nil) ⟨s,rfl,rfl,trivial⟩
   ·have hb:swB ep y.1.d x=false:=by unfold swB;rw[decide_eq_false hd,Bool.and_false]
    repeat (first|refine Tk ?_|intro _|exact Tz)
    refine WC.dT rfl Om ?_
    repeat (first|refine WO.does (zb (o':=oS+i*3) rfl rfl hlt rfl) ?_|refine WO.does (zk (vs:=swC x) (hs:=hsS) (hle:=Nat.le_add_right _ _) (hc:=hcx)) ?_|refine WO.does (zP rfl rfl (show ((x.e:Nat):Int)=(ep:Int) by omega)) ?_|refine WO.does (zQ rfl rfl (show ¬ ((x.d:Nat):Int)=(y.1.d:Int) by omega)) ?_|refine WO.does (ze rfl rfl hadd2) ?_|refine Tj ?_|intro _|refine Tc ?_|exact Tz)
    exact WX.metI (i+1) (hs:=⟨hgo hb,hme⟩)
  ·have hb:swB ep y.1.d x=false:=by unfold swB;rw[decide_eq_false he,Bool.false_and]
   repeat (first|refine Tk ?_|intro _|exact Tz)
   refine WC.dT rfl Om ?_
   repeat (first|refine WO.does (zb (o':=oS+i*3) rfl rfl hlt rfl) ?_|refine WO.does (zk (vs:=swC x) (hs:=hsS) (hle:=Nat.le_add_right _ _) (hc:=hcx)) ?_|refine WO.does (zQ rfl rfl (show ¬ ((x.e:Nat):Int)=(ep:Int) by omega)) ?_|refine WO.does (ze rfl rfl hadd2) ?_|refine Tj ?_|intro _|refine Tc ?_|exact Tz)
   exact WX.metI (i+1) (hs:=⟨hgo hb,hme⟩)
 ·have hi2:i=SH.length:=by omega
  subst hi2;rw[List.take_length] at hno;have hany:SH.any (swB ep y.1.d)=false:=List.any_eq_false.2 (fun x hx=>by rw[hno x hx];simp);rw[hany]
  repeat (first|refine Tk ?_|intro _|exact Tz)
  refine WC.dF rfl Om ?_
  repeat (first|refine Tk ?_|intro _|exact Tz)
  exact WX.ret2 rfl Rv.t Rv.t [] Lle.nil ⟨fun _=>0,rfl,rfl,trivial⟩
end
theorem e9 {f:Nat} [Cal Tryz.prog f] (caps:LV) (Pb:Od→Bool) (xs:List Od) (b o c:Nat) (R:World→Prop) (hst:zM R) (hn:xs.length≤1099511627776)
  (hf:∀ x∈xs,Fn Tryz.prog f ([.agg (odC x).toArray]++caps) R (Is (.bool (Pb x)))) :
  Fn Tryz.prog 164 [.slice (some ⟨b,o,none⟩) xs.length c,.func (.func f) #[] caps.toArray] (fun w=>Seg w b o (xs.flatMap odC)∧R w) (Is (.int .i64 (ixI Pb xs))):=by
 refine Fn.enter Tryz.func164 rfl rfl rfl ?_;intro w hw;obtain⟨hw,hwR⟩:=hw
 repeat (first|refine Tk ?_|intro _|exact Tz)
 refine WC.loopI (σ:=Nat) (fun i=>i≤xs.length∧∀ j,j<i→∀ x,xs[j]?=some x→Pb x=false) (fun i=>[(0,.slice (some ⟨b,o,none⟩) xs.length c),(1,.func (.func f) #[] caps.toArray),(7,.int .i64 (xs.length:Int)),(8,.int .i64 (i:Int))]) (fun _=>[]) (fun i=>xs.length - i) 0 (fun i hi=>?_) ⟨Nat.zero_le _,fun j hj=>by omega⟩
 try dsimp only at hi ⊢
 obtain⟨hi,h0⟩:=hi
 by_cases hlt:i<xs.length
 ·obtain⟨x,hx⟩ : ∃ x,xs[i]?=some x:=⟨_,List.getElem?_eq_getElem hlt⟩;have hcx:cut (xs.flatMap odC) (o+i*15 - o) 15=odC x:=by rw[Nat.add_sub_cancel_left];exact zB vB hx
  have hcall:=hf x (List.mem_of_getElem? hx);cases hp:Pb x with
  | true =>
   rw[iP Pb h0 hx hp];rw[hp] at hcall
   repeat (first|refine Tk ?_|intro _|exact Tz)
   refine WC.dT rfl Om ?_
   repeat (first|refine Tj ?_|intro _|refine WO.does (zb (o':=o+i*15) rfl rfl hlt rfl) ?_|refine WO.does (zk (vs:=odC x) (hs:=hw) (hle:=Nat.le_add_right _ _) (hc:=hcx)) ?_|refine WO.acallV (hc:=hcall) (hR:=fun w' hm=>hst _ _ hwR hm.mod.below) (k:=?_)|refine Tc ?_|exact Tz)
  | false =>
   rw[hp] at hcall
   repeat (first|refine Tk ?_|intro _|exact Tz)
   refine WC.dT rfl Om ?_
   repeat (first|refine Tj ?_|intro _|refine WO.does (zb (o':=o+i*15) rfl rfl hlt rfl) ?_|refine WO.does (zk (vs:=odC x) (hs:=hw) (hle:=Nat.le_add_right _ _) (hc:=hcx)) ?_|refine WO.acallV (hc:=hcall) (hR:=fun w' hm=>hst _ _ hwR hm.mod.below) (k:=?_)|refine Tc ?_|exact Tz)
   refine WX.metI (i+1) (hs:=⟨⟨by show i+1≤xs.length;omega,fun j hj y hy=>by
    rcases Nat.lt_or_ge j i with h|h
    ·exact h0 j h y hy
    ·have:j=i:=by omega
     subst this;rw[hx] at hy;cases hy;exact hp⟩,by show xs.length - (i+1)<xs.length - i;omega⟩)
 ·have hi2:i=xs.length:=by omega
  rw[sX Pb (by rw[← hi2];exact h0)]
  repeat (first|refine Tk ?_|intro _|exact Tz)
  refine WC.dF rfl Om ?_
  repeat (first|refine Tk ?_|intro _|exact Tz)
theorem mb {f:Nat} [Cal Tryz.prog f] (caps:LV) (Pb:Od→Bool) (xs:List Od) (b o c:Nat) (R:World→Prop) (hst:zM R) (hn:xs.length≤1099511627776)
  (hf:∀ x∈xs,Fn Tryz.prog f ([.agg (odC x).toArray]++caps) R (Is (.bool (Pb x)))) :
  Fn Tryz.prog 92 [.slice (some ⟨b,o,none⟩) xs.length c,.func (.func f) #[] caps.toArray] (fun w=>Seg w b o (xs.flatMap odC)∧R w) (Is (.bool (xs.any Pb))):=by
 have hI:=e9 caps Pb xs b o c R hst hn hf;rw[← nj];generalize ixI Pb xs=r at *;refine Fn.enter Tryz.func92 rfl rfl rfl ?_;intro w hw;obtain⟨hw,hwR⟩:=hw
 repeat (first|refine Tj ?_|intro _|refine WO.acallR (hc:=hI) (hR:=fun w' hm=>⟨hw.mod hm.mod Sm,hst _ _ hwR hm.mod.below⟩) (k:=?_)|refine Tc ?_|exact Tz)
theorem RdF.ag {α:Type} {f:α→List Value} {t g c n:Nat} {A:List α} {r:LV} {w:World} (hn:A.length=n) (h:∀ e∈rwL t g (A.flatMap f) r n,e.ok w):RdF f (agV g c n n) A w:=by
 cases n with
 | zero =>
  obtain rfl:=List.length_eq_zero_iff.1 hn;exact RdF.nilV
 | succ n =>
  have:=(h ⟨g,t,A.flatMap f++r⟩ (List.mem_singleton.2 rfl)).seg 0;rw[List.drop_zero] at this;exact RdF.ownO this hn
theorem p8 {f:Nat} [Cal Tryz.prog f] (caps:LV) (Pb:Od→Bool) (xs:List Od) (v:Value) (R:World→Prop) (hst:zM R) (hn:xs.length≤1099511627776)
  (hf:∀ x∈xs,Fn Tryz.prog f ([.agg (odC x).toArray]++caps) R (Is (.bool (Pb x)))) :
  Fn Tryz.prog 92 [v,.func (.func f) #[] caps.toArray] (fun w=>RdF odC v xs w∧R w) (Is (.bool (xs.any Pb))):=by
 intro w hw;obtain⟨⟨pt,c,rfl,h⟩,h2⟩:=id hw
 rcases h with ⟨rfl,rfl⟩|⟨b,o,rfl,hs⟩
 ·revert w
  suffices Fn Tryz.prog 92 [.slice none 0 c,.func (.func f) #[] caps.toArray] Tr (Is (.bool false)) from fun w _ _=>this w trivial
  have hI:Fn Tryz.prog 164 [.slice none 0 c,.func (.func f) #[] caps.toArray] Tr (Is (.int .i64 (-1))):=by
   refine Fn.enter Tryz.func164 rfl rfl rfl ?_;intro w hw
   repeat (first|refine Tk ?_|intro _|exact Tz)
   refine WC.loopI (σ:=Nat) (fun i=>i=0) (fun i=>[(7,.int .i64 0),(8,.int .i64 0)]) (fun _=>[]) (fun _=>0) 0 (fun i hi=>?_) rfl
   try dsimp only at hi ⊢
   repeat (first|refine Tk ?_|intro _|exact Tz)
   done
  refine Fn.enter Tryz.func92 rfl rfl rfl ?_;intro w hw
  repeat (first|refine Tj ?_|intro _|refine WO.acall (hc:=hI) (k:=?_)|refine Tc ?_|exact Tz)
  done
 ·exact mb caps Pb xs b o c R hst hn hf w ⟨hs,h2⟩
theorem fX (x z:Od) (gx:Nat):Fn Tryz.prog 93 ([.agg (odC z).toArray]++[Sx.pt gx]) (fun w=>Seg w gx 0 (odC x)) (Is (.bool (x.n == z.n))):=by
 cases e:(x.n == z.n) with
 | true =>
  have he : ((x.n : Nat) : Int) = (z.n : Int) := by have : x.n = z.n := by simpa using e
                                                    omega
  refine Fn.enter Tryz.func93 rfl rfl rfl ?_;intro w hw
  repeat (first|refine WO.does (zn (v:=.int .u8 (x.n:Int)) (hs:=hw) (hle:=Nat.zero_le _) (hc:=rfl)) ?_|refine WO.does (zP rfl rfl he) ?_|refine Tj ?_|intro _|refine Tc ?_|exact Tz)
  done
 | false =>
  have he : ¬ ((x.n : Nat) : Int) = (z.n : Int) := by have : ¬ x.n = z.n := by simpa using e
                                                      omega
  refine Fn.enter Tryz.func93 rfl rfl rfl ?_;intro w hw
  repeat (first|refine WO.does (zn (v:=.int .u8 (x.n:Int)) (hs:=hw) (hle:=Nat.zero_le _) (hc:=rfl)) ?_|refine WO.does (zQ rfl rfl he) ?_|refine Tj ?_|intro _|refine Tc ?_|exact Tz)
  done
def ckY (p q g h F m:Nat) (N:LP) (ep:Nat) (y:Dd) (x:Od):Bool:=eB p q g h (F:Int) (m:Int) N ep y.d y.Y x.e x.d x.n x.z x.c x.s
section
variable (p q g h F m:Nat) (pt:Option Addr) (c:Nat) (N:LP) (ep:Nat) (y:Dd × Dk) (pD:Option Addr) (cD:Nat) (T:List (Dd × Dk)) (pO:Option Addr) (cO:Nat) (ls:List Od) (pS:Option Addr) (cS:Nat) (SH:List Sw) (gE gD gS:Nat) (l:LN)
theorem agw {p q g h F m:Nat} {N:LP} {ep:Nat} {y:Dd} {x:Od} (hk:ckY p q g h F m N ep y x=true):x.e=ep∧x.d=y.d:=by
 unfold ckY eB at hk;simp only[Bool.and_eq_true,decide_eq_true_eq] at hk;exact⟨hk.1.1.1.1.2,hk.1.1.1.2⟩
theorem dz (hp:p<zd) (hq:q<zd) (hg:g<zd) (hh:h<zd) (hN:zV N) (hNl:N.length≤100) (hP:Pri q) (hset:yW p q g h (F:Int) (m:Int) N=true) (hF:F≤10) (hm:m≤10) (hep:ep<18446744073709551616) (hyd:y.1.d<256) (hY:∀ a∈y.1.Y,a<zd)
  (hls:ls.length≤1000) (hok:∀ x∈ls,ae6 x) (hl:l.length=F+m)
  (hsel:F+m≤(tp (ckY p q g h F m N ep y.1) ls).length→OpL p q h N l ep y.1.d (tp (ckY p q g h F m N ep y.1) ls)∧(tp (ckY p q g h F m N ep y.1) ls).length≤N.length) :
  Fn Tryz.prog 91 [Sx.pt gE,Sx.pt gD,Sx.pt gS] (WyR p q g h F m pt c N ep y pD cD T pO cO ls pS cS SH gE gD gS) (Wy (decide (F+m≤(tp (ckY p q g h F m N ep y.1) ls).length)) m (osL p q h l m)):=by
 have hFm:IntKind.i64.wrap ((F:Int)+(m:Int))=((F+m:Nat):Int):=zo Om Om Om;obtain⟨ck,hck⟩ : ∃ ck,ckY p q g h F m N ep y.1=ck:=⟨_,rfl⟩;rw[hck] at hsel ⊢;refine Fn.enter Tryz.func91 rfl rfl rfl ?_;intro w hw;obtain⟨w1,w2,w3,w4,w5,w6⟩:=hw
 repeat (first|refine Tk ?_|intro _|exact Tz)
 refine WC.loopI (σ:=Nat × Nat × Nat × Nat × List Od) (fun s=>s.1≤ls.length∧s.2.2.2.2=tp ck (ls.take s.1)∧s.2.2.2.2.length=s.2.2.2.1∧s.2.2.2.1≤s.1∧(0<s.2.2.2.1→s.2.2.2.1≤s.2.2.1∧s.2.2.1<9223372036854775808))
  (fun s=>[(0,Sx.pt gE),(1,Sx.pt gD),(2,Sx.pt gS),(5,agV s.2.1 s.2.2.1 s.2.2.2.1 s.2.2.2.1),(10,.slice pO ls.length cO),(11,.int .i64 (ls.length:Int)),(12,.int .i64 (s.1:Int))])
  (fun s=>rwL 119 s.2.1 (s.2.2.2.2.flatMap odC) (mkz (s.2.2.1 - s.2.2.2.1) (opC 0 0 0 0 0 0)) s.2.2.2.1) (fun s=>ls.length - s.1) (0,0,0,0,[]) (fun s hi=>?_) ⟨Nat.zero_le _,rfl,rfl,Nat.le_refl _,fun h=>absurd h Dt⟩
 obtain⟨i,gl,cl,n,A⟩:=s
 try dsimp only at hi ⊢
 obtain⟨hi,hA,hn,hni,hr⟩:=hi
 by_cases hlt:i<ls.length
 ·obtain⟨x,hx⟩ : ∃ x,ls[i]?=some x:=⟨_,List.getElem?_eq_getElem hlt⟩;have hxm:=List.mem_of_getElem? hx;have hxo:=hok x hxm;obtain⟨bO,oO,rfl,_,hsO⟩:=id w5.o |>.get hx
  have hcx:cut (ls.flatMap odC) (oO+i*15 - oO) 15=odC x:=by rw[Nat.add_sub_cancel_left];exact zB vB hx
  have hadd2:IntKind.i64.wrap ((i:Int)+1)=((i+1:Nat):Int):=zo Om Om Om;have hnx:=bu (ck:=ck) hx;rw[← hA] at hnx;have hme:ls.length - (i+1)<ls.length - i:=by omega
  have hsk:¬ ((A.any fun y=>x.n == y.n)=false∧ck x=true)→i+1≤ls.length∧A=tp ck (ls.take (i+1))∧A.length=n∧n≤i+1∧(0<n→n≤cl∧cl<9223372036854775808):=fun hb=>⟨by omega,by rw[hnx,fG,if_neg hb],hn,by omega,hr⟩;have hC:=fun gx=>p8 (f:=93) [Sx.pt gx] (fun z=>x.n == z.n) A (agV gl cl n n) (fun w=>Seg w gx 0 (odC x)) zM.seg Om (fun z _=>fX x z gx);have hBl:(A.flatMap odC).length=n*15:=by rw[zy vB,hn]
  repeat (first|refine Tk ?_|intro _|exact Tz)
  refine WC.dT rfl Om ?_
  repeat (first|refine WO.does (zb (o':=oO+i*15) rfl rfl hlt rfl) ?_|refine WO.does (zk (vs:=odC x) (hs:=hsO) (hle:=Nat.le_add_right _ _) (hc:=hcx)) ?_|refine Tj ?_|intro _|refine Tc ?_|exact Tz)
  rename_i gx
  repeat (first|refine WO.does (zH rfl rfl) ?_|refine Tj ?_|intro _|refine Tc ?_|exact Tz)
  refine WO.acallR (hc:=hC gx) (hR:=fun wx hm=>⟨RdF.ag (t:=119) (r:=mkz (cl - n) (opC 0 0 0 0 0 0)) hn (fun e he=>hm.ok e (List.mem_cons_of_mem _ he)),Hs.sg hm⟩) (k:=?_);cases hag:(A.any fun y=>x.n == y.n) with
  | true =>
   repeat (first|refine WO.does (ze rfl rfl hadd2) ?_|refine Tj ?_|intro _|refine Tc ?_|exact Tz)
   exact WX.metI (i+1,gl,cl,n,A) (hl:=Lle.skp Lle.left') (hs:=⟨hsk (by rw[hag];simp),hme⟩)
  | false =>
  by_cases he:x.e=ep
  case neg =>
   repeat (first|refine WO.does (zQ rfl rfl (show ¬ ((x.e:Nat):Int)=(ep:Int) by omega)) ?_|refine WO.does (zn (v:=.int .u64 (ep:Int)) (hs:=w2) (hle:=Nat.zero_le _) (hc:=rfl)) ?_|refine WO.does (ze rfl rfl hadd2) ?_|refine Tj ?_|intro _|refine Tc ?_|exact Tz)
   exact WX.metI (i+1,gl,cl,n,A) (hl:=Lle.skp Lle.left') (hs:=⟨hsk (fun h=>he (agw (by rw[hck];exact h.2)).1),hme⟩)
  by_cases hd:x.d=y.1.d
  case neg =>
   repeat (first|refine WO.does (zP rfl rfl (show ((x.e:Nat):Int)=(ep:Int) by omega)) ?_|refine WO.does (zQ rfl rfl (show ¬ ((x.d:Nat):Int)=(y.1.d:Int) by omega)) ?_|refine WO.does (zn (v:=.int .u64 (ep:Int)) (hs:=w2) (hle:=Nat.zero_le _) (hc:=rfl)) ?_|refine WO.does (zn (v:=.int .u8 (y.1.d:Int)) (hs:=w2) (hle:=Nat.zero_le _) (hc:=rfl)) ?_|refine WO.does (ze rfl rfl hadd2) ?_|refine Tj ?_|intro _|refine Tc ?_|exact Tz)
   exact WX.metI (i+1,gl,cl,n,A) (hl:=Lle.skp Lle.left') (hs:=⟨hsk (fun h=>hd (agw (by rw[hck];exact h.2)).2),hme⟩)
  have hK:=aa4 p q g h (F:Int) (m:Int) pt c N ep y.1.d (some ⟨y.2.y,0,none⟩) y.1.Y.length y.1.Y y.1.c y.1.s x.e x.d x.n x.z x.c x.s (AX y.2.v y.1.V.length y.1.V.length) (AX y.2.p y.1.P.length y.1.P.length) hp hq hg hh hN hNl Om Om Om Om hep hyd hY hxo.e hxo.d hxo.n hxo.z hxo.c hxo.s;rw[show eB p q g h (F:Int) (m:Int) N ep y.1.d y.1.Y x.e x.d x.n x.z x.c x.s=ck x by rw[← hck];rfl] at hK;cases hcx2:ck x with
  | false =>
   rw[hcx2] at hK
   repeat (first|refine WO.does (zP rfl rfl (show ((x.e:Nat):Int)=(ep:Int) by omega)) ?_|refine WO.does (zP rfl rfl (show ((x.d:Nat):Int)=(y.1.d:Int) by omega)) ?_|refine WO.does (zn (v:=.int .u64 (ep:Int)) (hs:=w2) (hle:=Nat.zero_le _) (hc:=rfl)) ?_|refine WO.does (zn (v:=.int .u8 (y.1.d:Int)) (hs:=w2) (hle:=Nat.zero_le _) (hc:=rfl)) ?_|refine WO.does (zk (vs:=ddC ep y) (hs:=w2) (hc:=rfl)) ?_|refine WO.does (zk (vs:=stC p q g h (F:Int) (m:Int) (.slice pt N.length c)) (hs:=w3) (hc:=rfl)) ?_|refine WO.acallR (hc:=hK) (hR:=fun wx hm=>⟨(w4.mod hm.mod).rdK,w6.y.mod hm.mod⟩) (k:=?_)|refine WO.does (ze rfl rfl hadd2) ?_|refine Tj ?_|intro _|refine Tc ?_|exact Tz)
   exact WX.metI (i+1,gl,cl,n,A) (hl:=Lle.skp Lle.left') (hs:=⟨hsk (by rw[hcx2];simp),hme⟩)
  | true =>
   rw[hcx2] at hK;have hB2:A.flatMap odC++odC x=(A++[x]).flatMap odC:=by rw[List.flatMap_append];simp
   repeat (first|refine WO.does (zP rfl rfl (show ((x.e:Nat):Int)=(ep:Int) by omega)) ?_|refine WO.does (zP rfl rfl (show ((x.d:Nat):Int)=(y.1.d:Int) by omega)) ?_|refine WO.does (zn (v:=.int .u64 (ep:Int)) (hs:=w2) (hle:=Nat.zero_le _) (hc:=rfl)) ?_|refine WO.does (zn (v:=.int .u8 (y.1.d:Int)) (hs:=w2) (hle:=Nat.zero_le _) (hc:=rfl)) ?_|refine WO.does (zk (vs:=ddC ep y) (hs:=w2) (hc:=rfl)) ?_|refine WO.does (zk (vs:=stC p q g h (F:Int) (m:Int) (.slice pt N.length c)) (hs:=w3) (hc:=rfl)) ?_|refine WO.acallR (hc:=hK) (hR:=fun wx hm=>⟨(w4.mod hm.mod).rdK,w6.y.mod hm.mod⟩) (k:=?_)|refine Tj ?_|intro _|refine Tc ?_|exact Tz)
   refine WO.makes (zi (cs:=odC x) rfl Dt rfl) ?_;intro gb;refine WO.appR (z:=opC 0 0 0 0 0 0) (g:=gl) (c:=cl) (n:=n) (m:=1) (l:=n+1) (B:=A.flatMap odC) (ys:=odC x) (L1:=[_,_]) (L2:=[]) rfl rfl rfl (by rw[List.append_nil];rfl) hBl hr (Rds.own (m:=15) Hs.here rfl) rfl rfl Dt rfl Om Om Dt Dt (fun g1 c1 a1 a2=>?_);rw[hB2];simp only[List.cons_append,List.nil_append,List.append_nil]
   repeat (first|refine WO.does (ze rfl rfl hadd2) ?_|refine Tj ?_|intro _|refine Tc ?_|exact Tz)
   exact WX.metI (i+1,g1,c1,n+1,A++[x]) (hs:=⟨⟨by show i+1≤ls.length;omega,by show A++[x]=_;rw[hnx,fG,if_pos ⟨hag,hcx2⟩],by show (A++[x]).length=n+1;rw[List.length_append,hn];rfl,by show n+1≤i+1;omega,fun _=>⟨a2,a1⟩⟩,hme⟩)
 ·have hi2:i=ls.length:=by omega
  subst hi2;rw[List.take_length] at hA;rw[← hA,hn] at hsel ⊢
  by_cases hlen:F+m≤n
  ·obtain⟨hO,hle⟩:=hsel hlen;rw[decide_eq_true hlen];obtain⟨n,rfl⟩ : ∃ n',n=n' + 1:=⟨n - 1,by have:=ya hset;omega⟩;have hR:=abN p q g h F m pt c N l ep y.1.d A (some ⟨gl,0,none⟩) cl hp hq hg hh hN hNl hP hset hl hO Om Om;rw[hn] at hR;dsimp only[agV,rwL]
   repeat (first|refine Tk ?_|intro _|exact Tz)
   refine WC.dF rfl Om ?_
   repeat (first|refine WO.does (zn (v:=.int .i64 (F:Int)) (hs:=w3) (hle:=Nat.zero_le _) (hc:=rfl)) ?_|refine WO.does (zn (v:=.int .i64 (m:Int)) (hs:=w3) (hle:=Nat.zero_le _) (hc:=rfl)) ?_|refine WO.does (ze rfl rfl hFm) ?_|refine WO.does (zO rfl rfl Om) ?_|refine WO.does (zk (vs:=stC p q g h (F:Int) (m:Int) (.slice pt N.length c)) (hs:=w3) (hc:=rfl)) ?_|refine Tj ?_|intro _|refine Tc ?_|exact Tz)
   refine WO.acallX (hc:=hR) (hR:=fun wx hm=>⟨w4.mod hm.mod,RdF.ownO (Hs.sg hm) hn⟩) (k:=fun s _=>?_)
   repeat (first|refine Tk ?_|intro _|exact Tz)
   exact WX.ret2 rfl Rv.t Rv.t [⟨s 0,24,(osL p q h l m).flatMap zc⟩] (Lle.c Lle.nil) ⟨s,rfl,rfl,trivial⟩
  ·rw[decide_eq_false hlen]
   obtain⟨pz,cz,hz⟩ : ∃ pz cz,agV gl cl n n=.slice pz n cz:=by cases n with
    | zero=>exact⟨none,0,rfl⟩
    | succ n=>exact⟨_,_,rfl⟩
   rw[hz]
   repeat (first|refine Tk ?_|intro _|exact Tz)
   refine WC.dF rfl Om ?_
   repeat (first|refine WO.does (zn (v:=.int .i64 (F:Int)) (hs:=w3) (hle:=Nat.zero_le _) (hc:=rfl)) ?_|refine WO.does (zn (v:=.int .i64 (m:Int)) (hs:=w3) (hle:=Nat.zero_le _) (hc:=rfl)) ?_|refine WO.does (ze rfl rfl hFm) ?_|refine WO.does (yy rfl rfl Om) ?_|refine Tj ?_|intro _|refine Tc ?_|exact Tz)
   exact WX.ret2 rfl Rv.t Rv.t [] Lle.nil ⟨fun _=>0,rfl,rfl,trivial⟩
end
end Sx
end
end Go.Proofs.YtiaibpcaloigkaaGreatDoor
