/- Part 40 of the proof. -/
import Derived.Test.YtbhblpnjhkddbaaGreatE32
import Derived.Test.YtbhblpnjhkddbaaGreatE38
set_option linter.unusedSimpArgs false
set_option linter.unusedVariables false
set_option maxHeartbeats 8000000
namespace Go.Proofs.YtbhblpnjhkddbaaGreat
section
open Go Go.RowKit Go.BigFrame
namespace Sx
attribute [local irreducible] DQ DQS WC WO WX wd
theorem abu (e:Int):kE e (okE true)=e:=by
 unfold kE
 split<;>simp_all [okE]
section
variable (p q g h gF:Nat)
theorem du {a b q:Nat} (h1:1<q) (ha:a<q) (hb:b<q):zK a b q=true:=by simp[zK,h1,ha,hb]
theorem dK (a b:Nat) (e:Int) (h1:1<q) (ha:a<q) (hb:b<q) (hq:q<zc):FnM Tryz.prog 101 [pt gF,ze a,ze b] gF 158 (fdC p q g h e) (fdC p q g h e) Tr (ze (a*b%q)):=by
 have:=ll p q g h gF a b e (Nat.lt_trans ha hq) (Nat.lt_trans hb hq) hq;rw[du h1 ha hb,abu] at this;exact this
theorem aat (a b:Nat) (e:Int) (h1:1<q) (ha:a<q) (hb:b<q) (hq:q<zc):FnM Tryz.prog 166 [pt gF,ze a,ze b] gF 158 (fdC p q g h e) (fdC p q g h e) Tr (ze ((a+q - b)%q)):=by
 have hO:=an p q g h a b (Nat.lt_trans ha hq) (Nat.lt_trans hb hq) hq;have hK:=kF p q g h gF ((a+q - b)%q) e 0;rw[du h1 ha hb] at hO;rw[show kE e 0=e from abu e] at hK;generalize (a+q - b)%q=R at *;refine FnM.enter Tryz.func166 rfl rfl rfl ?_;intro w hw
 repeat (first|refine Tw ?_|(refine Tm ?_;intro _)|exact Tz)
 refine WC.adraw 10 (k:=?_)
 repeat (first|refine Da ?_|refine DQ.acall (hc:=hO) (k:=?_)|refine Dc ?_)
 refine DQ.anil (k:=?_);intro sx _
 repeat (first|refine Ta ?_|(refine Tm ?_;intro _)|refine WO.callM rfl hK (by repeat (first|exact Rp.here|apply Rp.there)) (fun _ _=>trivial) (by decide) ?_ rfl rfl|refine Tc ?_|exact Tz)
 exact WX.retM_of (il rfl (by first|exact zr rfl|exact yU)) Hs.a
def iE (a q:Nat):Int:=if Nat.gcd a q=1 then 0 else 7
theorem eS (a:Nat) (e:Int) (h1:1<q) (ha:a<q) (hq:q<zc):FnM Tryz.prog 165 [pt gF,ze a] gF 158 (fdC p q g h e) (fdC p q g h (kE e (iE a q))) Tr (ze (vU a q)):=by
 have hO:=iW p q g h a (Nat.lt_trans ha hq) hq;have hK:=kF p q g h gF (vU a q) e (iE a q);rw[show ot a q=iE a q by unfold ot iE;rw[du h1 ha ha];rfl,du h1 ha ha] at hO;rw[show okV true (vU a q)=vU a q from rfl] at hO;generalize vU a q=R at *;generalize iE a q=E at *;refine FnM.enter Tryz.func165 rfl rfl rfl ?_;intro w hw
 repeat (first|refine Tw ?_|(refine Tm ?_;intro _)|exact Tz)
 refine WC.adraw 9 (k:=?_)
 repeat (first|refine Da ?_|refine DQ.acall (hc:=hO) (k:=?_)|refine Dc ?_)
 refine DQ.anil (k:=?_);intro sx _
 repeat (first|refine Ta ?_|(refine Tm ?_;intro _)|refine WO.callM rfl hK (by repeat (first|exact Rp.here|apply Rp.there)) (fun _ _=>trivial) (by decide) ?_ rfl rfl|refine Tc ?_|exact Tz)
 exact WX.retM_of (il rfl (by first|exact zr rfl|exact yU)) Hs.a
theorem oC (l:List Nat) (pt:Option Addr) (c a:Nat) (e:Int) (h1:1<q) (ha:a<q) (hl:∀ x∈l,x<q) (hn:l.length≤1099511627776) (hq:q<zc) :
  FnM Tryz.prog 137 [ze a,.slice pt l.length c,.func (.func 101) #[Sx.pt gF] #[]] gF 158 (fdC p q g h e) (fdC p q g h e) (fun w=>RdF zb (.slice pt l.length c) l w∧∀ b o,pt=some ⟨b,o,none⟩→l≠[]→b ∉ [gF]) (ze (prM q a l)):=by
 have hP:=fun u x (hu:u<q) (hx:x<q)=>(dK p q g h gF u x e h1 hu hx hq).toL;refine FnM.enter Tryz.func137 rfl rfl rfl ?_;intro w hw;obtain⟨⟨pt',c',e,hpc⟩,hout⟩:=hw;cases e
 repeat (first|refine Tw ?_|(refine Tm ?_;intro _)|exact Tz)
 rename_i g3 g6
 refine WC.loopI (σ:=Nat) (fun i=>i≤l.length) (fun i=>[(2,.func (.func 101) #[Sx.pt gF] #[]),(3,Sx.pt g3),(6,Sx.pt g6),(9,.slice pt l.length c),(10,.int .i64 (l.length:Int)),(11,.int .i64 (i:Int))])
  (fun i=>[⟨g6,24,zb 0⟩,⟨g3,24,zb (prM q a (l.take i))⟩,⟨gF,158,fdC p q g h e⟩]) (fun i=>l.length - i) 0 (fun i hi=>?_) (Nat.zero_le _)
 try dsimp only at hi ⊢
 by_cases hlt:i<l.length
 ·obtain⟨x,hx⟩ : ∃ x,l[i]?=some x:=⟨_,List.getElem?_eq_getElem hlt⟩
  rcases hpc with ⟨_,h0⟩|⟨b,o,rfl,hs⟩
  ·rw[h0] at hlt;simp at hlt
  have hb:b ∉ [gF]:=hout b o rfl (by rintro rfl;simp at hlt);have hadd2:IntKind.i64.wrap ((i:Int)+1)=((i+1:Nat):Int):=zn (by omega) (by omega) (by omega);have hcx:cut (l.flatMap zb) (o+i*4 - o) 4=zb x:=by rw[Nat.add_sub_cancel_left];exact yb (f:=zb) (k:=4) (fun _=>rfl) hx
  have hPx:=hP (prM q a (l.take i)) x (oF (by omega) ha _) (hl x (List.mem_of_getElem? hx));have hst:=pq q a (l.take i) x;rw[show l.take i++[x]=l.take (i+1) by rw[List.take_add_one,hx];rfl] at hst;rw[← hst] at hPx;clear hst hP hl
  repeat (first|refine Tw ?_|(refine Tm ?_;intro _)|exact Tz)
  refine WC.dT rfl (by omega) ?_
  repeat (first|refine Ta ?_|(refine Tm ?_;intro _)|refine WO.does (za (o':=o+i*4) rfl rfl hlt rfl) ?_|refine WO.does (zk (vs:=zb x) (hs:=hs) (hle:=Nat.le_add_right _ _) (hb:=hb) (hc:=hcx)) ?_|refine Tc ?_|exact Tz)
  refine WO.callsLV hPx rfl rfl rfl (Pks.cons (Pk.there (Pk.there (Pk.there Pk.here))) Pks.nil) (fun _ _=>trivial) (fun v N hv=>?_);obtain⟨rfl,rfl⟩:=hv;simp only[List.cons_append,List.nil_append]
  repeat (first|refine Ta ?_|(refine Tm ?_;intro _)|refine WO.does (zg rfl rfl hadd2) ?_|refine Tc ?_|exact Tz)
  exact WX.metI (i+1) (hs:=⟨by show i+1≤l.length;omega,by show l.length - (i+1)<l.length - i;omega⟩)
 ·have hi2:i=l.length:=by omega
  subst hi2;rw[List.take_length]
  repeat (first|refine Tw ?_|(refine Tm ?_;intro _)|exact Tz)
  refine WC.dF rfl (by omega) ?_
  repeat (first|refine Tw ?_|(refine Tm ?_;intro _)|exact Tz)
  exact WX.retM_of (il rfl (by first|exact zr rfl|exact yU)) Hs.a
end
end Sx
end
section
open Go Go.RowKit Go.BigFrame
namespace Sx
section
variable (P:Program) (w0:World) (gs:List Nat) (ops:List Oper)
inductive Tlx (K0:List (Nat × Value)) (Lc:List Ent) (T:List (Nat × Value)) (ex:List Nat):List (Nat × Value)→Prop
 | nil:Tlx K0 Lc T ex []
 | done {i:Nat} {v:Value} {r:List (Nat × Value)}:i∈ex→Tlx K0 Lc T ex r→Tlx K0 Lc T ex ((i,v)::r)
 | cons {i:Nat} {v:Value} {r:List (Nat × Value)} {o:Oper}:nth ops i=some o→Does P w0 gs (tvs ops T (dps ops i)++K0) Lc o.op o.type v→Tlx K0 Lc T ex r→Tlx K0 Lc T ex ((i,v)::r)
end
theorem Tlx.at {P:Program} {w0:World} {gs:List Nat} {ops:List Oper} {K0:List (Nat × Value)} {Lc:List Ent} {T:List (Nat × Value)} {ex:List Nat} {i:Nat} {v:Value}:∀ {R:List (Nat × Value)},Tlx P w0 gs ops K0 Lc T ex R→lk R i=some v→i∈ex∨∃ o,nth ops i=some o∧Does P w0 gs (tvs ops T (dps ops i)++K0) Lc o.op o.type v
 | _,.nil,h=>by cases h
 | (k,u)::r,.done h1 h3,h=>by
  rw[tP] at h;cases hb:Nat.beq k i with
  | true =>
   have e:k=i:=Nat.eq_of_beq_eq_true hb;subst e;exact .inl h1
  | false=>rw[hb] at h;exact h3.at h
 | (k,u)::r,.cons h1 h2 h3,h=>by
  rw[tP] at h;cases hb:Nat.beq k i with
  | true =>
   rw[hb] at h;have e:k=i:=Nat.eq_of_beq_eq_true hb;subst e;cases h;exact .inr ⟨_,h1,h2⟩
  | false=>rw[hb] at h;exact h3.at h
section
variable {P:Program} {w0:World} {gs:List Nat} {n:Nat} {ops:List Oper} {Q:Exit→Act→World→Prop} {main:List Nat} {T K0 K:List (Nat × Value)} {Lc L:List Ent} {done:Nat} {ex:List Nat}
theorem Tlx.auto {i:Nat} {v:Value} {r:List (Nat × Value)} {o:Oper} (hr:Tlx P w0 gs ops K0 Lc T ex r) (ho:nth ops i=some o:=by rfl) (h:Does P w0 gs (tvs ops T (dps ops i)++K0) Lc o.op o.type v:=by first|exact sE|exact zq|exact zP|exact yu|exact yf|exact sy|exact yN|exact vO):Tlx P w0 gs ops K0 Lc T ex ((i,v)::r):=.cons ho h hr
theorem WM.loopX (hc:mS ops main (T.map Prod.fst) n=true) (hT:Tlx P w0 gs ops K0 Lc T ex T) (hex:∀ i∈ex,0<done∧∃ m0,main[0]?=some m0∧i∈dps ops m0) (hk0:Kle K0 K) (hl0:Lle Lc L) (hfree:((T.map Prod.fst).all fun i=>(lk K (r8 ops i)).isNone)=true)
  (hmain:∀ f S a w,Stg n w0 gs ops main T done K L (f+1) S a w→∀ i,main.contains i=true→i∈Region.ready .any ops.toArray S.toArray→wpOp P ops.toArray Q i (wpAny P .any ops.toArray Q f (S.set i true).toArray) a w)
  (hfin:∀ f S a w,Stg n w0 gs ops main T done K L f S a w→(∀ i,i<ops.length→S[i]?=some true)→Q .normal a w):WM P w0 gs n ops Q main T done K L:=by
 have C:=mS.spec hc;have hfree:∀ i∈T.map Prod.fst,lk K (r8 ops i)=none:=fun i hi=>by simpa using List.all_eq_true.1 hfree i hi
 intro f
 induction f with
 | zero =>
  intro S a w h1 h2 h3 hcl h4 h5 h6 h7 h8;have hs:Stg n w0 gs ops main T done K L 0 S a w:=⟨h1,h2,h3,hcl,h4,h5,h6,h7,h8⟩;have hr:Region.ready .any ops.toArray S.toArray=[]:=by
   rw[List.eq_nil_iff_forall_not_mem];intro i hi;have:=(yX h1 hi).2.1;have:0<S.count false:=List.count_pos_iff.2 (List.mem_of_getElem? this);omega
  exact⟨hr,hfin _ _ _ _ hs (uH h1 C.ac hr)⟩
 | succ f ih =>
  intro S a w h1 h2 h3 hcl h4 h5 h6 h7 h8;have hs:Stg n w0 gs ops main T done K L (f+1) S a w:=⟨h1,h2,h3,hcl,h4,h5,h6,h7,h8⟩;refine⟨fun hr=>hfin _ _ _ _ hs (uH h1 C.ac hr),fun i hi=>?_⟩;rw[List.setIfInBounds_toArray];cases hm:main.contains i with
  | true=>exact hmain f S a w hs i hm hi
  | false =>
   obtain⟨hil,hiS,hid⟩:=yX h1 hi;have hits:i∈T.map Prod.fst:=by
    have:=C.one i hil;rw[hm] at this;cases h:(T.map Prod.fst).contains i with
    | true=>simpa using h
    | false=>exact absurd h.symm this
   obtain⟨v,hv⟩:=qM.2 hits
   obtain⟨o,ho,hdo⟩ : ∃ o,nth ops i=some o∧Does P w0 gs (tvs ops T (dps ops i)++K0) Lc o.op o.type v:=by
    rcases hT.at hv with h|h
    ·exfalso;obtain⟨hd,m0,hm0,hi0⟩:=hex i h;have:=hcl m0 ((h3 0 m0 hm0).2 hd) i hi0;rw[hiS] at this;cases this
    ·exact h
   obtain⟨hd1,hd2⟩:=C.dst i hits;have hod:o.dst=some (r8 ops i)∧o.guard=none:=by
    unfold lp at hd1;unfold r8;rw[ho] at hd1 ⊢;obtain⟨od,_,_,_,_,og⟩:=o;cases od with
    | none=>simp at hd1
    | some d=>cases og with
     | none=>exact⟨rfl,rfl⟩
     | some g=>simp at hd1
   have hkn:Kn (tvs ops T (dps ops i)++K0) a:=lY (oQ fun j hj u hu=>h7 j u hu (hid j hj)) (hk0.kn h6);have hrun:=hdo a w hkn (hl0.me h8).mr o rfl rfl;have ho2:ops.toArray[i]?=some o:=by simpa [vp] using ho
   unfold wpOp;simp only[ho2];have hw:Region.wanted o (yielded ops.toArray a.tmps)=true:=by unfold Region.wanted;rw[hod.2]
   rw[if_pos hw];left;unfold Oper.wp;rw[hrun];show wpAny P .any ops.toArray Q f (S.set i true).toArray (a.put o.dst v) w;refine ih _ _ _ (by rw[List.length_set];exact h1) (te hiS h2) (fun k m hkm=>?_) (lq (by omega) hcl hid) (by rw[put_defers];exact h4) (by rw[yj];exact h5) (fun t u ht=>?_) (fun j u hu hj=>?_) h8
   ·have hne:¬ i=m:=fun e=>by
     subst e;have:main.contains i=true:=by simpa using List.mem_of_getElem? hkm
     rw[hm] at this;cases this
    rw[List.getElem?_set_ne hne];exact h3 k m hkm
   ·have hne:o.dst≠some t:=fun e=>by
     rw[hod.1] at e;cases e;rw[hfree i hits] at ht;cases ht
    rw[yE _ _ _ hne];exact h6 t u ht
   ·by_cases e:j=i
    ·subst e;rw[hv] at hu;cases hu;rw[hod.1];simp only[Act.put];rw[Array.getElem?_setIfInBounds,if_pos rfl,if_pos (by omega)]
    ·rw[List.getElem?_set_ne (fun h=>e h.symm)] at hj;have hjt:j∈T.map Prod.fst:=qM.1 ⟨u,hu⟩;have hne:o.dst≠some (r8 ops j):=C.apart j hjt i o ho (fun h=>e h.symm);rw[yE _ _ _ hne];exact h7 j u hu hj
theorem WM.stepX {m:Nat} {o:Oper} (hm:main[done]?=some m) (ho:nth ops m=some o) (hc:mS ops main (T.map Prod.fst) n=true) (hT:Tlx P w0 gs ops K0 Lc T ex T) (hex:∀ i∈ex,0<done∧∃ m0,main[0]?=some m0∧i∈dps ops m0)
  (k:WO P w0 gs n ops (Qk (MR P w0 gs n ops Q main T o K (done+1)) Q) (tvs ops T (dps ops m)++K) L [o]) (hk0:Kle K0 K:=by (repeat (first|exact Kle.nil|refine Kle.cons rfl rfl ?_))) (hl0:Lle Lc L:=by (repeat (first|exact Lle.nil|refine Lle.c ?_))) (hfree:((T.map Prod.fst).all fun i=>(lk K (r8 ops i)).isNone)=true:=by rfl):WM P w0 gs n ops Q main T done K L:=by
 have C:=mS.spec hc;have hml:m<ops.length:=by
  rcases Nat.lt_or_ge m ops.length with h|h
  ·exact h
  ·rw[vp,List.getElem?_eq_none h] at ho;cases ho
 have hmm:main.contains m=true:=by simpa using List.mem_of_getElem? hm
 have ho2:ops.toArray[m]?=some o:=by simpa [vp] using ho
 have hdl:done<main.length:=by
  rcases Nat.lt_or_ge done main.length with h|h
  ·exact h
  ·rw[List.getElem?_eq_none h] at hm;cases hm
 have only:∀ {S:List Bool},(∀ k m,main[k]?=some m→(S[m]?=some true↔k<done))→∀ {k' i:Nat},main[k']?=some i→S[i]?=some false→(∀ j∈dps ops i,S[j]?=some true)→k'=done:=by
  intro S hmn k' i hki hiS hid;have h1:¬ k' < done:=fun h=>by have:=(hmn k' i hki).2 h;rw[hiS] at this;cases this
  rcases Nat.lt_or_ge done k' with h|h
  ·exfalso;obtain⟨q,rfl⟩ : ∃ q,k'=q+1:=⟨k' - 1,by omega⟩
   obtain⟨mq,hmq⟩ : ∃ x,main[q]?=some x:=by
    have:q<main.length:=by
     rcases Nat.lt_or_ge (q+1) main.length with h|h
     ·omega
     ·rw[List.getElem?_eq_none h] at hki;cases hki
    exact⟨_,List.getElem?_eq_getElem this⟩
   have:=hid mq (C.chain q mq i hmq hki);have:=(hmn q mq hmq).1 this;omega
  ·omega
 refine WM.loopX hc hT hex hk0 hl0 hfree (fun f S a w hs i hi hr=>?_) (fun f S a w hs hall=>?_)
 ·obtain⟨hil,hiS,hid⟩:=yX hs.len hr;obtain⟨k',hk'⟩:=List.getElem?_of_mem (by simpa using hi:i∈main);have e:=only hs.mn hk' hiS hid;subst e;have e2:i=m:=by rw[hm] at hk';cases hk';rfl
  subst e2;have hkn:Kn (tvs ops T (dps ops i)++K) a:=lY (oQ fun j hj u hu=>hs.tl j u hu (hid j hj)) hs.kn;have h1:=oR ho2 (mG ho2 (k a w hs.df hs.sz hkn hs.me));refine wpOp_mono (fun a' w' hh=>?_) h1;obtain⟨⟨g1,g2,K',L',g3,g4',g5,g7⟩,g6⟩:=hh;have g4:Kn (K'++K) a':=by
   intro t v ht;rw[lQ] at ht;cases h:lk K' t with
   | some u=>rw[h] at ht;cases ht;exact g4' t v h
   | none =>
    rw[h] at ht;have ht:lk K t=some v:=ht;have hne:o.dst≠some t:=fun e=>by
     rcases g7 t e with ⟨v',hv'⟩|h2
     ·rw[h] at hv';cases hv'
     ·rw[h2] at ht;cases ht
    rw[g6 t hne];exact hs.kn t v ht
  refine g3 f (S.set i true) a' w' (by rw[List.length_set];exact hs.len) (te hiS hs.cnt) (fun q mq hq=>?_) (lq (by rw[hs.len];exact hil) hs.cl hid) g1 g2 g4 (fun j u hu hj=>?_) g5
  ·by_cases e:i=mq
   ·subst e;have:=only hs.mn hq hiS hid;subst this;rw[List.getElem?_set_self (by rw[hs.len];exact hil)];simp
   ·rw[List.getElem?_set_ne e,hs.mn q mq hq];constructor
    ·intro h;omega
    ·intro h
     rcases Nat.lt_or_ge q k' with h2|h2
     ·exact h2
     ·exfalso;have:q=k':=by omega
      subst this;rw[hk'] at hq;cases hq;exact e rfl
  ·have hjt:j∈T.map Prod.fst:=qM.1 ⟨u,hu⟩;have hne:j≠i:=fun e=>by
    subst e;have:=C.one j hil;rw[hi] at this;exact this (by simpa using hjt)
   rw[List.getElem?_set_ne (fun h=>hne h.symm)] at hj;rw[g6 _ (C.apart j hjt i o ho (fun h=>hne h.symm))];exact hs.tl j u hu hj
 ·exfalso;have:=(hs.mn done m hm).1 (hall m hml);omega
theorem bF {m0:Nat} (hd:0<done) (hm0:main[0]?=some m0) (h:(ex.all fun i=>(dps ops m0).contains i)=true):∀ i∈ex,0<done∧∃ m0,main[0]?=some m0∧i∈dps ops m0:=fun i hi =>
 ⟨hd,m0,hm0,by simpa using List.all_eq_true.1 h i hi⟩
end
end Sx
end
end Go.Proofs.YtbhblpnjhkddbaaGreat
