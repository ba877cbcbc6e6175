/- Part 42 of the proof. -/
import Derived.Test.YtiaibpcaloigkaaGreatDoorC35
set_option linter.unusedSimpArgs false
set_option linter.unusedVariables false
set_option maxHeartbeats 8000000
namespace Go.Proofs.YtiaibpcaloigkaaGreatDoor
section
open Go Go.RowKit Go.BigFrame
namespace Sx
attribute [local irreducible] DQ WC WO WX wd
abbrev opC (ep d n z c s:Nat):List Value:=[.int .u64 (ep:Int),.int .u8 (d:Int),.int .u8 (n:Int),.int .u64 ((wd 0 z:Nat):Int),.int .u64 ((wd 1 z:Nat):Int),.int .u64 ((wd 2 z:Nat):Int),.int .u64 ((wd 3 z:Nat):Int),.int .u64 ((wd 0 c:Nat):Int),.int .u64 ((wd 1 c:Nat):Int),.int .u64 ((wd 2 c:Nat):Int),.int .u64 ((wd 3 c:Nat):Int),.int .u64 ((wd 0 s:Nat):Int),.int .u64 ((wd 1 s:Nat):Int),.int .u64 ((wd 2 s:Nat):Int),.int .u64 ((wd 3 s:Nat):Int)]
structure Od where
 e:Nat
 d:Nat
 n:Nat
 z:Nat
 c:Nat
 s:Nat
structure ae6 (o:Od):Prop where
 e:o.e<18446744073709551616
 d:o.d<256
 n:o.n<256
 z:o.z<zd
 c:o.c<zd
 s:o.s<zd
abbrev odC (o:Od):List Value:=opC o.e o.d o.n o.z o.c o.s
theorem vB (o:Od):(odC o).length=15:=rfl
end Sx
end
section
open Go Go.RowKit Go.BigFrame
namespace Sx
def byN (n:Nat) (l:List Od):List Od:=(List.range n).flatMap fun k=>l.filter fun o=>o.n=k+1
theorem lW {n:Nat} {l:List Od} {o:Od} (h:∀ o∈l,1≤o.n∧o.n≤n):o∈byN n l↔o∈l:=by
 unfold byN;simp only[List.mem_flatMap,List.mem_range,List.mem_filter,decide_eq_true_eq];constructor
 ·rintro ⟨k,_,h1,_⟩;exact h1
 ·intro h1;have:=h o h1;exact⟨o.n - 1,by omega,h1,by omega⟩
theorem dr {α:Type} {R:α→α→Prop} {f:Nat→List α}:∀ (n:Nat),(∀ k,k<n→(f k).Pairwise R)→(∀ i j,i<j→j<n→∀ a∈f i,∀ b∈f j,R a b)→((List.range n).flatMap f).Pairwise R
 | 0,_,_=>by simp
 | n+1,h1,h2=>by
  rw[List.range_succ,List.flatMap_append,List.pairwise_append];refine⟨dr n (fun k hk=>h1 k Om) (fun i j hi hj=>h2 i j hi Om),by simpa using h1 n Om,fun a ha b hb=>?_⟩;obtain⟨i,hi,ha⟩:=List.mem_flatMap.1 ha;have hb:b∈f n:=by simpa using hb
  exact h2 i n (List.mem_range.1 hi) Om a ha b hb
theorem pd {n:Nat} {l:List Od} (hn:(l.map Od.n).Nodup):(byN n l).Pairwise (fun a b=>a.n<b.n):=by
 refine dr n (fun k _=>?_) (fun i j hi hj a ha b hb=>?_)
 ·have h1:l.Pairwise (fun a b=>a.n≠b.n):=by
   rw[List.Nodup,List.pairwise_map] at hn;exact hn
  refine (h1.filter (fun o=>o.n=k+1)).imp_of_mem ?_;intro a b ha hb hne;have ea:=(List.mem_filter.1 ha).2;have eb:=(List.mem_filter.1 hb).2;simp only[decide_eq_true_eq] at ea eb;omega
 ·have ea:=(List.mem_filter.1 ha).2;have eb:=(List.mem_filter.1 hb).2;simp only[decide_eq_true_eq] at ea eb;omega
theorem mp:∀ (l r:List Od),l.Pairwise (fun a b=>a.n<b.n)→r.Pairwise (fun a b=>a.n<b.n)→(∀ o,o∈l↔o∈r)→l=r
 | [],[],_,_,_=>rfl
 | [],b::r,_,_,h=>by have:=(h b).2 Sm;simp at this
 | a::l,[],_,_,h=>by have:=(h a).1 Sm;simp at this
 | a::l,b::r,h1,h2,h=>by
  rw[List.pairwise_cons] at h1 h2;have e:a=b:=by
   rcases List.mem_cons.1 ((h a).1 Sm) with e|e
   ·exact e
   rcases List.mem_cons.1 ((h b).2 Sm) with e'|e'
   ·exact e'.symm
   have:=h2.1 a e;have:=h1.1 b e';omega
  subst e;rw[mp l r h1.2 h2.2 (fun o=>?_)];constructor
  ·intro ho
   rcases List.mem_cons.1 ((h o).1 (by simp[ho])) with e|e
   ·subst e;have:=h1.1 o ho;omega
   ·exact e
  ·intro ho
   rcases List.mem_cons.1 ((h o).2 (by simp[ho])) with e|e
   ·subst e;have:=h2.1 o ho;omega
   ·exact e
theorem iu {n:Nat} {l arr:List Od} (hp:arr.Perm l) (hs:arr.Pairwise (fun a b=>a.n≤b.n)) (hd:(l.map Od.n).Nodup) (hn:∀ o∈l,1≤o.n∧o.n≤n):arr=byN n l:=by
 have hd2:arr.Pairwise (fun a b=>a.n≠b.n):=by
  have:=(hp.map Od.n).nodup_iff.2 hd;rw[List.Nodup,List.pairwise_map] at this;exact this
 refine mp _ _ ?_ (pd hd) (fun o=>?_)
 ·refine (hs.and hd2).imp ?_;intro a b ⟨h1,h2⟩;omega
 ·rw[hp.mem_iff,lW hn]
theorem sE:∀ {arr:List Od},arr.Pairwise (fun a b=>a.n≤b.n)→(∀ i a b,arr[i]?=some a→arr[i+1]?=some b→a.n≠b.n)→(arr.map Od.n).Nodup
 | [],_,_=>by simp
 | [a],_,_=>by simp
 | a::b::r,h,hd=>by
  rw[List.pairwise_cons] at h;have ih:=sE h.2 (fun i x y h1 h2=>hd (i+1) x y h1 h2);rw[List.map_cons,List.nodup_cons];refine⟨fun hm=>?_,ih⟩;obtain⟨o,ho,e⟩:=List.mem_map.1 hm;have h0:=hd 0 a b rfl rfl;have h1:=h.1 b Sm;have hb:=List.pairwise_cons.1 h.2
  rcases List.mem_cons.1 ho with e2|e2
  ·subst e2;omega
  ·have:=hb.1 o e2;omega
def nI (l:List Od) (i:Nat):Nat:=((l[i]?).map Od.n).getD 0
def Ins (l:List Od) (i j:Nat):Prop:=∀ a b,a<b→b≤i→b≠j→nI l a≤nI l b
def Srt (l:List Od) (k:Nat):Prop:=∀ a b,a<b→b<k→nI l a≤nI l b
theorem ss {l:List Od} {i:Nat} {o:Od} (h:l[i]?=some o):nI l i=o.n:=by unfold nI;rw[h];rfl
theorem Srt.ins {l:List Od} {i:Nat} (h:Srt l i):Ins l i i:=fun a b h1 h2 h3=>h a b h1 Om
theorem Ins.done {l:List Od} {i j:Nat} (h:Ins l i j) (hj:j≤i) (h0:j=0∨∃ k,j=k+1∧nI l k≤nI l j):Srt l (i+1):=fun a b h1 h2=>by
 by_cases hb:b=j
 ·subst hb
  rcases h0 with h0|⟨k,rfl,hk⟩
  ·omega
  ·by_cases ha:a=k
   ·subst ha;exact hk
   ·exact Nat.le_trans (h a k Om Om Om) hk
 ·exact h a b h1 Om hb
theorem iO {l:List Od} {i k:Nat} {o:Od} (h:i<l.length):nI (l.set i o) k=if i=k then o.n else nI l k:=by
 unfold nI;rw[List.getElem?_set];split
 ·rename_i e;subst e;rfl
 ·rfl
theorem Ins.swap {l:List Od} {i j:Nat} {x y:Od} (h:Ins l i (j+1)) (hj:j+1≤i) (hx:l[j]?=some x) (hy:l[j+1]?=some y) (hlt:y.n<x.n):Ins ((l.set (j+1) x).set j y) i j:=fun a b h1 h2 h3=>by
 have e1:=(List.getElem?_eq_some_iff.1 hx).1;have e2:=(List.getElem?_eq_some_iff.1 hy).1;have kx:=ss hx;have ky:=ss hy;have hk:∀ k,nI ((l.set (j+1) x).set j y) k=if j=k then y.n else if j+1=k then x.n else nI l k:=fun k=>by
  rw[iO (by rw[List.length_set];exact e1),iO e2]
 have k0:nI ((l.set (j+1) x).set j y) j=y.n:=by rw[hk,if_pos rfl]
 have k1:nI ((l.set (j+1) x).set j y) (j+1)=x.n:=by rw[hk,if_neg Om,if_pos rfl]
 have k2:∀ k,k≠j→k≠j+1→nI ((l.set (j+1) x).set j y) k=nI l k:=fun k n1 n2=>by rw[hk,if_neg (fun e=>n1 e.symm),if_neg (fun e=>n2 e.symm)]
 generalize (l.set (j+1) x).set j y=l' at *
 by_cases hb:b=j+1
 ·subst hb;rw[k1]
  by_cases ha:a=j
  ·subst ha;rw[k0];omega
  ·rw[k2 a ha Om,← kx];exact h a j Om Om Om
 ·rw[k2 b h3 hb]
  by_cases ha:a=j
  ·subst ha;rw[k0,← ky];exact h (a+1) b Om h2 Om
  ·by_cases ha2:a=j+1
   ·subst ha2;rw[k1,← kx];exact h j b Om h2 Om
   ·rw[k2 a ha ha2];exact h a b h1 h2 Om
theorem eJ {l:List Od} {j:Nat} {x y:Od} (hx:l[j]?=some x) (hy:l[j+1]?=some y):((l.set (j+1) x).set j y).Perm l:=by
 obtain⟨e1,e2⟩:=List.getElem?_eq_some_iff.1 hx;obtain⟨e3,e4⟩:=List.getElem?_eq_some_iff.1 hy;subst e2 e4;exact List.set_set_perm e3 e1
theorem Srt.pw {l:List Od} (h:Srt l l.length):l.Pairwise (fun a b=>a.n≤b.n):=by
 rw[List.pairwise_iff_getElem];intro i j hi hj hij;have:=h i j hij hj;rw[ss (List.getElem?_eq_getElem hi),ss (List.getElem?_eq_getElem hj)] at this;exact this
theorem im {α:Type} {f:α→List Value} {k:Nat} (hk:∀ x,(f x).length=k) {l:List α} {i:Nat} {x:α} (hi:i<l.length):over (l.flatMap f) (i*k) (f x)=(l.set i x).flatMap f:=by
 have e:l.flatMap f=(l.take i).flatMap f++(l.drop i).flatMap f:=by rw[← List.flatMap_append,List.take_append_drop]
 have hl:((l.take i).flatMap f).length=i*k:=by rw[zy hk,List.length_take];congr 1;omega
 rw[List.drop_eq_getElem_cons hi,List.flatMap_cons] at e;rw[e,← hl,tc,List.set_eq_take_append_cons_drop,if_pos hi,List.flatMap_append,List.flatMap_cons,hk x,← hk l[i],List.drop_left,List.append_assoc]
def nD (a b:Nat):Int:=if a<b then -1 else if b<a then 1 else 0
theorem jZ {a b:Nat}:nD a b<0↔a<b:=by
 unfold nD;split
 ·omega
 ·split<;>omega
theorem nX {a b:Nat}:nD a b=0↔a=b:=by
 unfold nD;split
 ·omega
 ·split<;>omega
end Sx
end
section
open Go Go.RowKit Go.BigFrame
namespace Sx
attribute [local irreducible] DQ WC WO WX wd
theorem dC (a:Nat):Fn Tryz.prog 251 [.int .u8 (a:Int)] Tr (Is (.bool false)):=by
 refine Fn.enter Tryz.func251 rfl rfl rfl ?_;intro w hw
 repeat (first|refine WO.does (zt rfl rfl rfl) ?_|refine Tj ?_|intro _|refine Tc ?_|exact Tz)
theorem ah (a b:Nat):Fn Tryz.prog 207 [.int .u8 (a:Int),.int .u8 (b:Int)] Tr (Is (.int .i64 (nD a b))):=by
 have hA:=dC a;have hB:=dC b
 rcases Nat.lt_trichotomy a b with h|h|h
 ·rw[show nD a b = -1 by unfold nD;rw[if_pos h]];refine Fn.enter Tryz.func207 rfl rfl rfl ?_;intro w hw
  repeat (first|refine WO.does (yy rfl rfl Om) ?_|refine Tj ?_|intro _|refine WO.acall (hc:=hA) (k:=?_)|refine WO.acall (hc:=hB) (k:=?_)|refine Tc ?_|exact Tz)
 ·rw[show nD a b=0 by unfold nD;rw[if_neg Om,if_neg Om]];refine Fn.enter Tryz.func207 rfl rfl rfl ?_;intro w hw
  repeat (first|refine WO.does (zO rfl rfl Om) ?_|refine WO.does (yb rfl rfl Om) ?_|refine Tj ?_|intro _|refine WO.acall (hc:=hA) (k:=?_)|refine WO.acall (hc:=hB) (k:=?_)|refine Tc ?_|exact Tz)
 ·rw[show nD a b=1 by unfold nD;rw[if_neg Om,if_pos h]];refine Fn.enter Tryz.func207 rfl rfl rfl ?_;intro w hw
  repeat (first|refine WO.does (zO rfl rfl Om) ?_|refine WO.does (yV rfl rfl Om) ?_|refine Tj ?_|intro _|refine WO.acall (hc:=hA) (k:=?_)|refine WO.acall (hc:=hB) (k:=?_)|refine Tc ?_|exact Tz)
theorem bB (x y:Od):Fn Tryz.prog 167 [.agg (odC x).toArray,.agg (odC y).toArray] Tr (Is (.int .i64 (nD x.n y.n))):=by
 have hC:=ah x.n y.n;refine Fn.enter Tryz.func167 rfl rfl rfl ?_;intro w hw
 repeat (first|refine Tj ?_|intro _|refine WO.acall (hc:=hC) (k:=?_)|refine Tc ?_|exact Tz)
theorem iS {l:List Od} {i:Nat} {x:Od} (h:l[i]?=some x):cut (l.flatMap odC) (0+i*15) 15=odC x:=by
 rw[Nat.zero_add];exact yh (f:=odC) (k:=15) (fun _=>rfl) h
def afs (n:Nat) (l:List Od) (v:Value) (g:Nat) (N:List Ent):Prop:=v=.tuple #[]∧∃ l' : List Od,l'.Perm l∧l'.Pairwise (fun a b=>a.n≤b.n)∧N=[⟨g,266,l'.flatMap odC⟩]
theorem ci (l:List Od) (g c:Nat) (hn:l.length≤12) :
  FnL Tryz.prog 242 [AX g l.length c,.int .i64 0,.int .i64 (l.length:Int),.func (.func 167) #[] #[]] [⟨g,266,l.flatMap odC⟩] Tr (fun v N=>afs l.length l v g N):=by
 refine FnL.enter Tryz.func242 rfl rfl rfl ?_;intro w hw
 repeat (first|refine Tk ?_|intro _|exact Tz)
 refine WC.loopI (σ:=Nat × List Od) (fun s=>1≤s.1∧s.1≤l.length+1∧s.2.Perm l∧Srt s.2 s.1) (fun s=>[(0,AX g l.length c),(1,.int .i64 0),(2,.int .i64 (l.length:Int)),(3,.func (.func 167) #[] #[]),(8,.int .i64 (s.1:Int))]) (fun s=>[⟨g,266,s.2.flatMap odC⟩]) (fun s=>l.length+1 - s.1) (1,l) (fun s hi=>?_) ⟨Nat.le_refl _,by show 1≤l.length+1;omega,.refl _,fun a b h1 h2=>by omega⟩;obtain⟨i,l1⟩:=s
 try dsimp only at hi ⊢
 obtain⟨hi1,hi2,hp1,hs1⟩:=hi
 by_cases hlt:i<l.length
 ·have hadd2:IntKind.i64.wrap ((i:Int)+1)=((i+1:Nat):Int):=zo Om Om Om
  repeat (first|refine Tk ?_|intro _|exact Tz)
  refine WC.dT rfl Om ?_
  repeat (first|refine Tk ?_|intro _|exact Tz)
  refine WC.loopI (σ:=Nat × List Od) (fun s=>s.1≤i∧s.2.Perm l∧Ins s.2 i s.1) (fun s=>[(0,AX g l.length c),(1,.int .i64 0),(2,.int .i64 (l.length:Int)),(3,.func (.func 167) #[] #[]),(8,.int .i64 (i:Int)),(9,.int .i64 (s.1:Int))]) (fun s=>[⟨g,266,s.2.flatMap odC⟩]) (fun s=>s.1) (i,l1) (fun s hj=>?_) ⟨Nat.le_refl _,hp1,hs1.ins⟩;obtain⟨j,l2⟩:=s
  try dsimp only at hj ⊢
  obtain⟨hji,hp2,hI⟩:=hj;have hll:=hp2.length_eq
  rcases j with _|k
  ·have hS:=hI.done hji (.inl rfl)
   repeat (first|refine Tk ?_|intro _|exact Tz)
   refine WC.adraw 17 (k:=?_)
   repeat (first|refine DQ.does (fun s _=>yb rfl rfl Dt) Dp.const ?_|refine Da ?_|refine Dc ?_)
   refine DQ.anil (k:=?_);intro sx _
   repeat (first|refine WO.does (ze rfl rfl hadd2) ?_|refine Tj ?_|intro _|refine Tc ?_|exact Tz)
   exact WX.metI (i+1,l2) (hs:=⟨⟨by show 1≤i+1;omega,by show i+1≤l.length+1;omega,hp2,hS⟩,by show l.length+1 - (i+1)<l.length+1 - i;omega⟩)
  ·have hk1:k<l.length:=by omega
   have hk2:k+1<l.length:=by omega
   obtain⟨x,hx⟩ : ∃ y,l2[k]?=some y:=⟨_,List.getElem?_eq_getElem Om⟩;obtain⟨y,hy⟩ : ∃ y,l2[k+1]?=some y:=⟨_,List.getElem?_eq_getElem Om⟩;have hcx:=iS hx;have hcy:=iS hy;have hA:=bB y x;have hsub:IntKind.i64.wrap (((k+1:Nat):Int) - 1)=((k:Nat):Int):=by rw[show ((k+1:Nat):Int) - 1=((k:Nat):Int) by omega];exact i64_in Om Om
   have hgt:((k+1:Nat):Int) > 0:=by omega
   by_cases hc:y.n<x.n
   ·have hyc:nD y.n x.n<0:=jZ.2 hc;have hI2:=hI.swap hji hx hy hc;have hp3:=(eJ hx hy).trans hp2;have hov1:over (l2.flatMap odC) (0+(k+1)*15) (odC x)=(l2.set (k+1) x).flatMap odC:=by rw[Nat.zero_add];exact im vB Om
    have hov2:over ((l2.set (k+1) x).flatMap odC) (0+k*15) (odC y)=((l2.set (k+1) x).set k y).flatMap odC:=by rw[Nat.zero_add];exact im vB (by rw[List.length_set];omega)
    have hln1:Nat.ble (0+(k+1)*15+15) (l2.flatMap odC).length=true:=Nat.ble_eq_true_of_le (by rw[zy vB];omega);have hln2:Nat.ble (0+k*15+15) ((l2.set (k+1) x).flatMap odC).length=true:=Nat.ble_eq_true_of_le (by rw[zy vB,List.length_set];omega);generalize hC2:((l2.set (k+1) x).set k y).flatMap odC=C2 at *;generalize (l2.set (k+1) x).flatMap odC=C1 at *;generalize l2.flatMap odC=C0 at *;generalize nD y.n x.n=R at *
    repeat (first|refine Tk ?_|intro _|exact Tz)
    refine WC.adraw 17 (k:=?_)
    iterate 17 (first|refine DQ.does (fun s _=>yV rfl rfl hgt) Dp.const ?_|refine DQ.does (fun s _=>zb (o':=0+(k+1)*15) rfl rfl hk2 rfl) Dp.const ?_|refine DQ.does (fun s _=>zE (vs:=odC y) (hc:=hcy)) Dp.const ?_|refine DQ.does (fun s _=>zb (o':=0+k*15) rfl rfl hk1 rfl) Dp.const ?_|refine DQ.does (fun s _=>zE (vs:=odC x) (hc:=hcx)) Dp.const ?_|refine DQ.does (fun s _=>zr rfl rfl hsub) Dp.const ?_|refine DQ.acallV (hc:=hA) (k:=?_)|refine DQ.does (fun s _=>yy rfl rfl hyc) Dp.const ?_|refine Da ?_|refine Dc ?_)
    refine DQ.anil (k:=?_);intro sx _
    repeat (first|refine Tk ?_|intro _|exact Tz)
    refine WC.mainV [15,16,17] [(0,AX g l.length c),(1,.int .i64 ((k+1:Nat):Int)),(2,AX g l.length c),(3,.int .i64 ((k+1:Nat):Int)),(4,.int .i64 (k:Int)),(5,AX g l.length c),(6,.int .i64 ((k+1:Nat):Int)),(7,.int .i64 (k:Int)),(8,.pointer (some ⟨g,0+k*15,none⟩)),(9,.agg (odC x).toArray),(10,AX g l.length c),(11,.int .i64 ((k+1:Nat):Int)),(12,.pointer (some ⟨g,0+(k+1)*15,none⟩)),(13,.agg (odC y).toArray),(14,.pointer (some ⟨g,0+(k+1)*15,none⟩))] Dt ?_;refine WT.with [⟨g,266,C0⟩] Kr (Tlv.auto (Tlv.auto (Tlv.auto (Tlv.auto (Tlv.auto (Tlv.auto (Tlv.auto (Tlv.auto (Tlv.auto (Tlv.auto (Tlv.auto (Tlv.auto (Tlv.auto (Tlv.auto (Tlv.auto Tlv.nil (ho:=by rfl) (h:=by exact (zb (o':=0+(k+1)*15) rfl rfl hk2 rfl))) (ho:=by rfl) (h:=by exact (zE (vs:=odC y) (hc:=hcy)))) (ho:=by rfl) (h:=by exact (zb (o':=0+(k+1)*15) rfl rfl hk2 rfl))))) (ho:=by rfl) (h:=by exact (zE (vs:=odC x) (hc:=hcx)))) (ho:=by rfl) (h:=by exact (zb (o':=0+k*15) rfl rfl hk1 rfl))) (ho:=by rfl) (h:=by exact (zr rfl rfl hsub))))) (ho:=by rfl) (h:=by exact (zr rfl rfl hsub))))))) (fun hc hT=>?_)
    refine WT.one (m:=15) rfl hc hT ?_;refine WO.stores (zz (vs:=odC x) (cs':=C1) (hc:=hov1) (hle:=hln1)) ?_;refine WO.nil (WX.wt [] ?_);refine WT.one (m:=16) (ex:=[9,13]) (Lc:=[]) (K0:=[(0,AX g l.length c),(9,.int .i64 ((k+1:Nat):Int))]) rfl hc (Tlv.auto (Tlv.auto (Tlv.auto (Tlv.auto (Tlv.auto (Tlv.auto (Tlv.auto (Tlv.auto (Tlv.auto (Tlv.skip Dt (Tlv.auto (Tlv.auto (Tlv.auto (Tlv.skip Dt (Tlv.auto Tlv.nil (ho:=by rfl) (h:=by exact (zb (o':=0+(k+1)*15) rfl rfl hk2 rfl)))) (ho:=by rfl) (h:=by exact (zb (o':=0+(k+1)*15) rfl rfl hk2 rfl)))))) (ho:=by rfl) (h:=by exact (zb (o':=0+k*15) rfl rfl hk1 rfl))) (ho:=by rfl) (h:=by exact (zr rfl rfl hsub))))) (ho:=by rfl) (h:=by exact (zr rfl rfl hsub))))))) ?_;refine WO.does (zb (o':=0+k*15) rfl rfl hk1 rfl) ?_;refine WO.nil (WX.wt [(52,.pointer (some ⟨g,0+k*15,none⟩))] ?_);refine WT.one (m:=17) (ex:=[9,13]) (Lc:=[]) (K0:=[(0,AX g l.length c),(9,.int .i64 ((k+1:Nat):Int))]) rfl hc (Tlv.auto (Tlv.auto (Tlv.auto (Tlv.auto (Tlv.auto (Tlv.auto (Tlv.auto (Tlv.auto (Tlv.auto (Tlv.skip Dt (Tlv.auto (Tlv.auto (Tlv.auto (Tlv.skip Dt (Tlv.auto Tlv.nil (ho:=by rfl) (h:=by exact (zb (o':=0+(k+1)*15) rfl rfl hk2 rfl)))) (ho:=by rfl) (h:=by exact (zb (o':=0+(k+1)*15) rfl rfl hk2 rfl)))))) (ho:=by rfl) (h:=by exact (zb (o':=0+k*15) rfl rfl hk1 rfl))) (ho:=by rfl) (h:=by exact (zr rfl rfl hsub))))) (ho:=by rfl) (h:=by exact (zr rfl rfl hsub))))))) ?_;refine WO.stores (zz (vs:=odC y) (cs':=C2) (hc:=hov2) (hle:=hln2)) ?_;refine WO.nil (WX.wt [] ?_);refine WT.fin [17] 1 hc rfl (by rfl) ?_;clear hc hT
    repeat (first|refine WO.does (zr rfl rfl hsub) ?_|refine Tj ?_|intro _|refine Tc ?_|exact Tz)
    subst hC2;exact WX.metI (k,(l2.set (k+1) x).set k y) (hs:=⟨⟨by show k≤i;omega,hp3,hI2⟩,by show k<k+1;omega⟩)
   ·have hnc:¬ nD y.n x.n<0:=fun h=>hc (jZ.1 h);have hS:=hI.done hji (.inr ⟨k,rfl,by rw[ss hx,ss hy];omega⟩);generalize nD y.n x.n=R at *
    repeat (first|refine Tk ?_|intro _|exact Tz)
    refine WC.adraw 17 (k:=?_)
    iterate 17 (first|refine DQ.does (fun s _=>yV rfl rfl hgt) Dp.const ?_|refine DQ.does (fun s _=>zb (o':=0+(k+1)*15) rfl rfl hk2 rfl) Dp.const ?_|refine DQ.does (fun s _=>zE (vs:=odC y) (hc:=hcy)) Dp.const ?_|refine DQ.does (fun s _=>zb (o':=0+k*15) rfl rfl hk1 rfl) Dp.const ?_|refine DQ.does (fun s _=>zE (vs:=odC x) (hc:=hcx)) Dp.const ?_|refine DQ.does (fun s _=>zr rfl rfl hsub) Dp.const ?_|refine DQ.acallV (hc:=hA) (k:=?_)|refine DQ.does (fun s _=>zO rfl rfl hnc) Dp.const ?_|refine Da ?_|refine Dc ?_)
    refine DQ.anil (k:=?_);intro sx _
    repeat (first|refine WO.does (ze rfl rfl hadd2) ?_|refine Tj ?_|intro _|refine Tc ?_|exact Tz)
    exact WX.metI (i+1,l2) (hs:=⟨⟨by show 1≤i+1;omega,by show i+1≤l.length+1;omega,hp2,hS⟩,by show l.length+1 - (i+1)<l.length+1 - i;omega⟩)
 ·have hS:Srt l1 l1.length:=by
   have:=hp1.length_eq;intro a b h1 h2;exact hs1 a b h1 Om
  repeat (first|refine Tk ?_|intro _|exact Tz)
  refine WC.dF rfl Om ?_
  repeat (first|refine Tk ?_|intro _|exact Tz)
  exact WX.retP_ofN (adG rfl) (Lle.cons Pk.here rfl Lle.nil) ⟨rfl,l1,hp1,hS.pw,rfl⟩
theorem eU (m:Nat) (hm:m<9223372036854775808):Fn Tryz.prog 206 [.int .u64 (m:Int)] Tr (Is (.int .i64 (zK m:Nat))):=.of fun w=>(Tryz.bits_Len (m:Int) w Om Om).mono fun e w' h=>by
 obtain⟨rfl,rfl⟩:=h;refine⟨?_,Below.refl _ _⟩;have:=bitLen_eq (x:=m) Om;rw[Int.toNat_natCast,this]
theorem ahM (l:List Od) (g c m:Nat) (hn:l.length≤12) :
  FnL Tryz.prog 205 [AX g l.length c,.int .i64 0,.int .i64 (l.length:Int),.int .i64 (m:Int),.func (.func 167) #[] #[]] [⟨g,266,l.flatMap odC⟩] Tr (fun v N=>afs l.length l v g N):=by
 have hI:=ci l g c hn;have hsub:IntKind.i64.wrap ((l.length:Int) - 0)=(l.length:Int):=by rw[Int.sub_zero];exact i64_in Om Om
 refine FnL.enter Tryz.func205 rfl rfl rfl ?_;intro w hw
 repeat (first|refine WC.loopU 1 ?_|refine WO.does (zr rfl rfl hsub) ?_|refine WO.does (lj rfl rfl Om) ?_|refine Tj ?_|intro _|refine Tc ?_|exact Tz)
 refine WO.callsL (hc:=hI) (hp:=.cons .here .nil) (fun _ _=>trivial) (fun v N hv=>?_);obtain⟨rfl,l',h1,h2,rfl⟩:=hv
 try dsimp only[List.cons_append,List.nil_append]
 repeat (first|refine Tk ?_|intro _|exact Tz)
 exact WX.retP_of (adG rfl) (Lle.cons Pk.here rfl Lle.nil) ⟨rfl,l',h1,h2,rfl⟩
theorem fO (l:List Od) (g c:Nat) (hn:l.length≤12) :
  FnL Tryz.prog 166 [AX g l.length c,.func (.func 167) #[] #[]] [⟨g,266,l.flatMap odC⟩] Tr (fun v N=>afs l.length l v g N):=by
 have hcv:IntKind.u64.wrap (l.length:Int)=(l.length:Int):=u64_in Om Om;have hL:=eU l.length Om;have hP:=ahM l g c (zK l.length) hn;refine FnL.enter Tryz.func166 rfl rfl rfl ?_;intro w hw
 repeat (first|refine WO.does (zC rfl hcv) ?_|refine Tj ?_|intro _|refine WO.acall (hc:=hL) (k:=?_)|refine Tc ?_|exact Tz)
 refine WO.callsL (hc:=hP) (hp:=.cons .here .nil) (fun _ _=>trivial) (fun v N hv=>?_);obtain⟨rfl,l',h1,h2,rfl⟩:=hv
 try dsimp only[List.cons_append,List.nil_append]
 repeat (first|refine Tk ?_|intro _|exact Tz)
 exact WX.retP_ofN (adG rfl) (Lle.cons Pk.here rfl Lle.nil) ⟨rfl,l',h1,h2,rfl⟩
end Sx
end
section
open Go Go.RowKit Go.BigFrame
namespace Sx
end Sx
end
end Go.Proofs.YtiaibpcaloigkaaGreatDoor
