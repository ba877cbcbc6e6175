/- Part 28 of the proof. -/
import Derived.Test.YtiaibpcaloigkaaGreatDoorG20
set_option linter.unusedSimpArgs false
set_option linter.unusedVariables false
set_option maxHeartbeats 8000000
namespace Go.Proofs.YtiaibpcaloigkaaGreatDoor
section
open Go Go.RowKit Go.BigFrame
namespace Sx
attribute [local irreducible] DQ WC WO WX wd
theorem uk {α:Type} {f:α→List Value} {k:Nat} (hk:∀ x,(f x).length=k):∀ {xs:List α} {i:Nat} {x:α},xs[i]?=some x→cut (xs.flatMap f) (i*k) k=f x
 | [],i,x,h=>by simp at h
 | y::r,0,x,h=>by
  simp at h;subst h;simp[cut,← hk y]
 | y::r,i+1,x,h=>by
  have:=uk hk (xs:=r) (i:=i) (x:=x) (by simpa using h);rw[← this];unfold cut;rw[List.flatMap_cons,show (i+1)*k=(f y).length+i*k by rw[hk,Nat.succ_mul];omega,← List.drop_drop,List.drop_left]
abbrev fdC (p q g h:Nat) (e:Int):List Value:=[.int .u64 ((wd 0 p:Nat):Int),.int .u64 ((wd 1 p:Nat):Int),.int .u64 ((wd 2 p:Nat):Int),.int .u64 ((wd 3 p:Nat):Int),.int .u64 ((wd 0 q:Nat):Int),.int .u64 ((wd 1 q:Nat):Int),.int .u64 ((wd 2 q:Nat):Int),.int .u64 ((wd 3 q:Nat):Int),.int .u64 ((wd 0 g:Nat):Int),.int .u64 ((wd 1 g:Nat):Int),.int .u64 ((wd 2 g:Nat):Int),.int .u64 ((wd 3 g:Nat):Int),.int .u64 ((wd 0 h:Nat):Int),.int .u64 ((wd 1 h:Nat):Int),.int .u64 ((wd 2 h:Nat):Int),.int .u64 ((wd 3 h:Nat):Int),.int .i64 e]
def kE (e e' : Int):Int:=if e=0 then e' else e
section
variable (p q g h gF:Nat)
theorem aco (a:Nat) (e0 e:Int):FnM Tryz.prog 265 [pt gF,zk a,.int .i64 e] gF 336 (fdC p q g h e0) (fdC p q g h (kE e0 e)) Tr (zk a):=by
 refine FnM.enter Tryz.func265 rfl rfl rfl ?_;intro w hw
 by_cases he:e0=0
 ·rw[show kE e0 e=e from if_pos he]
  repeat (first|refine Tj ?_|intro _|refine WO.does (zO rfl rfl he) ?_|refine Tc ?_|exact Tz)
  exact WX.retM_of (ady rfl (by first|exact zK rfl|exact vF)) Hs.a
 ·rw[show kE e0 e=e0 from if_neg he]
  repeat (first|refine Tj ?_|intro _|refine WO.does (zR rfl rfl he) ?_|refine Tc ?_|exact Tz)
  exact WX.retM_of (ady rfl (by first|exact zK rfl|exact vF)) Hs.a
theorem lW (a b:Nat) (e0:Int) (ha:a<ze) (hb:b<ze) (hq:q<ze):FnM Tryz.prog 229 [pt gF,zk a,zk b] gF 336 (fdC p q g h e0) (fdC p q g h (kE e0 (okE (zP a b q)))) Tr (zk (okV (zP a b q) ((a+b)%q))):=by
 have hO:=mF p q g h a b ha hb hq;have hK:=aco p q g h gF (okV (zP a b q) ((a+b)%q)) e0 (okE (zP a b q));simp only[rE] at hO;generalize okV (zP a b q) ((a+b)%q)=R at *;generalize okE (zP a b q)=E at *;refine FnM.enter Tryz.func229 rfl rfl rfl ?_;intro w hw
 repeat (first|refine Tk ?_|intro _|exact Tz)
 refine WC.adraw 10 (k:=?_)
 repeat (first|refine Da ?_|refine DQ.acall (hc:=hO) (k:=?_)|refine Dc ?_)
 refine DQ.anil (k:=?_);intro sx _
 repeat (first|refine Tj ?_|intro _|refine WO.callM rfl hK (by repeat (first|exact Rp.here|apply Rp.there)) (fun _ _=>trivial) Dtt ?_ rfl rfl|refine Tc ?_|exact Tz)
 exact WX.retM_of (ady rfl (by first|exact zK rfl|exact vF)) Hs.a
theorem aaf (a b:Nat) (e0:Int) (ha:a<ze) (hb:b<ze) (hq:q<ze):FnM Tryz.prog 230 [pt gF,zk a,zk b] gF 336 (fdC p q g h e0) (fdC p q g h (kE e0 (okE (zP a b q)))) Tr (zk (okV (zP a b q) (a*b%q))):=by
 have hO:=ju p q g h a b ha hb hq;have hK:=aco p q g h gF (okV (zP a b q) (a*b%q)) e0 (okE (zP a b q));simp only[rE] at hO;generalize okV (zP a b q) (a*b%q)=R at *;generalize okE (zP a b q)=E at *;refine FnM.enter Tryz.func230 rfl rfl rfl ?_;intro w hw
 repeat (first|refine Tk ?_|intro _|exact Tz)
 refine WC.adraw 10 (k:=?_)
 repeat (first|refine Da ?_|refine DQ.acall (hc:=hO) (k:=?_)|refine Dc ?_)
 refine DQ.anil (k:=?_);intro sx _
 repeat (first|refine Tj ?_|intro _|refine WO.callM rfl hK (by repeat (first|exact Rp.here|apply Rp.there)) (fun _ _=>trivial) Dtt ?_ rfl rfl|refine Tc ?_|exact Tz)
 exact WX.retM_of (ady rfl (by first|exact zK rfl|exact vF)) Hs.a
def gaS (q:Nat) (l:LN) (a:Nat) (e:Int):Nat × Int:=l.foldl (fun s x=>(okV (zP s.1 x q) ((s.1+x)%q),kE s.2 (okE (zP s.1 x q)))) (a,e)
theorem jF (q:Nat) (l:LN) (x a:Nat) (e:Int):gaS q (l++[x]) a e=(okV (zP (gaS q l a e).1 x q) (((gaS q l a e).1+x)%q),kE (gaS q l a e).2 (okE (zP (gaS q l a e).1 x q))):=by
 unfold gaS;rw[List.foldl_append];rfl
theorem agF {q:Nat} {l:LN} {a:Nat} {e:Int} (hq:q<ze) (ha:a<ze):(gaS q l a e).1<ze:=by
 rcases List.eq_nil_or_concat l with rfl|⟨l,x,rfl⟩
 ·exact ha
 ·rw[List.concat_eq_append,jF];cases h:zP (gaS q l a e).1 x q with
  | false=>exact zE
  | true=>exact Nat.lt_trans (Nat.mod_lt _ (by have:=(zQ h).1;omega)) hq
theorem abW (l:LN) (pt:Option Addr) (c a:Nat) (e0:Int) (ha:a<ze) (hl:∀ x∈l,x<ze) (hn:l.length≤1099511627776) (hq:q<ze) :
  FnM Tryz.prog 254 [zk a,.slice pt l.length c,.func (.func 229) #[Sx.pt gF] #[]] gF 336 (fdC p q g h e0) (fdC p q g h (gaS q l a e0).2) (fun w=>RdF zc (.slice pt l.length c) l w∧∀ b o,pt=some ⟨b,o,none⟩→l≠[]→b ∉ [gF]) (zk (gaS q l a e0).1):=by
 have hP:=fun u x e (hu:u<ze) (hx:x<ze)=>(lW p q g h gF u x e hu hx hq).toL;refine FnM.enter Tryz.func254 rfl rfl rfl ?_;intro w hw;obtain⟨⟨pt',c',e,hpc⟩,hout⟩:=hw;cases e
 repeat (first|refine Tk ?_|intro _|exact Tz)
 rename_i g3 g6
 refine WC.loopI (σ:=Nat) (fun i=>i≤l.length) (fun i=>[(2,.func (.func 229) #[Sx.pt gF] #[]),(3,Sx.pt g3),(6,Sx.pt g6),(9,.slice pt l.length c),(10,.int .i64 (l.length:Int)),(11,.int .i64 (i:Int))])
  (fun i=>[⟨g6,24,zc 0⟩,⟨g3,24,zc (gaS q (l.take i) a e0).1⟩,⟨gF,336,fdC p q g h (gaS q (l.take i) a e0).2⟩]) (fun i=>l.length - i) 0 (fun i hi=>?_) (Nat.zero_le _)
 try dsimp only at hi ⊢
 by_cases hlt:i<l.length
 ·obtain⟨x,hx⟩ : ∃ x,l[i]?=some x:=⟨_,List.getElem?_eq_getElem hlt⟩
  rcases hpc with ⟨_,h0⟩|⟨b,o,rfl,hs⟩
  ·rw[h0] at hlt;simp at hlt
  have hb:b ∉ [gF]:=hout b o rfl (by rintro rfl;simp at hlt);have hadd2:IntKind.i64.wrap ((i:Int)+1)=((i+1:Nat):Int):=zl Om Om Om;have hcx:cut (l.flatMap zc) (o+i*4 - o) 4=zc x:=by rw[Nat.add_sub_cancel_left];exact uk (f:=zc) (k:=4) (fun _=>rfl) hx
  have hPx:=hP (gaS q (l.take i) a e0).1 x (gaS q (l.take i) a e0).2 (agF hq ha) (hl x (List.mem_of_getElem? hx));have hst:=jF q (l.take i) x a e0;rw[show l.take i++[x]=l.take (i+1) by rw[List.take_add_one,hx];rfl] at hst;rw[show okV (zP (gaS q (l.take i) a e0).1 x q) (((gaS q (l.take i) a e0).1+x)%q)=(gaS q (l.take (i+1)) a e0).1 by rw[hst],show kE (gaS q (l.take i) a e0).2 (okE (zP (gaS q (l.take i) a e0).1 x q))=(gaS q (l.take (i+1)) a e0).2 by rw[hst]] at hPx;clear hst hP hl
  repeat (first|refine Tk ?_|intro _|exact Tz)
  refine WC.dT rfl Om ?_
  repeat (first|refine Tj ?_|intro _|refine WO.does (zb (o':=o+i*4) rfl rfl hlt rfl) ?_|refine WO.does (zn (vs:=zc x) (hs:=hs) (hle:=Nat.le_add_right _ _) (hb:=hb) (hc:=hcx)) ?_|refine Tc ?_|exact Tz)
  refine WO.callsLV hPx rfl rfl rfl (Pks.cons (Pk.there (Pk.there (Pk.there Pk.here))) Pks.nil) (fun _ _=>trivial) (fun v N hv=>?_);obtain⟨rfl,rfl⟩:=hv;simp only[List.cons_append,List.nil_append]
  repeat (first|refine Tj ?_|intro _|refine WO.does (zi rfl rfl hadd2) ?_|refine Tc ?_|exact Tz)
  exact WX.metI (i+1) (hs:=⟨by show i+1≤l.length;omega,by show l.length - (i+1)<l.length - i;omega⟩)
 ·have hi2:i=l.length:=by omega
  subst hi2;rw[List.take_length]
  repeat (first|refine Tk ?_|intro _|exact Tz)
  refine WC.dF rfl Om ?_
  repeat (first|refine Tk ?_|intro _|exact Tz)
  exact WX.retM_of (ady rfl (by first|exact zK rfl|exact vF)) Hs.a
end
theorem ki (q:Nat):∀ (l:LN) (a:Nat),(gaS q l a 1).2=1
 | [],_=>rfl
 | x::l,a=>by
  show (gaS q l _ (kE 1 _)).2=1;rw[show kE 1 (okE (zP a x q))=1 from rfl];exact ki q l _
theorem acm {q:Nat} (h1:1<q):∀ (l:LN) (a:Nat),a<q→(gaS q l a 0).2=if l.all (fun x=>decide (x<q))=true then 0 else 1
 | [],_,_=>rfl
 | x::l,a,ha=>by
  show (gaS q l (okV (zP a x q) ((a+x)%q)) (kE 0 (okE (zP a x q)))).2=_;rw[show kE 0 (okE (zP a x q))=okE (zP a x q) from rfl]
  by_cases hx:x<q
  ·rw[show zP a x q=true by simp[zP,h1,ha,hx]];show (gaS q l ((a+x)%q) 0).2=_;rw[acm h1 l _ (Nat.mod_lt _ Om)];simp[hx]
  ·rw[show zP a x q=false by simp[zP,hx]];show (gaS q l 0 1).2=_;rw[ki];simp[hx]
theorem afT (q:Nat) (l:LN):decide (kE (gaS q l 0 0).2 (okE (zP 0 0 q))=0)=uz q l:=by
 unfold uz
 by_cases h1:1<q
 ·rw[acm h1 l 0 Om,show zP 0 0 q=true by simp[zP,h1];omega,decide_eq_true h1,Bool.true_and];cases l.all (fun x=>decide (x<q))<;>rfl
 ·rw[decide_eq_false h1,Bool.false_and,show zP 0 0 q=false by simp[zP,h1]];cases l with
  | nil=>rfl
  | cons x l =>
   have:(gaS q (x::l) 0 0).2=1:=by
    show (gaS q l _ (kE 0 (okE (zP 0 x q)))).2=1;rw[show zP 0 x q=false by simp[zP,h1]];exact ki q l _
   rw[this];rfl
section
variable (p q g h:Nat)
theorem jB (l:LN) (pt:Option Addr) (c:Nat) (hl:∀ x∈l,x<ze) (hn:l.length≤1099511627776) (hq:q<ze) :
  Fn Tryz.prog 227 [vV p q g h,.slice pt l.length c] (RdF zc (.slice pt l.length c) l) (Is (.bool (uz q l))):=by
 have hG:=fun gF=>abW p q g h gF l pt c 0 0 zE hl hn hq;have hP:=fun gF=>lW p q g h gF 0 0 (gaS q l 0 0).2 zE zE hq;have hm:=afT q l;rw[← hm];generalize (gaS q l 0 0).2=E at *;generalize (gaS q l 0 0).1=A at *;generalize okV (zP 0 0 q) ((0+0)%q)=R at *;generalize kE E (okE (zP 0 0 q))=E2 at *;refine Fn.enter Tryz.func227 rfl rfl rfl ?_;intro w hw
 repeat (first|refine Tk ?_|intro _|exact Tz)
 rename_i g2 gF;refine WO.mine (fun hmn=>?_);have hgF:w.heap.size≤gF:=(hmn _ (List.Mem.head _)).resolve_right Sm;refine WO.callM rfl (hG gF) (by repeat (first|exact Rp.here|apply Rp.there)) (fun w1 hm1=>⟨hw.mod hm1.mod,fun b o e hne=>by
  subst e;have:=RdF.lt (k:=3) (f:=zc) (fun _=>rfl) hw hne;simp;omega⟩) Dtt ?_ rfl rfl
 repeat (first|refine Tj ?_|intro _|refine WO.callM rfl (hP gF) (by repeat (first|exact Rp.here|apply Rp.there)) (fun _ _=>trivial) Dtt ?_ rfl rfl|refine Tc ?_|exact Tz)
 done
end
end Sx
end
section
open Go Go.RowKit Go.BigFrame
namespace Sx
theorem WC.unf {P:Program} {w0:World} {gs:LN} {n:Nat} {c:Code} {Q:Exit→Act→World→Prop} {K:List (Nat × Value)} {L:List Ent} (k:∀ a w,a.defers=[]→a.tmps.size=n→Kn K a→Me w0 gs L w→c.wp P Q a w):WC P w0 gs n c Q K L:=k
attribute [local irreducible] wd DQ WO WC WT
theorem iD (m:Nat) {α:Type} (fi fa:α→Nat) (xs:List α) (pa:Option Addr) (gA bA oA cA:Nat) (hn:xs.length≤1099511627776) (w:World) (hlt:∀ k∈[gA,bA],k<w.heap.size)
  (hA:Seg w gA 0 [.slice pa xs.length cA]) (hpa:xs≠[]→pa=some ⟨bA,oA,none⟩) (hfi:∀ k x,xs[k]?=some x→fi x=xs.length - 1 - k) (hSA:∀ k x,xs[k]?=some x→Seg w bA (oA+(xs.length - 1 - k)*4) (zc (fa x))) :
  SeqStopsK Fence.wide m Tryz.prog 264 #[pt gA] (fun x:α=>#[.int .i64 (fi x:Int),zk (fa x)]) (KpB [gA,bA]) (fun ys=>ys=xs) (fun _=>True) xs.length w:=fun l J Jx W hW hJ hJx hY h0=>by
 have hk:yA [gA,bA] w W:=fun k hk=>hW.block k (hlt k hk)
 refine aeI m fi fa xs pa gA bA oA cA l J Jx hn (fun s A B h hm=>hJ s A B none h ⟨hm.os,hm.tape,hm.output,hm.size,fun k hk _=>hm.block k hk Sm⟩ Sm) (fun s A B h hm=>hJx s A B none h ⟨hm.os,hm.tape,hm.output,hm.size,fun k hk _=>hm.block k hk Sm⟩ Sm)
  hY W (hk.seg Sm hA) hpa hfi (fun k x h=>hk.seg Sm (hSA k x h)) (fun k hk=>Nat.lt_of_lt_of_le (hlt k hk) hW.size) h0
section
variable (p q g h:Nat)
theorem acC (l:LN) (pt:Option Addr) (c x:Nat) (hl:∀ a∈l,a<ze) (hn:l.length≤1099511627776) (hq:q<ze) (hx:x<ze) (hno:(uz q l && decide (x<q))=false) :
  Fn Tryz.prog 187 [vV p q g h,.slice pt l.length c,zk x] (RdF zc (.slice pt l.length c) l) (Is (.tuple #[zk 0,.int .i64 1])):=by
 have hM1:=jB p q g h l pt c hl hn hq;cases hb1:uz q l with
 | false =>
  rw[hb1] at hM1;refine Fn.enter Tryz.func187 rfl rfl rfl ?_;intro w hw
  repeat (first|refine Ta ?_|refine Tm fun _=>?_|refine WO.acallR (hc:=hM1) (hR:=fun w hm=>hw.mod hm.mod) (k:=?_)|refine Tc ?_|exact Tz)
  done
 | true =>
  have h1:=(vW hb1).1;have hM2:=fun b=>jB p q g h [x] (some ⟨b,0,none⟩) 1 (by simpa using hx) (by show 1≤1099511627776;omega) hq;have hxq:decide (x<q)=false:=by rw[hb1,Bool.true_and] at hno;exact hno
  rw[show uz q [x]=false by unfold uz;rw[List.all_cons,hxq,Bool.false_and,Bool.and_false]] at hM2;rw[hb1] at hM1;refine Fn.enter Tryz.func187 rfl rfl rfl ?_;intro w hw
  repeat (first|refine Ta ?_|refine Tm fun _=>?_|(refine WO.makes (zh (cs:=zc x) rfl Dtt rfl) ?_;intro _)|refine WO.acallR (hc:=hM1) (hR:=fun w hm=>hw.mod hm.mod) (k:=?_)|refine WO.acallR (hc:=hM2 _) (hR:=fun w hm=>RdF.seg (f:=zc) (xs:=[x]) (r:=[]) (Hs.sg hm)) (k:=?_)|refine Tc ?_|exact Tz)
  done
theorem mg (l:LN) (pz:Option Addr) (c x:Nat) (hl:∀ a∈l,a<ze) (hn:l.length≤1099511627776) (hq:q<ze) (hx:x<ze) (hb1:uz q l=true) (hxq:x<q) :
  Fn Tryz.prog 187 [vV p q g h,.slice pz l.length c,zk x] (RdF zc (.slice pz l.length c) l) (Is (.tuple #[zk (ye l x%q),.int .i64 0])):=by
 have hM1:=jB p q g h l pz c hl hn hq;have hM2:=fun b=>jB p q g h [x] (some ⟨b,0,none⟩) 1 (by simpa using hx) (by show 1≤1099511627776;omega) hq;obtain⟨h1,hlq⟩:=vW hb1;rw[show uz q [x]=true by unfold uz;rw[List.all_cons,decide_eq_true h1,decide_eq_true hxq];rfl] at hM2;rw[hb1] at hM1;have hBk:=fq pz l.length c;have hlen:=nU hlq l.length (Nat.le_refl _);have hget:=mR hlq l.length (Nat.le_refl _);rw[← lU x hlq];generalize rJ l hlq l.length=xs at *;refine fun w hw=>sJ (n:=40) 3 Tryz.func187 rfl rfl rfl ?_
 repeat (first|refine Ta ?_|refine Tm fun _=>?_|(refine WO.makes (zh (cs:=zc x) rfl Dtt rfl) ?_;intro _)|refine WO.acallR (hc:=hM1) (hR:=fun w hm=>hw.mod hm.mod) (k:=?_)|refine WO.acallR (hc:=hM2 _) (hR:=fun w hm=>RdF.seg (f:=zc) (xs:=[x]) (r:=[]) (Hs.sg hm)) (k:=?_)|refine WO.acallX (hc:=hBk) (hR:=fun _ _=>trivial) (k:=fun s _=>?_)|refine Tc ?_|exact Tz)
 rename_i g3 g5 g6 gX gF g8 g9 hs0;clear hs0;generalize s 0=gA;refine WC.ndp' (fun hnd=>?_);refine WC.mine (fun hmn=>?_);simp only[List.map_append,List.map_cons,List.map_nil,List.cons_append,List.nil_append] at hnd hmn;refine WC.unf (fun a w1 d1 d2 d3 d4=>?_);have lF:=(d4.ok ⟨gF,_,_⟩ (Hs.mem Hs.a)).lt;have l5:=(d4.ok ⟨g5,_,_⟩ (Hs.mem Hs.a)).lt;have l6:=(d4.ok ⟨g6,_,_⟩ (Hs.mem Hs.a)).lt;have l8:=(d4.ok ⟨g8,_,_⟩ (Hs.mem Hs.a)).lt;have l9:=(d4.ok ⟨g9,_,_⟩ (Hs.mem Hs.a)).lt;have lA:=(d4.ok ⟨gA,_,_⟩ (Hs.mem Hs.a)).lt;have sA:=(d4.ok ⟨gA,_,_⟩ (Hs.mem Hs.a)).seg 0;simp only[List.drop_zero] at lF l5 l6 l8 l9 lA sA;have hn0:=d4.mod.size;have B9:w.heap.size≤g9:=(hmn ⟨g9,_,_⟩ (Hs.mem Hs.a)).resolve_right Sm;have BF:w.heap.size≤gF:=(hmn ⟨gF,_,_⟩ (Hs.mem Hs.a)).resolve_right Sm;have B6:w.heap.size≤g6:=(hmn ⟨g6,_,_⟩ (Hs.mem Hs.a)).resolve_right Sm;have hne:gA≠gF∧gA≠g9∧g8≠gF∧g8≠g9∧g5≠gF∧g5≠g9∧gF≠g9∧g9≠g6:=by
  refine⟨?_,?_,?_,?_,?_,?_,?_,?_⟩<;>(intro e;simp[e] at hnd)
 obtain⟨hne1,hne2,hne3,hne4,hne5,hne6,hne7,hne8⟩:=hne;clear hnd hmn;have hB:∃ bA oA,(xs≠[]→pz=some ⟨bA,oA,none⟩)∧bA<w1.heap.size∧bA≠gF∧bA≠g9∧∀ k y,l[k]?=some y→Seg w1 bA (oA+k*4) (zc y):=by
  by_cases hne0:l=[]
  ·refine⟨gA,0,fun hx=>absurd (List.eq_nil_of_length_eq_zero (by rw[hlen,hne0];rfl)) hx,lA,hne1,hne2,fun k y hk=>by rw[hne0] at hk;simp at hk⟩
  ·obtain⟨pt',c',e,hpc⟩:=id hw;cases e
   rcases hpc with ⟨_,h0⟩|⟨b,o,rfl,hs⟩
   ·exact absurd h0 hne0
   ·have hb:=RdF.lt (k:=3) (f:=zc) (fun _=>rfl) hw hne0;refine⟨b,o,fun _=>rfl,by omega,by omega,by omega,fun k y hk=>?_⟩;have hs1:Seg w1 b o (l.flatMap zc):=hs.mod d4.mod Sm;exact hs1.sub (uk (f:=zc) (k:=4) (fun _=>rfl) hk)
 obtain⟨bA,oA,hpa,lB,hbF,hb9,hSeg⟩:=hB;have hks:∀ k∈[gA,bA],k<w1.heap.size∧k≠gF∧k≠g9:=by
  intro k hk;simp at hk;omega
 rw[← hlen] at sA;refine (wpIn_wide (n:=3)).1 ?_
 refine wpIn_rangeFunc_ownH (F:=Fence.wide) rfl Om (gf:=264) (lb:=#[pt gA]) (d3.eval (x:=.tmp 29) rfl) trivial (enters_of Tryz.func264 Kr rfl)
  (iD 2 (fun y:CoT q=>y.1.1) (fun y=>y.1.2) xs pz gA bA oA c Om w1 (fun k hk=>(hks k hk).1) sA hpa (fun k y hk=>by rw[hlen];exact (hget k y hk).1) (fun k y hk=>by rw[hlen];exact hSeg _ _ (hget k y hk).2))
  KpB.trans (KpB.put (fun k hk=>(hks k hk).1)) (Below.refl _ _) (fun _=>rfl)
  (fun pre W=>Me w [] [⟨gF,336,fdC p q g h 0⟩,⟨g9,24,zc (vB q x pre)⟩,⟨g8,334,[pt gF]⟩,⟨g6,24,zc 0⟩,⟨g5,24,zc x⟩] W∧w1.heap.size≤W.heap.size)
  (fun _ _ _=>False)
  (fun pre A B row hs hg hr=>⟨hs.1.own hn0 hg hr,Nat.le_trans hs.2 hg.size⟩)
  (fun _ _ _ _ _ hs _ _=>hs)
  ⟨Lle.me (L':=[⟨gF,336,fdC p q g h 0⟩,⟨g9,24,zc (vB q x [])⟩,⟨g8,334,[pt gF]⟩,⟨g6,24,zc 0⟩,⟨g5,24,zc x⟩]) (by repeat (first|exact Lle.nil|refine Lle.c ?_)) d4,Nat.le_refl _⟩
  (fun y a' W=>a'.defers=[]∧a'.tmps.size=40∧∃ q11,Kn [(5,pt g5),(6,pt g6),(8,pt g8),(9,pt g9),(11,pt q11)] a'∧(⟨q11,24,zc y.1.2⟩ : Ent).ok W∧w1.heap.size≤q11)
  (fun y a' _ A B row ⟨e1,e2,q11,e3,e4,e5⟩ hg hr=>⟨e1,e2,q11,e3,e4.own hg hr,e5⟩)
  ?assign ?body ?done ?stop
 case assign =>
  intro lr pre y W K hI hK;have hQ:¬ LetsOut (Exit.then K (fun _ _ _=>False)):=fun ⟨_,_,h⟩=>h;have hkn:Kn ([(30,.int .i64 (y.1.1:Int)),(31,zk y.1.2)]++[(5,pt g5),(6,pt g6),(8,pt g8),(9,pt g9)]) { tmps:=((#[30,31]:Array Tmp).zip #[.int .i64 (y.1.1:Int),zk y.1.2]).foldl (fun t (p,v)=>t.setIfInBounds p v) a.tmps,defers:=[] }:=by
   have k00:Kn [(5,pt g5),(6,pt g6),(8,pt g8),(9,pt g9)] a:=Kle.kn d3 Kle.a;have k0:Kn [(5,pt g5),(6,pt g6),(8,pt g8),(9,pt g9)] ({ a with defers:=[] }:Act):=k00;have k1:=k0.put (d:=30) (by show 30<a.tmps.size;omega) (.int .i64 (y.1.1:Int));have k2:=k1.put (d:=31) (by rw[yk];show 31<a.tmps.size;omega) (zk y.1.2);have k3:Kn ([(30,.int .i64 (y.1.1:Int)),(31,zk y.1.2)]++[(5,pt g5),(6,pt g6),(8,pt g8),(9,pt g9)]) _:=Kle.kn k2 Kle.a;intro t v ht;have k4:=k3 t v ht;simpa [Act.put,Array.zip] using k4
  suffices HH:WI (some lr) 1 Tryz.prog W [] 40 _ (Exit.then K (fun _ _ _=>False)) ([(30,.int .i64 (y.1.1:Int)),(31,zk y.1.2)]++[(5,pt g5),(6,pt g6),(8,pt g8),(9,pt g9)]) [] from HH _ W rfl (by simp[d2]) hkn (Me.refl W [])
  repeat (first|refine WO.nil ?_|refine WO.skip ?_|refine WX.seqI ?_|refine WI.seq ?_|refine WI.region ?_ (by exact hQ)|refine WO.autoS (k:=?_)|(refine WO.autoM (k:=?_);intro _)|refine WO.auto (k:=?_)|refine WO.does yO ?_|refine WO.does ti ?_|refine WI.ret ?_|refine WI.skip ?_|refine WX.then_ret ?_|refine WX.noPanic ?_|refine WX.blk_normal ?_|refine WX.blk_ret ?_|refine WX.then_exit ?_|refine WX.blk_exit ?_|refine WX.blk_pass rfl ?_|refine WI.exit ?_|refine WI.block ?_|refine WX.scp_normal ?_|refine WX.scp_ret ?_|refine WX.scp_exit ?_|refine WI.condT rfl ?_|refine WI.condF rfl ?_)
  rename_i q11;intro a2 W2 e1 e2 e3 e4;have o11:=e4.ok ⟨q11,_,_⟩ (Hs.mem Hs.a);have m11:=(e4.mine ⟨q11,_,_⟩ (Hs.mem Hs.a)).resolve_right Sm
  refine hK a2 W2 ⟨e4.mod.size,fun k o _ hk _=>(e4.mod.block k (Array.getElem?_eq_some_iff.1 hk).1 Sm).trans hk⟩ ⟨yA.of_mod e4.mod (fun k hk=>⟨Nat.lt_of_lt_of_le (hks k hk).1 hI.2,by simp⟩),e4.mod.size⟩ ⟨hI.1.below e4.mod.below,Nat.le_trans hI.2 e4.mod.size⟩
   ⟨e1,e2,q11,Kle.kn e3 Kle.a,o11,Nat.le_trans hI.2 m11⟩
 case body =>
  rintro lr pre y a' W hl _ ⟨hI,hIs⟩ ⟨e1,e2,q11,e3,o11,hq11⟩ _;obtain⟨⟨yi,yc⟩,hyq⟩:=y;dsimp only at o11 hyq;have hOl:=aS (x:=x) h1 pre;have hsn:=pA q x pre ⟨(yi,yc),hyq⟩;dsimp only at hsn;have hTl:vB q x pre*x%q<q:=Nat.mod_lt _ Om;have hT:=aaf p q g h gF (vB q x pre) x 0 (Nat.lt_trans hOl hq) hx hq;rw[show zP (vB q x pre) x q=true by simp[zP,h1,hOl,hxq]] at hT;have hT' : FnM Tryz.prog 230 [pt gF,zk (vB q x pre),zk x] gF 336 (fdC p q g h 0) (fdC p q g h 0) Tr (zk (vB q x pre*x%q)):=hT;have hP:=lW p q g h gF (vB q x pre*x%q) yc 0 (Nat.lt_trans hTl hq) (Nat.lt_trans hyq hq) hq;rw[show zP (vB q x pre*x%q) yc q=true by simp[zP,h1,hTl,hyq]] at hP;have hP' : FnM Tryz.prog 229 [pt gF,zk (vB q x pre*x%q),zk yc] gF 336 (fdC p q g h 0) (fdC p q g h 0) Tr (zk (vB q x (pre++[⟨(yi,yc),hyq⟩]))):=by rw[hsn];exact hP
  clear hT hP hsn;have iF:=hI.ok ⟨gF,_,_⟩ (Hs.mem Hs.a);have i9:=hI.ok ⟨g9,_,_⟩ (Hs.mem Hs.a);have s8:=(hI.ok ⟨g8,_,_⟩ (Hs.mem Hs.a)).seg 0;have s5:=(hI.ok ⟨g5,_,_⟩ (Hs.mem Hs.a)).seg 0;have s11:=o11.seg 0;have b8:g8 ∉ [gF,g9]:=by simp;omega
  have b5:g5 ∉ [gF,g9]:=by simp;omega
  have b11:q11 ∉ [gF,g9]:=by simp;omega
  simp only[List.drop_zero] at s8 s5 s11;have hm0:Me W [gF,g9] [⟨gF,336,fdC p q g h 0⟩,⟨g9,24,zc (vB q x pre)⟩] W:=⟨.refl _ _,fun e he=>(List.mem_cons.1 he).elim (fun h=>h ▸ iF) (fun he=>(List.mem_singleton.1 he) ▸ i9),by simp,by simpa using hne7⟩;generalize hRg:vB q x (pre++[⟨(yi,yc),hyq⟩])=R at *;have hRR:=Lib.hid hRg;clear hRg;generalize hgO:vB q x pre=O at *;generalize O*x%q=T at *;have hQ:¬ LetsOut (ownPostG w1.heap.size (KpB [gA,bA]) (fun (pre:List (CoT q)) W=>Me w [] [⟨gF,336,fdC p q g h 0⟩,⟨g9,24,zc (vB q x pre)⟩,⟨g8,334,[pt gF]⟩,⟨g6,24,zc 0⟩,⟨g5,24,zc x⟩] W∧w1.heap.size≤W.heap.size) (fun _ _ _=>False) (pre++[⟨(yi,yc),hyq⟩]) W):=fun ⟨_,_,h⟩=>h
  suffices HH:WI (some lr) 1 Tryz.prog W [gF,g9] 40 _ (ownPostG w1.heap.size (KpB [gA,bA]) (fun (pre:List (CoT q)) W=>Me w [] [⟨gF,336,fdC p q g h 0⟩,⟨g9,24,zc (vB q x pre)⟩,⟨g8,334,[pt gF]⟩,⟨g6,24,zc 0⟩,⟨g5,24,zc x⟩] W∧w1.heap.size≤W.heap.size) (fun _ _ _=>False) (pre++[⟨(yi,yc),hyq⟩]) W) [(5,pt g5),(6,pt g6),(8,pt g8),(9,pt g9),(11,pt q11)] [⟨gF,336,fdC p q g h 0⟩,⟨g9,24,zc O⟩] from HH a' W e1 e2 e3 hm0
  refine WI.block ?_;refine WI.mainA (by exact hQ) [4,6,7] [(0,pt gF),(1,pt gF),(2,zk O),(3,zk x),(5,zk yc)] Dtt (fun A hA=>?_);refine WT.given [(5,pt g5),(8,pt g8),(9,pt g9),(11,pt q11)] [⟨g9,24,zc O⟩] Kr (Tlv.a (Tlv.a (Tlv.a (Tlv.a (Tlv.a (Tlv.nil) (h:=by refine Qux.does ?_;exact uj s11 (i:=0) rfl b11 (vs:=zc yc) rfl rfl)) (h:=by refine Qux.does ?_;exact uj s5 (i:=0) rfl b5 (vs:=zc x) rfl rfl))) (h:=by refine Qux.does ?_;exact vP s8 (i:=0) rfl b8 rfl)) (h:=by refine Qux.does ?_;exact vP s8 (i:=0) rfl b8 rfl)) (fun hc hT=>?_)
  suffices hS208:A [7,6,4] [(36,zk T),(38,zk R),(5,pt g5),(8,pt g8),(9,pt g9),(11,pt q11)] [⟨gF,336,fdC p q g h 0⟩,⟨g9,24,zc R⟩] by
   have hS80:A [6,4] [(36,zk T),(38,zk R),(5,pt g5),(8,pt g8),(9,pt g9),(11,pt q11)] [⟨gF,336,fdC p q g h 0⟩,⟨g9,24,zc O⟩]:=by
    refine (hA _ _ _).2 (WT.step [7] Dtt hc hT ⟨⟨_,rfl,?_⟩,trivial⟩)
    ·refine Tw ?_;exact WT.go [] hA (hS208)
   have hS16:A [4] [(36,zk T),(5,pt g5),(8,pt g8),(9,pt g9),(11,pt q11)] [⟨gF,336,fdC p q g h 0⟩,⟨g9,24,zc O⟩]:=by
    refine (hA _ _ _).2 (WT.step [6] Dtt hc hT ⟨⟨_,rfl,?_⟩,trivial⟩)
    ·refine WO.callM rfl hP' (by repeat (first|exact Rp.here|apply Rp.there)) (fun _ _=>trivial) Dtt ?_ rfl rfl;exact WT.go [(38,zk R)] hA (hS80)
   have hS0:A [] [(5,pt g5),(8,pt g8),(9,pt g9),(11,pt q11)] [⟨gF,336,fdC p q g h 0⟩,⟨g9,24,zc O⟩]:=by
    refine (hA _ _ _).2 (WT.step [4] Dtt hc hT ⟨⟨_,rfl,?_⟩,trivial⟩)
    ·refine WO.callM rfl hT' (by repeat (first|exact Rp.here|apply Rp.there)) (fun _ _=>trivial) Dtt ?_ rfl rfl;exact WT.go [(36,zk T)] hA (hS16)
   exact WT.less ((hA _ _ _).1 hS0) Dtt Kle.a (by repeat (first|exact Lle.nil|exact Lle.same|refine Lle.c ?_))
  refine (hA _ _ _).2 (WT.fin [4,6,7] 6 hc rfl Kr ?_);clear hc hT hA;refine WX.blk_normal ?_;intro a2 W2 f1 f2 f3 f4;refine⟨⟨f4.mod.size,fun k o hk0 hk _=>(f4.mod.block k (Array.getElem?_eq_some_iff.1 hk).1 (by simp;omega)).trans hk⟩,⟨yA.of_mod f4.mod (fun k hk=>⟨Nat.lt_of_lt_of_le (hks k hk).1 hIs,by simpa using (hks k hk).2⟩),f4.mod.size⟩,?_,Nat.le_trans hIs f4.mod.size⟩;rw[hRR.out];exact Me.callL (M:=[⟨gF,336,fdC p q g h 0⟩,⟨g9,24,zc O⟩]) hI f4
 case done =>
  rintro D ys W hD rfl ⟨hI,hIs⟩ hK;have i9:=hI.ok ⟨g9,_,_⟩ (Hs.mem Hs.a);have i6:=hI.ok ⟨g6,_,_⟩ (Hs.mem Hs.a);have s9:=i9.seg 0;simp only[List.drop_zero] at s9;have b9:g9 ∉ [g6]:=by simp;exact hne8
  have hm0:Me W [g6] [⟨g6,24,zc 0⟩] W:=⟨.refl _ _,by simpa using i6,by simp,by simp⟩;have hlD:D<W.heap.size:=(Array.getElem?_eq_some_iff.1 hK).1;refine WO.tail (w0:=W) (gs:=[g6]) (n:=40) (K:=[(6,pt g6),(9,pt g9)]) (L:=[⟨g6,24,zc 0⟩]) rfl d2 (Kle.kn d3 Kle.a) hm0 ?_
  repeat (first|refine WO.does (zn (hs:=s9) (hb:=b9)) ?_|refine Ta ?_|refine Tm fun _=>?_|refine Tc ?_|exact Tz)
  intro a2 W2 f1 f2 f3 f4;have hK2:W2.heap[D]?=some (.deferred (some [])):=(f4.mod.block D hlD (by simp;omega)).trans hK;refine wp_ret ?_;have hdf:(dfA ({ target:=.collected D,args:=#[] }::a.defers) a2).defers=[{ target:=.collected D,args:=#[] }]:=by simp[dfA,f1,d1]
  show LeavesInM Fence.wide 3 Tryz.prog Tryz.f187 a2.tmps _ (dfA ({ target:=.collected D,args:=#[] }::a.defers) a2).defers .returning W2;rw[hdf];refine⟨by simp,.inl ⟨_,_,rfl,run_takeDeferred hK2,?_⟩⟩;have f6:=f4.ok ⟨g6,_,_⟩ (Hs.mem Hs.a);have hB:Below w.heap.size w W2:=⟨f4.mod.os.trans hI.mod.os,f4.mod.tape.trans hI.mod.tape,f4.mod.output.trans hI.mod.output,Nat.le_trans hI.mod.size f4.mod.size,fun k hk=>(f4.mod.block k (Nat.lt_of_lt_of_le hk hI.mod.size) (by simp;omega)).trans (hI.mod.block k hk Sm)⟩;have hB3:=hB.trans (belowK_b (w:=w) (Nat.le_refl _) W2 D _ (.deferred none) Om hK2 rfl rfl);have p6:=f6.keep (w':=W2.putObj D (.deferred none)) (World.putObj_heap_other (by show g6≠D;omega));generalize W2.putObj D (.deferred none)=W3 at *;have hm3:Me W3 [g6] _ W3:=⟨.refl _ _,fun e he=>(List.mem_singleton.1 he) ▸ p6,by simp,by simp⟩;have h:=aa9 (P:=Tryz.prog) (zW (P:=Tryz.prog) (p:=6) (t:=24) (K:=[(7,.int .i64 0),(6,pt g6)]) rfl Hs.here (vs:=zc (vB q x ys)) rfl rfl a2 W3 (Kle.kn f3 Kle.a) hm3) (zK (P:=Tryz.prog) (K:=[(7,.int .i64 0),(6,pt g6)]) (t:=7) rfl a2 W3 (Kle.kn f3 Kle.a) hm3);refine⟨.tuple #[zk (vB q x ys),.int .i64 0],?_,_,[],rfl,hB3,fx.nil _ _,rfl⟩;rw[yz,show Tryz.f187.results=#[.cell 6 24,.tmp 7] from rfl,Sem.run_bind,h];rfl
 case stop =>
  rintro D c pre W _ _ h _;exact h.elim
end
end Sx
end
section
open Go Go.RowKit Go.BigFrame
namespace Sx
attribute [local irreducible] DQ WC WO WX wd
end Sx
end
end Go.Proofs.YtiaibpcaloigkaaGreatDoor
