/- Part 26 of the proof. -/
import Derived.Test.YtiiefkchpicncaaGreatDoorB23
import Derived.Test.YtiiefkchpicncaaGreatDoorB25
import Derived.Laws.StructEq
import Derived.DeepKeys
set_option linter.unusedSimpArgs false
set_option linter.unusedVariables false
set_option maxHeartbeats 8000000
namespace Go.Proofs.YtiiefkchpicncaaGreatDoor
section
open Go Go.RowKit Go.BigFrame
namespace Sx
attribute [local irreducible] DQ WC WO WT WX wd
def ma (m:Nat) (s:List Nat) (Ps:List (List Nat)):Nat:=(beV (hOf s (Ps++[[0]]))*zd+beV (hOf s (Ps++[[1]])))%m
theorem ag2 (s:List Nat) (Ps:List (List Nat)):beV (hOf s Ps)<zd:=by
 have:=cK (qu s Ps);rw[vD] at this;exact Nat.lt_of_lt_of_eq this (by decide)
theorem bz (vs:List Value) (z:Value):over (mkz (vs.length+1) [z]) 0 vs=vs++[z]:=by
 rw[rO];unfold over;rw[List.take_zero,List.nil_append,Nat.zero_add,List.drop_replicate,show vs.length+1 - vs.length=1 by omega];rfl
theorem yb.one {vs:List Value} {Ps:List (List Nat)} {w:World} (h:yb vs Ps w):vs.all Value.oneCell'=true:=by
 rw[List.all_eq_true];intro v hv;obtain⟨i,hi,rfl⟩:=List.getElem_of_mem hv;have h1:=h.1;obtain⟨p,c,e,_⟩:=h.2 i _ _ (List.getElem?_eq_getElem hi) (List.getElem?_eq_getElem (show i<Ps.length by omega));rw[e];rfl
theorem re (m:Nat) (s:ByteArray) (vs:List Value) (Ps:List (List Nat)) (B O C:Nat) (hm:m<zd) (h0:0<m) (hP:∀ X∈Ps,∀ x∈X,x<256) (hb:(yV (ya s) Ps).length≤1099511627776) (hs:s.size≤274877906944) :
  Fn Tryz.prog 126 [zk m,.string s,.slice (some ⟨B,O,none⟩) vs.length C] (fun w=>Seg w B O vs∧yb vs Ps w) (Is (.tuple #[zk (ma m (ya s) Ps),.int .i64 0])):=by
 refine Fn.enter Tryz.func126 rfl rfl rfl ?_;intro w hw;obtain⟨hw1,hw2⟩:=hw;have hN:=hw2.1;have hNs:Ps.length*4≤(y6 Ps).length:=by
  clear hb hw2 hN hP
  induction Ps with
  | nil=>simp
  | cons X Ps ih=>simp only[y6,List.flatMap_cons,List.length_append,List.length_cons,zn] at ih ⊢;omega
 have hNb:vs.length<1099511627776:=by unfold yV at hb;rw[List.length_append] at hb;omega
 have hv1:=hw2.one;have hN1:IntKind.i64.wrap (((vs.length:Nat):Int)+1)=((vs.length+1:Nat):Int):=zo Om Om Om
 repeat (first|refine WO.does (ze rfl rfl hN1) ?_|refine Ta ?_|(refine Tm ?_;intro _)|(refine WO.makes (zR (l:=vs.length) (c:=vs.length+1) rfl rfl Om Om Om) ?_;intro gR)|refine WO.both (qo (st:=130) rfl rfl rfl (Rds.seg (n:=vs.length) hw1 (Nat.le_refl _) (by simp) (m:=vs.length) (xs:=vs) (by unfold cut;rw[Nat.sub_self,List.drop_zero,List.take_length])) (by rw[Nat.mul_one]) (m:=vs.length) (Nat.min_self _) (ys:=vs) (by rw[Nat.mul_one,List.take_length]) hv1 (by repeat (first|exact Rp.here|apply Rp.there)) (bz vs _) (by rw[zV];simp) (by decide)) ?_|refine Tc ?_|exact Tz)
 rename_i g3 g4 g6 g8;refine WC.ndp' (fun hnd=>?_);have h4:g4≠gR:=by simp at hnd;omega
 have h8:g8≠gR:=by simp at hnd;omega
 clear hnd;refine WC.mine (fun hmn=>?_);have hB:w.heap.size≤gR:=(hmn _ (List.mem_cons_of_mem _ (List.mem_cons_self ..))).resolve_right (by simp);clear hmn;have hF:=fun k (hk:k<256)=>agy s vs Ps gR g4 g8 w.heap.size k hP hk Om hs h4 h8 hB Om;have hF1:=hF 1 (by decide);have hF0:=hF 0 (by decide);have hW:=ag9 _ _ m (ag2 (ya s) (Ps++[[1]])) (ag2 (ya s) (Ps++[[0]])) hm h0;have hres:ma m (ya s) Ps=(beV (hOf (ya s) (Ps++[[0]]))*zd+beV (hOf (ya s) (Ps++[[1]])))%m:=rfl;rw[hres];clear hres hF;generalize (beV (hOf (ya s) (Ps++[[0]]))*zd+beV (hOf (ya s) (Ps++[[1]])))%m=X at *;generalize beV (hOf (ya s) (Ps++[[0]]))=x0 at *;generalize beV (hOf (ya s) (Ps++[[1]]))=x1 at *;refine WC.mainA [1,3,5,6,7,8,9] [(0,.func (.func 166) #[] #[pt g4,pt g8]),(2,.func (.func 166) #[] #[pt g4,pt g8]),(4,zk m)] (by decide) (fun A hA=>?_);refine WT.given [(3,pt g3),(6,pt g6),(9,.func (.func 166) #[] #[pt g4,pt g8])] [⟨g3,24,zc m⟩] (by kernel_rfl) (Tlv.a (Tlv.a (Tlv.a (Tlv.nil)))) (fun hc hT=>?_)
 suffices hS1002:∀ z3,A [9,8,7,6,5,3,1] [(21,zk x1),(23,zk x0),(25,.tuple #[zk X,.int .i64 0]),(26,zk X),(27,.int .i64 0),(7,.int .i64 0),(3,pt g3),(6,pt g6),(9,.func (.func 166) #[] #[pt g4,pt g8])] [⟨gR,105,vs++[z3]⟩,⟨g8,130,[.slice (some ⟨gR,0,none⟩) vs.length (vs.length+1)]⟩,⟨g6,24,zc X⟩,⟨g4,9,[.string s]⟩,⟨g3,24,zc m⟩] by
  have hS490:∀ z3,A [8,7,6,5,3,1] [(21,zk x1),(23,zk x0),(25,.tuple #[zk X,.int .i64 0]),(26,zk X),(27,.int .i64 0),(3,pt g3),(6,pt g6),(9,.func (.func 166) #[] #[pt g4,pt g8])] [⟨gR,105,vs++[z3]⟩,⟨g8,130,[.slice (some ⟨gR,0,none⟩) vs.length (vs.length+1)]⟩,⟨g6,24,zc X⟩,⟨g4,9,[.string s]⟩,⟨g3,24,zc m⟩]:=by
   intro z3;refine (hA _ _ _).2 (WT.step [9] (by decide) hc hT ⟨⟨_,rfl,?_⟩,trivial⟩)
   ·refine Tw ?_;exact WT.go [(7,.int .i64 0)] hA (hS1002 z3)
  have hS234:∀ z3,A [7,6,5,3,1] [(21,zk x1),(23,zk x0),(25,.tuple #[zk X,.int .i64 0]),(26,zk X),(27,.int .i64 0),(3,pt g3),(6,pt g6),(9,.func (.func 166) #[] #[pt g4,pt g8])] [⟨gR,105,vs++[z3]⟩,⟨g8,130,[.slice (some ⟨gR,0,none⟩) vs.length (vs.length+1)]⟩,⟨g6,24,zc 0⟩,⟨g4,9,[.string s]⟩,⟨g3,24,zc m⟩]:=by
   intro z3;refine (hA _ _ _).2 (WT.step [8] (by decide) hc hT ⟨⟨_,rfl,?_⟩,trivial⟩)
   ·refine Tw ?_;exact WT.go [] hA (hS490 z3)
  have hS106:∀ z3,A [6,5,3,1] [(21,zk x1),(23,zk x0),(25,.tuple #[zk X,.int .i64 0]),(26,zk X),(3,pt g3),(6,pt g6),(9,.func (.func 166) #[] #[pt g4,pt g8])] [⟨gR,105,vs++[z3]⟩,⟨g8,130,[.slice (some ⟨gR,0,none⟩) vs.length (vs.length+1)]⟩,⟨g6,24,zc 0⟩,⟨g4,9,[.string s]⟩,⟨g3,24,zc m⟩]:=by
   intro z3;refine (hA _ _ _).2 (WT.step [7] (by decide) hc hT ⟨⟨_,rfl,?_⟩,trivial⟩)
   ·refine Tw ?_;exact WT.go [(27,.int .i64 0)] hA (hS234 z3)
  have hS170:∀ z3,A [7,5,3,1] [(21,zk x1),(23,zk x0),(25,.tuple #[zk X,.int .i64 0]),(27,.int .i64 0),(3,pt g3),(6,pt g6),(9,.func (.func 166) #[] #[pt g4,pt g8])] [⟨gR,105,vs++[z3]⟩,⟨g8,130,[.slice (some ⟨gR,0,none⟩) vs.length (vs.length+1)]⟩,⟨g6,24,zc 0⟩,⟨g4,9,[.string s]⟩,⟨g3,24,zc m⟩]:=by
   intro z3;refine (hA _ _ _).2 (WT.step [6] (by decide) hc hT ⟨⟨_,rfl,?_⟩,trivial⟩)
   ·refine Tw ?_;exact WT.go [(26,zk X)] hA (hS234 z3)
  have hS42:∀ z3,A [5,3,1] [(21,zk x1),(23,zk x0),(25,.tuple #[zk X,.int .i64 0]),(3,pt g3),(6,pt g6),(9,.func (.func 166) #[] #[pt g4,pt g8])] [⟨gR,105,vs++[z3]⟩,⟨g8,130,[.slice (some ⟨gR,0,none⟩) vs.length (vs.length+1)]⟩,⟨g6,24,zc 0⟩,⟨g4,9,[.string s]⟩,⟨g3,24,zc m⟩]:=by
   intro z3;refine (hA _ _ _).2 (WT.step [6,7] (by decide) hc hT ⟨⟨_,rfl,?_⟩,⟨_,rfl,?_⟩,trivial⟩)
   ·refine Tw ?_;exact WT.go [(26,zk X)] hA (hS106 z3)
   ·refine Tw ?_;exact WT.go [(27,.int .i64 0)] hA (hS170 z3)
  have hS10:∀ z3,A [3,1] [(21,zk x1),(23,zk x0),(3,pt g3),(6,pt g6),(9,.func (.func 166) #[] #[pt g4,pt g8])] [⟨gR,105,vs++[z3]⟩,⟨g8,130,[.slice (some ⟨gR,0,none⟩) vs.length (vs.length+1)]⟩,⟨g6,24,zc 0⟩,⟨g4,9,[.string s]⟩,⟨g3,24,zc m⟩]:=by
   intro z3;refine (hA _ _ _).2 (WT.step [5] (by decide) hc hT ⟨⟨_,rfl,?_⟩,trivial⟩)
   ·refine WO.acall (hc:=hW) (k:=?_);exact WT.go [(25,.tuple #[zk X,.int .i64 0])] hA (hS42 z3)
  have hS2:∀ z1,A [1] [(21,zk x1),(3,pt g3),(6,pt g6),(9,.func (.func 166) #[] #[pt g4,pt g8])] [⟨gR,105,vs++[z1]⟩,⟨g8,130,[.slice (some ⟨gR,0,none⟩) vs.length (vs.length+1)]⟩,⟨g6,24,zc 0⟩,⟨g4,9,[.string s]⟩,⟨g3,24,zc m⟩]:=by
   intro z1;refine (hA _ _ _).2 (WT.step [3] (by decide) hc hT ⟨⟨_,rfl,?_⟩,trivial⟩)
   ·(refine WO.callI (fs:=[]) (ks:=[pt g4,pt g8]) hF0 rfl rfl rfl Pk.a ⟨_,rfl⟩ (fun w1 hm=>⟨Hs.sg hm.mr,Hs.sg hm.mr,hw2.partsB.mod hm.mod (by simp)⟩) (by decide) (fun cs' hC'=>?_) rfl rfl;obtain⟨z3,rfl⟩:=hC');exact WT.go [(23,zk x0)] hA (hS10 z3)
  have hS0:A [] [(3,pt g3),(6,pt g6),(9,.func (.func 166) #[] #[pt g4,pt g8])] [⟨gR,105,vs++[.slice none 0 0]⟩,⟨g8,130,[.slice (some ⟨gR,0,none⟩) vs.length (vs.length+1)]⟩,⟨g6,24,zc 0⟩,⟨g4,9,[.string s]⟩,⟨g3,24,zc m⟩]:=by
   refine (hA _ _ _).2 (WT.step [1] (by decide) hc hT ⟨⟨_,rfl,?_⟩,trivial⟩)
   ·(refine WO.callI (fs:=[]) (ks:=[pt g4,pt g8]) hF1 rfl rfl rfl Pk.a ⟨_,rfl⟩ (fun w1 hm=>⟨Hs.sg hm.mr,Hs.sg hm.mr,hw2.partsB.mod hm.mod (by simp)⟩) (by decide) (fun cs' hC'=>?_) rfl rfl;obtain⟨z1,rfl⟩:=hC');exact WT.go [(21,zk x1)] hA (hS2 z1)
  exact WT.less ((hA _ _ _).1 hS0) (by decide) Kle.a (by repeat (first|exact Lle.nil|exact Lle.same|refine Lle.c ?_))
 intro z3;refine (hA _ _ _).2 (WT.fin [1,3,5,6,7,8,9] 6 hc rfl (by kernel_rfl) ?_);clear hc hT hA
 repeat (first|refine Tw ?_|(refine Tm ?_;intro _)|exact Tz)
end Sx
end
section
open Go Go.RowKit Go.BigFrame
namespace Sx
attribute [local irreducible] DQ WC WO WX wd
abbrev ahe (p q g h:Nat) (s:ByteArray):Value:=.agg #[.int .u64 ((wd 0 p:Nat):Int),.int .u64 ((wd 1 p:Nat):Int),.int .u64 ((wd 2 p:Nat):Int),.int .u64 ((wd 3 p:Nat):Int),.int .u64 ((wd 0 q:Nat):Int),.int .u64 ((wd 1 q:Nat):Int),.int .u64 ((wd 2 q:Nat):Int),.int .u64 ((wd 3 q:Nat):Int),.int .u64 ((wd 0 g:Nat):Int),.int .u64 ((wd 1 g:Nat):Int),.int .u64 ((wd 2 g:Nat):Int),.int .u64 ((wd 3 g:Nat):Int),.int .u64 ((wd 0 h:Nat):Int),.int .u64 ((wd 1 h:Nat):Int),.int .u64 ((wd 2 h:Nat):Int),.int .u64 ((wd 3 h:Nat):Int),.string s]
theorem ahc (b:Bool):decide (okE b=0)=b:=by cases b<;>rfl
section
variable (p q g h:Nat) (s:ByteArray)
theorem sQ (a:Nat) (ha:a<zd) (hq:q<zd):Fn Tryz.prog 121 [ahe p q g h s,zk a] Tr (Is (.bool (zQ a a q))):=by
 have hO:=pg p q g h a a ha ha hq;generalize zQ a a q=b at *;refine Fn.enter Tryz.func121 rfl rfl rfl ?_;intro w hw
 repeat (first|refine Td ?_|(refine Tm ?_;intro _)|refine WO.acall (hc:=hO) (k:=?_)|refine Tc ?_|exact Tz)
 cases b<;>exact WX.aret1 (hp:=rfl)
theorem fc (a n:Nat) (ha:a<zd) (hn:n<zd) (hp:p<zd):Fn Tryz.prog 122 [ahe p q g h s,zk a,zk n] Tr (Is (zk (okV (yv p a) (a ^ n%p)))):=by
 have hO:=yZ p q g h a n ha hn hp;refine Fn.enter Tryz.func122 rfl rfl rfl ?_;intro w hw
 repeat (first|refine Td ?_|(refine Tm ?_;intro _)|refine WO.acall (hc:=hO) (k:=?_)|refine Tc ?_|exact Tz)
theorem Seg.left {w:World} {b o:Nat} {xs ys:List Value} (h:Seg w b o (xs++ys)):Seg w b o xs:=fun i v hv=>h i v (by rw[List.getElem?_append_left (by rcases Nat.lt_or_ge i xs.length with h|h;exact h;rw[List.getElem?_eq_none h] at hv;cases hv)];exact hv)
theorem Seg.right {w:World} {b o:Nat} {xs ys:List Value} (h:Seg w b o (xs++ys)):Seg w b (o+xs.length) ys:=fun i v hv=>by
 have:=h (xs.length+i) v (by rw[List.getElem?_append_right Om,Nat.add_sub_cancel_left];exact hv);rwa [← Nat.add_assoc] at this
theorem adm {w:World} {b:Nat} {α:Type} {xa xb:α} (f:α→Nat) (h:Seg w b 0 (zc (f xa)++zc (f xb))):∀ (k:Nat) (x:α),[xa,xb][k]?=some x→Seg w b (0+k*4) (zc (f x))
 | 0,x,hx=>by cases hx;exact h.left
 | 1,x,hx=>by cases hx;exact h.right
 | k+2,x,hx=>by simp at hx
theorem bR (a n b m:Nat) (ha:a<zd) (hn:n<zd) (hb:b<zd) (hm:m<zd) (hp:p<zd) (hma:yv p a=true) (hmb:yv p b=true):Fn Tryz.prog 141 [ahe p q g h s,zk a,zk n,zk b,zk m] Tr (Is (zk ((a ^ n%p)*(b ^ m%p)%p))):=by
 have h1:=(yP hma).1;have hO:=fun gA gN=>lm p q g h hp h1 [⟨(a,n),ha,hn,hma⟩,⟨(b,m),hb,hm,hmb⟩] gA 0 gN 0 2 2 (by simp);have hR:uo p [⟨(a,n),ha,hn,hma⟩,⟨(b,m),hb,hm,hmb⟩]=(a ^ n%p)*(b ^ m%p)%p:=by
  simp only[uo,List.foldl_cons,List.foldl_nil,Nat.one_mul,Nat.mod_mod]
 rw[hR] at hO;clear hR;generalize (a ^ n%p)*(b ^ m%p)%p=R at *;refine Fn.enter Tryz.func141 rfl rfl rfl ?_;intro w hw
 repeat (first|refine Td ?_|(refine Tm ?_;intro _)|(refine WO.makes (zh (cs:=zc a++zc b) rfl (by decide) rfl) ?_;intro _)|(refine WO.makes (zh (cs:=zc n++zc m) rfl (by decide) rfl) ?_;intro _)|refine Tc ?_|exact Tz)
 rename_i gA gN;refine WO.acallR (hc:=hO gA gN) (hR:=fun w1 hm=>?_) (k:=?_)
 ·exact⟨(hm.ok ⟨gA,24,zc a++zc b⟩ (Hs.mem Hs.a)).lt,(hm.ok ⟨gN,24,zc n++zc m⟩ (Hs.mem Hs.a)).lt,adm (fun x:PwT p=>x.1.1) (Hs.sg hm),adm (fun x:PwT p=>x.1.2) (Hs.sg hm)⟩
 repeat (first|refine Td ?_|(refine Tm ?_;intro _)|refine Tc ?_|exact Tz)
theorem aad (x0 x1 x2 x3 x4 x5 b o c:Nat) (hq:q<zd) (h0:0<q) (hs:s.size≤274877906944) :
  Fn Tryz.prog 123 [ahe p q g h s,.slice (some ⟨b,o,none⟩) 6 c] (fun w=>Seg w b o (zc x0++(zc x1++(zc x2++(zc x3++(zc x4++zc x5))))))
   (Is (zk (ma q (ya s) [be 32 x0,be 32 x1,be 32 x2,be 32 x3,be 32 x4,be 32 x5]))):=by
 have hP:∀ x,Fn Tryz.prog 49 [.slice none 0 0,zk x] (fun w=>Rd (.slice none 0 0) 0 [] w) (acG 5 32 (byC (be 32 x))):=fun x=>by
  have h:=vt [] x 0 none (by simp);rw[List.nil_append,zn] at h;exact h
 have hb:(yV (ya s) [be 32 x0,be 32 x1,be 32 x2,be 32 x3,be 32 x4,be 32 x5]).length≤1099511627776:=by
  simp only[yV,tj,y6,List.flatMap_cons,List.flatMap_nil,List.length_append,zn,yI,List.length_nil];omega
 have hl:∀ X∈[be 32 x0,be 32 x1,be 32 x2,be 32 x3,be 32 x4,be 32 x5],∀ x∈X,x<256:=by
  intro X hX;simp only[List.mem_cons,List.not_mem_nil,or_false] at hX
  rcases hX with rfl|rfl|rfl|rfl|rfl|rfl<;>exact uK
 have hN:=fun p0 p1 p2 p3 p4 p5 gR=>re q s [.slice (some ⟨p0,0,none⟩) 32 32,.slice (some ⟨p1,0,none⟩) 32 32,.slice (some ⟨p2,0,none⟩) 32 32,.slice (some ⟨p3,0,none⟩) 32 32,.slice (some ⟨p4,0,none⟩) 32 32,.slice (some ⟨p5,0,none⟩) 32 32] [be 32 x0,be 32 x1,be 32 x2,be 32 x3,be 32 x4,be 32 x5] gR 0 6 hq h0 hl hb hs;generalize ma q (ya s) [be 32 x0,be 32 x1,be 32 x2,be 32 x3,be 32 x4,be 32 x5]=R at *;refine Fn.enter Tryz.func123 rfl rfl rfl ?_;intro w hw;simp only[zc,List.cons_append,List.nil_append] at hw
 repeat (first|refine WX.rounds ?_|refine WC.loopU 6 ?_|refine Td ?_|(refine Tm ?_;intro _)|(refine WO.makes (zR (l:=6) (c:=6) rfl rfl Om Om Om) ?_;intro _)|(refine WO.acallN (hc:=hP _) (hR:=fun _ _=>Rd.nil) (k:=?_);intro _)|refine Tc ?_|exact Tz)
 rename_i g2 g4 gR a0 p0 a1 p1 a2 p2 a3 p3 a4 p4 a5 p5;refine WO.acallR (hc:=hN p0 p1 p2 p3 p4 p5 gR) (hR:=fun w1 hm=>?_) (k:=?_)
 ·exact⟨Hs.sg hm,yb.cons (RdP.own0 (c:=32) (g:=p0) (X:=be 32 x0) hm Hs.a (by rw[zn];decide) (by decide)) (yb.cons (RdP.own0 (c:=32) (g:=p1) (X:=be 32 x1) hm Hs.a (by rw[zn];decide) (by decide)) (yb.cons (RdP.own0 (c:=32) (g:=p2) (X:=be 32 x2) hm Hs.a (by rw[zn];decide) (by decide)) (yb.cons (RdP.own0 (c:=32) (g:=p3) (X:=be 32 x3) hm Hs.a (by rw[zn];decide) (by decide)) (yb.cons (RdP.own0 (c:=32) (g:=p4) (X:=be 32 x4) hm Hs.a (by rw[zn];decide) (by decide)) (yb.cons (RdP.own0 (c:=32) (g:=p5) (X:=be 32 x5) hm Hs.a (by rw[zn];decide) (by decide)) yb.nil)))))⟩
 repeat (first|refine Td ?_|(refine Tm ?_;intro _)|refine Tc ?_|exact Tz)
end
section
open Kp
variable {P:Program} {w0:World} {gs:List Nat} {n:Nat} {fl:List Nat} {Q:Exit→Act→World→Prop} {ops:List Oper} {L0:List Ent}
variable {tail rest:List Oper} {i:Nat} {C:zW→Prop} {K:zW→List (Nat × Value)} {N:zW→List (Nat × Ent)}
variable {d:Nat} {op:Op} {ty:TypeId} {pos:String} {after:Array Edge} {gd:Option (Nat × Bool)}
theorem Fn.ex {f:FuncId} {ar:List Value} {R:World→Prop} {v:Value} (h:Fn P f ar R (Is v)):Fn P f ar R (Ex (fun _=>v) (fun _=>[]) (fun _=>True)) :=
 fun w hw=>(h w hw).mono (fun e w' ⟨v',N,h1,h2,_,h4⟩=>⟨v',[],h1,h2,eO.nil _ _,fun _=>0,h4,rfl,trivial⟩)
theorem DQ.acallV {f:FuncId} [Cal P f] {x:Operand} {xs:Array Operand} {ats:Array TypeId} {fs ar cs ar' : List Value} {v:Value} (hc:Fn P f ar' Tr (Is v)) (hx:∀ s,ev (K s) x=some (.func (.func f) fs.toArray cs.toArray):=by (intro s;rfl)) (ha:∀ s,evs (K s) xs.toList=some ar:=by (intro s;rfl)) (hh:fs++ar++cs=ar':=by rfl)
  (k:DQ P w0 gs n fl Q ops L0 tail (i+1) rest (fun s=>C s∧True) (fun s=>(d,v)::K s) N) (hfl:fl.contains i=false:=by rfl) (hw:∀ s,wk ops (K s) gd=some true:=by intro _;rfl) (hd:Nat.blt d n=true:=by rfl) :
  DQ P w0 gs n fl Q ops L0 tail i (⟨some d,.call { callee:=.value x,args:=xs,argTypes:=ats },ty,pos,after,gd⟩::rest) C K N :=
 DQ.callsE (fs:=fun _=>fs) (cs:=fun _=>cs) (R:=fun _=>Tr) (vf:=fun _ _=>v) (Nf:=fun _ _=>[]) (S:=fun _ _=>True) (fun _=>[]) (fun _=>.nil) (fun _=>⟨fun _=>0,trivial⟩) (fun _ _=>hc.ex) hx ha (fun _=>hh) (fun _ _ _ _=>trivial) Dp.const Dp.const Dp.const k hfl hw hd
end
def prC (p q:Nat) (s:List Nat) (x base y draw:Nat):Nat:=ma q s [be 32 base,be 32 (base ^ x%p),be 32 y,be 32 (y ^ x%p),be 32 (base ^ draw%p),be 32 (y ^ draw%p)]
def prB (p q x base y draw:Nat):Bool:=yv p base && yv p y && zQ x x q && zQ draw draw q && decide (draw≠0)
abbrev prV (b:Bool) (c s:Nat):Value:=.tuple #[.agg #[.int .u64 ((wd 0 (okV b c):Nat):Int),.int .u64 ((wd 1 (okV b c):Nat):Int),.int .u64 ((wd 2 (okV b c):Nat):Int),.int .u64 ((wd 3 (okV b c):Nat):Int),.int .u64 ((wd 0 (okV b s):Nat):Int),.int .u64 ((wd 1 (okV b s):Nat):Int),.int .u64 ((wd 2 (okV b s):Nat):Int),.int .u64 ((wd 3 (okV b s):Nat):Int)],.int .i64 (okE b)]
theorem vx {q:Nat} (h:0<q) (s:List Nat) (Ps:List (List Nat)):ma q s Ps<q:=Nat.mod_lt _ h
theorem acQ (p q g h:Nat) (s:ByteArray) (x base y draw c S:Nat) (hp:p<zd) (hq:q<zd) (hx:x<zd) (hb:base<zd) (hy:y<zd) (hd:draw<zd) (hB:prB p q x base y draw=false) :
  Fn Tryz.prog 63 [y9 p q g h,.string s,zk x,zk base,zk y,zk draw] Tr (Is (prV false c S)):=by
 have h1:=adf p q g h base y hb hy hp;have h2:=sQ p q g h s x hx hq;have h3:=sQ p q g h s draw hd hq;unfold prB at hB;cases e1:(yv p base && yv p y) with
 | false =>
  rw[e1] at h1;clear hB e1;refine Fn.enter Tryz.func63 rfl rfl rfl ?_;intro w hw
  repeat (first|refine Td ?_|(refine Tm ?_;intro _)|refine WO.acall (hc:=h1) (k:=?_)|refine WO.acall (hc:=h2) (k:=?_)|refine WO.acall (hc:=h3) (k:=?_)|refine Tc ?_|exact Tz)
  done
 | true =>
 rw[e1] at h1 hB;clear e1;cases e2:zQ x x q with
 | false =>
  rw[e2] at h2;clear hB e2;refine Fn.enter Tryz.func63 rfl rfl rfl ?_;intro w hw
  repeat (first|refine Td ?_|(refine Tm ?_;intro _)|refine WO.acall (hc:=h1) (k:=?_)|refine WO.acall (hc:=h2) (k:=?_)|refine WO.acall (hc:=h3) (k:=?_)|refine Tc ?_|exact Tz)
  done
 | true =>
 rw[e2] at h2 hB;clear e2;cases e3:zQ draw draw q with
 | false =>
  rw[e3] at h3;clear hB e3;refine Fn.enter Tryz.func63 rfl rfl rfl ?_;intro w hw
  repeat (first|refine Td ?_|(refine Tm ?_;intro _)|refine WO.acall (hc:=h1) (k:=?_)|refine WO.acall (hc:=h2) (k:=?_)|refine WO.acall (hc:=h3) (k:=?_)|refine Tc ?_|exact Tz)
  done
 | true =>
 rw[e3] at h3 hB;clear e3;have e4:draw=0:=by simpa using hB
 have e4' : decide (draw=0)=true:=by simpa using e4
 refine Fn.enter Tryz.func63 rfl rfl rfl ?_;intro w hw
 repeat (first|refine Td ?_|(refine Tm ?_;intro _)|refine WO.acall (hc:=h1) (k:=?_)|refine WO.acall (hc:=h2) (k:=?_)|refine WO.acall (hc:=h3) (k:=?_)|refine WO.does yK ?_|refine Tc ?_|exact Tz)
 done
theorem acs (p q g h:Nat) (s:ByteArray) (x base y draw c:Nat) (hp:p<zd) (hq:q<zd) (hx:x<zd) (hb:base<zd) (hy:y<zd) (hd:draw<zd) (hs:s.size≤274877906944) (hB:prB p q x base y draw=true) (hc:prC p q (ya s) x base y draw=c) :
  Fn Tryz.prog 63 [y9 p q g h,.string s,zk x,zk base,zk y,zk draw] Tr (Is (prV true c ((draw+x*c%q)%q))):=by
 have h1:=adf p q g h base y hb hy hp;have h2:=sQ p q g h s x hx hq;have h3:=sQ p q g h s draw hd hq;unfold prB at hB;simp only[Bool.and_eq_true,decide_eq_true_eq] at hB;obtain⟨⟨⟨⟨hgb,hgy⟩,e2⟩,e3⟩,e4⟩:=hB;rw[hgb,hgy] at h1;rw[e2] at h2;rw[e3] at h3;have e4' : decide (draw=0)=false:=by simpa using e4
 have hq1:=(zN e2).1;have p1:=fc p q g h s base x hb hx hp;have p2:=fc p q g h s y x hy hx hp;have p3:=fc p q g h s base draw hb hd hp;have p4:=fc p q g h s y draw hy hd hp;rw[hgb] at p1 p3;rw[hgy] at p2 p4;have hC:=fun j=>aad p q g h s base (base ^ x%p) y (y ^ x%p) (base ^ draw%p) (y ^ draw%p) j 0 6 hq Om hs;have hcl:prC p q (ya s) x base y draw<q:=vx Om _ _;rw[show ma q (ya s) [be 32 base,be 32 (base ^ x%p),be 32 y,be 32 (y ^ x%p),be 32 (base ^ draw%p),be 32 (y ^ draw%p)]=prC p q (ya s) x base y draw from rfl] at hC;rw[hc] at hC hcl;clear hc;have hM:=j1 p q g h x c hx (Nat.lt_trans hcl hq) hq;have hxq:=(zN e2).2.1;have hdq:=(zN e3).2.1;rw[show zQ x c q=true by simp[zQ,hq1,hxq,hcl]] at hM;have hml:x*c%q<q:=Nat.mod_lt _ Om;have hA:=pg p q g h draw (x*c%q) hd (Nat.lt_trans hml hq) hq;rw[show zQ draw (x*c%q) q=true by simp[zQ,hq1,hdq,hml]] at hA;generalize (draw+x*c%q)%q=S at *;generalize x*c%q=M at *;generalize base ^ x%p=P1 at *;generalize y ^ x%p=P2 at *;generalize base ^ draw%p=P3 at *;generalize y ^ draw%p=P4 at *;refine Fn.enter Tryz.func63 rfl rfl rfl ?_;intro w hw
 repeat (first|refine Td ?_|(refine Tm ?_;intro _)|refine WO.acall (hc:=h1) (k:=?_)|refine WO.acall (hc:=h2) (k:=?_)|refine WO.acall (hc:=h3) (k:=?_)|refine WO.does yK ?_|refine Tc ?_|exact Tz)
 refine WC.adraw 22 (k:=?_)
 repeat (first|refine Da ?_|refine DQ.acallV (hc:=p1) (k:=?_)|refine DQ.acallV (hc:=p2) (k:=?_)|refine DQ.acallV (hc:=p3) (k:=?_)|refine DQ.acallV (hc:=p4) (k:=?_)|refine DQ.makes (fun s _=>zh (cs:=zc base++(zc P1++(zc y++(zc P2++(zc P3++zc P4))))) rfl (by decide) rfl) Dp.const Dp.const ?_|refine DQ.acallB 19 (fun s=>⟨s 19 0,24,zc base++(zc P1++(zc y++(zc P2++(zc P3++zc P4))))⟩) (fun s=>hC (s 19 0)) (fun s w hm=>Hs.seg Hs.here hm) ?_|refine Dc ?_)
 refine DQ.anil (k:=?_);intro sx _;generalize sx 21 0=gK;generalize sx 19 0=gR
 repeat (first|refine Td ?_|(refine Tm ?_;intro _)|refine WO.acall (hc:=hM) (k:=?_)|refine WO.acall (hc:=hA) (k:=?_)|refine Tc ?_|exact Tz)
 done
theorem aau (p q g h:Nat) (s:ByteArray) (x base y draw:Nat) (hp:p<zd) (hq:q<zd) (hx:x<zd) (hb:base<zd) (hy:y<zd) (hd:draw<zd) (hs:s.size≤274877906944) :
  Fn Tryz.prog 63 [y9 p q g h,.string s,zk x,zk base,zk y,zk draw] Tr (Is (prV (prB p q x base y draw) (prC p q (ya s) x base y draw) ((draw+x*prC p q (ya s) x base y draw%q)%q))):=by
 generalize hc:prC p q (ya s) x base y draw=c;cases hB:prB p q x base y draw with
 | false=>exact acQ p q g h s x base y draw c _ hp hq hx hb hy hd hB
 | true=>exact acs p q g h s x base y draw c hp hq hx hb hy hd hs hB hc
def vO (q c:Nat):Nat:=(0+q - c)%q
def ckC (p q:Nat) (s:List Nat) (base a y b c S:Nat):Nat:=ma q s [be 32 base,be 32 a,be 32 y,be 32 b,be 32 (base ^ S%p*(a ^ vO q c%p)%p),be 32 (y ^ S%p*(b ^ vO q c%p)%p)]
def ckB (p q:Nat) (s:List Nat) (base a y b c S:Nat):Bool:=gIn p q base && gIn p q a && gIn p q y && gIn p q b && zQ c c q && zQ S S q && decide (ckC p q s base a y b c S=c)
abbrev pfV (c s:Nat):Value:=.agg #[.int .u64 ((wd 0 c:Nat):Int),.int .u64 ((wd 1 c:Nat):Int),.int .u64 ((wd 2 c:Nat):Int),.int .u64 ((wd 3 c:Nat):Int),.int .u64 ((wd 0 s:Nat):Int),.int .u64 ((wd 1 s:Nat):Int),.int .u64 ((wd 2 s:Nat):Int),.int .u64 ((wd 3 s:Nat):Int)]
theorem yC {p q a:Nat} (h:gIn p q a=true):yv p a=true:=by
 unfold gIn at h;simp at h;exact h.1
section
variable {P:Program} {w0:World} {gs:List Nat} {K:List (Nat × Value)} {L:List Ent}
theorem zA {t len elem size i n ty:Nat} {k:IntKind} {x y:Operand} {cs vs:List Value} [ArT P t len elem size] [AgT P elem n] (hx:ev K x=some (.agg cs.toArray)) (hy:ev K y=some (.int k (i:Int))) (hi:i<len) (hc:cut cs (i*size) n=vs) (hsn:size=n:=by rfl) :
  Does P w0 gs K L (.index t x y) ty (.agg vs.toArray):=by
 intro a w hk _ o ho _;subst hc;subst hsn;have hu:∀ w,(underlying t).run P w=.ok (.array len elem) w:=fun w=>by simp[underlying,ArT.under (P:=P) (t:=t)]
 simp only[execOp,ho,hk.eval hx,hk.eval hy,Instr.index,asIntOf,Sem.run_bind,Sem.run_pure,Result.andThen_ok,hu];rw[if_pos ⟨by omega,by omega⟩];simp only[Sem.run_bind,ArT.size (P:=P) (t:=t),Result.andThen_ok,Sem.run_pure,Int.toNat_natCast,Go.part,AgT.agg (P:=P) (t:=elem) w,if_true,AgT.size (P:=P) (t:=elem) w];simp[cut,List.extract_eq_take_drop]
end
section
variable (p q g h:Nat) (s:ByteArray)
theorem acw (base a y b c S:Nat) (hp:p<zd) (hq:q<zd) (hbs:base<zd) (ha:a<zd) (hy:y<zd) (hb:b<zd) (hc:c<zd) (hS:S<zd)
  (hB:(gIn p q base && gIn p q a && gIn p q y && gIn p q b && zQ c c q && zQ S S q)=false) :
  Fn Tryz.prog 83 [y9 p q g h,.string s,zk base,zk a,zk y,zk b,pfV c S] Tr (Is (.bool false)):=by
 have h1:=tK p q g h base hbs hp hq;have h2:=tK p q g h a ha hp hq;have h3:=tK p q g h y hy hp hq;have h4:=tK p q g h b hb hp hq;have h5:=sQ p q g h s c hc hq;have h6:=sQ p q g h s S hS hq;cases e1:gIn p q base with
 | false =>
  rw[e1] at h1;clear hB h2 h3 h4 h5 h6;refine Fn.enter Tryz.func83 rfl rfl rfl ?_;intro w hw
  repeat (first|refine WC.loopU 4 ?_|refine Ta ?_|(refine Tm ?_;intro _)|refine WO.does (zA (len:=4) (i:=0) rfl rfl (by decide) rfl) ?_|refine WO.acall (hc:=h1) (k:=?_)|refine Tc ?_|exact Tz)
  done
 | true =>
 rw[e1] at h1 hB;cases e2:gIn p q a with
 | false =>
  rw[e2] at h2;clear hB h3 h4 h5 h6;refine Fn.enter Tryz.func83 rfl rfl rfl ?_;intro w hw
  repeat (first|refine WC.loopU 4 ?_|refine Ta ?_|(refine Tm ?_;intro _)|refine WO.does (zA (len:=4) (i:=0) rfl rfl (by decide) rfl) ?_|refine WO.acall (hc:=h1) (k:=?_)|refine Tc ?_|exact Tz)
  repeat (first|refine Ta ?_|(refine Tm ?_;intro _)|refine WO.does (zA (len:=4) (i:=1) rfl rfl (by decide) rfl) ?_|refine WO.acall (hc:=h2) (k:=?_)|refine Tc ?_|exact Tz)
  done
 | true =>
 rw[e2] at h2 hB;cases e3:gIn p q y with
 | false =>
  rw[e3] at h3;clear hB h4 h5 h6;refine Fn.enter Tryz.func83 rfl rfl rfl ?_;intro w hw
  repeat (first|refine WC.loopU 4 ?_|refine Ta ?_|(refine Tm ?_;intro _)|refine WO.does (zA (len:=4) (i:=0) rfl rfl (by decide) rfl) ?_|refine WO.acall (hc:=h1) (k:=?_)|refine Tc ?_|exact Tz)
  repeat (first|refine Ta ?_|(refine Tm ?_;intro _)|refine WO.does (zA (len:=4) (i:=1) rfl rfl (by decide) rfl) ?_|refine WO.acall (hc:=h2) (k:=?_)|refine Tc ?_|exact Tz)
  repeat (first|refine Ta ?_|(refine Tm ?_;intro _)|refine WO.does (zA (len:=4) (i:=2) rfl rfl (by decide) rfl) ?_|refine WO.acall (hc:=h3) (k:=?_)|refine Tc ?_|exact Tz)
  done
 | true =>
 rw[e3] at h3 hB;cases e4:gIn p q b with
 | false =>
  rw[e4] at h4;clear hB h5 h6;refine Fn.enter Tryz.func83 rfl rfl rfl ?_;intro w hw
  repeat (first|refine WC.loopU 4 ?_|refine Ta ?_|(refine Tm ?_;intro _)|refine WO.does (zA (len:=4) (i:=0) rfl rfl (by decide) rfl) ?_|refine WO.acall (hc:=h1) (k:=?_)|refine Tc ?_|exact Tz)
  repeat (first|refine Ta ?_|(refine Tm ?_;intro _)|refine WO.does (zA (len:=4) (i:=1) rfl rfl (by decide) rfl) ?_|refine WO.acall (hc:=h2) (k:=?_)|refine Tc ?_|exact Tz)
  repeat (first|refine Ta ?_|(refine Tm ?_;intro _)|refine WO.does (zA (len:=4) (i:=2) rfl rfl (by decide) rfl) ?_|refine WO.acall (hc:=h3) (k:=?_)|refine Tc ?_|exact Tz)
  repeat (first|refine Ta ?_|(refine Tm ?_;intro _)|refine WO.does (zA (len:=4) (i:=3) rfl rfl (by decide) rfl) ?_|refine WO.acall (hc:=h4) (k:=?_)|refine Tc ?_|exact Tz)
  done
 | true =>
 rw[e4] at h4 hB;cases e5:zQ c c q with
 | false =>
  rw[e5] at h5;clear hB h6;refine Fn.enter Tryz.func83 rfl rfl rfl ?_;intro w hw
  repeat (first|refine WC.loopU 4 ?_|refine Ta ?_|(refine Tm ?_;intro _)|refine WO.does (zA (len:=4) (i:=0) rfl rfl (by decide) rfl) ?_|refine WO.acall (hc:=h1) (k:=?_)|refine Tc ?_|exact Tz)
  repeat (first|refine Ta ?_|(refine Tm ?_;intro _)|refine WO.does (zA (len:=4) (i:=1) rfl rfl (by decide) rfl) ?_|refine WO.acall (hc:=h2) (k:=?_)|refine Tc ?_|exact Tz)
  repeat (first|refine Ta ?_|(refine Tm ?_;intro _)|refine WO.does (zA (len:=4) (i:=2) rfl rfl (by decide) rfl) ?_|refine WO.acall (hc:=h3) (k:=?_)|refine Tc ?_|exact Tz)
  repeat (first|refine Ta ?_|(refine Tm ?_;intro _)|refine WO.does (zA (len:=4) (i:=3) rfl rfl (by decide) rfl) ?_|refine WO.acall (hc:=h4) (k:=?_)|refine Tc ?_|exact Tz)
  repeat (first|refine Ta ?_|(refine Tm ?_;intro _)|refine WO.acall (hc:=h5) (k:=?_)|refine Tc ?_|exact Tz)
  done
 | true =>
 rw[e5] at h5 hB;have e6:zQ S S q=false:=by simpa using hB
 rw[e6] at h6;clear hB;refine Fn.enter Tryz.func83 rfl rfl rfl ?_;intro w hw
 repeat (first|refine WC.loopU 4 ?_|refine Ta ?_|(refine Tm ?_;intro _)|refine WO.does (zA (len:=4) (i:=0) rfl rfl (by decide) rfl) ?_|refine WO.acall (hc:=h1) (k:=?_)|refine Tc ?_|exact Tz)
 repeat (first|refine Ta ?_|(refine Tm ?_;intro _)|refine WO.does (zA (len:=4) (i:=1) rfl rfl (by decide) rfl) ?_|refine WO.acall (hc:=h2) (k:=?_)|refine Tc ?_|exact Tz)
 repeat (first|refine Ta ?_|(refine Tm ?_;intro _)|refine WO.does (zA (len:=4) (i:=2) rfl rfl (by decide) rfl) ?_|refine WO.acall (hc:=h3) (k:=?_)|refine Tc ?_|exact Tz)
 repeat (first|refine Ta ?_|(refine Tm ?_;intro _)|refine WO.does (zA (len:=4) (i:=3) rfl rfl (by decide) rfl) ?_|refine WO.acall (hc:=h4) (k:=?_)|refine Tc ?_|exact Tz)
 repeat (first|refine Ta ?_|(refine Tm ?_;intro _)|refine WO.acall (hc:=h5) (k:=?_)|refine WO.acall (hc:=h6) (k:=?_)|refine Tc ?_|exact Tz)
 done
end
section
variable (p q g h:Nat) (s:ByteArray)
theorem acR (base a y b c S:Nat) (hp:p<zd) (hq:q<zd) (hbs:base<zd) (ha:a<zd) (hy:y<zd) (hb:b<zd) (hc:c<zd) (hS:S<zd) (hs:s.size≤68719476736)
  (hB:(gIn p q base && gIn p q a && gIn p q y && gIn p q b && zQ c c q && zQ S S q)=true) :
  Fn Tryz.prog 83 [y9 p q g h,.string s,zk base,zk a,zk y,zk b,pfV c S] Tr (Is (.bool (decide (ckC p q (ya s) base a y b c S=c)))):=by
 have h1:=tK p q g h base hbs hp hq;have h2:=tK p q g h a ha hp hq;have h3:=tK p q g h y hy hp hq;have h4:=tK p q g h b hb hp hq;have h5:=sQ p q g h s c hc hq;have h6:=sQ p q g h s S hS hq;simp only[Bool.and_eq_true] at hB;obtain⟨⟨⟨⟨⟨e1,e2⟩,e3⟩,e4⟩,e5⟩,e6⟩:=hB;rw[e1] at h1;rw[e2] at h2;rw[e3] at h3;rw[e4] at h4;rw[e5] at h5;rw[e6] at h6;obtain⟨hq1,hcq,_⟩:=zN e5;have hbk:vO q c<q:=Nat.mod_lt _ Om;have hU:=aJ p q g h 0 c zF hc hq;rw[show zQ 0 c q=true by simp[zQ,hq1,hcq];omega,show (0+q - c)%q=vO q c from rfl] at hU;have m1:=bR p q g h s base S a (vO q c) hbs hS ha Om hp (yC e1) (yC e2);have m2:=bR p q g h s y S b (vO q c) hy hS hb Om hp (yC e3) (yC e4);have hC:=fun j=>aad p q g h s base a y b (base ^ S%p*(a ^ vO q c%p)%p) (y ^ S%p*(b ^ vO q c%p)%p) j 0 6 hq Om Om;have hcl:ckC p q (ya s) base a y b c S<zd:=Nat.lt_trans (vx Om _ _) hq;rw[show ma q (ya s) [be 32 base,be 32 a,be 32 y,be 32 b,be 32 (base ^ S%p*(a ^ vO q c%p)%p),be 32 (y ^ S%p*(b ^ vO q c%p)%p)]=ckC p q (ya s) base a y b c S from rfl] at hC;generalize ckC p q (ya s) base a y b c S=R at *;generalize base ^ S%p*(a ^ vO q c%p)%p=P1 at *;generalize y ^ S%p*(b ^ vO q c%p)%p=P2 at *;generalize vO q c=B at *;clear e1 e2 e3 e4 e5 e6;refine Fn.enter Tryz.func83 rfl rfl rfl ?_;intro w hw
 repeat (first|refine WC.loopU 4 ?_|refine Ta ?_|(refine Tm ?_;intro _)|refine WO.does (zA (len:=4) (i:=0) rfl rfl (by decide) rfl) ?_|refine WO.acall (hc:=h1) (k:=?_)|refine Tc ?_|exact Tz)
 repeat (first|refine Ta ?_|(refine Tm ?_;intro _)|refine WO.does (zA (len:=4) (i:=1) rfl rfl (by decide) rfl) ?_|refine WO.acall (hc:=h2) (k:=?_)|refine Tc ?_|exact Tz)
 repeat (first|refine Ta ?_|(refine Tm ?_;intro _)|refine WO.does (zA (len:=4) (i:=2) rfl rfl (by decide) rfl) ?_|refine WO.acall (hc:=h3) (k:=?_)|refine Tc ?_|exact Tz)
 repeat (first|refine Ta ?_|(refine Tm ?_;intro _)|refine WO.does (zA (len:=4) (i:=3) rfl rfl (by decide) rfl) ?_|refine WO.acall (hc:=h4) (k:=?_)|refine Tc ?_|exact Tz)
 repeat (first|refine Ta ?_|(refine Tm ?_;intro _)|refine WO.acall (hc:=h5) (k:=?_)|refine WO.acall (hc:=h6) (k:=?_)|refine WO.acall (hc:=hU) (k:=?_)|refine Tc ?_|exact Tz)
 refine WC.adraw 25 (k:=?_)
 repeat (first|refine Da ?_|refine DQ.acall (hc:=m1) (k:=?_)|refine DQ.acall (hc:=m2) (k:=?_)|refine DQ.makes (fun s _=>zh (cs:=zc base++(zc a++(zc y++(zc b++(zc P1++zc P2))))) rfl (by decide) rfl) Dp.const Dp.const ?_|refine DQ.acallB 19 (fun s=>⟨s 19 0,24,zc base++(zc a++(zc y++(zc b++(zc P1++zc P2))))⟩) (fun s=>hC (s 19 0)) (fun s w hm=>Hs.seg Hs.here hm) ?_|refine DQ.does (fun s _=>yK) Dp.const ?_|refine Dc ?_)
 refine DQ.anil (k:=?_);intro sx _
 repeat (first|refine Tw ?_|(refine Tm ?_;intro _)|exact Tz)
 done
theorem d6 (base a y b c S:Nat) (hp:p<zd) (hq:q<zd) (hbs:base<zd) (ha:a<zd) (hy:y<zd) (hb:b<zd) (hc:c<zd) (hS:S<zd) (hs:s.size≤68719476736) :
  Fn Tryz.prog 83 [y9 p q g h,.string s,zk base,zk a,zk y,zk b,pfV c S] Tr (Is (.bool (ckB p q (ya s) base a y b c S))):=by
 unfold ckB;cases hB:(gIn p q base && gIn p q a && gIn p q y && gIn p q b && zQ c c q && zQ S S q) with
 | false=>rw[Bool.false_and];exact acw p q g h s base a y b c S hp hq hbs ha hy hb hc hS hB
 | true=>rw[Bool.true_and];exact acR p q g h s base a y b c S hp hq hbs ha hy hb hc hS hs hB
end
end Sx
end
section
open Go Go.RowKit Go.BigFrame
namespace Sx
abbrev sP (a b:Nat):List Value:=[.int .u64 ((wd 0 a:Nat):Int),.int .u64 ((wd 1 a:Nat):Int),.int .u64 ((wd 2 a:Nat):Int),.int .u64 ((wd 3 a:Nat):Int),.int .u64 ((wd 0 b:Nat):Int),.int .u64 ((wd 1 b:Nat):Int),.int .u64 ((wd 2 b:Nat):Int),.int .u64 ((wd 3 b:Nat):Int)]
theorem abu {t d m D:Nat} {cs:List Value} (hk:Tryz.prog.keyTypeAt m t=true) (hm:d+m=10000) (hf:(Value.agg cs.toArray).formed Tryz.prog t=true) (hl:∃ l,Tryz.prog.keyLits D t cs=some l) (w:World) :
  (Op.equalIn 10000 t (.agg cs.toArray) (.agg cs.toArray)).run Tryz.prog w=.ok true w:=by
 obtain⟨l,hl⟩:=hl;have hl' : Tryz.prog.keyLits D t (Value.agg cs.toArray).cells.toList=some l:=by simpa [Value.cells] using hl
 obtain⟨r,hr,hiff⟩:=run_equalIn_deep (P:=Tryz.prog) d m t hk w D D _ _ l l hf hf hl' hl';rw[hm] at hr;rw[hr,hiff.2 rfl]
theorem abB (a:Nat) (w:World):(Op.equalIn 10000 24 (.agg (zc a).toArray) (.agg (zc a).toArray)).run Tryz.prog w=.ok true w:=abu (d:=9998) (m:=2) (D:=2) (by kernel_rfl) rfl (by kernel_rfl) ⟨_,qq a⟩ w
theorem bp (op:BinOp) (x y:Operand) (a b:Array Value) (w:World):(eqGuard op 45 x y (.agg a) (.agg b)).run Tryz.prog w=.ok () w:=by cases op<;>kernel_rfl
section
variable {P:Program} {w0:World} {gs:List Nat} {K:List (Nat × Value)} {L:List Ent}
theorem aas {t yt ty:TypeId} {x y:Operand} {cs:List Value} (hx:ev K x=some (.agg cs.toArray)) (hy:ev K y=some (.agg cs.toArray)) (hs:∀ w,(Op.equalIn 10000 t (.agg cs.toArray) (.agg cs.toArray)).run P w=.ok true w)
  (hg:∀ w,(eqGuard .neq t x y (.agg cs.toArray) (.agg cs.toArray)).run P w=.ok () w):Does P w0 gs K L (.binOp .neq t x y yt) ty (.bool false):=by
 intro ac w hk _ o ho _;simp only[execOp,ho,hk.eval hx,hk.eval hy,Sem.run_bind,hg,Result.andThen_ok,run_neq_struct,hs,Sem.run_pure,Bool.not_true]
end
def hsV (h:List Nat):Value:=.agg (byC h).toArray
theorem cU {H:List Nat} (hl:(byC H).length=32):rc (fun i=>some (i*(byC (List.replicate 32 0)).length,(byC (List.replicate 32 0)).length)) (mkz 1 (byC (List.replicate 32 0))) [(0,.agg (byC H).toArray)]=some (byC H):=by
 have e1:(byC (List.replicate 32 0)).length=32:=rfl;have e2:cellsOf (.agg (byC H).toArray)=byC H:=by simp[cellsOf]
 unfold rc;simp only[e1,e2,hl,Nat.zero_mul,Nat.zero_add];rw[show (Nat.beq 32 32 && Nat.ble 32 (mkz 1 (byC (List.replicate 32 0))).length)=true from rfl];simp only[cond_true,rc];rw[y4 (by rw[hl];rfl)]
theorem acO:WideMaps.KeyLaw Tryz.prog 53:=deep_law (m:=2) (by decide) (by kernel_rfl) (by kernel_rfl) (by kernel_rfl)
theorem k9 (D:Nat):∀ (H:List Nat),(∀ b∈H,b<256)→∀ i,i<H.length→∃ l,Tryz.prog.keyLits (D+1) 5 (((byC H).drop (i*1)).take 1)=some l:=by
 intro H hH i hi;have h2:((byC H).drop (i*1)).take 1=[.int .u8 ((H[i]:Nat):Int)]:=by
  rw[Nat.mul_one,List.drop_eq_getElem_cons (by rw[zi];exact hi)];simp[byC]
 rw[h2];have hb:=hH _ (List.getElem_mem hi);have w2:(Lit.int .u8 ((H[i]:Nat):Int)).wf=true:=by simp[Lit.wf,IntKind.min,IntKind.max,IntKind.signed,IntKind.bits];omega
 exact⟨_,by simp[Program.keyLits,Tryz.underlying5,w2];rfl⟩
theorem mP {α β:Type} (f:α→Option β):∀ L:List α,(∀ i∈L,∃ l,f i=some l)→∃ ls,L.mapM f=some ls
 | [],_=>⟨[],rfl⟩
 | a::L,h=>by
  obtain⟨x,hx⟩:=h a List.mem_cons_self;obtain⟨ls,hls⟩:=mP f L (fun i hi=>h i (List.mem_cons_of_mem _ hi));exact⟨x::ls,by simp[List.mapM_cons,hx,hls]⟩
theorem bF:∀ {A B:List Nat},byC A=byC B→A=B
 | [],[],_=>rfl
 | [],b::B,h=>by simp[byC] at h
 | a::A,[],h=>by simp[byC] at h
 | a::A,b::B,h=>by
  simp only[byC,List.map_cons,List.cons.injEq,Value.int.injEq,true_and] at h;rw[bF (A:=A) (B:=B) h.2];have:=h.1;congr 1;omega
theorem afs {A B:List Nat} (h:hsV A=hsV B):A=B:=by
 unfold hsV at h;have h1:byC A=byC B:=by
  injection h with h
  simpa using congrArg Array.toList h
 exact bF h1
theorem ab:∃ F:List Lit→Lit,∀ H:List Nat,(∀ b∈H,b<256)→H.length=32→∃ l,Tryz.prog.keyLits (Tryz.prog.types.size+1) 53 (byC H)=some l∧keyOf Tryz.prog 53 (hsV H)=some (F l):=by
 refine⟨fun ls=>.string (keyBytes ls),fun H hH hl=>?_⟩
 ·have c1:Tryz.prog.cellsOf 53=32:=by kernel_rfl
  have c2:Tryz.prog.cellsOf 5=1:=by kernel_rfl
  have hb:(byC H).length=32:=by rw[zi];exact hl
  have hk:Tryz.prog.keyType 53=true:=by kernel_rfl
  have hf:(hsV H).formed Tryz.prog 53=true:=by simp[hsV,Value.formed,Tryz.underlying53,c1,hb]
  obtain⟨n,hn⟩ : ∃ n,Tryz.prog.types.size+1=n+2:=⟨Tryz.prog.types.size - 1,by have:1≤Tryz.prog.types.size:=(by decide +kernel);omega⟩;obtain⟨ls,hls⟩:=mP (fun i=>Tryz.prog.keyLits (n+1) 5 (((byC H).drop (i*1)).take 1)) (List.range 32) (fun i hi=>k9 n H hH i (by have:=List.mem_range.1 hi;omega));have hkk:Tryz.prog.keyLits (n+2) 53 (byC H)=some ls.flatten:=by
   rw[Program.keyLits.eq_def];simp only[Tryz.underlying53,c1,c2,hb,if_true];rw[hls];rfl
  refine⟨ls.flatten,by rw[hn];exact hkk,?_⟩;unfold keyOf;rw[Tryz.underlying53];simp only[hk,hf,Bool.and_self,if_true,hn];rw[show (hsV H).cells.toList=byC H by simp[hsV,Value.cells],hkk];rfl
theorem ab8 {A B:List Nat} (hA:∀ b∈A,b<256) (hB:∀ b∈B,b<256) (lA:A.length=32) (lB:B.length=32) (w:World):(Op.equalIn 10000 53 (.agg (byC A).toArray) (.agg (byC B).toArray)).run Tryz.prog w=.ok (decide (A=B)) w:=by
 obtain⟨F,hF⟩:=ab;obtain⟨la,a1,a2⟩:=hF A hA lA;obtain⟨lb,b1,b2⟩:=hF B hB lB;have c1:Tryz.prog.cellsOf 53=32:=by kernel_rfl
 have fA:(Value.agg (byC A).toArray).formed Tryz.prog 53=true:=by simp[Value.formed,Tryz.underlying53,c1,zi,lA]
 have fB:(Value.agg (byC B).toArray).formed Tryz.prog 53=true:=by simp[Value.formed,Tryz.underlying53,c1,zi,lB]
 obtain⟨r,hr,hiff⟩:=run_equalIn_deep (P:=Tryz.prog) 9998 2 53 (by kernel_rfl) w (Tryz.prog.types.size+1) (Tryz.prog.types.size+1) (.agg (byC A).toArray) (.agg (byC B).toArray) la lb fA fB (by simpa [Value.cells] using a1) (by simpa [Value.cells] using b1);rw[show (9998:Nat)+2=10000 from rfl] at hr;have hrd:r=decide (A=B):=by
  by_cases e:A=B
  ·have h1:la=lb:=by
    have h2:some la=some lb:=by rw[← a1,← b1,e]
    exact Option.some.inj h2
   rw[decide_eq_true e];exact hiff.2 h1
  ·rw[decide_eq_false e];cases r with
   | false=>rfl
   | true =>
    have h1:=hiff.1 rfl;rw[h1] at a2;exact absurd (afs (acO.inj a2 b2)) e
 rw[← hrd];exact hr
section
variable {w0:World} {gs:List Nat} {K:List (Nat × Value)} {L:List Ent}
theorem adU (op:BinOp) (x y:Operand) (a b:Array Value) (w:World):(eqGuard op 53 x y (.agg a) (.agg b)).run Tryz.prog w=.ok () w:=by cases op<;>kernel_rfl
theorem ad {x y:Operand} {yt ty:TypeId} {A B:List Nat} {r:Bool} (hA:∀ b∈A,b<256) (hB:∀ b∈B,b<256) (lA:A.length=32) (lB:B.length=32) (hx:ev K x=some (.agg (byC A).toArray)) (hy:ev K y=some (.agg (byC B).toArray)) (hr:(!decide (A=B))=r):Does Tryz.prog w0 gs K L (.binOp .neq 53 x y yt) ty (.bool r):=by
 subst hr;intro ac w hk _ o ho _;simp only[execOp,ho,hk.eval hx,hk.eval hy,Sem.run_bind,adU,Result.andThen_ok,run_neq_struct,ab8 hA hB lA lB,Sem.run_pure]
end
end Sx
end
end Go.Proofs.YtiiefkchpicncaaGreatDoor
