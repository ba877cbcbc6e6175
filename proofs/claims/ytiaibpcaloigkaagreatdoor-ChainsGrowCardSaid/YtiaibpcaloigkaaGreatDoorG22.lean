/- Part 22 of the proof. -/
import Derived.Test.YtiaibpcaloigkaaGreatDoorG18
import Derived.Test.YtiaibpcaloigkaaGreatDoorG20
set_option linter.unusedSimpArgs false
set_option linter.unusedVariables false
set_option maxHeartbeats 8000000
namespace Go.Proofs.YtiaibpcaloigkaaGreatDoor
section
open Go Go.RowKit Go.BigFrame
namespace Sx
attribute [local irreducible] DQ WC WO WT WX wd
def nB (m:Nat) (s:LN) (Ps:List (List Nat)):Nat:=(beV (hOf s (Ps++[[0]]))*ze+beV (hOf s (Ps++[[1]])))%m
theorem af7 (s:LN) (Ps:List (List Nat)):beV (hOf s Ps)<ze:=by
 have:=bI (yX s Ps);rw[zI] at this;exact Nat.lt_of_lt_of_eq this Dtt
theorem cg (vs:LV) (z:Value):over (mkz (vs.length+1) [z]) 0 vs=vs++[z]:=by
 rw[rR];unfold over;rw[List.take_zero,List.nil_append,Nat.zero_add,List.drop_replicate,show vs.length+1 - vs.length=1 by omega];rfl
theorem z6.one {vs:LV} {Ps:List (List Nat)} {w:World} (h:z6 vs Ps w):vs.all Value.oneCell'=true:=by
 rw[List.all_eq_true];intro v hv;obtain⟨i,hi,rfl⟩:=List.getElem_of_mem hv;have h1:=h.1;obtain⟨p,c,e,_⟩:=h.2 i _ _ (List.getElem?_eq_getElem hi) (List.getElem?_eq_getElem (show i<Ps.length by omega));rw[e];rfl
theorem sU (m:Nat) (s:ByteArray) (vs:LV) (Ps:List (List Nat)) (B O C:Nat) (hm:m<ze) (h0:0<m) (hP:∀ X∈Ps,∀ x∈X,x<256) (hb:(yG (zN s) Ps).length≤1099511627776) (hs:s.size≤274877906944) :
  Fn Tryz.prog 174 [zk m,.string s,.slice (some ⟨B,O,none⟩) vs.length C] (fun w=>Seg w B O vs∧z6 vs Ps w) (Is (.tuple #[zk (nB m (zN s) Ps),.int .i64 0])):=by
 refine Fn.enter Tryz.func174 rfl rfl rfl ?_;intro w hw;obtain⟨hw1,hw2⟩:=hw;have hN:=hw2.1;have hNs:Ps.length*4≤(yM Ps).length:=by
  clear hb hw2 hN hP
  induction Ps with
  | nil=>simp
  | cons X Ps ih=>simp only[yM,List.flatMap_cons,List.length_append,List.length_cons,zj] at ih ⊢;omega
 have hNb:vs.length<1099511627776:=by unfold yG at hb;rw[List.length_append] at hb;omega
 have hv1:=hw2.one;have hN1:IntKind.i64.wrap (((vs.length:Nat):Int)+1)=((vs.length+1:Nat):Int):=zl Om Om Om
 repeat (first|refine WO.does (zi rfl rfl hN1) ?_|refine Tj ?_|intro _|(refine WO.makes (yp (l:=vs.length) (c:=vs.length+1) rfl rfl Om Om Om) ?_;intro gR)|refine WO.both (qo (st:=129) rfl rfl rfl (Rds.seg (n:=vs.length) hw1 (Nat.le_refl _) Sm (m:=vs.length) (xs:=vs) (by unfold cut;rw[Nat.sub_self,List.drop_zero,List.take_length])) (by rw[Nat.mul_one]) (m:=vs.length) (Nat.min_self _) (ys:=vs) (by rw[Nat.mul_one,List.take_length]) hv1 (by repeat (first|exact Rp.here|apply Rp.there)) (cg vs _) (by rw[zV];simp) Dtt) ?_|refine Tc ?_|exact Tz)
 rename_i g3 g4 g6 g8;refine WC.ndp' (fun hnd=>?_);have h4:g4≠gR:=by simp at hnd;omega
 have h8:g8≠gR:=by simp at hnd;omega
 clear hnd;refine WC.mine (fun hmn=>?_);have hB:w.heap.size≤gR:=(hmn _ (List.mem_cons_of_mem _ (List.mem_cons_self ..))).resolve_right Sm;clear hmn;have hF:=fun k (hk:k<256)=>af3 s vs Ps gR g4 g8 w.heap.size k hP hk Om hs h4 h8 hB Om;have hF1:=hF 1 Dtt;have hF0:=hF 0 Dtt;have hW:=afw _ _ m (af7 (zN s) (Ps++[[1]])) (af7 (zN s) (Ps++[[0]])) hm h0;have hres:nB m (zN s) Ps=(beV (hOf (zN s) (Ps++[[0]]))*ze+beV (hOf (zN s) (Ps++[[1]])))%m:=rfl;rw[hres];clear hres hF;generalize (beV (hOf (zN s) (Ps++[[0]]))*ze+beV (hOf (zN s) (Ps++[[1]])))%m=X at *;generalize beV (hOf (zN s) (Ps++[[0]]))=x0 at *;generalize beV (hOf (zN s) (Ps++[[1]]))=x1 at *;refine WC.mainA [1,3,5,6,7,8,9] [(0,.func (.func 216) #[] #[pt g4,pt g8]),(2,.func (.func 216) #[] #[pt g4,pt g8]),(4,zk m)] Dtt (fun A hA=>?_);refine WT.given [(3,pt g3),(6,pt g6),(9,.func (.func 216) #[] #[pt g4,pt g8])] [⟨g3,24,zc m⟩] Kr (Tlv.a (Tlv.a (Tlv.a (Tlv.nil)))) (fun hc hT=>?_)
 suffices hS1002:∀ z3,A [9,8,7,6,5,3,1] [(21,zk x1),(23,zk x0),(25,.tuple #[zk X,.int .i64 0]),(26,zk X),(27,.int .i64 0),(7,.int .i64 0),(3,pt g3),(6,pt g6),(9,.func (.func 216) #[] #[pt g4,pt g8])] [⟨gR,126,vs++[z3]⟩,⟨g8,129,[AQ gR vs.length (vs.length+1)]⟩,⟨g6,24,zc X⟩,⟨g4,9,[.string s]⟩,⟨g3,24,zc m⟩] by
  have hS490:∀ z3,A [8,7,6,5,3,1] [(21,zk x1),(23,zk x0),(25,.tuple #[zk X,.int .i64 0]),(26,zk X),(27,.int .i64 0),(3,pt g3),(6,pt g6),(9,.func (.func 216) #[] #[pt g4,pt g8])] [⟨gR,126,vs++[z3]⟩,⟨g8,129,[AQ gR vs.length (vs.length+1)]⟩,⟨g6,24,zc X⟩,⟨g4,9,[.string s]⟩,⟨g3,24,zc m⟩]:=by
   intro z3;refine (hA _ _ _).2 (WT.step [9] Dtt hc hT ⟨⟨_,rfl,?_⟩,trivial⟩)
   ·refine Tw ?_;exact WT.go [(7,.int .i64 0)] hA (hS1002 z3)
  have hS234:∀ z3,A [7,6,5,3,1] [(21,zk x1),(23,zk x0),(25,.tuple #[zk X,.int .i64 0]),(26,zk X),(27,.int .i64 0),(3,pt g3),(6,pt g6),(9,.func (.func 216) #[] #[pt g4,pt g8])] [⟨gR,126,vs++[z3]⟩,⟨g8,129,[AQ gR vs.length (vs.length+1)]⟩,⟨g6,24,zc 0⟩,⟨g4,9,[.string s]⟩,⟨g3,24,zc m⟩]:=by
   intro z3;refine (hA _ _ _).2 (WT.step [8] Dtt hc hT ⟨⟨_,rfl,?_⟩,trivial⟩)
   ·refine Tw ?_;exact WT.go [] hA (hS490 z3)
  have hS106:∀ z3,A [6,5,3,1] [(21,zk x1),(23,zk x0),(25,.tuple #[zk X,.int .i64 0]),(26,zk X),(3,pt g3),(6,pt g6),(9,.func (.func 216) #[] #[pt g4,pt g8])] [⟨gR,126,vs++[z3]⟩,⟨g8,129,[AQ gR vs.length (vs.length+1)]⟩,⟨g6,24,zc 0⟩,⟨g4,9,[.string s]⟩,⟨g3,24,zc m⟩]:=by
   intro z3;refine (hA _ _ _).2 (WT.step [7] Dtt hc hT ⟨⟨_,rfl,?_⟩,trivial⟩)
   ·refine Tw ?_;exact WT.go [(27,.int .i64 0)] hA (hS234 z3)
  have hS170:∀ z3,A [7,5,3,1] [(21,zk x1),(23,zk x0),(25,.tuple #[zk X,.int .i64 0]),(27,.int .i64 0),(3,pt g3),(6,pt g6),(9,.func (.func 216) #[] #[pt g4,pt g8])] [⟨gR,126,vs++[z3]⟩,⟨g8,129,[AQ gR vs.length (vs.length+1)]⟩,⟨g6,24,zc 0⟩,⟨g4,9,[.string s]⟩,⟨g3,24,zc m⟩]:=by
   intro z3;refine (hA _ _ _).2 (WT.step [6] Dtt hc hT ⟨⟨_,rfl,?_⟩,trivial⟩)
   ·refine Tw ?_;exact WT.go [(26,zk X)] hA (hS234 z3)
  have hS42:∀ z3,A [5,3,1] [(21,zk x1),(23,zk x0),(25,.tuple #[zk X,.int .i64 0]),(3,pt g3),(6,pt g6),(9,.func (.func 216) #[] #[pt g4,pt g8])] [⟨gR,126,vs++[z3]⟩,⟨g8,129,[AQ gR vs.length (vs.length+1)]⟩,⟨g6,24,zc 0⟩,⟨g4,9,[.string s]⟩,⟨g3,24,zc m⟩]:=by
   intro z3;refine (hA _ _ _).2 (WT.step [6,7] Dtt hc hT ⟨⟨_,rfl,?_⟩,⟨_,rfl,?_⟩,trivial⟩)
   ·refine Tw ?_;exact WT.go [(26,zk X)] hA (hS106 z3)
   ·refine Tw ?_;exact WT.go [(27,.int .i64 0)] hA (hS170 z3)
  have hS10:∀ z3,A [3,1] [(21,zk x1),(23,zk x0),(3,pt g3),(6,pt g6),(9,.func (.func 216) #[] #[pt g4,pt g8])] [⟨gR,126,vs++[z3]⟩,⟨g8,129,[AQ gR vs.length (vs.length+1)]⟩,⟨g6,24,zc 0⟩,⟨g4,9,[.string s]⟩,⟨g3,24,zc m⟩]:=by
   intro z3;refine (hA _ _ _).2 (WT.step [5] Dtt hc hT ⟨⟨_,rfl,?_⟩,trivial⟩)
   ·refine WO.acall (hc:=hW) (k:=?_);exact WT.go [(25,.tuple #[zk X,.int .i64 0])] hA (hS42 z3)
  have hS2:∀ z1,A [1] [(21,zk x1),(3,pt g3),(6,pt g6),(9,.func (.func 216) #[] #[pt g4,pt g8])] [⟨gR,126,vs++[z1]⟩,⟨g8,129,[AQ gR vs.length (vs.length+1)]⟩,⟨g6,24,zc 0⟩,⟨g4,9,[.string s]⟩,⟨g3,24,zc m⟩]:=by
   intro z1;refine (hA _ _ _).2 (WT.step [3] Dtt hc hT ⟨⟨_,rfl,?_⟩,trivial⟩)
   ·(refine WO.callI (fs:=[]) (ks:=[pt g4,pt g8]) hF0 rfl rfl rfl Pk.a ⟨_,rfl⟩ (fun w1 hm=>⟨Hs.sg hm.mr,Hs.sg hm.mr,hw2.partsB.mod hm.mod Sm⟩) Dtt (fun cs' hC'=>?_) rfl rfl;obtain⟨z3,rfl⟩:=hC');exact WT.go [(23,zk x0)] hA (hS10 z3)
  have hS0:A [] [(3,pt g3),(6,pt g6),(9,.func (.func 216) #[] #[pt g4,pt g8])] [⟨gR,126,vs++[.slice none 0 0]⟩,⟨g8,129,[AQ gR vs.length (vs.length+1)]⟩,⟨g6,24,zc 0⟩,⟨g4,9,[.string s]⟩,⟨g3,24,zc m⟩]:=by
   refine (hA _ _ _).2 (WT.step [1] Dtt hc hT ⟨⟨_,rfl,?_⟩,trivial⟩)
   ·(refine WO.callI (fs:=[]) (ks:=[pt g4,pt g8]) hF1 rfl rfl rfl Pk.a ⟨_,rfl⟩ (fun w1 hm=>⟨Hs.sg hm.mr,Hs.sg hm.mr,hw2.partsB.mod hm.mod Sm⟩) Dtt (fun cs' hC'=>?_) rfl rfl;obtain⟨z1,rfl⟩:=hC');exact WT.go [(21,zk x1)] hA (hS2 z1)
  exact WT.less ((hA _ _ _).1 hS0) Dtt Kle.a (by repeat (first|exact Lle.nil|exact Lle.same|refine Lle.c ?_))
 intro z3;refine (hA _ _ _).2 (WT.fin [1,3,5,6,7,8,9] 6 hc rfl Kr ?_);clear hc hT hA
 repeat (first|refine Tk ?_|intro _|exact Tz)
end Sx
end
section
open Go Go.RowKit Go.BigFrame
namespace Sx
attribute [local irreducible] DQ WC WO WX wd
abbrev agR (p q g h:Nat) (s:ByteArray):Value:=.agg #[.int .u64 ((wd 0 p:Nat):Int),.int .u64 ((wd 1 p:Nat):Int),.int .u64 ((wd 2 p:Nat):Int),.int .u64 ((wd 3 p:Nat):Int),.int .u64 ((wd 0 q:Nat):Int),.int .u64 ((wd 1 q:Nat):Int),.int .u64 ((wd 2 q:Nat):Int),.int .u64 ((wd 3 q:Nat):Int),.int .u64 ((wd 0 g:Nat):Int),.int .u64 ((wd 1 g:Nat):Int),.int .u64 ((wd 2 g:Nat):Int),.int .u64 ((wd 3 g:Nat):Int),.int .u64 ((wd 0 h:Nat):Int),.int .u64 ((wd 1 h:Nat):Int),.int .u64 ((wd 2 h:Nat):Int),.int .u64 ((wd 3 h:Nat):Int),.string s]
theorem afx (b:Bool):decide (okE b=0)=b:=by cases b<;>rfl
section
variable (p q g h:Nat) (s:ByteArray)
theorem sI (a:Nat) (ha:a<ze) (hq:q<ze):Fn Tryz.prog 155 [agR p q g h s,zk a] Tr (Is (.bool (zP a a q))):=by
 have hO:=mF p q g h a a ha ha hq;generalize zP a a q=b at *;refine Fn.enter Tryz.func155 rfl rfl rfl ?_;intro w hw
 repeat (first|refine Td ?_|(refine Tm ?_;intro _)|refine WO.acall (hc:=hO) (k:=?_)|refine Tc ?_|exact Tz)
 cases b<;>exact WX.aret1 (hp:=rfl)
theorem jA (a n:Nat) (ha:a<ze) (hn:n<ze) (hp:p<ze):Fn Tryz.prog 172 [agR p q g h s,zk a,zk n] Tr (Is (zk (okV (yB p a) (a ^ n%p)))):=by
 have hO:=vQ p q g h a n ha hn hp;refine Fn.enter Tryz.func172 rfl rfl rfl ?_;intro w hw
 repeat (first|refine Td ?_|(refine Tm ?_;intro _)|refine WO.acall (hc:=hO) (k:=?_)|refine Tc ?_|exact Tz)
theorem Seg.left {w:World} {b o:Nat} {xs ys:LV} (h:Seg w b o (xs++ys)):Seg w b o xs:=fun i v hv=>h i v (by rw[List.getElem?_append_left (by rcases Nat.lt_or_ge i xs.length with h|h;exact h;rw[List.getElem?_eq_none h] at hv;cases hv)];exact hv)
theorem Seg.right {w:World} {b o:Nat} {xs ys:LV} (h:Seg w b o (xs++ys)):Seg w b (o+xs.length) ys:=fun i v hv=>by
 have:=h (xs.length+i) v (by rw[List.getElem?_append_right Om,Nat.add_sub_cancel_left];exact hv);rwa [← Nat.add_assoc] at this
theorem abY {w:World} {b:Nat} {α:Type} {xa xb:α} (f:α→Nat) (h:Seg w b 0 (zc (f xa)++zc (f xb))):∀ (k:Nat) (x:α),[xa,xb][k]?=some x→Seg w b (0+k*4) (zc (f x))
 | 0,x,hx=>by cases hx;exact h.left
 | 1,x,hx=>by cases hx;exact h.right
 | k+2,x,hx=>by simp at hx
theorem bW (a n b m:Nat) (ha:a<ze) (hn:n<ze) (hb:b<ze) (hm:m<ze) (hp:p<ze) (hma:yB p a=true) (hmb:yB p b=true):Fn Tryz.prog 158 [agR p q g h s,zk a,zk n,zk b,zk m] Tr (Is (zk ((a ^ n%p)*(b ^ m%p)%p))):=by
 have h1:=(y7 hma).1;have hO:=fun gA gN=>mc p q g h hp h1 [⟨(a,n),ha,hn,hma⟩,⟨(b,m),hb,hm,hmb⟩] gA 0 gN 0 2 2 Sm;have hR:uv p [⟨(a,n),ha,hn,hma⟩,⟨(b,m),hb,hm,hmb⟩]=(a ^ n%p)*(b ^ m%p)%p:=by
  simp only[uv,List.foldl_cons,List.foldl_nil,Nat.one_mul,Nat.mod_mod]
 rw[hR] at hO;clear hR;generalize (a ^ n%p)*(b ^ m%p)%p=R at *;refine Fn.enter Tryz.func158 rfl rfl rfl ?_;intro w hw
 repeat (first|refine Td ?_|(refine Tm ?_;intro _)|(refine WO.makes (zh (cs:=zc a++zc b) rfl Dtt rfl) ?_;intro _)|(refine WO.makes (zh (cs:=zc n++zc m) rfl Dtt rfl) ?_;intro _)|refine Tc ?_|exact Tz)
 rename_i gA gN;refine WO.acallR (hc:=hO gA gN) (hR:=fun w1 hm=>?_) (k:=?_)
 ·exact⟨(hm.ok ⟨gA,24,zc a++zc b⟩ (Hs.mem Hs.a)).lt,(hm.ok ⟨gN,24,zc n++zc m⟩ (Hs.mem Hs.a)).lt,abY (fun x:PwT p=>x.1.1) (Hs.sg hm),abY (fun x:PwT p=>x.1.2) (Hs.sg hm)⟩
 repeat (first|refine Td ?_|(refine Tm ?_;intro _)|refine Tc ?_|exact Tz)
theorem ek (x0 x1 x2 x3 x4 x5 b o c:Nat) (hq:q<ze) (h0:0<q) (hs:s.size≤274877906944) :
  Fn Tryz.prog 157 [agR p q g h s,.slice (some ⟨b,o,none⟩) 6 c] (fun w=>Seg w b o (zc x0++(zc x1++(zc x2++(zc x3++(zc x4++zc x5))))))
   (Is (zk (nB q (zN s) [be 32 x0,be 32 x1,be 32 x2,be 32 x3,be 32 x4,be 32 x5]))):=by
 have hP:∀ x,Fn Tryz.prog 44 [.slice none 0 0,zk x] (fun w=>Rd (.slice none 0 0) 0 [] w) (az 5 32 (byC (be 32 x))):=fun x=>by
  have h:=yQ [] x 0 none Sm;rw[List.nil_append,zj] at h;exact h
 have hb:(yG (zN s) [be 32 x0,be 32 x1,be 32 x2,be 32 x3,be 32 x4,be 32 x5]).length≤1099511627776:=by
  simp only[yG,uV,yM,List.flatMap_cons,List.flatMap_nil,List.length_append,zj,yb,List.length_nil];omega
 have hl:∀ X∈[be 32 x0,be 32 x1,be 32 x2,be 32 x3,be 32 x4,be 32 x5],∀ x∈X,x<256:=by
  intro X hX;simp only[List.mem_cons,List.not_mem_nil,or_false] at hX
  rcases hX with rfl|rfl|rfl|rfl|rfl|rfl<;>exact yZ
 have hN:=fun p0 p1 p2 p3 p4 p5 gR=>sU q s [AQ p0 32 32,AQ p1 32 32,AQ p2 32 32,AQ p3 32 32,AQ p4 32 32,AQ p5 32 32] [be 32 x0,be 32 x1,be 32 x2,be 32 x3,be 32 x4,be 32 x5] gR 0 6 hq h0 hl hb hs;generalize nB q (zN s) [be 32 x0,be 32 x1,be 32 x2,be 32 x3,be 32 x4,be 32 x5]=R at *;refine Fn.enter Tryz.func157 rfl rfl rfl ?_;intro w hw;simp only[zc,List.cons_append,List.nil_append] at hw
 repeat (first|refine WX.rounds ?_|refine WC.loopU 6 ?_|refine Td ?_|(refine Tm ?_;intro _)|(refine WO.makes (yp (l:=6) (c:=6) rfl rfl Om Om Om) ?_;intro _)|(refine WO.acallN (hc:=hP _) (hR:=fun _ _=>Rd.nil) (k:=?_);intro _)|refine Tc ?_|exact Tz)
 rename_i g2 g4 gR a0 p0 a1 p1 a2 p2 a3 p3 a4 p4 a5 p5;refine WO.acallR (hc:=hN p0 p1 p2 p3 p4 p5 gR) (hR:=fun w1 hm=>?_) (k:=?_)
 ·exact⟨Hs.sg hm,z6.cons (RdP.own0 (c:=32) (g:=p0) (X:=be 32 x0) hm Hs.a (by rw[zj];decide) Dtt) (z6.cons (RdP.own0 (c:=32) (g:=p1) (X:=be 32 x1) hm Hs.a (by rw[zj];decide) Dtt) (z6.cons (RdP.own0 (c:=32) (g:=p2) (X:=be 32 x2) hm Hs.a (by rw[zj];decide) Dtt) (z6.cons (RdP.own0 (c:=32) (g:=p3) (X:=be 32 x3) hm Hs.a (by rw[zj];decide) Dtt) (z6.cons (RdP.own0 (c:=32) (g:=p4) (X:=be 32 x4) hm Hs.a (by rw[zj];decide) Dtt) (z6.cons (RdP.own0 (c:=32) (g:=p5) (X:=be 32 x5) hm Hs.a (by rw[zj];decide) Dtt) z6.nil)))))⟩
 repeat (first|refine Td ?_|(refine Tm ?_;intro _)|refine Tc ?_|exact Tz)
end
end Sx
end
end Go.Proofs.YtiaibpcaloigkaaGreatDoor
