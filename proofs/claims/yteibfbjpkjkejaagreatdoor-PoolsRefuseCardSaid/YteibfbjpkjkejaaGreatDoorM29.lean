/- Part 29 of the proof. -/
import Derived.Test.YteibfbjpkjkejaaGreatDoorM27
import Derived.Test.YteibfbjpkjkejaaGreatDoorM28
set_option linter.unusedSimpArgs false
set_option linter.unusedVariables false
set_option maxHeartbeats 8000000
namespace Go.Proofs.YteibfbjpkjkejaaGreatDoor
section
open Go Go.RowKit Go.BigFrame
namespace Sx
attribute [local irreducible] DQ DQS WC WO WX wd
abbrev adV (p q g h:Nat) (s:ByteArray):Value:=.agg #[.int .u64 ((wd 0 p:Nat):Int),.int .u64 ((wd 1 p:Nat):Int),.int .u64 ((wd 2 p:Nat):Int),.int .u64 ((wd 3 p:Nat):Int),.int .u64 ((wd 0 q:Nat):Int),.int .u64 ((wd 1 q:Nat):Int),.int .u64 ((wd 2 q:Nat):Int),.int .u64 ((wd 3 q:Nat):Int),.int .u64 ((wd 0 g:Nat):Int),.int .u64 ((wd 1 g:Nat):Int),.int .u64 ((wd 2 g:Nat):Int),.int .u64 ((wd 3 g:Nat):Int),.int .u64 ((wd 0 h:Nat):Int),.int .u64 ((wd 1 h:Nat):Int),.int .u64 ((wd 2 h:Nat):Int),.int .u64 ((wd 3 h:Nat):Int),.string s]
theorem adR (b:Bool):decide (okE b=0)=b:=by cases b<;>rfl
section
variable (p q g h:Nat) (s:ByteArray)
theorem sr (a:Nat) (ha:a<zd) (hq:q<zd):Fn Tryz.prog 93 [adV p q g h s,zi a] Tr (Is (.bool (zJ a a q))):=by
 have hO:=nk p q g h a a ha ha hq;generalize zJ a a q=b at *;refine Fn.enter Tryz.func93 rfl rfl rfl ?_;intro w hw
 repeat (first|refine Td ?_|(refine Tm ?_;intro _)|refine WO.acall (hc:=hO) (k:=?_)|refine Tc ?_|exact Tz)
 cases b<;>exact WX.aret1 (hp:=rfl)
theorem lI (a n:Nat) (ha:a<zd) (hn:n<zd) (hp:p<zd):Fn Tryz.prog 94 [adV p q g h s,zi a,zi n] Tr (Is (zi (okV (yw p a) (a ^ n%p)))):=by
 have hO:=ub p q g h a n ha hn hp;refine Fn.enter Tryz.func94 rfl rfl rfl ?_;intro w hw
 repeat (first|refine Td ?_|(refine Tm ?_;intro _)|refine WO.acall (hc:=hO) (k:=?_)|refine Tc ?_|exact Tz)
theorem Seg.left {w:World} {b o:Nat} {xs ys:List Value} (h:Seg w b o (xs++ys)):Seg w b o xs:=fun i v hv=>h i v (by rw[List.getElem?_append_left (by rcases Nat.lt_or_ge i xs.length with h|h;exact h;rw[List.getElem?_eq_none h] at hv;cases hv)];exact hv)
theorem Seg.right {w:World} {b o:Nat} {xs ys:List Value} (h:Seg w b o (xs++ys)):Seg w b (o+xs.length) ys:=fun i v hv=>by
 have:=h (xs.length+i) v (by rw[List.getElem?_append_right (by omega),Nat.add_sub_cancel_left];exact hv);rwa [← Nat.add_assoc] at this
theorem aZ {w:World} {b:Nat} {α:Type} {xa xb:α} (f:α→Nat) (h:Seg w b 0 (zb (f xa)++zb (f xb))):∀ (k:Nat) (x:α),[xa,xb][k]?=some x→Seg w b (0+k*4) (zb (f x))
 | 0,x,hx=>by cases hx;exact h.left
 | 1,x,hx=>by cases hx;exact h.right
 | k+2,x,hx=>by simp at hx
theorem eF (a n b m:Nat) (ha:a<zd) (hn:n<zd) (hb:b<zd) (hm:m<zd) (hp:p<zd) (hma:yw p a=true) (hmb:yw p b=true):Fn Tryz.prog 110 [adV p q g h s,zi a,zi n,zi b,zi m] Tr (Is (zi ((a ^ n%p)*(b ^ m%p)%p))):=by
 have h1:=(yM hma).1;have hO:=fun gA gN=>mb p q g h hp h1 [⟨(a,n),ha,hn,hma⟩,⟨(b,m),hb,hm,hmb⟩] gA 0 gN 0 2 2 (by simp);have hR:v7 p [⟨(a,n),ha,hn,hma⟩,⟨(b,m),hb,hm,hmb⟩]=(a ^ n%p)*(b ^ m%p)%p:=by
  simp only[v7,List.foldl_cons,List.foldl_nil,Nat.one_mul,Nat.mod_mod]
 rw[hR] at hO;clear hR;generalize (a ^ n%p)*(b ^ m%p)%p=R at *;refine Fn.enter Tryz.func110 rfl rfl rfl ?_;intro w hw
 repeat (first|refine Td ?_|(refine Tm ?_;intro _)|(refine WO.makes (ze (cs:=zb a++zb b) rfl (by decide) rfl) ?_;intro _)|(refine WO.makes (ze (cs:=zb n++zb m) rfl (by decide) rfl) ?_;intro _)|refine Tc ?_|exact Tz)
 rename_i gA gN;refine WO.acallR (hc:=hO gA gN) (hR:=fun w1 hm=>?_) (k:=?_)
 ·exact⟨(hm.ok ⟨gA,24,zb a++zb b⟩ (Hs.mem Hs.a)).lt,(hm.ok ⟨gN,24,zb n++zb m⟩ (Hs.mem Hs.a)).lt,aZ (fun x:PwT p=>x.1.1) (Hs.sg hm),aZ (fun x:PwT p=>x.1.2) (Hs.sg hm)⟩
 repeat (first|refine Td ?_|(refine Tm ?_;intro _)|refine Tc ?_|exact Tz)
theorem fe (x0 x1 x2 x3 x4 x5 b o c:Nat) (hq:q<zd) (h0:0<q) (hs:s.size≤274877906944) :
  Fn Tryz.prog 95 [adV p q g h s,.slice (some ⟨b,o,none⟩) 6 c] (fun w=>Seg w b o (zb x0++(zb x1++(zb x2++(zb x3++(zb x4++zb x5))))))
   (Is (zi (mi q (yg s) [be 32 x0,be 32 x1,be 32 x2,be 32 x3,be 32 x4,be 32 x5]))):=by
 have hP:∀ x,Fn Tryz.prog 71 [.slice none 0 0,zi x] (fun w=>Rd (.slice none 0 0) 0 [] w) (dr 5 32 (byC (be 32 x))):=fun x=>by
  have h:=uG [] x 0 none (by simp);rw[List.nil_append,zk] at h;exact h
 have hb:(yO (yg s) [be 32 x0,be 32 x1,be 32 x2,be 32 x3,be 32 x4,be 32 x5]).length≤1099511627776:=by
  simp only[yO,tk,yU,List.flatMap_cons,List.flatMap_nil,List.length_append,zk,yJ,List.length_nil];omega
 have hl:∀ X∈[be 32 x0,be 32 x1,be 32 x2,be 32 x3,be 32 x4,be 32 x5],∀ x∈X,x<256:=by
  intro X hX;simp only[List.mem_cons,List.not_mem_nil,or_false] at hX
  rcases hX with rfl|rfl|rfl|rfl|rfl|rfl<;>exact tf
 have hN:=fun p0 p1 p2 p3 p4 p5 gR=>ol q s [.slice (some ⟨p0,0,none⟩) 32 32,.slice (some ⟨p1,0,none⟩) 32 32,.slice (some ⟨p2,0,none⟩) 32 32,.slice (some ⟨p3,0,none⟩) 32 32,.slice (some ⟨p4,0,none⟩) 32 32,.slice (some ⟨p5,0,none⟩) 32 32] [be 32 x0,be 32 x1,be 32 x2,be 32 x3,be 32 x4,be 32 x5] gR 0 6 hq h0 hl hb hs;generalize mi q (yg s) [be 32 x0,be 32 x1,be 32 x2,be 32 x3,be 32 x4,be 32 x5]=R at *;refine Fn.enter Tryz.func95 rfl rfl rfl ?_;intro w hw;simp only[zb,List.cons_append,List.nil_append] at hw
 repeat (first|refine WX.rounds ?_|refine WC.loopU 6 ?_|refine Td ?_|(refine Tm ?_;intro _)|(refine WO.makes (zT (l:=6) (c:=6) rfl rfl (by omega) (by omega) (by omega)) ?_;intro _)|(refine WO.acallN (hc:=hP _) (hR:=fun _ _=>Rd.nil) (k:=?_);intro _)|refine Tc ?_|exact Tz)
 rename_i g2 g4 gR a0 p0 a1 p1 a2 p2 a3 p3 a4 p4 a5 p5;refine WO.acallR (hc:=hN p0 p1 p2 p3 p4 p5 gR) (hR:=fun w1 hm=>?_) (k:=?_)
 ·exact⟨Hs.sg hm,ya.cons (RdP.own0 (c:=32) (g:=p0) (X:=be 32 x0) hm Hs.a (by rw[zk];decide) (by decide)) (ya.cons (RdP.own0 (c:=32) (g:=p1) (X:=be 32 x1) hm Hs.a (by rw[zk];decide) (by decide)) (ya.cons (RdP.own0 (c:=32) (g:=p2) (X:=be 32 x2) hm Hs.a (by rw[zk];decide) (by decide)) (ya.cons (RdP.own0 (c:=32) (g:=p3) (X:=be 32 x3) hm Hs.a (by rw[zk];decide) (by decide)) (ya.cons (RdP.own0 (c:=32) (g:=p4) (X:=be 32 x4) hm Hs.a (by rw[zk];decide) (by decide)) (ya.cons (RdP.own0 (c:=32) (g:=p5) (X:=be 32 x5) hm Hs.a (by rw[zk];decide) (by decide)) ya.nil)))))⟩
 repeat (first|refine Td ?_|(refine Tm ?_;intro _)|refine Tc ?_|exact Tz)
end
end Sx
end
end Go.Proofs.YteibfbjpkjkejaaGreatDoor
