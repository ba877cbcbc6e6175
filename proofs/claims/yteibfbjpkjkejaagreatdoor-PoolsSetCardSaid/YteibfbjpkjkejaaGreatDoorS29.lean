/- Part 29 of the proof. -/
import Derived.Test.YteibfbjpkjkejaaGreatDoorS27
import Derived.Test.YteibfbjpkjkejaaGreatDoorS28
import Derived.Laws.StructEq
import Derived.DeepKeys
set_option linter.unusedSimpArgs false
set_option linter.unusedVariables false
set_option maxHeartbeats 8000000
namespace Go.Proofs.YteibfbjpkjkejaaGreatDoor
section
open Go Go.RowKit Go.BigFrame
namespace Sx
attribute [local irreducible] DQ DQS WC WO WX wd
abbrev aej (p q g h:Nat) (s:ByteArray):Value:=.agg #[.int .u64 ((wd 0 p:Nat):Int),.int .u64 ((wd 1 p:Nat):Int),.int .u64 ((wd 2 p:Nat):Int),.int .u64 ((wd 3 p:Nat):Int),.int .u64 ((wd 0 q:Nat):Int),.int .u64 ((wd 1 q:Nat):Int),.int .u64 ((wd 2 q:Nat):Int),.int .u64 ((wd 3 q:Nat):Int),.int .u64 ((wd 0 g:Nat):Int),.int .u64 ((wd 1 g:Nat):Int),.int .u64 ((wd 2 g:Nat):Int),.int .u64 ((wd 3 g:Nat):Int),.int .u64 ((wd 0 h:Nat):Int),.int .u64 ((wd 1 h:Nat):Int),.int .u64 ((wd 2 h:Nat):Int),.int .u64 ((wd 3 h:Nat):Int),.string s]
theorem ad4 (b:Bool):decide (okE b=0)=b:=by cases b<;>rfl
section
variable (p q g h:Nat) (s:ByteArray)
theorem sR (a:Nat) (ha:a<zd) (hq:q<zd):Fn Tryz.prog 93 [aej p q g h s,zj a] Tr (Is (.bool (zJ a a q))):=by
 have hO:=nn p q g h a a ha ha hq;generalize zJ a a q=b at *;refine Fn.enter Tryz.func93 rfl rfl rfl ?_;intro w hw
 repeat (first|refine Td ?_|(refine Tm ?_;intro _)|refine WO.acall (hc:=hO) (k:=?_)|refine Tc ?_|exact Tz)
 cases b<;>exact WX.aret1 (hp:=rfl)
theorem jA (a n:Nat) (ha:a<zd) (hn:n<zd) (hp:p<zd):Fn Tryz.prog 94 [aej p q g h s,zj a,zj n] Tr (Is (zj (okV (yB p a) (a ^ n%p)))):=by
 have hO:=ud p q g h a n ha hn hp;refine Fn.enter Tryz.func94 rfl rfl rfl ?_;intro w hw
 repeat (first|refine Td ?_|(refine Tm ?_;intro _)|refine WO.acall (hc:=hO) (k:=?_)|refine Tc ?_|exact Tz)
theorem Seg.left {w:World} {b o:Nat} {xs ys:List Value} (h:Seg w b o (xs++ys)):Seg w b o xs:=fun i v hv=>h i v (by rw[List.getElem?_append_left (by rcases Nat.lt_or_ge i xs.length with h|h;exact h;rw[List.getElem?_eq_none h] at hv;cases hv)];exact hv)
theorem Seg.right {w:World} {b o:Nat} {xs ys:List Value} (h:Seg w b o (xs++ys)):Seg w b (o+xs.length) ys:=fun i v hv=>by
 have:=h (xs.length+i) v (by rw[List.getElem?_append_right (by omega),Nat.add_sub_cancel_left];exact hv);rwa [← Nat.add_assoc] at this
theorem aaO {w:World} {b:Nat} {α:Type} {xa xb:α} (f:α→Nat) (h:Seg w b 0 (zc (f xa)++zc (f xb))):∀ (k:Nat) (x:α),[xa,xb][k]?=some x→Seg w b (0+k*4) (zc (f x))
 | 0,x,hx=>by cases hx;exact h.left
 | 1,x,hx=>by cases hx;exact h.right
 | k+2,x,hx=>by simp at hx
theorem gv (a n b m:Nat) (ha:a<zd) (hn:n<zd) (hb:b<zd) (hm:m<zd) (hp:p<zd) (hma:yB p a=true) (hmb:yB p b=true):Fn Tryz.prog 110 [aej p q g h s,zj a,zj n,zj b,zj m] Tr (Is (zj ((a ^ n%p)*(b ^ m%p)%p))):=by
 have h1:=(yT hma).1;have hO:=fun gA gN=>nS p q g h hp h1 [⟨(a,n),ha,hn,hma⟩,⟨(b,m),hb,hm,hmb⟩] gA 0 gN 0 2 2 (by simp);have hR:ue p [⟨(a,n),ha,hn,hma⟩,⟨(b,m),hb,hm,hmb⟩]=(a ^ n%p)*(b ^ m%p)%p:=by
  simp only[ue,List.foldl_cons,List.foldl_nil,Nat.one_mul,Nat.mod_mod]
 rw[hR] at hO;clear hR;generalize (a ^ n%p)*(b ^ m%p)%p=R at *;refine Fn.enter Tryz.func110 rfl rfl rfl ?_;intro w hw
 repeat (first|refine Td ?_|(refine Tm ?_;intro _)|(refine WO.makes (ze (cs:=zc a++zc b) rfl (by decide) rfl) ?_;intro _)|(refine WO.makes (ze (cs:=zc n++zc m) rfl (by decide) rfl) ?_;intro _)|refine Tc ?_|exact Tz)
 rename_i gA gN;refine WO.acallR (hc:=hO gA gN) (hR:=fun w1 hm=>?_) (k:=?_)
 ·exact⟨(hm.ok ⟨gA,24,zc a++zc b⟩ (Hs.mem Hs.a)).lt,(hm.ok ⟨gN,24,zc n++zc m⟩ (Hs.mem Hs.a)).lt,aaO (fun x:PwT p=>x.1.1) (Hs.sg hm),aaO (fun x:PwT p=>x.1.2) (Hs.sg hm)⟩
 repeat (first|refine Td ?_|(refine Tm ?_;intro _)|refine Tc ?_|exact Tz)
theorem fK (x0 x1 x2 x3 x4 x5 b o c:Nat) (hq:q<zd) (h0:0<q) (hs:s.size≤274877906944) :
  Fn Tryz.prog 95 [aej p q g h s,.slice (some ⟨b,o,none⟩) 6 c] (fun w=>Seg w b o (zc x0++(zc x1++(zc x2++(zc x3++(zc x4++zc x5))))))
   (Is (zj (mR q (yj s) [be 32 x0,be 32 x1,be 32 x2,be 32 x3,be 32 x4,be 32 x5]))):=by
 have hP:∀ x,Fn Tryz.prog 71 [.slice none 0 0,zj x] (fun w=>Rd (.slice none 0 0) 0 [] w) (d9 5 32 (byC (be 32 x))):=fun x=>by
  have h:=uE [] x 0 none (by simp);rw[List.nil_append,zk] at h;exact h
 have hb:(yS (yj s) [be 32 x0,be 32 x1,be 32 x2,be 32 x3,be 32 x4,be 32 x5]).length≤1099511627776:=by
  simp only[yS,tw,yW,List.flatMap_cons,List.flatMap_nil,List.length_append,zk,yM,List.length_nil];omega
 have hl:∀ X∈[be 32 x0,be 32 x1,be 32 x2,be 32 x3,be 32 x4,be 32 x5],∀ x∈X,x<256:=by
  intro X hX;simp only[List.mem_cons,List.not_mem_nil,or_false] at hX
  rcases hX with rfl|rfl|rfl|rfl|rfl|rfl<;>exact tn
 have hN:=fun p0 p1 p2 p3 p4 p5 gR=>oE q s [.slice (some ⟨p0,0,none⟩) 32 32,.slice (some ⟨p1,0,none⟩) 32 32,.slice (some ⟨p2,0,none⟩) 32 32,.slice (some ⟨p3,0,none⟩) 32 32,.slice (some ⟨p4,0,none⟩) 32 32,.slice (some ⟨p5,0,none⟩) 32 32] [be 32 x0,be 32 x1,be 32 x2,be 32 x3,be 32 x4,be 32 x5] gR 0 6 hq h0 hl hb hs;generalize mR q (yj s) [be 32 x0,be 32 x1,be 32 x2,be 32 x3,be 32 x4,be 32 x5]=R at *;refine Fn.enter Tryz.func95 rfl rfl rfl ?_;intro w hw;simp only[zc,List.cons_append,List.nil_append] at hw
 repeat (first|refine WX.rounds ?_|refine WC.loopU 6 ?_|refine Td ?_|(refine Tm ?_;intro _)|(refine WO.makes (yg (l:=6) (c:=6) rfl rfl (by omega) (by omega) (by omega)) ?_;intro _)|(refine WO.acallN (hc:=hP _) (hR:=fun _ _=>Rd.nil) (k:=?_);intro _)|refine Tc ?_|exact Tz)
 rename_i g2 g4 gR a0 p0 a1 p1 a2 p2 a3 p3 a4 p4 a5 p5;refine WO.acallR (hc:=hN p0 p1 p2 p3 p4 p5 gR) (hR:=fun w1 hm=>?_) (k:=?_)
 ·exact⟨Hs.sg hm,ya.cons (RdP.own0 (c:=32) (g:=p0) (X:=be 32 x0) hm Hs.a (by rw[zk];decide) (by decide)) (ya.cons (RdP.own0 (c:=32) (g:=p1) (X:=be 32 x1) hm Hs.a (by rw[zk];decide) (by decide)) (ya.cons (RdP.own0 (c:=32) (g:=p2) (X:=be 32 x2) hm Hs.a (by rw[zk];decide) (by decide)) (ya.cons (RdP.own0 (c:=32) (g:=p3) (X:=be 32 x3) hm Hs.a (by rw[zk];decide) (by decide)) (ya.cons (RdP.own0 (c:=32) (g:=p4) (X:=be 32 x4) hm Hs.a (by rw[zk];decide) (by decide)) (ya.cons (RdP.own0 (c:=32) (g:=p5) (X:=be 32 x5) hm Hs.a (by rw[zk];decide) (by decide)) ya.nil)))))⟩
 repeat (first|refine Td ?_|(refine Tm ?_;intro _)|refine Tc ?_|exact Tz)
end
section
open Kp
variable {P:Program} {w0:World} {gs:List Nat} {n:Nat} {fl:List Nat} {Q:Exit→Act→World→Prop} {ops:List Oper} {L0:List Ent}
variable {tail rest:List Oper} {i:Nat} {C:zE→Prop} {K:zE→List (Nat × Value)} {N:zE→List (Nat × Ent)}
variable {d:Nat} {op:Op} {ty:TypeId} {pos:String} {after:Array Edge} {gd:Option (Nat × Bool)}
theorem Fn.ex {f:FuncId} {ar:List Value} {R:World→Prop} {v:Value} (h:Fn P f ar R (Is v)):Fn P f ar R (Ex (fun _=>v) (fun _=>[]) (fun _=>True)) :=
 fun w hw=>(h w hw).mono (fun e w' ⟨v',N,h1,h2,_,h4⟩=>⟨v',[],h1,h2,iT.nil _ _,fun _=>0,h4,rfl,trivial⟩)
theorem DQ.acallV {f:FuncId} [Cal P f] {x:Operand} {xs:Array Operand} {ats:Array TypeId} {fs ar cs ar' : List Value} {v:Value} (hc:Fn P f ar' Tr (Is v)) (hx:∀ s,ev (K s) x=some (.func (.func f) fs.toArray cs.toArray):=by (intro s;rfl)) (ha:∀ s,evs (K s) xs.toList=some ar:=by (intro s;rfl)) (hh:fs++ar++cs=ar':=by rfl)
  (k:DQ P w0 gs n fl Q ops L0 tail (i+1) rest (fun s=>C s∧True) (fun s=>(d,v)::K s) N) (hfl:fl.contains i=false:=by rfl) (hw:∀ s,wk ops (K s) gd=some true:=by intro _;rfl) (hd:Nat.blt d n=true:=by rfl) :
  DQ P w0 gs n fl Q ops L0 tail i (⟨some d,.call { callee:=.value x,args:=xs,argTypes:=ats },ty,pos,after,gd⟩::rest) C K N :=
 DQ.callsE (fs:=fun _=>fs) (cs:=fun _=>cs) (R:=fun _=>Tr) (vf:=fun _ _=>v) (Nf:=fun _ _=>[]) (S:=fun _ _=>True) (fun _=>[]) (fun _=>.nil) (fun _=>⟨fun _=>0,trivial⟩) (fun _ _=>hc.ex) hx ha (fun _=>hh) (fun _ _ _ _=>trivial) Dp.const Dp.const Dp.const k hfl hw hd
end
def prC (p q:Nat) (s:List Nat) (x base y draw:Nat):Nat:=mR q s [be 32 base,be 32 (base ^ x%p),be 32 y,be 32 (y ^ x%p),be 32 (base ^ draw%p),be 32 (y ^ draw%p)]
def prB (p q x base y draw:Nat):Bool:=yB p base && yB p y && zJ x x q && zJ draw draw q && decide (draw≠0)
abbrev prV (b:Bool) (c s:Nat):Value:=.tuple #[.agg #[.int .u64 ((wd 0 (okV b c):Nat):Int),.int .u64 ((wd 1 (okV b c):Nat):Int),.int .u64 ((wd 2 (okV b c):Nat):Int),.int .u64 ((wd 3 (okV b c):Nat):Int),.int .u64 ((wd 0 (okV b s):Nat):Int),.int .u64 ((wd 1 (okV b s):Nat):Int),.int .u64 ((wd 2 (okV b s):Nat):Int),.int .u64 ((wd 3 (okV b s):Nat):Int)],.int .i64 (okE b)]
theorem vZ {q:Nat} (h:0<q) (s:List Nat) (Ps:List (List Nat)):mR q s Ps<q:=Nat.mod_lt _ h
theorem al (p q g h:Nat) (s:ByteArray) (x base y draw c S:Nat) (hp:p<zd) (hq:q<zd) (hx:x<zd) (hb:base<zd) (hy:y<zd) (hd:draw<zd) (hB:prB p q x base y draw=false) :
  Fn Tryz.prog 48 [yo p q g h,.string s,zj x,zj base,zj y,zj draw] Tr (Is (prV false c S)):=by
 have h1:=aau p q g h base y hb hy hp;have h2:=sR p q g h s x hx hq;have h3:=sR p q g h s draw hd hq;unfold prB at hB;cases e1:(yB p base && yB p y) with
 | false =>
  rw[e1] at h1;clear hB e1;refine Fn.enter Tryz.func48 rfl rfl rfl ?_;intro w hw
  repeat (first|refine Td ?_|(refine Tm ?_;intro _)|refine WO.acall (hc:=h1) (k:=?_)|refine WO.acall (hc:=h2) (k:=?_)|refine WO.acall (hc:=h3) (k:=?_)|refine Tc ?_|exact Tz)
  done
 | true =>
 rw[e1] at h1 hB;clear e1;cases e2:zJ x x q with
 | false =>
  rw[e2] at h2;clear hB e2;refine Fn.enter Tryz.func48 rfl rfl rfl ?_;intro w hw
  repeat (first|refine Td ?_|(refine Tm ?_;intro _)|refine WO.acall (hc:=h1) (k:=?_)|refine WO.acall (hc:=h2) (k:=?_)|refine WO.acall (hc:=h3) (k:=?_)|refine Tc ?_|exact Tz)
  done
 | true =>
 rw[e2] at h2 hB;clear e2;cases e3:zJ draw draw q with
 | false =>
  rw[e3] at h3;clear hB e3;refine Fn.enter Tryz.func48 rfl rfl rfl ?_;intro w hw
  repeat (first|refine Td ?_|(refine Tm ?_;intro _)|refine WO.acall (hc:=h1) (k:=?_)|refine WO.acall (hc:=h2) (k:=?_)|refine WO.acall (hc:=h3) (k:=?_)|refine Tc ?_|exact Tz)
  done
 | true =>
 rw[e3] at h3 hB;clear e3;have e4:draw=0:=by simpa using hB
 have e4' : decide (draw=0)=true:=by simpa using e4
 refine Fn.enter Tryz.func48 rfl rfl rfl ?_;intro w hw
 repeat (first|refine Td ?_|(refine Tm ?_;intro _)|refine WO.acall (hc:=h1) (k:=?_)|refine WO.acall (hc:=h2) (k:=?_)|refine WO.acall (hc:=h3) (k:=?_)|refine WO.does yv ?_|refine Tc ?_|exact Tz)
 done
theorem cS (p q g h:Nat) (s:ByteArray) (x base y draw c:Nat) (hp:p<zd) (hq:q<zd) (hx:x<zd) (hb:base<zd) (hy:y<zd) (hd:draw<zd) (hs:s.size≤274877906944) (hB:prB p q x base y draw=true) (hc:prC p q (yj s) x base y draw=c) :
  Fn Tryz.prog 48 [yo p q g h,.string s,zj x,zj base,zj y,zj draw] Tr (Is (prV true c ((draw+x*c%q)%q))):=by
 have h1:=aau p q g h base y hb hy hp;have h2:=sR p q g h s x hx hq;have h3:=sR p q g h s draw hd hq;unfold prB at hB;simp only[Bool.and_eq_true,decide_eq_true_eq] at hB;obtain⟨⟨⟨⟨hgb,hgy⟩,e2⟩,e3⟩,e4⟩:=hB;rw[hgb,hgy] at h1;rw[e2] at h2;rw[e3] at h3;have e4' : decide (draw=0)=false:=by simpa using e4
 have hq1:=(zK e2).1;have p1:=jA p q g h s base x hb hx hp;have p2:=jA p q g h s y x hy hx hp;have p3:=jA p q g h s base draw hb hd hp;have p4:=jA p q g h s y draw hy hd hp;rw[hgb] at p1 p3;rw[hgy] at p2 p4;have hC:=fun j=>fK p q g h s base (base ^ x%p) y (y ^ x%p) (base ^ draw%p) (y ^ draw%p) j 0 6 hq (by omega) hs;have hcl:prC p q (yj s) x base y draw<q:=vZ (by omega) _ _;rw[show mR q (yj s) [be 32 base,be 32 (base ^ x%p),be 32 y,be 32 (y ^ x%p),be 32 (base ^ draw%p),be 32 (y ^ draw%p)]=prC p q (yj s) x base y draw from rfl] at hC;rw[hc] at hC hcl;clear hc;have hM:=kU p q g h x c hx (Nat.lt_trans hcl hq) hq;have hxq:=(zK e2).2.1;have hdq:=(zK e3).2.1;rw[show zJ x c q=true by simp[zJ,hq1,hxq,hcl]] at hM;have hml:x*c%q<q:=Nat.mod_lt _ (by omega);have hA:=nn p q g h draw (x*c%q) hd (Nat.lt_trans hml hq) hq;rw[show zJ draw (x*c%q) q=true by simp[zJ,hq1,hdq,hml]] at hA;generalize (draw+x*c%q)%q=S at *;generalize x*c%q=M at *;generalize base ^ x%p=P1 at *;generalize y ^ x%p=P2 at *;generalize base ^ draw%p=P3 at *;generalize y ^ draw%p=P4 at *;refine Fn.enter Tryz.func48 rfl rfl rfl ?_;intro w hw
 repeat (first|refine Td ?_|(refine Tm ?_;intro _)|refine WO.acall (hc:=h1) (k:=?_)|refine WO.acall (hc:=h2) (k:=?_)|refine WO.acall (hc:=h3) (k:=?_)|refine WO.does yv ?_|refine Tc ?_|exact Tz)
 refine WC.adraw 22 (k:=?_)
 repeat (first|refine Da ?_|refine DQ.acallV (hc:=p1) (k:=?_)|refine DQ.acallV (hc:=p2) (k:=?_)|refine DQ.acallV (hc:=p3) (k:=?_)|refine DQ.acallV (hc:=p4) (k:=?_)|refine DQ.makes (fun s _=>ze (cs:=zc base++(zc P1++(zc y++(zc P2++(zc P3++zc P4))))) rfl (by decide) rfl) Dp.const Dp.const ?_|refine DQ.acallB 19 (fun s=>⟨s 19 0,24,zc base++(zc P1++(zc y++(zc P2++(zc P3++zc P4))))⟩) (fun s=>hC (s 19 0)) (fun s w hm=>Hs.seg Hs.here hm) ?_|refine Dc ?_)
 refine DQ.anil (k:=?_);intro sx _;generalize sx 21 0=gK;generalize sx 19 0=gR
 repeat (first|refine Td ?_|(refine Tm ?_;intro _)|refine WO.acall (hc:=hM) (k:=?_)|refine WO.acall (hc:=hA) (k:=?_)|refine Tc ?_|exact Tz)
 done
theorem acH (p q g h:Nat) (s:ByteArray) (x base y draw:Nat) (hp:p<zd) (hq:q<zd) (hx:x<zd) (hb:base<zd) (hy:y<zd) (hd:draw<zd) (hs:s.size≤274877906944) :
  Fn Tryz.prog 48 [yo p q g h,.string s,zj x,zj base,zj y,zj draw] Tr (Is (prV (prB p q x base y draw) (prC p q (yj s) x base y draw) ((draw+x*prC p q (yj s) x base y draw%q)%q))):=by
 generalize hc:prC p q (yj s) x base y draw=c;cases hB:prB p q x base y draw with
 | false=>exact al p q g h s x base y draw c _ hp hq hx hb hy hd hB
 | true=>exact cS p q g h s x base y draw c hp hq hx hb hy hd hs hB hc
def vW (q c:Nat):Nat:=(0+q - c)%q
def ckC (p q:Nat) (s:List Nat) (base a y b c S:Nat):Nat:=mR q s [be 32 base,be 32 a,be 32 y,be 32 b,be 32 (base ^ S%p*(a ^ vW q c%p)%p),be 32 (y ^ S%p*(b ^ vW q c%p)%p)]
def ckB (p q:Nat) (s:List Nat) (base a y b c S:Nat):Bool:=gIn p q base && gIn p q a && gIn p q y && gIn p q b && zJ c c q && zJ S S q && decide (ckC p q s base a y b c S=c)
abbrev pfV (c s:Nat):Value:=.agg #[.int .u64 ((wd 0 c:Nat):Int),.int .u64 ((wd 1 c:Nat):Int),.int .u64 ((wd 2 c:Nat):Int),.int .u64 ((wd 3 c:Nat):Int),.int .u64 ((wd 0 s:Nat):Int),.int .u64 ((wd 1 s:Nat):Int),.int .u64 ((wd 2 s:Nat):Int),.int .u64 ((wd 3 s:Nat):Int)]
theorem vm {p q a:Nat} (h:gIn p q a=true):yB p a=true:=by
 unfold gIn at h;simp at h;exact h.1
section
variable {P:Program} {w0:World} {gs:List Nat} {K:List (Nat × Value)} {L:List Ent}
theorem zA {t len elem size i n ty:Nat} {k:IntKind} {x y:Operand} {cs vs:List Value} [ArT P t len elem size] [AgT P elem n] (hx:ev K x=some (.agg cs.toArray)) (hy:ev K y=some (.int k (i:Int))) (hi:i<len) (hc:cut cs (i*size) n=vs) (hsn:size=n:=by rfl) :
  Does P w0 gs K L (.index t x y) ty (.agg vs.toArray):=by
 intro a w hk _ o ho _;subst hc;subst hsn;have hu:∀ w,(underlying t).run P w=.ok (.array len elem) w:=fun w=>by simp[underlying,ArT.under (P:=P) (t:=t)]
 simp only[execOp,ho,hk.eval hx,hk.eval hy,Instr.index,asIntOf,Sem.run_bind,Sem.run_pure,Result.andThen_ok,hu];rw[if_pos ⟨by omega,by omega⟩];simp only[Sem.run_bind,ArT.size (P:=P) (t:=t),Result.andThen_ok,Sem.run_pure,Int.toNat_natCast,Go.part,AgT.agg (P:=P) (t:=elem) w,if_true,AgT.size (P:=P) (t:=elem) w];simp[cut,List.extract_eq_take_drop]
end
section
variable (p q g h:Nat) (s:ByteArray)
theorem bC (base a y b c S:Nat) (hp:p<zd) (hq:q<zd) (hbs:base<zd) (ha:a<zd) (hy:y<zd) (hb:b<zd) (hc:c<zd) (hS:S<zd)
  (hB:(gIn p q base && gIn p q a && gIn p q y && gIn p q b && zJ c c q && zJ S S q)=false) :
  Fn Tryz.prog 63 [yo p q g h,.string s,zj base,zj a,zj y,zj b,pfV c S] Tr (Is (.bool false)):=by
 have h1:=rL p q g h base hbs hp hq;have h2:=rL p q g h a ha hp hq;have h3:=rL p q g h y hy hp hq;have h4:=rL p q g h b hb hp hq;have h5:=sR p q g h s c hc hq;have h6:=sR p q g h s S hS hq;cases e1:gIn p q base with
 | false =>
  rw[e1] at h1;clear hB h2 h3 h4 h5 h6;refine Fn.enter Tryz.func63 rfl rfl rfl ?_;intro w hw
  repeat (first|refine WC.loopU 4 ?_|refine Ta ?_|(refine Tm ?_;intro _)|refine WO.does (zA (len:=4) (i:=0) rfl rfl (by decide) rfl) ?_|refine WO.acall (hc:=h1) (k:=?_)|refine Tc ?_|exact Tz)
  done
 | true =>
 rw[e1] at h1 hB;cases e2:gIn p q a with
 | false =>
  rw[e2] at h2;clear hB h3 h4 h5 h6;refine Fn.enter Tryz.func63 rfl rfl rfl ?_;intro w hw
  repeat (first|refine WC.loopU 4 ?_|refine Ta ?_|(refine Tm ?_;intro _)|refine WO.does (zA (len:=4) (i:=0) rfl rfl (by decide) rfl) ?_|refine WO.acall (hc:=h1) (k:=?_)|refine Tc ?_|exact Tz)
  repeat (first|refine Ta ?_|(refine Tm ?_;intro _)|refine WO.does (zA (len:=4) (i:=1) rfl rfl (by decide) rfl) ?_|refine WO.acall (hc:=h2) (k:=?_)|refine Tc ?_|exact Tz)
  done
 | true =>
 rw[e2] at h2 hB;cases e3:gIn p q y with
 | false =>
  rw[e3] at h3;clear hB h4 h5 h6;refine Fn.enter Tryz.func63 rfl rfl rfl ?_;intro w hw
  repeat (first|refine WC.loopU 4 ?_|refine Ta ?_|(refine Tm ?_;intro _)|refine WO.does (zA (len:=4) (i:=0) rfl rfl (by decide) rfl) ?_|refine WO.acall (hc:=h1) (k:=?_)|refine Tc ?_|exact Tz)
  repeat (first|refine Ta ?_|(refine Tm ?_;intro _)|refine WO.does (zA (len:=4) (i:=1) rfl rfl (by decide) rfl) ?_|refine WO.acall (hc:=h2) (k:=?_)|refine Tc ?_|exact Tz)
  repeat (first|refine Ta ?_|(refine Tm ?_;intro _)|refine WO.does (zA (len:=4) (i:=2) rfl rfl (by decide) rfl) ?_|refine WO.acall (hc:=h3) (k:=?_)|refine Tc ?_|exact Tz)
  done
 | true =>
 rw[e3] at h3 hB;cases e4:gIn p q b with
 | false =>
  rw[e4] at h4;clear hB h5 h6;refine Fn.enter Tryz.func63 rfl rfl rfl ?_;intro w hw
  repeat (first|refine WC.loopU 4 ?_|refine Ta ?_|(refine Tm ?_;intro _)|refine WO.does (zA (len:=4) (i:=0) rfl rfl (by decide) rfl) ?_|refine WO.acall (hc:=h1) (k:=?_)|refine Tc ?_|exact Tz)
  repeat (first|refine Ta ?_|(refine Tm ?_;intro _)|refine WO.does (zA (len:=4) (i:=1) rfl rfl (by decide) rfl) ?_|refine WO.acall (hc:=h2) (k:=?_)|refine Tc ?_|exact Tz)
  repeat (first|refine Ta ?_|(refine Tm ?_;intro _)|refine WO.does (zA (len:=4) (i:=2) rfl rfl (by decide) rfl) ?_|refine WO.acall (hc:=h3) (k:=?_)|refine Tc ?_|exact Tz)
  repeat (first|refine Ta ?_|(refine Tm ?_;intro _)|refine WO.does (zA (len:=4) (i:=3) rfl rfl (by decide) rfl) ?_|refine WO.acall (hc:=h4) (k:=?_)|refine Tc ?_|exact Tz)
  done
 | true =>
 rw[e4] at h4 hB;cases e5:zJ c c q with
 | false =>
  rw[e5] at h5;clear hB h6;refine Fn.enter Tryz.func63 rfl rfl rfl ?_;intro w hw
  repeat (first|refine WC.loopU 4 ?_|refine Ta ?_|(refine Tm ?_;intro _)|refine WO.does (zA (len:=4) (i:=0) rfl rfl (by decide) rfl) ?_|refine WO.acall (hc:=h1) (k:=?_)|refine Tc ?_|exact Tz)
  repeat (first|refine Ta ?_|(refine Tm ?_;intro _)|refine WO.does (zA (len:=4) (i:=1) rfl rfl (by decide) rfl) ?_|refine WO.acall (hc:=h2) (k:=?_)|refine Tc ?_|exact Tz)
  repeat (first|refine Ta ?_|(refine Tm ?_;intro _)|refine WO.does (zA (len:=4) (i:=2) rfl rfl (by decide) rfl) ?_|refine WO.acall (hc:=h3) (k:=?_)|refine Tc ?_|exact Tz)
  repeat (first|refine Ta ?_|(refine Tm ?_;intro _)|refine WO.does (zA (len:=4) (i:=3) rfl rfl (by decide) rfl) ?_|refine WO.acall (hc:=h4) (k:=?_)|refine Tc ?_|exact Tz)
  repeat (first|refine Ta ?_|(refine Tm ?_;intro _)|refine WO.acall (hc:=h5) (k:=?_)|refine Tc ?_|exact Tz)
  done
 | true =>
 rw[e5] at h5 hB;have e6:zJ S S q=false:=by simpa using hB
 rw[e6] at h6;clear hB;refine Fn.enter Tryz.func63 rfl rfl rfl ?_;intro w hw
 repeat (first|refine WC.loopU 4 ?_|refine Ta ?_|(refine Tm ?_;intro _)|refine WO.does (zA (len:=4) (i:=0) rfl rfl (by decide) rfl) ?_|refine WO.acall (hc:=h1) (k:=?_)|refine Tc ?_|exact Tz)
 repeat (first|refine Ta ?_|(refine Tm ?_;intro _)|refine WO.does (zA (len:=4) (i:=1) rfl rfl (by decide) rfl) ?_|refine WO.acall (hc:=h2) (k:=?_)|refine Tc ?_|exact Tz)
 repeat (first|refine Ta ?_|(refine Tm ?_;intro _)|refine WO.does (zA (len:=4) (i:=2) rfl rfl (by decide) rfl) ?_|refine WO.acall (hc:=h3) (k:=?_)|refine Tc ?_|exact Tz)
 repeat (first|refine Ta ?_|(refine Tm ?_;intro _)|refine WO.does (zA (len:=4) (i:=3) rfl rfl (by decide) rfl) ?_|refine WO.acall (hc:=h4) (k:=?_)|refine Tc ?_|exact Tz)
 repeat (first|refine Ta ?_|(refine Tm ?_;intro _)|refine WO.acall (hc:=h5) (k:=?_)|refine WO.acall (hc:=h6) (k:=?_)|refine Tc ?_|exact Tz)
 done
end
section
variable (p q g h:Nat) (s:ByteArray)
theorem aS (base a y b c S:Nat) (hp:p<zd) (hq:q<zd) (hbs:base<zd) (ha:a<zd) (hy:y<zd) (hb:b<zd) (hc:c<zd) (hS:S<zd) (hs:s.size≤68719476736)
  (hB:(gIn p q base && gIn p q a && gIn p q y && gIn p q b && zJ c c q && zJ S S q)=true) :
  Fn Tryz.prog 63 [yo p q g h,.string s,zj base,zj a,zj y,zj b,pfV c S] Tr (Is (.bool (decide (ckC p q (yj s) base a y b c S=c)))):=by
 have h1:=rL p q g h base hbs hp hq;have h2:=rL p q g h a ha hp hq;have h3:=rL p q g h y hy hp hq;have h4:=rL p q g h b hb hp hq;have h5:=sR p q g h s c hc hq;have h6:=sR p q g h s S hS hq;simp only[Bool.and_eq_true] at hB;obtain⟨⟨⟨⟨⟨e1,e2⟩,e3⟩,e4⟩,e5⟩,e6⟩:=hB;rw[e1] at h1;rw[e2] at h2;rw[e3] at h3;rw[e4] at h4;rw[e5] at h5;rw[e6] at h6;obtain⟨hq1,hcq,_⟩:=zK e5;have hbk:vW q c<q:=Nat.mod_lt _ (by omega);have hU:=aan p q g h 0 c zD hc hq;rw[show zJ 0 c q=true by simp[zJ,hq1,hcq];omega,show (0+q - c)%q=vW q c from rfl] at hU;have m1:=gv p q g h s base S a (vW q c) hbs hS ha (by omega) hp (vm e1) (vm e2);have m2:=gv p q g h s y S b (vW q c) hy hS hb (by omega) hp (vm e3) (vm e4);have hC:=fun j=>fK p q g h s base a y b (base ^ S%p*(a ^ vW q c%p)%p) (y ^ S%p*(b ^ vW q c%p)%p) j 0 6 hq (by omega) (by omega);have hcl:ckC p q (yj s) base a y b c S<zd:=Nat.lt_trans (vZ (by omega) _ _) hq;rw[show mR q (yj s) [be 32 base,be 32 a,be 32 y,be 32 b,be 32 (base ^ S%p*(a ^ vW q c%p)%p),be 32 (y ^ S%p*(b ^ vW q c%p)%p)]=ckC p q (yj s) base a y b c S from rfl] at hC;generalize ckC p q (yj s) base a y b c S=R at *;generalize base ^ S%p*(a ^ vW q c%p)%p=P1 at *;generalize y ^ S%p*(b ^ vW q c%p)%p=P2 at *;generalize vW q c=B at *;clear e1 e2 e3 e4 e5 e6;refine Fn.enter Tryz.func63 rfl rfl rfl ?_;intro w hw
 repeat (first|refine WC.loopU 4 ?_|refine Ta ?_|(refine Tm ?_;intro _)|refine WO.does (zA (len:=4) (i:=0) rfl rfl (by decide) rfl) ?_|refine WO.acall (hc:=h1) (k:=?_)|refine Tc ?_|exact Tz)
 repeat (first|refine Ta ?_|(refine Tm ?_;intro _)|refine WO.does (zA (len:=4) (i:=1) rfl rfl (by decide) rfl) ?_|refine WO.acall (hc:=h2) (k:=?_)|refine Tc ?_|exact Tz)
 repeat (first|refine Ta ?_|(refine Tm ?_;intro _)|refine WO.does (zA (len:=4) (i:=2) rfl rfl (by decide) rfl) ?_|refine WO.acall (hc:=h3) (k:=?_)|refine Tc ?_|exact Tz)
 repeat (first|refine Ta ?_|(refine Tm ?_;intro _)|refine WO.does (zA (len:=4) (i:=3) rfl rfl (by decide) rfl) ?_|refine WO.acall (hc:=h4) (k:=?_)|refine Tc ?_|exact Tz)
 repeat (first|refine Ta ?_|(refine Tm ?_;intro _)|refine WO.acall (hc:=h5) (k:=?_)|refine WO.acall (hc:=h6) (k:=?_)|refine WO.acall (hc:=hU) (k:=?_)|refine Tc ?_|exact Tz)
 refine WC.adraw 25 (k:=?_)
 repeat (first|refine Da ?_|refine DQ.acall (hc:=m1) (k:=?_)|refine DQ.acall (hc:=m2) (k:=?_)|refine DQ.makes (fun s _=>ze (cs:=zc base++(zc a++(zc y++(zc b++(zc P1++zc P2))))) rfl (by decide) rfl) Dp.const Dp.const ?_|refine DQ.acallB 19 (fun s=>⟨s 19 0,24,zc base++(zc a++(zc y++(zc b++(zc P1++zc P2))))⟩) (fun s=>hC (s 19 0)) (fun s w hm=>Hs.seg Hs.here hm) ?_|refine DQ.does (fun s _=>yv) Dp.const ?_|refine Dc ?_)
 refine DQ.anil (k:=?_);intro sx _
 repeat (first|refine Tw ?_|(refine Tm ?_;intro _)|exact Tz)
 done
theorem aa8 (base a y b c S:Nat) (hp:p<zd) (hq:q<zd) (hbs:base<zd) (ha:a<zd) (hy:y<zd) (hb:b<zd) (hc:c<zd) (hS:S<zd) (hs:s.size≤68719476736) :
  Fn Tryz.prog 63 [yo p q g h,.string s,zj base,zj a,zj y,zj b,pfV c S] Tr (Is (.bool (ckB p q (yj s) base a y b c S))):=by
 unfold ckB;cases hB:(gIn p q base && gIn p q a && gIn p q y && gIn p q b && zJ c c q && zJ S S q) with
 | false=>rw[Bool.false_and];exact bC p q g h s base a y b c S hp hq hbs ha hy hb hc hS hB
 | true=>rw[Bool.true_and];exact aS p q g h s base a y b c S hp hq hbs ha hy hb hc hS hs hB
end
end Sx
end
section
open Go Go.RowKit Go.BigFrame
namespace Sx
abbrev ui (a b:Nat):List Value:=[.int .u64 ((wd 0 a:Nat):Int),.int .u64 ((wd 1 a:Nat):Int),.int .u64 ((wd 2 a:Nat):Int),.int .u64 ((wd 3 a:Nat):Int),.int .u64 ((wd 0 b:Nat):Int),.int .u64 ((wd 1 b:Nat):Int),.int .u64 ((wd 2 b:Nat):Int),.int .u64 ((wd 3 b:Nat):Int)]
theorem dU (op:BinOp) (x y:Operand) (a b:Array Value) (w:World):(eqGuard op 48 x y (.agg a) (.agg b)).run Tryz.prog w=.ok () w:=by cases op<;>kernel_rfl
end Sx
end
end Go.Proofs.YteibfbjpkjkejaaGreatDoor
