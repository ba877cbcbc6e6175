/- Part 26 of the proof. -/
import Derived.Test.YtiaibpcaloigkaaGreatDoorD24
import Derived.Test.YtiaibpcaloigkaaGreatDoorD25
import Derived.Laws.StructEq
import Derived.DeepKeys
set_option linter.unusedSimpArgs false
set_option linter.unusedVariables false
set_option maxHeartbeats 8000000
namespace Go.Proofs.YtiaibpcaloigkaaGreatDoor
section
open Go Go.RowKit Go.BigFrame
namespace Sx
attribute [local irreducible] DQ WC WO WX wd
abbrev afb (p q g h:Nat) (s:ByteArray):Value:=.agg #[.int .u64 ((wd 0 p:Nat):Int),.int .u64 ((wd 1 p:Nat):Int),.int .u64 ((wd 2 p:Nat):Int),.int .u64 ((wd 3 p:Nat):Int),.int .u64 ((wd 0 q:Nat):Int),.int .u64 ((wd 1 q:Nat):Int),.int .u64 ((wd 2 q:Nat):Int),.int .u64 ((wd 3 q:Nat):Int),.int .u64 ((wd 0 g:Nat):Int),.int .u64 ((wd 1 g:Nat):Int),.int .u64 ((wd 2 g:Nat):Int),.int .u64 ((wd 3 g:Nat):Int),.int .u64 ((wd 0 h:Nat):Int),.int .u64 ((wd 1 h:Nat):Int),.int .u64 ((wd 2 h:Nat):Int),.int .u64 ((wd 3 h:Nat):Int),.string s]
theorem adS (b:Bool):decide (okE b=0)=b:=by cases b<;>rfl
section
variable (p q g h:Nat) (s:ByteArray)
theorem sc (a:Nat) (ha:a<ze) (hq:q<ze):Fn Tryz.prog 155 [afb p q g h s,zi a] Tr (Is (.bool (zK a a q))):=by
 have hO:=mf p q g h a a ha ha hq;generalize zK a a q=b at *;refine Fn.enter Tryz.func155 rfl rfl rfl ?_;intro w hw
 repeat (first|refine Td ?_|(refine Tm ?_;intro _)|refine WO.acall (hc:=hO) (k:=?_)|refine Tc ?_|exact Tz)
 cases b<;>exact WX.aret1 (hp:=rfl)
theorem jy (a n:Nat) (ha:a<ze) (hn:n<ze) (hp:p<ze):Fn Tryz.prog 172 [afb p q g h s,zi a,zi n] Tr (Is (zi (okV (yx p a) (a ^ n%p)))):=by
 have hO:=vF p q g h a n ha hn hp;refine Fn.enter Tryz.func172 rfl rfl rfl ?_;intro w hw
 repeat (first|refine Td ?_|(refine Tm ?_;intro _)|refine WO.acall (hc:=hO) (k:=?_)|refine Tc ?_|exact Tz)
theorem Seg.left {w:World} {b o:Nat} {xs ys:LV} (h:Seg w b o (xs++ys)):Seg w b o xs:=fun i v hv=>h i v (by rw[List.getElem?_append_left (by rcases Nat.lt_or_ge i xs.length with h|h;exact h;rw[List.getElem?_eq_none h] at hv;cases hv)];exact hv)
theorem Seg.right {w:World} {b o:Nat} {xs ys:LV} (h:Seg w b o (xs++ys)):Seg w b (o+xs.length) ys:=fun i v hv=>by
 have:=h (xs.length+i) v (by rw[List.getElem?_append_right Om,Nat.add_sub_cancel_left];exact hv);rwa [← Nat.add_assoc] at this
theorem aaO {w:World} {b:Nat} {α:Type} {xa xb:α} (f:α→Nat) (h:Seg w b 0 (zc (f xa)++zc (f xb))):∀ (k:Nat) (x:α),[xa,xb][k]?=some x→Seg w b (0+k*4) (zc (f x))
 | 0,x,hx=>by cases hx;exact h.left
 | 1,x,hx=>by cases hx;exact h.right
 | k+2,x,hx=>by simp at hx
theorem ft (a n b m:Nat) (ha:a<ze) (hn:n<ze) (hb:b<ze) (hm:m<ze) (hp:p<ze) (hma:yx p a=true) (hmb:yx p b=true):Fn Tryz.prog 158 [afb p q g h s,zi a,zi n,zi b,zi m] Tr (Is (zi ((a ^ n%p)*(b ^ m%p)%p))):=by
 have h1:=(yW hma).1;have hO:=fun gA gN=>oX p q g h hp h1 [⟨(a,n),ha,hn,hma⟩,⟨(b,m),hb,hm,hmb⟩] gA 0 gN 0 2 2 Sm;have hR:ud p [⟨(a,n),ha,hn,hma⟩,⟨(b,m),hb,hm,hmb⟩]=(a ^ n%p)*(b ^ m%p)%p:=by
  simp only[ud,List.foldl_cons,List.foldl_nil,Nat.one_mul,Nat.mod_mod]
 rw[hR] at hO;clear hR;generalize (a ^ n%p)*(b ^ m%p)%p=R at *;refine Fn.enter Tryz.func158 rfl rfl rfl ?_;intro w hw
 repeat (first|refine Td ?_|(refine Tm ?_;intro _)|(refine WO.makes (zh (cs:=zc a++zc b) rfl Dt rfl) ?_;intro _)|(refine WO.makes (zh (cs:=zc n++zc m) rfl Dt rfl) ?_;intro _)|refine Tc ?_|exact Tz)
 rename_i gA gN;refine WO.acallR (hc:=hO gA gN) (hR:=fun w1 hm=>?_) (k:=?_)
 ·exact⟨(hm.ok ⟨gA,24,zc a++zc b⟩ (Hs.mem Hs.a)).lt,(hm.ok ⟨gN,24,zc n++zc m⟩ (Hs.mem Hs.a)).lt,aaO (fun x:PwT p=>x.1.1) (Hs.sg hm),aaO (fun x:PwT p=>x.1.2) (Hs.sg hm)⟩
 repeat (first|refine Td ?_|(refine Tm ?_;intro _)|refine Tc ?_|exact Tz)
theorem fb (x0 x1 x2 x3 x4 x5 b o c:Nat) (hq:q<ze) (h0:0<q) (hs:s.size≤274877906944) :
  Fn Tryz.prog 157 [afb p q g h s,.slice (some ⟨b,o,none⟩) 6 c] (fun w=>Seg w b o (zc x0++(zc x1++(zc x2++(zc x3++(zc x4++zc x5))))))
   (Is (zi (oM q (zN s) [be 32 x0,be 32 x1,be 32 x2,be 32 x3,be 32 x4,be 32 x5]))):=by
 have hP:∀ x,Fn Tryz.prog 44 [.slice none 0 0,zi x] (fun w=>Rd (.slice none 0 0) 0 [] w) (cg 5 32 (byC (be 32 x))):=fun x=>by
  have h:=yL [] x 0 none Sm;rw[List.nil_append,zk] at h;exact h
 have hb:(yz (zN s) [be 32 x0,be 32 x1,be 32 x2,be 32 x3,be 32 x4,be 32 x5]).length≤1099511627776:=by
  simp only[yz,uE,yG,List.flatMap_cons,List.flatMap_nil,List.length_append,zk,z6,List.length_nil];omega
 have hl:∀ X∈[be 32 x0,be 32 x1,be 32 x2,be 32 x3,be 32 x4,be 32 x5],∀ x∈X,x<256:=by
  intro X hX;simp only[List.mem_cons,List.not_mem_nil,or_false] at hX
  rcases hX with rfl|rfl|rfl|rfl|rfl|rfl<;>exact vk
 have hN:=fun p0 p1 p2 p3 p4 p5 gR=>sL q s [AQ p0 32 32,AQ p1 32 32,AQ p2 32 32,AQ p3 32 32,AQ p4 32 32,AQ p5 32 32] [be 32 x0,be 32 x1,be 32 x2,be 32 x3,be 32 x4,be 32 x5] gR 0 6 hq h0 hl hb hs;generalize oM q (zN s) [be 32 x0,be 32 x1,be 32 x2,be 32 x3,be 32 x4,be 32 x5]=R at *;refine Fn.enter Tryz.func157 rfl rfl rfl ?_;intro w hw;simp only[zc,List.cons_append,List.nil_append] at hw
 repeat (first|refine WX.rounds ?_|refine WC.loopU 6 ?_|refine Td ?_|(refine Tm ?_;intro _)|(refine WO.makes (yf (l:=6) (c:=6) rfl rfl Om Om Om) ?_;intro _)|(refine WO.acallN (hc:=hP _) (hR:=fun _ _=>Rd.nil) (k:=?_);intro _)|refine Tc ?_|exact Tz)
 rename_i g2 g4 gR a0 p0 a1 p1 a2 p2 a3 p3 a4 p4 a5 p5;refine WO.acallR (hc:=hN p0 p1 p2 p3 p4 p5 gR) (hR:=fun w1 hm=>?_) (k:=?_)
 ·exact⟨Hs.sg hm,zV.cons (RdP.own0 (c:=32) (g:=p0) (X:=be 32 x0) hm Hs.a (by rw[zk];decide) Dt) (zV.cons (RdP.own0 (c:=32) (g:=p1) (X:=be 32 x1) hm Hs.a (by rw[zk];decide) Dt) (zV.cons (RdP.own0 (c:=32) (g:=p2) (X:=be 32 x2) hm Hs.a (by rw[zk];decide) Dt) (zV.cons (RdP.own0 (c:=32) (g:=p3) (X:=be 32 x3) hm Hs.a (by rw[zk];decide) Dt) (zV.cons (RdP.own0 (c:=32) (g:=p4) (X:=be 32 x4) hm Hs.a (by rw[zk];decide) Dt) (zV.cons (RdP.own0 (c:=32) (g:=p5) (X:=be 32 x5) hm Hs.a (by rw[zk];decide) Dt) zV.nil)))))⟩
 repeat (first|refine Td ?_|(refine Tm ?_;intro _)|refine Tc ?_|exact Tz)
end
section
open Kp
variable {P:Program} {w0:World} {gs:LN} {n:Nat} {fl:LN} {Q:Exit→Act→World→Prop} {ops:List Oper} {L0:List Ent}
variable {tail rest:List Oper} {i:Nat} {C:zQ→Prop} {K:zQ→List (Nat × Value)} {N:zQ→List (Nat × Ent)}
variable {d:Nat} {op:Op} {ty:TypeId} {pos:String} {after:Array Edge} {gd:Option (Nat × Bool)}
theorem Fn.ex {f:FuncId} {ar:LV} {R:World→Prop} {v:Value} (h:Fn P f ar R (Is v)):Fn P f ar R (Ex (fun _=>v) (fun _=>[]) (fun _=>True)) :=
 fun w hw=>(h w hw).mono (fun e w' ⟨v',N,h1,h2,_,h4⟩=>⟨v',[],h1,h2,jV.nil _ _,fun _=>0,h4,rfl,trivial⟩)
theorem DQ.acallV {f:FuncId} [Cal P f] {x:Operand} {xs:Array Operand} {ats:Array TypeId} {fs ar cs ar' : List Value} {v:Value} (hc:Fn P f ar' Tr (Is v)) (hx:∀ s,ev (K s) x=some (.func (.func f) fs.toArray cs.toArray):=by (intro s;rfl)) (ha:∀ s,evs (K s) xs.toList=some ar:=by (intro s;rfl)) (hh:fs++ar++cs=ar':=by rfl)
  (k:DQ P w0 gs n fl Q ops L0 tail (i+1) rest (fun s=>C s∧True) (fun s=>(d,v)::K s) N) (hfl:fl.contains i=false:=by rfl) (hw:∀ s,wk ops (K s) gd=some true:=by intro _;rfl) (hd:Nat.blt d n=true:=by rfl) :
  DQ P w0 gs n fl Q ops L0 tail i (⟨some d,.call { callee:=.value x,args:=xs,argTypes:=ats },ty,pos,after,gd⟩::rest) C K N :=
 DQ.callsE (fs:=fun _=>fs) (cs:=fun _=>cs) (R:=fun _=>Tr) (vf:=fun _ _=>v) (Nf:=fun _ _=>[]) (S:=fun _ _=>True) (fun _=>[]) (fun _=>.nil) (fun _=>⟨fun _=>0,trivial⟩) (fun _ _=>hc.ex) hx ha (fun _=>hh) (fun _ _ _ _=>trivial) Dp.const Dp.const Dp.const k hfl hw hd
end
def prC (p q:Nat) (s:LN) (x base y draw:Nat):Nat:=oM q s [be 32 base,be 32 (base ^ x%p),be 32 y,be 32 (y ^ x%p),be 32 (base ^ draw%p),be 32 (y ^ draw%p)]
def prB (p q x base y draw:Nat):Bool:=yx p base && yx p y && zK x x q && zK draw draw q && decide (draw≠0)
abbrev prV (b:Bool) (c s:Nat):Value:=.tuple #[.agg #[.int .u64 ((wd 0 (okV b c):Nat):Int),.int .u64 ((wd 1 (okV b c):Nat):Int),.int .u64 ((wd 2 (okV b c):Nat):Int),.int .u64 ((wd 3 (okV b c):Nat):Int),.int .u64 ((wd 0 (okV b s):Nat):Int),.int .u64 ((wd 1 (okV b s):Nat):Int),.int .u64 ((wd 2 (okV b s):Nat):Int),.int .u64 ((wd 3 (okV b s):Nat):Int)],.int .i64 (okE b)]
theorem vA {q:Nat} (h:0<q) (s:LN) (Ps:List (List Nat)):oM q s Ps<q:=Nat.mod_lt _ h
theorem ct (p q g h:Nat) (s:ByteArray) (x base y draw c S:Nat) (hp:p<ze) (hq:q<ze) (hx:x<ze) (hb:base<ze) (hy:y<ze) (hd:draw<ze) (hB:prB p q x base y draw=false) :
  Fn Tryz.prog 99 [vI p q g h,.string s,zi x,zi base,zi y,zi draw] Tr (Is (prV false c S)):=by
 have h1:=aaX p q g h base y hb hy hp;have h2:=sc p q g h s x hx hq;have h3:=sc p q g h s draw hd hq;unfold prB at hB;cases e1:(yx p base && yx p y) with
 | false =>
  rw[e1] at h1;clear hB e1;refine Fn.enter Tryz.func99 rfl rfl rfl ?_;intro w hw
  repeat (first|refine Td ?_|(refine Tm ?_;intro _)|refine WO.acall (hc:=h1) (k:=?_)|refine WO.acall (hc:=h2) (k:=?_)|refine WO.acall (hc:=h3) (k:=?_)|refine Tc ?_|exact Tz)
  done
 | true =>
 rw[e1] at h1 hB;clear e1;cases e2:zK x x q with
 | false =>
  rw[e2] at h2;clear hB e2;refine Fn.enter Tryz.func99 rfl rfl rfl ?_;intro w hw
  repeat (first|refine Td ?_|(refine Tm ?_;intro _)|refine WO.acall (hc:=h1) (k:=?_)|refine WO.acall (hc:=h2) (k:=?_)|refine WO.acall (hc:=h3) (k:=?_)|refine Tc ?_|exact Tz)
  done
 | true =>
 rw[e2] at h2 hB;clear e2;cases e3:zK draw draw q with
 | false =>
  rw[e3] at h3;clear hB e3;refine Fn.enter Tryz.func99 rfl rfl rfl ?_;intro w hw
  repeat (first|refine Td ?_|(refine Tm ?_;intro _)|refine WO.acall (hc:=h1) (k:=?_)|refine WO.acall (hc:=h2) (k:=?_)|refine WO.acall (hc:=h3) (k:=?_)|refine Tc ?_|exact Tz)
  done
 | true =>
 rw[e3] at h3 hB;clear e3;have e4:draw=0:=by simpa using hB
 have e4' : decide (draw=0)=true:=by simpa using e4
 refine Fn.enter Tryz.func99 rfl rfl rfl ?_;intro w hw
 repeat (first|refine Td ?_|(refine Tm ?_;intro _)|refine WO.acall (hc:=h1) (k:=?_)|refine WO.acall (hc:=h2) (k:=?_)|refine WO.acall (hc:=h3) (k:=?_)|refine WO.does yF ?_|refine Tc ?_|exact Tz)
 done
theorem aaa (p q g h:Nat) (s:ByteArray) (x base y draw c:Nat) (hp:p<ze) (hq:q<ze) (hx:x<ze) (hb:base<ze) (hy:y<ze) (hd:draw<ze) (hs:s.size≤274877906944) (hB:prB p q x base y draw=true) (hc:prC p q (zN s) x base y draw=c) :
  Fn Tryz.prog 99 [vI p q g h,.string s,zi x,zi base,zi y,zi draw] Tr (Is (prV true c ((draw+x*c%q)%q))):=by
 have h1:=aaX p q g h base y hb hy hp;have h2:=sc p q g h s x hx hq;have h3:=sc p q g h s draw hd hq;unfold prB at hB;simp only[Bool.and_eq_true,decide_eq_true_eq] at hB;obtain⟨⟨⟨⟨hgb,hgy⟩,e2⟩,e3⟩,e4⟩:=hB;rw[hgb,hgy] at h1;rw[e2] at h2;rw[e3] at h3;have e4' : decide (draw=0)=false:=by simpa using e4
 have hq1:=(zL e2).1;have p1:=jy p q g h s base x hb hx hp;have p2:=jy p q g h s y x hy hx hp;have p3:=jy p q g h s base draw hb hd hp;have p4:=jy p q g h s y draw hy hd hp;rw[hgb] at p1 p3;rw[hgy] at p2 p4;have hC:=fun j=>fb p q g h s base (base ^ x%p) y (y ^ x%p) (base ^ draw%p) (y ^ draw%p) j 0 6 hq Om hs;have hcl:prC p q (zN s) x base y draw<q:=vA Om _ _;rw[show oM q (zN s) [be 32 base,be 32 (base ^ x%p),be 32 y,be 32 (y ^ x%p),be 32 (base ^ draw%p),be 32 (y ^ draw%p)]=prC p q (zN s) x base y draw from rfl] at hC;rw[hc] at hC hcl;clear hc;have hM:=ki p q g h x c hx (Nat.lt_trans hcl hq) hq;have hxq:=(zL e2).2.1;have hdq:=(zL e3).2.1;rw[show zK x c q=true by simp[zK,hq1,hxq,hcl]] at hM;have hml:x*c%q<q:=Nat.mod_lt _ Om;have hA:=mf p q g h draw (x*c%q) hd (Nat.lt_trans hml hq) hq;rw[show zK draw (x*c%q) q=true by simp[zK,hq1,hdq,hml]] at hA;generalize (draw+x*c%q)%q=S at *;generalize x*c%q=M at *;generalize base ^ x%p=P1 at *;generalize y ^ x%p=P2 at *;generalize base ^ draw%p=P3 at *;generalize y ^ draw%p=P4 at *;refine Fn.enter Tryz.func99 rfl rfl rfl ?_;intro w hw
 repeat (first|refine Td ?_|(refine Tm ?_;intro _)|refine WO.acall (hc:=h1) (k:=?_)|refine WO.acall (hc:=h2) (k:=?_)|refine WO.acall (hc:=h3) (k:=?_)|refine WO.does yF ?_|refine Tc ?_|exact Tz)
 refine WC.adraw 22 (k:=?_)
 repeat (first|refine Da ?_|refine DQ.acallV (hc:=p1) (k:=?_)|refine DQ.acallV (hc:=p2) (k:=?_)|refine DQ.acallV (hc:=p3) (k:=?_)|refine DQ.acallV (hc:=p4) (k:=?_)|refine DQ.makes (fun s _=>zh (cs:=zc base++(zc P1++(zc y++(zc P2++(zc P3++zc P4))))) rfl Dt rfl) Dp.const Dp.const ?_|refine DQ.acallB 19 (fun s=>⟨s 19 0,24,zc base++(zc P1++(zc y++(zc P2++(zc P3++zc P4))))⟩) (fun s=>hC (s 19 0)) (fun s w hm=>Hs.seg Hs.here hm) ?_|refine Dc ?_)
 refine DQ.anil (k:=?_);intro sx _;generalize sx 21 0=gK;generalize sx 19 0=gR
 repeat (first|refine Td ?_|(refine Tm ?_;intro _)|refine WO.acall (hc:=hM) (k:=?_)|refine WO.acall (hc:=hA) (k:=?_)|refine Tc ?_|exact Tz)
 done
theorem abh (p q g h:Nat) (s:ByteArray) (x base y draw:Nat) (hp:p<ze) (hq:q<ze) (hx:x<ze) (hb:base<ze) (hy:y<ze) (hd:draw<ze) (hs:s.size≤274877906944) :
  Fn Tryz.prog 99 [vI p q g h,.string s,zi x,zi base,zi y,zi draw] Tr (Is (prV (prB p q x base y draw) (prC p q (zN s) x base y draw) ((draw+x*prC p q (zN s) x base y draw%q)%q))):=by
 generalize hc:prC p q (zN s) x base y draw=c;cases hB:prB p q x base y draw with
 | false=>exact ct p q g h s x base y draw c _ hp hq hx hb hy hd hB
 | true=>exact aaa p q g h s x base y draw c hp hq hx hb hy hd hs hB hc
def vL (q c:Nat):Nat:=(0+q - c)%q
def ckC (p q:Nat) (s:LN) (base a y b c S:Nat):Nat:=oM q s [be 32 base,be 32 a,be 32 y,be 32 b,be 32 (base ^ S%p*(a ^ vL q c%p)%p),be 32 (y ^ S%p*(b ^ vL q c%p)%p)]
def ckB (p q:Nat) (s:LN) (base a y b c S:Nat):Bool:=gIn p q base && gIn p q a && gIn p q y && gIn p q b && zK c c q && zK S S q && decide (ckC p q s base a y b c S=c)
abbrev pfV (c s:Nat):Value:=.agg #[.int .u64 ((wd 0 c:Nat):Int),.int .u64 ((wd 1 c:Nat):Int),.int .u64 ((wd 2 c:Nat):Int),.int .u64 ((wd 3 c:Nat):Int),.int .u64 ((wd 0 s:Nat):Int),.int .u64 ((wd 1 s:Nat):Int),.int .u64 ((wd 2 s:Nat):Int),.int .u64 ((wd 3 s:Nat):Int)]
theorem y6 {p q a:Nat} (h:gIn p q a=true):yx p a=true:=by
 unfold gIn at h;simp at h;exact h.1
section
variable {P:Program} {w0:World} {gs:LN} {K:List (Nat × Value)} {L:List Ent}
theorem zz {t len elem size i n ty:Nat} {k:IntKind} {x y:Operand} {cs vs:LV} [ArT P t len elem size] [AgT P elem n] (hx:ev K x=some (.agg cs.toArray)) (hy:ev K y=some (.int k (i:Int))) (hi:i<len) (hc:cut cs (i*size) n=vs) (hsn:size=n:=by rfl) :
  Does P w0 gs K L (.index t x y) ty (.agg vs.toArray):=by
 intro a w hk _ o ho _;subst hc;subst hsn;have hu:∀ w,(underlying t).run P w=.ok (.array len elem) w:=fun w=>by simp[underlying,ArT.under (P:=P) (t:=t)]
 simp only[execOp,ho,hk.eval hx,hk.eval hy,Instr.index,asIntOf,Sem.run_bind,Sem.run_pure,Result.andThen_ok,hu];rw[if_pos ⟨by omega,by omega⟩];simp only[Sem.run_bind,ArT.size (P:=P) (t:=t),Result.andThen_ok,Sem.run_pure,Int.toNat_natCast,Go.part,AgT.agg (P:=P) (t:=elem) w,if_true,AgT.size (P:=P) (t:=elem) w];simp[cut,List.extract_eq_take_drop]
end
section
variable (p q g h:Nat) (s:ByteArray)
theorem ao (base a y b c S:Nat) (hp:p<ze) (hq:q<ze) (hbs:base<ze) (ha:a<ze) (hy:y<ze) (hb:b<ze) (hc:c<ze) (hS:S<ze)
  (hB:(gIn p q base && gIn p q a && gIn p q y && gIn p q b && zK c c q && zK S S q)=false) :
  Fn Tryz.prog 85 [vI p q g h,.string s,zi base,zi a,zi y,zi b,pfV c S] Tr (Is (.bool false)):=by
 have h1:=rr p q g h base hbs hp hq;have h2:=rr p q g h a ha hp hq;have h3:=rr p q g h y hy hp hq;have h4:=rr p q g h b hb hp hq;have h5:=sc p q g h s c hc hq;have h6:=sc p q g h s S hS hq;cases e1:gIn p q base with
 | false =>
  rw[e1] at h1;clear hB h2 h3 h4 h5 h6;refine Fn.enter Tryz.func85 rfl rfl rfl ?_;intro w hw
  repeat (first|refine WC.loopU 4 ?_|refine Tj ?_|intro _|refine WO.does (zz (len:=4) (i:=0) rfl rfl Dt rfl) ?_|refine WO.acall (hc:=h1) (k:=?_)|refine Tc ?_|exact Tz)
  done
 | true =>
 rw[e1] at h1 hB;cases e2:gIn p q a with
 | false =>
  rw[e2] at h2;clear hB h3 h4 h5 h6;refine Fn.enter Tryz.func85 rfl rfl rfl ?_;intro w hw
  repeat (first|refine WC.loopU 4 ?_|refine Tj ?_|intro _|refine WO.does (zz (len:=4) (i:=0) rfl rfl Dt rfl) ?_|refine WO.acall (hc:=h1) (k:=?_)|refine Tc ?_|exact Tz)
  repeat (first|refine Tj ?_|intro _|refine WO.does (zz (len:=4) (i:=1) rfl rfl Dt rfl) ?_|refine WO.acall (hc:=h2) (k:=?_)|refine Tc ?_|exact Tz)
  done
 | true =>
 rw[e2] at h2 hB;cases e3:gIn p q y with
 | false =>
  rw[e3] at h3;clear hB h4 h5 h6;refine Fn.enter Tryz.func85 rfl rfl rfl ?_;intro w hw
  repeat (first|refine WC.loopU 4 ?_|refine Tj ?_|intro _|refine WO.does (zz (len:=4) (i:=0) rfl rfl Dt rfl) ?_|refine WO.acall (hc:=h1) (k:=?_)|refine Tc ?_|exact Tz)
  repeat (first|refine Tj ?_|intro _|refine WO.does (zz (len:=4) (i:=1) rfl rfl Dt rfl) ?_|refine WO.acall (hc:=h2) (k:=?_)|refine Tc ?_|exact Tz)
  repeat (first|refine Tj ?_|intro _|refine WO.does (zz (len:=4) (i:=2) rfl rfl Dt rfl) ?_|refine WO.acall (hc:=h3) (k:=?_)|refine Tc ?_|exact Tz)
  done
 | true =>
 rw[e3] at h3 hB;cases e4:gIn p q b with
 | false =>
  rw[e4] at h4;clear hB h5 h6;refine Fn.enter Tryz.func85 rfl rfl rfl ?_;intro w hw
  repeat (first|refine WC.loopU 4 ?_|refine Tj ?_|intro _|refine WO.does (zz (len:=4) (i:=0) rfl rfl Dt rfl) ?_|refine WO.acall (hc:=h1) (k:=?_)|refine Tc ?_|exact Tz)
  repeat (first|refine Tj ?_|intro _|refine WO.does (zz (len:=4) (i:=1) rfl rfl Dt rfl) ?_|refine WO.acall (hc:=h2) (k:=?_)|refine Tc ?_|exact Tz)
  repeat (first|refine Tj ?_|intro _|refine WO.does (zz (len:=4) (i:=2) rfl rfl Dt rfl) ?_|refine WO.acall (hc:=h3) (k:=?_)|refine Tc ?_|exact Tz)
  repeat (first|refine Tj ?_|intro _|refine WO.does (zz (len:=4) (i:=3) rfl rfl Dt rfl) ?_|refine WO.acall (hc:=h4) (k:=?_)|refine Tc ?_|exact Tz)
  done
 | true =>
 rw[e4] at h4 hB;cases e5:zK c c q with
 | false =>
  rw[e5] at h5;clear hB h6;refine Fn.enter Tryz.func85 rfl rfl rfl ?_;intro w hw
  repeat (first|refine WC.loopU 4 ?_|refine Tj ?_|intro _|refine WO.does (zz (len:=4) (i:=0) rfl rfl Dt rfl) ?_|refine WO.acall (hc:=h1) (k:=?_)|refine Tc ?_|exact Tz)
  repeat (first|refine Tj ?_|intro _|refine WO.does (zz (len:=4) (i:=1) rfl rfl Dt rfl) ?_|refine WO.acall (hc:=h2) (k:=?_)|refine Tc ?_|exact Tz)
  repeat (first|refine Tj ?_|intro _|refine WO.does (zz (len:=4) (i:=2) rfl rfl Dt rfl) ?_|refine WO.acall (hc:=h3) (k:=?_)|refine Tc ?_|exact Tz)
  repeat (first|refine Tj ?_|intro _|refine WO.does (zz (len:=4) (i:=3) rfl rfl Dt rfl) ?_|refine WO.acall (hc:=h4) (k:=?_)|refine Tc ?_|exact Tz)
  repeat (first|refine Tj ?_|intro _|refine WO.acall (hc:=h5) (k:=?_)|refine Tc ?_|exact Tz)
  done
 | true =>
 rw[e5] at h5 hB;have e6:zK S S q=false:=by simpa using hB
 rw[e6] at h6;clear hB;refine Fn.enter Tryz.func85 rfl rfl rfl ?_;intro w hw
 repeat (first|refine WC.loopU 4 ?_|refine Tj ?_|intro _|refine WO.does (zz (len:=4) (i:=0) rfl rfl Dt rfl) ?_|refine WO.acall (hc:=h1) (k:=?_)|refine Tc ?_|exact Tz)
 repeat (first|refine Tj ?_|intro _|refine WO.does (zz (len:=4) (i:=1) rfl rfl Dt rfl) ?_|refine WO.acall (hc:=h2) (k:=?_)|refine Tc ?_|exact Tz)
 repeat (first|refine Tj ?_|intro _|refine WO.does (zz (len:=4) (i:=2) rfl rfl Dt rfl) ?_|refine WO.acall (hc:=h3) (k:=?_)|refine Tc ?_|exact Tz)
 repeat (first|refine Tj ?_|intro _|refine WO.does (zz (len:=4) (i:=3) rfl rfl Dt rfl) ?_|refine WO.acall (hc:=h4) (k:=?_)|refine Tc ?_|exact Tz)
 repeat (first|refine Tj ?_|intro _|refine WO.acall (hc:=h5) (k:=?_)|refine WO.acall (hc:=h6) (k:=?_)|refine Tc ?_|exact Tz)
 done
end
section
variable (p q g h:Nat) (s:ByteArray)
theorem bh (base a y b c S:Nat) (hp:p<ze) (hq:q<ze) (hbs:base<ze) (ha:a<ze) (hy:y<ze) (hb:b<ze) (hc:c<ze) (hS:S<ze) (hs:s.size≤68719476736)
  (hB:(gIn p q base && gIn p q a && gIn p q y && gIn p q b && zK c c q && zK S S q)=true) :
  Fn Tryz.prog 85 [vI p q g h,.string s,zi base,zi a,zi y,zi b,pfV c S] Tr (Is (.bool (decide (ckC p q (zN s) base a y b c S=c)))):=by
 have h1:=rr p q g h base hbs hp hq;have h2:=rr p q g h a ha hp hq;have h3:=rr p q g h y hy hp hq;have h4:=rr p q g h b hb hp hq;have h5:=sc p q g h s c hc hq;have h6:=sc p q g h s S hS hq;simp only[Bool.and_eq_true] at hB;obtain⟨⟨⟨⟨⟨e1,e2⟩,e3⟩,e4⟩,e5⟩,e6⟩:=hB;rw[e1] at h1;rw[e2] at h2;rw[e3] at h3;rw[e4] at h4;rw[e5] at h5;rw[e6] at h6;obtain⟨hq1,hcq,_⟩:=zL e5;have hbk:vL q c<q:=Nat.mod_lt _ Om;have hU:=aaV p q g h 0 c zC hc hq;rw[show zK 0 c q=true by simp[zK,hq1,hcq];omega,show (0+q - c)%q=vL q c from rfl] at hU;have m1:=ft p q g h s base S a (vL q c) hbs hS ha Om hp (y6 e1) (y6 e2);have m2:=ft p q g h s y S b (vL q c) hy hS hb Om hp (y6 e3) (y6 e4);have hC:=fun j=>fb p q g h s base a y b (base ^ S%p*(a ^ vL q c%p)%p) (y ^ S%p*(b ^ vL q c%p)%p) j 0 6 hq Om Om;have hcl:ckC p q (zN s) base a y b c S<ze:=Nat.lt_trans (vA Om _ _) hq;rw[show oM q (zN s) [be 32 base,be 32 a,be 32 y,be 32 b,be 32 (base ^ S%p*(a ^ vL q c%p)%p),be 32 (y ^ S%p*(b ^ vL q c%p)%p)]=ckC p q (zN s) base a y b c S from rfl] at hC;generalize ckC p q (zN s) base a y b c S=R at *;generalize base ^ S%p*(a ^ vL q c%p)%p=P1 at *;generalize y ^ S%p*(b ^ vL q c%p)%p=P2 at *;generalize vL q c=B at *;clear e1 e2 e3 e4 e5 e6;refine Fn.enter Tryz.func85 rfl rfl rfl ?_;intro w hw
 repeat (first|refine WC.loopU 4 ?_|refine Tj ?_|intro _|refine WO.does (zz (len:=4) (i:=0) rfl rfl Dt rfl) ?_|refine WO.acall (hc:=h1) (k:=?_)|refine Tc ?_|exact Tz)
 repeat (first|refine Tj ?_|intro _|refine WO.does (zz (len:=4) (i:=1) rfl rfl Dt rfl) ?_|refine WO.acall (hc:=h2) (k:=?_)|refine Tc ?_|exact Tz)
 repeat (first|refine Tj ?_|intro _|refine WO.does (zz (len:=4) (i:=2) rfl rfl Dt rfl) ?_|refine WO.acall (hc:=h3) (k:=?_)|refine Tc ?_|exact Tz)
 repeat (first|refine Tj ?_|intro _|refine WO.does (zz (len:=4) (i:=3) rfl rfl Dt rfl) ?_|refine WO.acall (hc:=h4) (k:=?_)|refine Tc ?_|exact Tz)
 repeat (first|refine Tj ?_|intro _|refine WO.acall (hc:=h5) (k:=?_)|refine WO.acall (hc:=h6) (k:=?_)|refine WO.acall (hc:=hU) (k:=?_)|refine Tc ?_|exact Tz)
 refine WC.adraw 25 (k:=?_)
 repeat (first|refine Da ?_|refine DQ.acall (hc:=m1) (k:=?_)|refine DQ.acall (hc:=m2) (k:=?_)|refine DQ.makes (fun s _=>zh (cs:=zc base++(zc a++(zc y++(zc b++(zc P1++zc P2))))) rfl Dt rfl) Dp.const Dp.const ?_|refine DQ.acallB 19 (fun s=>⟨s 19 0,24,zc base++(zc a++(zc y++(zc b++(zc P1++zc P2))))⟩) (fun s=>hC (s 19 0)) (fun s w hm=>Hs.seg Hs.here hm) ?_|refine DQ.does (fun s _=>yF) Dp.const ?_|refine Dc ?_)
 refine DQ.anil (k:=?_);intro sx _
 repeat (first|refine Tk ?_|intro _|exact Tz)
 done
theorem ab6 (base a y b c S:Nat) (hp:p<ze) (hq:q<ze) (hbs:base<ze) (ha:a<ze) (hy:y<ze) (hb:b<ze) (hc:c<ze) (hS:S<ze) (hs:s.size≤68719476736) :
  Fn Tryz.prog 85 [vI p q g h,.string s,zi base,zi a,zi y,zi b,pfV c S] Tr (Is (.bool (ckB p q (zN s) base a y b c S))):=by
 unfold ckB;cases hB:(gIn p q base && gIn p q a && gIn p q y && gIn p q b && zK c c q && zK S S q) with
 | false=>rw[Bool.false_and];exact ao p q g h s base a y b c S hp hq hbs ha hy hb hc hS hB
 | true=>rw[Bool.true_and];exact bh p q g h s base a y b c S hp hq hbs ha hy hb hc hS hs hB
end
end Sx
end
section
open Go Go.RowKit Go.BigFrame
namespace Sx
abbrev uL (a b:Nat):List Value:=[.int .u64 ((wd 0 a:Nat):Int),.int .u64 ((wd 1 a:Nat):Int),.int .u64 ((wd 2 a:Nat):Int),.int .u64 ((wd 3 a:Nat):Int),.int .u64 ((wd 0 b:Nat):Int),.int .u64 ((wd 1 b:Nat):Int),.int .u64 ((wd 2 b:Nat):Int),.int .u64 ((wd 3 b:Nat):Int)]
theorem fR (op:BinOp) (x y:Operand) (a b:Array Value) (w:World):(eqGuard op 49 x y (.agg a) (.agg b)).run Tryz.prog w=.ok () w:=by cases op<;>kernel_rfl
def hsV (h:LN):Value:=.agg (byC h).toArray
theorem mh {H:LN} (hl:(byC H).length=32):uD (fun i=>some (i*(byC (List.replicate 32 0)).length,(byC (List.replicate 32 0)).length)) (mkz 1 (byC (List.replicate 32 0))) [(0,.agg (byC H).toArray)]=some (byC H):=by
 have e1:(byC (List.replicate 32 0)).length=32:=rfl;have e2:cellsOf (.agg (byC H).toArray)=byC H:=by simp[cellsOf]
 unfold uD;simp only[e1,e2,hl,Nat.zero_mul,Nat.zero_add];rw[show (Nat.beq 32 32 && Nat.ble 32 (mkz 1 (byC (List.replicate 32 0))).length)=true from rfl];simp only[cond_true,uD];rw[zJ (by rw[hl];rfl)]
theorem aaf:WideMaps.KeyLaw Tryz.prog 70:=deep_law (m:=2) Dt Kr Kr Kr
theorem mH (D:Nat):∀ (H:LN),(∀ b∈H,b<256)→∀ i,i<H.length→∃ l,Tryz.prog.keyLits (D+1) 5 (((byC H).drop (i*1)).take 1)=some l:=by
 intro H hH i hi;have h2:((byC H).drop (i*1)).take 1=[.int .u8 ((H[i]:Nat):Int)]:=by
  rw[Nat.mul_one,List.drop_eq_getElem_cons (by rw[zd];exact hi)];simp[byC]
 rw[h2];have hb:=hH _ (List.getElem_mem hi);have w2:(Lit.int .u8 ((H[i]:Nat):Int)).wf=true:=by simp[Lit.wf,IntKind.min,IntKind.max,IntKind.signed,IntKind.bits];omega
 exact⟨_,by simp[Program.keyLits,Tryz.underlying5,w2];rfl⟩
theorem nN {α β:Type} (f:α→Option β):∀ L:List α,(∀ i∈L,∃ l,f i=some l)→∃ ls,L.mapM f=some ls
 | [],_=>⟨[],rfl⟩
 | a::L,h=>by
  obtain⟨x,hx⟩:=h a List.mem_cons_self;obtain⟨ls,hls⟩:=nN f L (fun i hi=>h i (List.mem_cons_of_mem _ hi));exact⟨x::ls,by simp[List.mapM_cons,hx,hls]⟩
theorem eB:∀ {A B:LN},byC A=byC B→A=B
 | [],[],_=>rfl
 | [],b::B,h=>by simp[byC] at h
 | a::A,[],h=>by simp[byC] at h
 | a::A,b::B,h=>by
  simp only[byC,List.map_cons,List.cons.injEq,Value.int.injEq,true_and] at h;rw[eB (A:=A) (B:=B) h.2];have:=h.1;congr 1;omega
theorem aci {A B:LN} (h:hsV A=hsV B):A=B:=by
 unfold hsV at h;have h1:byC A=byC B:=by
  injection h with h
  simpa using congrArg Array.toList h
 exact eB h1
theorem fC:∃ F:List Lit→Lit,∀ H:List Nat,(∀ b∈H,b<256)→H.length=32→∃ l,Tryz.prog.keyLits (Tryz.prog.types.size+1) 70 (byC H)=some l∧keyOf Tryz.prog 70 (hsV H)=some (F l):=by
 refine⟨fun ls=>.string (keyBytes ls),fun H hH hl=>?_⟩
 ·have c1:Tryz.prog.cellsOf 70=32:=Kr
  have c2:Tryz.prog.cellsOf 5=1:=Kr
  have hb:(byC H).length=32:=by rw[zd];exact hl
  have hk:Tryz.prog.keyType 70=true:=Kr
  have hf:(hsV H).formed Tryz.prog 70=true:=by simp[hsV,Value.formed,Tryz.underlying70,c1,hb]
  obtain⟨n,hn⟩ : ∃ n,Tryz.prog.types.size+1=n+2:=⟨Tryz.prog.types.size - 1,by have:1≤Tryz.prog.types.size:=Dkk;omega⟩;obtain⟨ls,hls⟩:=nN (fun i=>Tryz.prog.keyLits (n+1) 5 (((byC H).drop (i*1)).take 1)) (List.range 32) (fun i hi=>mH n H hH i (by have:=List.mem_range.1 hi;omega));have hkk:Tryz.prog.keyLits (n+2) 70 (byC H)=some ls.flatten:=by
   rw[Program.keyLits.eq_def];simp only[Tryz.underlying70,c1,c2,hb,if_true];rw[hls];rfl
  refine⟨ls.flatten,by rw[hn];exact hkk,?_⟩;unfold keyOf;rw[Tryz.underlying70];simp only[hk,hf,Bool.and_self,if_true,hn];rw[show (hsV H).cells.toList=byC H by simp[hsV,Value.cells],hkk];rfl
theorem ji {A B:LN} (hA:∀ b∈A,b<256) (hB:∀ b∈B,b<256) (lA:A.length=32) (lB:B.length=32) (w:World):(Op.equalIn 10000 70 (.agg (byC A).toArray) (.agg (byC B).toArray)).run Tryz.prog w=.ok (decide (A=B)) w:=by
 obtain⟨F,hF⟩:=fC;obtain⟨la,a1,a2⟩:=hF A hA lA;obtain⟨lb,b1,b2⟩:=hF B hB lB;have c1:Tryz.prog.cellsOf 70=32:=Kr
 have fA:(Value.agg (byC A).toArray).formed Tryz.prog 70=true:=by simp[Value.formed,Tryz.underlying70,c1,zd,lA]
 have fB:(Value.agg (byC B).toArray).formed Tryz.prog 70=true:=by simp[Value.formed,Tryz.underlying70,c1,zd,lB]
 obtain⟨r,hr,hiff⟩:=run_equalIn_deep (P:=Tryz.prog) 9998 2 70 Kr w (Tryz.prog.types.size+1) (Tryz.prog.types.size+1) (.agg (byC A).toArray) (.agg (byC B).toArray) la lb fA fB (by simpa [Value.cells] using a1) (by simpa [Value.cells] using b1);rw[show (9998:Nat)+2=10000 from rfl] at hr;have hrd:r=decide (A=B):=by
  by_cases e:A=B
  ·have h1:la=lb:=by
    have h2:some la=some lb:=by rw[← a1,← b1,e]
    exact Option.some.inj h2
   rw[decide_eq_true e];exact hiff.2 h1
  ·rw[decide_eq_false e];cases r with
   | false=>rfl
   | true =>
    have h1:=hiff.1 rfl;rw[h1] at a2;exact absurd (aci (aaf.inj a2 b2)) e
 rw[← hrd];exact hr
section
variable {w0:World} {gs:LN} {K:List (Nat × Value)} {L:List Ent}
theorem iT (op:BinOp) (x y:Operand) (a b:Array Value) (w:World):(eqGuard op 70 x y (.agg a) (.agg b)).run Tryz.prog w=.ok () w:=by cases op<;>kernel_rfl
theorem nZ {x y:Operand} {yt ty:TypeId} {A B:LN} {r:Bool} (hA:∀ b∈A,b<256) (hB:∀ b∈B,b<256) (lA:A.length=32) (lB:B.length=32) (hx:ev K x=some (.agg (byC A).toArray)) (hy:ev K y=some (.agg (byC B).toArray)) (hr:decide (A=B)=r):Does Tryz.prog w0 gs K L (.binOp .eql 70 x y yt) ty (.bool r):=by
 subst hr;intro ac w hk _ o ho _;simp only[execOp,ho,hk.eval hx,hk.eval hy,Sem.run_bind,iT,Result.andThen_ok,run_eql_struct,ji hA hB lA lB,Sem.run_pure]
theorem tE {x y:Operand} {yt ty:TypeId} {A B:LN} {r:Bool} (hA:∀ b∈A,b<256) (hB:∀ b∈B,b<256) (lA:A.length=32) (lB:B.length=32) (hx:ev K x=some (.agg (byC A).toArray)) (hy:ev K y=some (.agg (byC B).toArray)) (hr:(!decide (A=B))=r):Does Tryz.prog w0 gs K L (.binOp .neq 70 x y yt) ty (.bool r):=by
 subst hr;intro ac w hk _ o ho _;simp only[execOp,ho,hk.eval hx,hk.eval hy,Sem.run_bind,iT,Result.andThen_ok,run_neq_struct,ji hA hB lA lB,Sem.run_pure]
end
end Sx
end
end Go.Proofs.YtiaibpcaloigkaaGreatDoor
