/- Part 24 of the proof. -/
import Derived.Test.YtiaibpcaloigkaaGreatDoorG22
import Derived.Laws.StructEq
import Derived.DeepKeys
set_option linter.unusedSimpArgs false
set_option linter.unusedVariables false
set_option maxHeartbeats 8000000
namespace Go.Proofs.YtiaibpcaloigkaaGreatDoor
section
open Go Go.RowKit Go.BigFrame
namespace Sx
attribute [local irreducible] DQ WC WO WX wd
section
open Kp
variable {P:Program} {w0:World} {gs:LN} {n:Nat} {fl:LN} {Q:Exit→Act→World→Prop} {ops:List Oper} {L0:List Ent}
variable {tail rest:List Oper} {i:Nat} {C:zT→Prop} {K:zT→List (Nat × Value)} {N:zT→List (Nat × Ent)}
variable {d:Nat} {op:Op} {ty:TypeId} {pos:String} {after:Array Edge} {gd:Option (Nat × Bool)}
theorem Fn.ex {f:FuncId} {ar:LV} {R:World→Prop} {v:Value} (h:Fn P f ar R (Is v)):Fn P f ar R (Ex (fun _=>v) (fun _=>[]) (fun _=>True)) :=
 fun w hw=>(h w hw).mono (fun e w' ⟨v',N,h1,h2,_,h4⟩=>⟨v',[],h1,h2,fx.nil _ _,fun _=>0,h4,rfl,trivial⟩)
theorem DQ.acallV {f:FuncId} [Cal P f] {x:Operand} {xs:Array Operand} {ats:Array TypeId} {fs ar cs ar' : List Value} {v:Value} (hc:Fn P f ar' Tr (Is v)) (hx:∀ s,ev (K s) x=some (.func (.func f) fs.toArray cs.toArray):=by (intro s;rfl)) (ha:∀ s,evs (K s) xs.toList=some ar:=by (intro s;rfl)) (hh:fs++ar++cs=ar':=by rfl)
  (k:DQ P w0 gs n fl Q ops L0 tail (i+1) rest (fun s=>C s∧True) (fun s=>(d,v)::K s) N) (hfl:fl.contains i=false:=by rfl) (hw:∀ s,wk ops (K s) gd=some true:=by intro _;rfl) (hd:Nat.blt d n=true:=by rfl) :
  DQ P w0 gs n fl Q ops L0 tail i (⟨some d,.call { callee:=.value x,args:=xs,argTypes:=ats },ty,pos,after,gd⟩::rest) C K N :=
 DQ.callsE (fs:=fun _=>fs) (cs:=fun _=>cs) (R:=fun _=>Tr) (vf:=fun _ _=>v) (Nf:=fun _ _=>[]) (S:=fun _ _=>True) (fun _=>[]) (fun _=>.nil) (fun _=>⟨fun _=>0,trivial⟩) (fun _ _=>hc.ex) hx ha (fun _=>hh) (fun _ _ _ _=>trivial) Dp.const Dp.const Dp.const k hfl hw hd
end
def prC (p q:Nat) (s:LN) (x base y draw:Nat):Nat:=nB q s [be 32 base,be 32 (base ^ x%p),be 32 y,be 32 (y ^ x%p),be 32 (base ^ draw%p),be 32 (y ^ draw%p)]
def prB (p q x base y draw:Nat):Bool:=yB p base && yB p y && zP x x q && zP draw draw q && decide (draw≠0)
abbrev prV (b:Bool) (c s:Nat):Value:=.tuple #[.agg #[.int .u64 ((wd 0 (okV b c):Nat):Int),.int .u64 ((wd 1 (okV b c):Nat):Int),.int .u64 ((wd 2 (okV b c):Nat):Int),.int .u64 ((wd 3 (okV b c):Nat):Int),.int .u64 ((wd 0 (okV b s):Nat):Int),.int .u64 ((wd 1 (okV b s):Nat):Int),.int .u64 ((wd 2 (okV b s):Nat):Int),.int .u64 ((wd 3 (okV b s):Nat):Int)],.int .i64 (okE b)]
theorem vX {q:Nat} (h:0<q) (s:LN) (Ps:List (List Nat)):nB q s Ps<q:=Nat.mod_lt _ h
theorem abH (p q g h:Nat) (s:ByteArray) (x base y draw c S:Nat) (hp:p<ze) (hq:q<ze) (hx:x<ze) (hb:base<ze) (hy:y<ze) (hd:draw<ze) (hB:prB p q x base y draw=false) :
  Fn Tryz.prog 99 [vV p q g h,.string s,zk x,zk base,zk y,zk draw] Tr (Is (prV false c S)):=by
 have h1:=acg p q g h base y hb hy hp;have h2:=sI p q g h s x hx hq;have h3:=sI p q g h s draw hd hq;unfold prB at hB;cases e1:(yB p base && yB p y) with
 | false =>
  rw[e1] at h1;clear hB e1;refine Fn.enter Tryz.func99 rfl rfl rfl ?_;intro w hw
  repeat (first|refine Td ?_|(refine Tm ?_;intro _)|refine WO.acall (hc:=h1) (k:=?_)|refine WO.acall (hc:=h2) (k:=?_)|refine WO.acall (hc:=h3) (k:=?_)|refine Tc ?_|exact Tz)
  done
 | true =>
 rw[e1] at h1 hB;clear e1;cases e2:zP x x q with
 | false =>
  rw[e2] at h2;clear hB e2;refine Fn.enter Tryz.func99 rfl rfl rfl ?_;intro w hw
  repeat (first|refine Td ?_|(refine Tm ?_;intro _)|refine WO.acall (hc:=h1) (k:=?_)|refine WO.acall (hc:=h2) (k:=?_)|refine WO.acall (hc:=h3) (k:=?_)|refine Tc ?_|exact Tz)
  done
 | true =>
 rw[e2] at h2 hB;clear e2;cases e3:zP draw draw q with
 | false =>
  rw[e3] at h3;clear hB e3;refine Fn.enter Tryz.func99 rfl rfl rfl ?_;intro w hw
  repeat (first|refine Td ?_|(refine Tm ?_;intro _)|refine WO.acall (hc:=h1) (k:=?_)|refine WO.acall (hc:=h2) (k:=?_)|refine WO.acall (hc:=h3) (k:=?_)|refine Tc ?_|exact Tz)
  done
 | true =>
 rw[e3] at h3 hB;clear e3;have e4:draw=0:=by simpa using hB
 have e4' : decide (draw=0)=true:=by simpa using e4
 refine Fn.enter Tryz.func99 rfl rfl rfl ?_;intro w hw
 repeat (first|refine Td ?_|(refine Tm ?_;intro _)|refine WO.acall (hc:=h1) (k:=?_)|refine WO.acall (hc:=h2) (k:=?_)|refine WO.acall (hc:=h3) (k:=?_)|refine WO.does yO ?_|refine Tc ?_|exact Tz)
 done
theorem aaE (p q g h:Nat) (s:ByteArray) (x base y draw c:Nat) (hp:p<ze) (hq:q<ze) (hx:x<ze) (hb:base<ze) (hy:y<ze) (hd:draw<ze) (hs:s.size≤274877906944) (hB:prB p q x base y draw=true) (hc:prC p q (zN s) x base y draw=c) :
  Fn Tryz.prog 99 [vV p q g h,.string s,zk x,zk base,zk y,zk draw] Tr (Is (prV true c ((draw+x*c%q)%q))):=by
 have h1:=acg p q g h base y hb hy hp;have h2:=sI p q g h s x hx hq;have h3:=sI p q g h s draw hd hq;unfold prB at hB;simp only[Bool.and_eq_true,decide_eq_true_eq] at hB;obtain⟨⟨⟨⟨hgb,hgy⟩,e2⟩,e3⟩,e4⟩:=hB;rw[hgb,hgy] at h1;rw[e2] at h2;rw[e3] at h3;have e4' : decide (draw=0)=false:=by simpa using e4
 have hq1:=(zQ e2).1;have p1:=jA p q g h s base x hb hx hp;have p2:=jA p q g h s y x hy hx hp;have p3:=jA p q g h s base draw hb hd hp;have p4:=jA p q g h s y draw hy hd hp;rw[hgb] at p1 p3;rw[hgy] at p2 p4;have hC:=fun j=>ek p q g h s base (base ^ x%p) y (y ^ x%p) (base ^ draw%p) (y ^ draw%p) j 0 6 hq Om hs;have hcl:prC p q (zN s) x base y draw<q:=vX Om _ _;rw[show nB q (zN s) [be 32 base,be 32 (base ^ x%p),be 32 y,be 32 (y ^ x%p),be 32 (base ^ draw%p),be 32 (y ^ draw%p)]=prC p q (zN s) x base y draw from rfl] at hC;rw[hc] at hC hcl;clear hc;have hM:=ju p q g h x c hx (Nat.lt_trans hcl hq) hq;have hxq:=(zQ e2).2.1;have hdq:=(zQ e3).2.1;rw[show zP x c q=true by simp[zP,hq1,hxq,hcl]] at hM;have hml:x*c%q<q:=Nat.mod_lt _ Om;have hA:=mF p q g h draw (x*c%q) hd (Nat.lt_trans hml hq) hq;rw[show zP draw (x*c%q) q=true by simp[zP,hq1,hdq,hml]] at hA;generalize (draw+x*c%q)%q=S at *;generalize x*c%q=M at *;generalize base ^ x%p=P1 at *;generalize y ^ x%p=P2 at *;generalize base ^ draw%p=P3 at *;generalize y ^ draw%p=P4 at *;refine Fn.enter Tryz.func99 rfl rfl rfl ?_;intro w hw
 repeat (first|refine Td ?_|(refine Tm ?_;intro _)|refine WO.acall (hc:=h1) (k:=?_)|refine WO.acall (hc:=h2) (k:=?_)|refine WO.acall (hc:=h3) (k:=?_)|refine WO.does yO ?_|refine Tc ?_|exact Tz)
 refine WC.adraw 22 (k:=?_)
 repeat (first|refine Da ?_|refine DQ.acallV (hc:=p1) (k:=?_)|refine DQ.acallV (hc:=p2) (k:=?_)|refine DQ.acallV (hc:=p3) (k:=?_)|refine DQ.acallV (hc:=p4) (k:=?_)|refine DQ.makes (fun s _=>zh (cs:=zc base++(zc P1++(zc y++(zc P2++(zc P3++zc P4))))) rfl Dtt rfl) Dp.const Dp.const ?_|refine DQ.acallB 19 (fun s=>⟨s 19 0,24,zc base++(zc P1++(zc y++(zc P2++(zc P3++zc P4))))⟩) (fun s=>hC (s 19 0)) (fun s w hm=>Hs.seg Hs.here hm) ?_|refine Dc ?_)
 refine DQ.anil (k:=?_);intro sx _;generalize sx 21 0=gK;generalize sx 19 0=gR
 repeat (first|refine Td ?_|(refine Tm ?_;intro _)|refine WO.acall (hc:=hM) (k:=?_)|refine WO.acall (hc:=hA) (k:=?_)|refine Tc ?_|exact Tz)
 done
theorem aej (p q g h:Nat) (s:ByteArray) (x base y draw:Nat) (hp:p<ze) (hq:q<ze) (hx:x<ze) (hb:base<ze) (hy:y<ze) (hd:draw<ze) (hs:s.size≤274877906944) :
  Fn Tryz.prog 99 [vV p q g h,.string s,zk x,zk base,zk y,zk draw] Tr (Is (prV (prB p q x base y draw) (prC p q (zN s) x base y draw) ((draw+x*prC p q (zN s) x base y draw%q)%q))):=by
 generalize hc:prC p q (zN s) x base y draw=c;cases hB:prB p q x base y draw with
 | false=>exact abH p q g h s x base y draw c _ hp hq hx hb hy hd hB
 | true=>exact aaE p q g h s x base y draw c hp hq hx hb hy hd hs hB hc
def uc (q c:Nat):Nat:=(0+q - c)%q
def ckC (p q:Nat) (s:LN) (base a y b c S:Nat):Nat:=nB q s [be 32 base,be 32 a,be 32 y,be 32 b,be 32 (base ^ S%p*(a ^ uc q c%p)%p),be 32 (y ^ S%p*(b ^ uc q c%p)%p)]
def ckB (p q:Nat) (s:LN) (base a y b c S:Nat):Bool:=gIn p q base && gIn p q a && gIn p q y && gIn p q b && zP c c q && zP S S q && decide (ckC p q s base a y b c S=c)
abbrev pfV (c s:Nat):Value:=.agg #[.int .u64 ((wd 0 c:Nat):Int),.int .u64 ((wd 1 c:Nat):Int),.int .u64 ((wd 2 c:Nat):Int),.int .u64 ((wd 3 c:Nat):Int),.int .u64 ((wd 0 s:Nat):Int),.int .u64 ((wd 1 s:Nat):Int),.int .u64 ((wd 2 s:Nat):Int),.int .u64 ((wd 3 s:Nat):Int)]
theorem vj {p q a:Nat} (h:gIn p q a=true):yB p a=true:=by
 unfold gIn at h;simp at h;exact h.1
section
variable {P:Program} {w0:World} {gs:LN} {K:List (Nat × Value)} {L:List Ent}
theorem zD {t len elem size i n ty:Nat} {k:IntKind} {x y:Operand} {cs vs:LV} [ArT P t len elem size] [AgT P elem n] (hx:ev K x=some (.agg cs.toArray)) (hy:ev K y=some (.int k (i:Int))) (hi:i<len) (hc:cut cs (i*size) n=vs) (hsn:size=n:=by rfl) :
  Does P w0 gs K L (.index t x y) ty (.agg vs.toArray):=by
 intro a w hk _ o ho _;subst hc;subst hsn;have hu:∀ w,(underlying t).run P w=.ok (.array len elem) w:=fun w=>by simp[underlying,ArT.under (P:=P) (t:=t)]
 simp only[execOp,ho,hk.eval hx,hk.eval hy,Instr.index,asIntOf,Sem.run_bind,Sem.run_pure,Result.andThen_ok,hu];rw[if_pos ⟨by omega,by omega⟩];simp only[Sem.run_bind,ArT.size (P:=P) (t:=t),Result.andThen_ok,Sem.run_pure,Int.toNat_natCast,Go.part,AgT.agg (P:=P) (t:=elem) w,if_true,AgT.size (P:=P) (t:=elem) w];simp[cut,List.extract_eq_take_drop]
end
section
variable (p q g h:Nat) (s:ByteArray)
theorem aaF (base a y b c S:Nat) (hp:p<ze) (hq:q<ze) (hbs:base<ze) (ha:a<ze) (hy:y<ze) (hb:b<ze) (hc:c<ze) (hS:S<ze)
  (hB:(gIn p q base && gIn p q a && gIn p q y && gIn p q b && zP c c q && zP S S q)=false) :
  Fn Tryz.prog 85 [vV p q g h,.string s,zk base,zk a,zk y,zk b,pfV c S] Tr (Is (.bool false)):=by
 have h1:=r9 p q g h base hbs hp hq;have h2:=r9 p q g h a ha hp hq;have h3:=r9 p q g h y hy hp hq;have h4:=r9 p q g h b hb hp hq;have h5:=sI p q g h s c hc hq;have h6:=sI p q g h s S hS hq;cases e1:gIn p q base with
 | false =>
  rw[e1] at h1;clear hB h2 h3 h4 h5 h6;refine Fn.enter Tryz.func85 rfl rfl rfl ?_;intro w hw
  repeat (first|refine WC.loopU 4 ?_|refine Tj ?_|intro _|refine WO.does (zD (len:=4) (i:=0) rfl rfl Dtt rfl) ?_|refine WO.acall (hc:=h1) (k:=?_)|refine Tc ?_|exact Tz)
  done
 | true =>
 rw[e1] at h1 hB;cases e2:gIn p q a with
 | false =>
  rw[e2] at h2;clear hB h3 h4 h5 h6;refine Fn.enter Tryz.func85 rfl rfl rfl ?_;intro w hw
  repeat (first|refine WC.loopU 4 ?_|refine Tj ?_|intro _|refine WO.does (zD (len:=4) (i:=0) rfl rfl Dtt rfl) ?_|refine WO.acall (hc:=h1) (k:=?_)|refine Tc ?_|exact Tz)
  repeat (first|refine Tj ?_|intro _|refine WO.does (zD (len:=4) (i:=1) rfl rfl Dtt rfl) ?_|refine WO.acall (hc:=h2) (k:=?_)|refine Tc ?_|exact Tz)
  done
 | true =>
 rw[e2] at h2 hB;cases e3:gIn p q y with
 | false =>
  rw[e3] at h3;clear hB h4 h5 h6;refine Fn.enter Tryz.func85 rfl rfl rfl ?_;intro w hw
  repeat (first|refine WC.loopU 4 ?_|refine Tj ?_|intro _|refine WO.does (zD (len:=4) (i:=0) rfl rfl Dtt rfl) ?_|refine WO.acall (hc:=h1) (k:=?_)|refine Tc ?_|exact Tz)
  repeat (first|refine Tj ?_|intro _|refine WO.does (zD (len:=4) (i:=1) rfl rfl Dtt rfl) ?_|refine WO.acall (hc:=h2) (k:=?_)|refine Tc ?_|exact Tz)
  repeat (first|refine Tj ?_|intro _|refine WO.does (zD (len:=4) (i:=2) rfl rfl Dtt rfl) ?_|refine WO.acall (hc:=h3) (k:=?_)|refine Tc ?_|exact Tz)
  done
 | true =>
 rw[e3] at h3 hB;cases e4:gIn p q b with
 | false =>
  rw[e4] at h4;clear hB h5 h6;refine Fn.enter Tryz.func85 rfl rfl rfl ?_;intro w hw
  repeat (first|refine WC.loopU 4 ?_|refine Tj ?_|intro _|refine WO.does (zD (len:=4) (i:=0) rfl rfl Dtt rfl) ?_|refine WO.acall (hc:=h1) (k:=?_)|refine Tc ?_|exact Tz)
  repeat (first|refine Tj ?_|intro _|refine WO.does (zD (len:=4) (i:=1) rfl rfl Dtt rfl) ?_|refine WO.acall (hc:=h2) (k:=?_)|refine Tc ?_|exact Tz)
  repeat (first|refine Tj ?_|intro _|refine WO.does (zD (len:=4) (i:=2) rfl rfl Dtt rfl) ?_|refine WO.acall (hc:=h3) (k:=?_)|refine Tc ?_|exact Tz)
  repeat (first|refine Tj ?_|intro _|refine WO.does (zD (len:=4) (i:=3) rfl rfl Dtt rfl) ?_|refine WO.acall (hc:=h4) (k:=?_)|refine Tc ?_|exact Tz)
  done
 | true =>
 rw[e4] at h4 hB;cases e5:zP c c q with
 | false =>
  rw[e5] at h5;clear hB h6;refine Fn.enter Tryz.func85 rfl rfl rfl ?_;intro w hw
  repeat (first|refine WC.loopU 4 ?_|refine Tj ?_|intro _|refine WO.does (zD (len:=4) (i:=0) rfl rfl Dtt rfl) ?_|refine WO.acall (hc:=h1) (k:=?_)|refine Tc ?_|exact Tz)
  repeat (first|refine Tj ?_|intro _|refine WO.does (zD (len:=4) (i:=1) rfl rfl Dtt rfl) ?_|refine WO.acall (hc:=h2) (k:=?_)|refine Tc ?_|exact Tz)
  repeat (first|refine Tj ?_|intro _|refine WO.does (zD (len:=4) (i:=2) rfl rfl Dtt rfl) ?_|refine WO.acall (hc:=h3) (k:=?_)|refine Tc ?_|exact Tz)
  repeat (first|refine Tj ?_|intro _|refine WO.does (zD (len:=4) (i:=3) rfl rfl Dtt rfl) ?_|refine WO.acall (hc:=h4) (k:=?_)|refine Tc ?_|exact Tz)
  repeat (first|refine Tj ?_|intro _|refine WO.acall (hc:=h5) (k:=?_)|refine Tc ?_|exact Tz)
  done
 | true =>
 rw[e5] at h5 hB;have e6:zP S S q=false:=by simpa using hB
 rw[e6] at h6;clear hB;refine Fn.enter Tryz.func85 rfl rfl rfl ?_;intro w hw
 repeat (first|refine WC.loopU 4 ?_|refine Tj ?_|intro _|refine WO.does (zD (len:=4) (i:=0) rfl rfl Dtt rfl) ?_|refine WO.acall (hc:=h1) (k:=?_)|refine Tc ?_|exact Tz)
 repeat (first|refine Tj ?_|intro _|refine WO.does (zD (len:=4) (i:=1) rfl rfl Dtt rfl) ?_|refine WO.acall (hc:=h2) (k:=?_)|refine Tc ?_|exact Tz)
 repeat (first|refine Tj ?_|intro _|refine WO.does (zD (len:=4) (i:=2) rfl rfl Dtt rfl) ?_|refine WO.acall (hc:=h3) (k:=?_)|refine Tc ?_|exact Tz)
 repeat (first|refine Tj ?_|intro _|refine WO.does (zD (len:=4) (i:=3) rfl rfl Dtt rfl) ?_|refine WO.acall (hc:=h4) (k:=?_)|refine Tc ?_|exact Tz)
 repeat (first|refine Tj ?_|intro _|refine WO.acall (hc:=h5) (k:=?_)|refine WO.acall (hc:=h6) (k:=?_)|refine Tc ?_|exact Tz)
 done
end
section
variable (p q g h:Nat) (s:ByteArray)
theorem abA (base a y b c S:Nat) (hp:p<ze) (hq:q<ze) (hbs:base<ze) (ha:a<ze) (hy:y<ze) (hb:b<ze) (hc:c<ze) (hS:S<ze) (hs:s.size≤68719476736)
  (hB:(gIn p q base && gIn p q a && gIn p q y && gIn p q b && zP c c q && zP S S q)=true) :
  Fn Tryz.prog 85 [vV p q g h,.string s,zk base,zk a,zk y,zk b,pfV c S] Tr (Is (.bool (decide (ckC p q (zN s) base a y b c S=c)))):=by
 have h1:=r9 p q g h base hbs hp hq;have h2:=r9 p q g h a ha hp hq;have h3:=r9 p q g h y hy hp hq;have h4:=r9 p q g h b hb hp hq;have h5:=sI p q g h s c hc hq;have h6:=sI p q g h s S hS hq;simp only[Bool.and_eq_true] at hB;obtain⟨⟨⟨⟨⟨e1,e2⟩,e3⟩,e4⟩,e5⟩,e6⟩:=hB;rw[e1] at h1;rw[e2] at h2;rw[e3] at h3;rw[e4] at h4;rw[e5] at h5;rw[e6] at h6;obtain⟨hq1,hcq,_⟩:=zQ e5;have hbk:uc q c<q:=Nat.mod_lt _ Om;have hU:=acl p q g h 0 c zE hc hq;rw[show zP 0 c q=true by simp[zP,hq1,hcq];omega,show (0+q - c)%q=uc q c from rfl] at hU;have m1:=bW p q g h s base S a (uc q c) hbs hS ha Om hp (vj e1) (vj e2);have m2:=bW p q g h s y S b (uc q c) hy hS hb Om hp (vj e3) (vj e4);have hC:=fun j=>ek p q g h s base a y b (base ^ S%p*(a ^ uc q c%p)%p) (y ^ S%p*(b ^ uc q c%p)%p) j 0 6 hq Om Om;have hcl:ckC p q (zN s) base a y b c S<ze:=Nat.lt_trans (vX Om _ _) hq;rw[show nB q (zN s) [be 32 base,be 32 a,be 32 y,be 32 b,be 32 (base ^ S%p*(a ^ uc q c%p)%p),be 32 (y ^ S%p*(b ^ uc q c%p)%p)]=ckC p q (zN s) base a y b c S from rfl] at hC;generalize ckC p q (zN s) base a y b c S=R at *;generalize base ^ S%p*(a ^ uc q c%p)%p=P1 at *;generalize y ^ S%p*(b ^ uc q c%p)%p=P2 at *;generalize uc q c=B at *;clear e1 e2 e3 e4 e5 e6;refine Fn.enter Tryz.func85 rfl rfl rfl ?_;intro w hw
 repeat (first|refine WC.loopU 4 ?_|refine Tj ?_|intro _|refine WO.does (zD (len:=4) (i:=0) rfl rfl Dtt rfl) ?_|refine WO.acall (hc:=h1) (k:=?_)|refine Tc ?_|exact Tz)
 repeat (first|refine Tj ?_|intro _|refine WO.does (zD (len:=4) (i:=1) rfl rfl Dtt rfl) ?_|refine WO.acall (hc:=h2) (k:=?_)|refine Tc ?_|exact Tz)
 repeat (first|refine Tj ?_|intro _|refine WO.does (zD (len:=4) (i:=2) rfl rfl Dtt rfl) ?_|refine WO.acall (hc:=h3) (k:=?_)|refine Tc ?_|exact Tz)
 repeat (first|refine Tj ?_|intro _|refine WO.does (zD (len:=4) (i:=3) rfl rfl Dtt rfl) ?_|refine WO.acall (hc:=h4) (k:=?_)|refine Tc ?_|exact Tz)
 repeat (first|refine Tj ?_|intro _|refine WO.acall (hc:=h5) (k:=?_)|refine WO.acall (hc:=h6) (k:=?_)|refine WO.acall (hc:=hU) (k:=?_)|refine Tc ?_|exact Tz)
 refine WC.adraw 25 (k:=?_)
 repeat (first|refine Da ?_|refine DQ.acall (hc:=m1) (k:=?_)|refine DQ.acall (hc:=m2) (k:=?_)|refine DQ.makes (fun s _=>zh (cs:=zc base++(zc a++(zc y++(zc b++(zc P1++zc P2))))) rfl Dtt rfl) Dp.const Dp.const ?_|refine DQ.acallB 19 (fun s=>⟨s 19 0,24,zc base++(zc a++(zc y++(zc b++(zc P1++zc P2))))⟩) (fun s=>hC (s 19 0)) (fun s w hm=>Hs.seg Hs.here hm) ?_|refine DQ.does (fun s _=>yO) Dp.const ?_|refine Dc ?_)
 refine DQ.anil (k:=?_);intro sx _
 repeat (first|refine Tk ?_|intro _|exact Tz)
 done
theorem adZ (base a y b c S:Nat) (hp:p<ze) (hq:q<ze) (hbs:base<ze) (ha:a<ze) (hy:y<ze) (hb:b<ze) (hc:c<ze) (hS:S<ze) (hs:s.size≤68719476736) :
  Fn Tryz.prog 85 [vV p q g h,.string s,zk base,zk a,zk y,zk b,pfV c S] Tr (Is (.bool (ckB p q (zN s) base a y b c S))):=by
 unfold ckB;cases hB:(gIn p q base && gIn p q a && gIn p q y && gIn p q b && zP c c q && zP S S q) with
 | false=>rw[Bool.false_and];exact aaF p q g h s base a y b c S hp hq hbs ha hy hb hc hS hB
 | true=>rw[Bool.true_and];exact abA p q g h s base a y b c S hp hq hbs ha hy hb hc hS hs hB
end
end Sx
end
section
open Go Go.RowKit Go.BigFrame
namespace Sx
abbrev vC (a b:Nat):List Value:=[.int .u64 ((wd 0 a:Nat):Int),.int .u64 ((wd 1 a:Nat):Int),.int .u64 ((wd 2 a:Nat):Int),.int .u64 ((wd 3 a:Nat):Int),.int .u64 ((wd 0 b:Nat):Int),.int .u64 ((wd 1 b:Nat):Int),.int .u64 ((wd 2 b:Nat):Int),.int .u64 ((wd 3 b:Nat):Int)]
theorem eO (op:BinOp) (x y:Operand) (a b:Array Value) (w:World):(eqGuard op 49 x y (.agg a) (.agg b)).run Tryz.prog w=.ok () w:=by cases op<;>kernel_rfl
def hsV (h:LN):Value:=.agg (byC h).toArray
theorem nL {H:LN} (hl:(byC H).length=32):ui (fun i=>some (i*(byC (List.replicate 32 0)).length,(byC (List.replicate 32 0)).length)) (mkz 1 (byC (List.replicate 32 0))) [(0,.agg (byC H).toArray)]=some (byC H):=by
 have e1:(byC (List.replicate 32 0)).length=32:=rfl;have e2:cellsOf (.agg (byC H).toArray)=byC H:=by simp[cellsOf]
 unfold ui;simp only[e1,e2,hl,Nat.zero_mul,Nat.zero_add];rw[show (Nat.beq 32 32 && Nat.ble 32 (mkz 1 (byC (List.replicate 32 0))).length)=true from rfl];simp only[cond_true,ui];rw[zC (by rw[hl];rfl)]
theorem aby:WideMaps.KeyLaw Tryz.prog 70:=deep_law (m:=2) Dtt Kr Kr Kr
theorem lX (D:Nat):∀ (H:LN),(∀ b∈H,b<256)→∀ i,i<H.length→∃ l,Tryz.prog.keyLits (D+1) 5 (((byC H).drop (i*1)).take 1)=some l:=by
 intro H hH i hi;have h2:((byC H).drop (i*1)).take 1=[.int .u8 ((H[i]:Nat):Int)]:=by
  rw[Nat.mul_one,List.drop_eq_getElem_cons (by rw[zd];exact hi)];simp[byC]
 rw[h2];have hb:=hH _ (List.getElem_mem hi);have w2:(Lit.int .u8 ((H[i]:Nat):Int)).wf=true:=by simp[Lit.wf,IntKind.min,IntKind.max,IntKind.signed,IntKind.bits];omega
 exact⟨_,by simp[Program.keyLits,Tryz.underlying5,w2];rfl⟩
theorem mN {α β:Type} (f:α→Option β):∀ L:List α,(∀ i∈L,∃ l,f i=some l)→∃ ls,L.mapM f=some ls
 | [],_=>⟨[],rfl⟩
 | a::L,h=>by
  obtain⟨x,hx⟩:=h a List.mem_cons_self;obtain⟨ls,hls⟩:=mN f L (fun i hi=>h i (List.mem_cons_of_mem _ hi));exact⟨x::ls,by simp[List.mapM_cons,hx,hls]⟩
theorem dX:∀ {A B:LN},byC A=byC B→A=B
 | [],[],_=>rfl
 | [],b::B,h=>by simp[byC] at h
 | a::A,[],h=>by simp[byC] at h
 | a::A,b::B,h=>by
  simp only[byC,List.map_cons,List.cons.injEq,Value.int.injEq,true_and] at h;rw[dX (A:=A) (B:=B) h.2];have:=h.1;congr 1;omega
theorem ac9 {A B:LN} (h:hsV A=hsV B):A=B:=by
 unfold hsV at h;have h1:byC A=byC B:=by
  injection h with h
  simpa using congrArg Array.toList h
 exact dX h1
theorem ed:∃ F:List Lit→Lit,∀ H:List Nat,(∀ b∈H,b<256)→H.length=32→∃ l,Tryz.prog.keyLits (Tryz.prog.types.size+1) 70 (byC H)=some l∧keyOf Tryz.prog 70 (hsV H)=some (F l):=by
 refine⟨fun ls=>.string (keyBytes ls),fun H hH hl=>?_⟩
 ·have c1:Tryz.prog.cellsOf 70=32:=Kr
  have c2:Tryz.prog.cellsOf 5=1:=Kr
  have hb:(byC H).length=32:=by rw[zd];exact hl
  have hk:Tryz.prog.keyType 70=true:=Kr
  have hf:(hsV H).formed Tryz.prog 70=true:=by simp[hsV,Value.formed,Tryz.underlying70,c1,hb]
  obtain⟨n,hn⟩ : ∃ n,Tryz.prog.types.size+1=n+2:=⟨Tryz.prog.types.size - 1,by have:1≤Tryz.prog.types.size:=Dkk;omega⟩;obtain⟨ls,hls⟩:=mN (fun i=>Tryz.prog.keyLits (n+1) 5 (((byC H).drop (i*1)).take 1)) (List.range 32) (fun i hi=>lX n H hH i (by have:=List.mem_range.1 hi;omega));have hkk:Tryz.prog.keyLits (n+2) 70 (byC H)=some ls.flatten:=by
   rw[Program.keyLits.eq_def];simp only[Tryz.underlying70,c1,c2,hb,if_true];rw[hls];rfl
  refine⟨ls.flatten,by rw[hn];exact hkk,?_⟩;unfold keyOf;rw[Tryz.underlying70];simp only[hk,hf,Bool.and_self,if_true,hn];rw[show (hsV H).cells.toList=byC H by simp[hsV,Value.cells],hkk];rfl
theorem il {A B:LN} (hA:∀ b∈A,b<256) (hB:∀ b∈B,b<256) (lA:A.length=32) (lB:B.length=32) (w:World):(Op.equalIn 10000 70 (.agg (byC A).toArray) (.agg (byC B).toArray)).run Tryz.prog w=.ok (decide (A=B)) w:=by
 obtain⟨F,hF⟩:=ed;obtain⟨la,a1,a2⟩:=hF A hA lA;obtain⟨lb,b1,b2⟩:=hF B hB lB;have c1:Tryz.prog.cellsOf 70=32:=Kr
 have fA:(Value.agg (byC A).toArray).formed Tryz.prog 70=true:=by simp[Value.formed,Tryz.underlying70,c1,zd,lA]
 have fB:(Value.agg (byC B).toArray).formed Tryz.prog 70=true:=by simp[Value.formed,Tryz.underlying70,c1,zd,lB]
 obtain⟨r,hr,hiff⟩:=run_equalIn_deep (P:=Tryz.prog) 9998 2 70 Kr w (Tryz.prog.types.size+1) (Tryz.prog.types.size+1) (.agg (byC A).toArray) (.agg (byC B).toArray) la lb fA fB (by simpa [Value.cells] using a1) (by simpa [Value.cells] using b1);rw[show (9998:Nat)+2=10000 from rfl] at hr;have hrd:r=decide (A=B):=by
  by_cases e:A=B
  ·have h1:la=lb:=by
    have h2:some la=some lb:=by rw[← a1,← b1,e]
    exact Option.some.inj h2
   rw[decide_eq_true e];exact hiff.2 h1
  ·rw[decide_eq_false e];cases r with
   | false=>rfl
   | true =>
    have h1:=hiff.1 rfl;rw[h1] at a2;exact absurd (ac9 (aby.inj a2 b2)) e
 rw[← hrd];exact hr
section
variable {w0:World} {gs:LN} {K:List (Nat × Value)} {L:List Ent}
theorem bQ (op:BinOp) (x y:Operand) (a b:Array Value) (w:World):(eqGuard op 70 x y (.agg a) (.agg b)).run Tryz.prog w=.ok () w:=by cases op<;>kernel_rfl
theorem m8 {x y:Operand} {yt ty:TypeId} {A B:LN} {r:Bool} (hA:∀ b∈A,b<256) (hB:∀ b∈B,b<256) (lA:A.length=32) (lB:B.length=32) (hx:ev K x=some (.agg (byC A).toArray)) (hy:ev K y=some (.agg (byC B).toArray)) (hr:decide (A=B)=r):Does Tryz.prog w0 gs K L (.binOp .eql 70 x y yt) ty (.bool r):=by
 subst hr;intro ac w hk _ o ho _;simp only[execOp,ho,hk.eval hx,hk.eval hy,Sem.run_bind,bQ,Result.andThen_ok,run_eql_struct,il hA hB lA lB,Sem.run_pure]
theorem ux {x y:Operand} {yt ty:TypeId} {A B:LN} {r:Bool} (hA:∀ b∈A,b<256) (hB:∀ b∈B,b<256) (lA:A.length=32) (lB:B.length=32) (hx:ev K x=some (.agg (byC A).toArray)) (hy:ev K y=some (.agg (byC B).toArray)) (hr:(!decide (A=B))=r):Does Tryz.prog w0 gs K L (.binOp .neq 70 x y yt) ty (.bool r):=by
 subst hr;intro ac w hk _ o ho _;simp only[execOp,ho,hk.eval hx,hk.eval hy,Sem.run_bind,bQ,Result.andThen_ok,run_neq_struct,il hA hB lA lB,Sem.run_pure]
end
end Sx
end
end Go.Proofs.YtiaibpcaloigkaaGreatDoor
