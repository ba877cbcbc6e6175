/- Part 31 of the proof. -/
import Derived.Test.YteibfbjpkjkejaaGreatDoorM29
import Derived.Laws.StructEq
import Derived.DeepKeys
set_option linter.unusedSimpArgs false
set_option linter.unusedVariables false
set_option maxHeartbeats 8000000
namespace Go.Proofs.YteibfbjpkjkejaaGreatDoor
section
open Go Go.RowKit Go.BigFrame
namespace Sx
attribute [local irreducible] DQ DQS WC WO WX wd
section
open Kp
variable {P:Program} {w0:World} {gs:List Nat} {n:Nat} {fl:List Nat} {Q:Exit→Act→World→Prop} {ops:List Oper} {L0:List Ent}
variable {tail rest:List Oper} {i:Nat} {C:zD→Prop} {K:zD→List (Nat × Value)} {N:zD→List (Nat × Ent)}
variable {d:Nat} {op:Op} {ty:TypeId} {pos:String} {after:Array Edge} {gd:Option (Nat × Bool)}
theorem Fn.ex {f:FuncId} {ar:List Value} {R:World→Prop} {v:Value} (h:Fn P f ar R (Is v)):Fn P f ar R (Ex (fun _=>v) (fun _=>[]) (fun _=>True)) :=
 fun w hw=>(h w hw).mono (fun e w' ⟨v',N,h1,h2,_,h4⟩=>⟨v',[],h1,h2,ij.nil _ _,fun _=>0,h4,rfl,trivial⟩)
theorem DQ.acallV {f:FuncId} [Cal P f] {x:Operand} {xs:Array Operand} {ats:Array TypeId} {fs ar cs ar' : List Value} {v:Value} (hc:Fn P f ar' Tr (Is v)) (hx:∀ s,ev (K s) x=some (.func (.func f) fs.toArray cs.toArray):=by (intro s;rfl)) (ha:∀ s,evs (K s) xs.toList=some ar:=by (intro s;rfl)) (hh:fs++ar++cs=ar':=by rfl)
  (k:DQ P w0 gs n fl Q ops L0 tail (i+1) rest (fun s=>C s∧True) (fun s=>(d,v)::K s) N) (hfl:fl.contains i=false:=by rfl) (hw:∀ s,wk ops (K s) gd=some true:=by intro _;rfl) (hd:Nat.blt d n=true:=by rfl) :
  DQ P w0 gs n fl Q ops L0 tail i (⟨some d,.call { callee:=.value x,args:=xs,argTypes:=ats },ty,pos,after,gd⟩::rest) C K N :=
 DQ.callsE (fs:=fun _=>fs) (cs:=fun _=>cs) (R:=fun _=>Tr) (vf:=fun _ _=>v) (Nf:=fun _ _=>[]) (S:=fun _ _=>True) (fun _=>[]) (fun _=>.nil) (fun _=>⟨fun _=>0,trivial⟩) (fun _ _=>hc.ex) hx ha (fun _=>hh) (fun _ _ _ _=>trivial) Dp.const Dp.const Dp.const k hfl hw hd
end
def prC (p q:Nat) (s:List Nat) (x base y draw:Nat):Nat:=mi q s [be 32 base,be 32 (base ^ x%p),be 32 y,be 32 (y ^ x%p),be 32 (base ^ draw%p),be 32 (y ^ draw%p)]
def prB (p q x base y draw:Nat):Bool:=yw p base && yw p y && zJ x x q && zJ draw draw q && decide (draw≠0)
abbrev prV (b:Bool) (c s:Nat):Value:=.tuple #[.agg #[.int .u64 ((wd 0 (okV b c):Nat):Int),.int .u64 ((wd 1 (okV b c):Nat):Int),.int .u64 ((wd 2 (okV b c):Nat):Int),.int .u64 ((wd 3 (okV b c):Nat):Int),.int .u64 ((wd 0 (okV b s):Nat):Int),.int .u64 ((wd 1 (okV b s):Nat):Int),.int .u64 ((wd 2 (okV b s):Nat):Int),.int .u64 ((wd 3 (okV b s):Nat):Int)],.int .i64 (okE b)]
theorem vW {q:Nat} (h:0<q) (s:List Nat) (Ps:List (List Nat)):mi q s Ps<q:=Nat.mod_lt _ h
theorem cH (p q g h:Nat) (s:ByteArray) (x base y draw c S:Nat) (hp:p<zd) (hq:q<zd) (hx:x<zd) (hb:base<zd) (hy:y<zd) (hd:draw<zd) (hB:prB p q x base y draw=false) :
  Fn Tryz.prog 48 [yk p q g h,.string s,zi x,zi base,zi y,zi draw] Tr (Is (prV false c S)):=by
 have h1:=aB p q g h base y hb hy hp;have h2:=sr p q g h s x hx hq;have h3:=sr p q g h s draw hd hq;unfold prB at hB;cases e1:(yw p base && yw p y) with
 | false =>
  rw[e1] at h1;clear hB e1;refine Fn.enter Tryz.func48 rfl rfl rfl ?_;intro w hw
  repeat (first|refine Td ?_|(refine Tm ?_;intro _)|refine WO.acall (hc:=h1) (k:=?_)|refine WO.acall (hc:=h2) (k:=?_)|refine WO.acall (hc:=h3) (k:=?_)|refine Tc ?_|exact Tz)
  done
 | true =>
 rw[e1] at h1 hB;clear e1;cases e2:zJ x x q with
 | false =>
  rw[e2] at h2;clear hB e2;refine Fn.enter Tryz.func48 rfl rfl rfl ?_;intro w hw
  repeat (first|refine Td ?_|(refine Tm ?_;intro _)|refine WO.acall (hc:=h1) (k:=?_)|refine WO.acall (hc:=h2) (k:=?_)|refine WO.acall (hc:=h3) (k:=?_)|refine Tc ?_|exact Tz)
  done
 | true =>
 rw[e2] at h2 hB;clear e2;cases e3:zJ draw draw q with
 | false =>
  rw[e3] at h3;clear hB e3;refine Fn.enter Tryz.func48 rfl rfl rfl ?_;intro w hw
  repeat (first|refine Td ?_|(refine Tm ?_;intro _)|refine WO.acall (hc:=h1) (k:=?_)|refine WO.acall (hc:=h2) (k:=?_)|refine WO.acall (hc:=h3) (k:=?_)|refine Tc ?_|exact Tz)
  done
 | true =>
 rw[e3] at h3 hB;clear e3;have e4:draw=0:=by simpa using hB
 have e4' : decide (draw=0)=true:=by simpa using e4
 refine Fn.enter Tryz.func48 rfl rfl rfl ?_;intro w hw
 repeat (first|refine Td ?_|(refine Tm ?_;intro _)|refine WO.acall (hc:=h1) (k:=?_)|refine WO.acall (hc:=h2) (k:=?_)|refine WO.acall (hc:=h3) (k:=?_)|refine WO.does yq ?_|refine Tc ?_|exact Tz)
 done
theorem d9 (p q g h:Nat) (s:ByteArray) (x base y draw c:Nat) (hp:p<zd) (hq:q<zd) (hx:x<zd) (hb:base<zd) (hy:y<zd) (hd:draw<zd) (hs:s.size≤274877906944) (hB:prB p q x base y draw=true) (hc:prC p q (yg s) x base y draw=c) :
  Fn Tryz.prog 48 [yk p q g h,.string s,zi x,zi base,zi y,zi draw] Tr (Is (prV true c ((draw+x*c%q)%q))):=by
 have h1:=aB p q g h base y hb hy hp;have h2:=sr p q g h s x hx hq;have h3:=sr p q g h s draw hd hq;unfold prB at hB;simp only[Bool.and_eq_true,decide_eq_true_eq] at hB;obtain⟨⟨⟨⟨hgb,hgy⟩,e2⟩,e3⟩,e4⟩:=hB;rw[hgb,hgy] at h1;rw[e2] at h2;rw[e3] at h3;have e4' : decide (draw=0)=false:=by simpa using e4
 have hq1:=(zL e2).1;have p1:=lI p q g h s base x hb hx hp;have p2:=lI p q g h s y x hy hx hp;have p3:=lI p q g h s base draw hb hd hp;have p4:=lI p q g h s y draw hy hd hp;rw[hgb] at p1 p3;rw[hgy] at p2 p4;have hC:=fun j=>fe p q g h s base (base ^ x%p) y (y ^ x%p) (base ^ draw%p) (y ^ draw%p) j 0 6 hq (by omega) hs;have hcl:prC p q (yg s) x base y draw<q:=vW (by omega) _ _;rw[show mi q (yg s) [be 32 base,be 32 (base ^ x%p),be 32 y,be 32 (y ^ x%p),be 32 (base ^ draw%p),be 32 (y ^ draw%p)]=prC p q (yg s) x base y draw from rfl] at hC;rw[hc] at hC hcl;clear hc;have hM:=kN p q g h x c hx (Nat.lt_trans hcl hq) hq;have hxq:=(zL e2).2.1;have hdq:=(zL e3).2.1;rw[show zJ x c q=true by simp[zJ,hq1,hxq,hcl]] at hM;have hml:x*c%q<q:=Nat.mod_lt _ (by omega);have hA:=nk p q g h draw (x*c%q) hd (Nat.lt_trans hml hq) hq;rw[show zJ draw (x*c%q) q=true by simp[zJ,hq1,hdq,hml]] at hA;generalize (draw+x*c%q)%q=S at *;generalize x*c%q=M at *;generalize base ^ x%p=P1 at *;generalize y ^ x%p=P2 at *;generalize base ^ draw%p=P3 at *;generalize y ^ draw%p=P4 at *;refine Fn.enter Tryz.func48 rfl rfl rfl ?_;intro w hw
 repeat (first|refine Td ?_|(refine Tm ?_;intro _)|refine WO.acall (hc:=h1) (k:=?_)|refine WO.acall (hc:=h2) (k:=?_)|refine WO.acall (hc:=h3) (k:=?_)|refine WO.does yq ?_|refine Tc ?_|exact Tz)
 refine WC.adraw 22 (k:=?_)
 repeat (first|refine Da ?_|refine DQ.acallV (hc:=p1) (k:=?_)|refine DQ.acallV (hc:=p2) (k:=?_)|refine DQ.acallV (hc:=p3) (k:=?_)|refine DQ.acallV (hc:=p4) (k:=?_)|refine DQ.makes (fun s _=>ze (cs:=zb base++(zb P1++(zb y++(zb P2++(zb P3++zb P4))))) rfl (by decide) rfl) Dp.const Dp.const ?_|refine DQ.acallB 19 (fun s=>⟨s 19 0,24,zb base++(zb P1++(zb y++(zb P2++(zb P3++zb P4))))⟩) (fun s=>hC (s 19 0)) (fun s w hm=>Hs.seg Hs.here hm) ?_|refine Dc ?_)
 refine DQ.anil (k:=?_);intro sx _;generalize sx 21 0=gK;generalize sx 19 0=gR
 repeat (first|refine Td ?_|(refine Tm ?_;intro _)|refine WO.acall (hc:=hM) (k:=?_)|refine WO.acall (hc:=hA) (k:=?_)|refine Tc ?_|exact Tz)
 done
theorem aar (p q g h:Nat) (s:ByteArray) (x base y draw:Nat) (hp:p<zd) (hq:q<zd) (hx:x<zd) (hb:base<zd) (hy:y<zd) (hd:draw<zd) (hs:s.size≤274877906944) :
  Fn Tryz.prog 48 [yk p q g h,.string s,zi x,zi base,zi y,zi draw] Tr (Is (prV (prB p q x base y draw) (prC p q (yg s) x base y draw) ((draw+x*prC p q (yg s) x base y draw%q)%q))):=by
 generalize hc:prC p q (yg s) x base y draw=c;cases hB:prB p q x base y draw with
 | false=>exact cH p q g h s x base y draw c _ hp hq hx hb hy hd hB
 | true=>exact d9 p q g h s x base y draw c hp hq hx hb hy hd hs hB hc
def vS (q c:Nat):Nat:=(0+q - c)%q
def ckC (p q:Nat) (s:List Nat) (base a y b c S:Nat):Nat:=mi q s [be 32 base,be 32 a,be 32 y,be 32 b,be 32 (base ^ S%p*(a ^ vS q c%p)%p),be 32 (y ^ S%p*(b ^ vS q c%p)%p)]
def ckB (p q:Nat) (s:List Nat) (base a y b c S:Nat):Bool:=gIn p q base && gIn p q a && gIn p q y && gIn p q b && zJ c c q && zJ S S q && decide (ckC p q s base a y b c S=c)
abbrev pfV (c s:Nat):Value:=.agg #[.int .u64 ((wd 0 c:Nat):Int),.int .u64 ((wd 1 c:Nat):Int),.int .u64 ((wd 2 c:Nat):Int),.int .u64 ((wd 3 c:Nat):Int),.int .u64 ((wd 0 s:Nat):Int),.int .u64 ((wd 1 s:Nat):Int),.int .u64 ((wd 2 s:Nat):Int),.int .u64 ((wd 3 s:Nat):Int)]
theorem vi {p q a:Nat} (h:gIn p q a=true):yw p a=true:=by
 unfold gIn at h;simp at h;exact h.1
section
variable {P:Program} {w0:World} {gs:List Nat} {K:List (Nat × Value)} {L:List Ent}
theorem zz {t len elem size i n ty:Nat} {k:IntKind} {x y:Operand} {cs vs:List Value} [ArT P t len elem size] [AgT P elem n] (hx:ev K x=some (.agg cs.toArray)) (hy:ev K y=some (.int k (i:Int))) (hi:i<len) (hc:cut cs (i*size) n=vs) (hsn:size=n:=by rfl) :
  Does P w0 gs K L (.index t x y) ty (.agg vs.toArray):=by
 intro a w hk _ o ho _;subst hc;subst hsn;have hu:∀ w,(underlying t).run P w=.ok (.array len elem) w:=fun w=>by simp[underlying,ArT.under (P:=P) (t:=t)]
 simp only[execOp,ho,hk.eval hx,hk.eval hy,Instr.index,asIntOf,Sem.run_bind,Sem.run_pure,Result.andThen_ok,hu];rw[if_pos ⟨by omega,by omega⟩];simp only[Sem.run_bind,ArT.size (P:=P) (t:=t),Result.andThen_ok,Sem.run_pure,Int.toNat_natCast,Go.part,AgT.agg (P:=P) (t:=elem) w,if_true,AgT.size (P:=P) (t:=elem) w];simp[cut,List.extract_eq_take_drop]
end
section
variable (p q g h:Nat) (s:ByteArray)
theorem cL (base a y b c S:Nat) (hp:p<zd) (hq:q<zd) (hbs:base<zd) (ha:a<zd) (hy:y<zd) (hb:b<zd) (hc:c<zd) (hS:S<zd)
  (hB:(gIn p q base && gIn p q a && gIn p q y && gIn p q b && zJ c c q && zJ S S q)=false) :
  Fn Tryz.prog 63 [yk p q g h,.string s,zi base,zi a,zi y,zi b,pfV c S] Tr (Is (.bool false)):=by
 have h1:=rU p q g h base hbs hp hq;have h2:=rU p q g h a ha hp hq;have h3:=rU p q g h y hy hp hq;have h4:=rU p q g h b hb hp hq;have h5:=sr p q g h s c hc hq;have h6:=sr p q g h s S hS hq;cases e1:gIn p q base with
 | false =>
  rw[e1] at h1;clear hB h2 h3 h4 h5 h6;refine Fn.enter Tryz.func63 rfl rfl rfl ?_;intro w hw
  repeat (first|refine WC.loopU 4 ?_|refine Ta ?_|(refine Tm ?_;intro _)|refine WO.does (zz (len:=4) (i:=0) rfl rfl (by decide) rfl) ?_|refine WO.acall (hc:=h1) (k:=?_)|refine Tc ?_|exact Tz)
  done
 | true =>
 rw[e1] at h1 hB;cases e2:gIn p q a with
 | false =>
  rw[e2] at h2;clear hB h3 h4 h5 h6;refine Fn.enter Tryz.func63 rfl rfl rfl ?_;intro w hw
  repeat (first|refine WC.loopU 4 ?_|refine Ta ?_|(refine Tm ?_;intro _)|refine WO.does (zz (len:=4) (i:=0) rfl rfl (by decide) rfl) ?_|refine WO.acall (hc:=h1) (k:=?_)|refine Tc ?_|exact Tz)
  repeat (first|refine Ta ?_|(refine Tm ?_;intro _)|refine WO.does (zz (len:=4) (i:=1) rfl rfl (by decide) rfl) ?_|refine WO.acall (hc:=h2) (k:=?_)|refine Tc ?_|exact Tz)
  done
 | true =>
 rw[e2] at h2 hB;cases e3:gIn p q y with
 | false =>
  rw[e3] at h3;clear hB h4 h5 h6;refine Fn.enter Tryz.func63 rfl rfl rfl ?_;intro w hw
  repeat (first|refine WC.loopU 4 ?_|refine Ta ?_|(refine Tm ?_;intro _)|refine WO.does (zz (len:=4) (i:=0) rfl rfl (by decide) rfl) ?_|refine WO.acall (hc:=h1) (k:=?_)|refine Tc ?_|exact Tz)
  repeat (first|refine Ta ?_|(refine Tm ?_;intro _)|refine WO.does (zz (len:=4) (i:=1) rfl rfl (by decide) rfl) ?_|refine WO.acall (hc:=h2) (k:=?_)|refine Tc ?_|exact Tz)
  repeat (first|refine Ta ?_|(refine Tm ?_;intro _)|refine WO.does (zz (len:=4) (i:=2) rfl rfl (by decide) rfl) ?_|refine WO.acall (hc:=h3) (k:=?_)|refine Tc ?_|exact Tz)
  done
 | true =>
 rw[e3] at h3 hB;cases e4:gIn p q b with
 | false =>
  rw[e4] at h4;clear hB h5 h6;refine Fn.enter Tryz.func63 rfl rfl rfl ?_;intro w hw
  repeat (first|refine WC.loopU 4 ?_|refine Ta ?_|(refine Tm ?_;intro _)|refine WO.does (zz (len:=4) (i:=0) rfl rfl (by decide) rfl) ?_|refine WO.acall (hc:=h1) (k:=?_)|refine Tc ?_|exact Tz)
  repeat (first|refine Ta ?_|(refine Tm ?_;intro _)|refine WO.does (zz (len:=4) (i:=1) rfl rfl (by decide) rfl) ?_|refine WO.acall (hc:=h2) (k:=?_)|refine Tc ?_|exact Tz)
  repeat (first|refine Ta ?_|(refine Tm ?_;intro _)|refine WO.does (zz (len:=4) (i:=2) rfl rfl (by decide) rfl) ?_|refine WO.acall (hc:=h3) (k:=?_)|refine Tc ?_|exact Tz)
  repeat (first|refine Ta ?_|(refine Tm ?_;intro _)|refine WO.does (zz (len:=4) (i:=3) rfl rfl (by decide) rfl) ?_|refine WO.acall (hc:=h4) (k:=?_)|refine Tc ?_|exact Tz)
  done
 | true =>
 rw[e4] at h4 hB;cases e5:zJ c c q with
 | false =>
  rw[e5] at h5;clear hB h6;refine Fn.enter Tryz.func63 rfl rfl rfl ?_;intro w hw
  repeat (first|refine WC.loopU 4 ?_|refine Ta ?_|(refine Tm ?_;intro _)|refine WO.does (zz (len:=4) (i:=0) rfl rfl (by decide) rfl) ?_|refine WO.acall (hc:=h1) (k:=?_)|refine Tc ?_|exact Tz)
  repeat (first|refine Ta ?_|(refine Tm ?_;intro _)|refine WO.does (zz (len:=4) (i:=1) rfl rfl (by decide) rfl) ?_|refine WO.acall (hc:=h2) (k:=?_)|refine Tc ?_|exact Tz)
  repeat (first|refine Ta ?_|(refine Tm ?_;intro _)|refine WO.does (zz (len:=4) (i:=2) rfl rfl (by decide) rfl) ?_|refine WO.acall (hc:=h3) (k:=?_)|refine Tc ?_|exact Tz)
  repeat (first|refine Ta ?_|(refine Tm ?_;intro _)|refine WO.does (zz (len:=4) (i:=3) rfl rfl (by decide) rfl) ?_|refine WO.acall (hc:=h4) (k:=?_)|refine Tc ?_|exact Tz)
  repeat (first|refine Ta ?_|(refine Tm ?_;intro _)|refine WO.acall (hc:=h5) (k:=?_)|refine Tc ?_|exact Tz)
  done
 | true =>
 rw[e5] at h5 hB;have e6:zJ S S q=false:=by simpa using hB
 rw[e6] at h6;clear hB;refine Fn.enter Tryz.func63 rfl rfl rfl ?_;intro w hw
 repeat (first|refine WC.loopU 4 ?_|refine Ta ?_|(refine Tm ?_;intro _)|refine WO.does (zz (len:=4) (i:=0) rfl rfl (by decide) rfl) ?_|refine WO.acall (hc:=h1) (k:=?_)|refine Tc ?_|exact Tz)
 repeat (first|refine Ta ?_|(refine Tm ?_;intro _)|refine WO.does (zz (len:=4) (i:=1) rfl rfl (by decide) rfl) ?_|refine WO.acall (hc:=h2) (k:=?_)|refine Tc ?_|exact Tz)
 repeat (first|refine Ta ?_|(refine Tm ?_;intro _)|refine WO.does (zz (len:=4) (i:=2) rfl rfl (by decide) rfl) ?_|refine WO.acall (hc:=h3) (k:=?_)|refine Tc ?_|exact Tz)
 repeat (first|refine Ta ?_|(refine Tm ?_;intro _)|refine WO.does (zz (len:=4) (i:=3) rfl rfl (by decide) rfl) ?_|refine WO.acall (hc:=h4) (k:=?_)|refine Tc ?_|exact Tz)
 repeat (first|refine Ta ?_|(refine Tm ?_;intro _)|refine WO.acall (hc:=h5) (k:=?_)|refine WO.acall (hc:=h6) (k:=?_)|refine Tc ?_|exact Tz)
 done
end
section
variable (p q g h:Nat) (s:ByteArray)
theorem cq (base a y b c S:Nat) (hp:p<zd) (hq:q<zd) (hbs:base<zd) (ha:a<zd) (hy:y<zd) (hb:b<zd) (hc:c<zd) (hS:S<zd) (hs:s.size≤68719476736)
  (hB:(gIn p q base && gIn p q a && gIn p q y && gIn p q b && zJ c c q && zJ S S q)=true) :
  Fn Tryz.prog 63 [yk p q g h,.string s,zi base,zi a,zi y,zi b,pfV c S] Tr (Is (.bool (decide (ckC p q (yg s) base a y b c S=c)))):=by
 have h1:=rU p q g h base hbs hp hq;have h2:=rU p q g h a ha hp hq;have h3:=rU p q g h y hy hp hq;have h4:=rU p q g h b hb hp hq;have h5:=sr p q g h s c hc hq;have h6:=sr p q g h s S hS hq;simp only[Bool.and_eq_true] at hB;obtain⟨⟨⟨⟨⟨e1,e2⟩,e3⟩,e4⟩,e5⟩,e6⟩:=hB;rw[e1] at h1;rw[e2] at h2;rw[e3] at h3;rw[e4] at h4;rw[e5] at h5;rw[e6] at h6;obtain⟨hq1,hcq,_⟩:=zL e5;have hbk:vS q c<q:=Nat.mod_lt _ (by omega);have hU:=aah p q g h 0 c zA hc hq;rw[show zJ 0 c q=true by simp[zJ,hq1,hcq];omega,show (0+q - c)%q=vS q c from rfl] at hU;have m1:=eF p q g h s base S a (vS q c) hbs hS ha (by omega) hp (vi e1) (vi e2);have m2:=eF p q g h s y S b (vS q c) hy hS hb (by omega) hp (vi e3) (vi e4);have hC:=fun j=>fe p q g h s base a y b (base ^ S%p*(a ^ vS q c%p)%p) (y ^ S%p*(b ^ vS q c%p)%p) j 0 6 hq (by omega) (by omega);have hcl:ckC p q (yg s) base a y b c S<zd:=Nat.lt_trans (vW (by omega) _ _) hq;rw[show mi q (yg s) [be 32 base,be 32 a,be 32 y,be 32 b,be 32 (base ^ S%p*(a ^ vS q c%p)%p),be 32 (y ^ S%p*(b ^ vS q c%p)%p)]=ckC p q (yg s) base a y b c S from rfl] at hC;generalize ckC p q (yg s) base a y b c S=R at *;generalize base ^ S%p*(a ^ vS q c%p)%p=P1 at *;generalize y ^ S%p*(b ^ vS q c%p)%p=P2 at *;generalize vS q c=B at *;clear e1 e2 e3 e4 e5 e6;refine Fn.enter Tryz.func63 rfl rfl rfl ?_;intro w hw
 repeat (first|refine WC.loopU 4 ?_|refine Ta ?_|(refine Tm ?_;intro _)|refine WO.does (zz (len:=4) (i:=0) rfl rfl (by decide) rfl) ?_|refine WO.acall (hc:=h1) (k:=?_)|refine Tc ?_|exact Tz)
 repeat (first|refine Ta ?_|(refine Tm ?_;intro _)|refine WO.does (zz (len:=4) (i:=1) rfl rfl (by decide) rfl) ?_|refine WO.acall (hc:=h2) (k:=?_)|refine Tc ?_|exact Tz)
 repeat (first|refine Ta ?_|(refine Tm ?_;intro _)|refine WO.does (zz (len:=4) (i:=2) rfl rfl (by decide) rfl) ?_|refine WO.acall (hc:=h3) (k:=?_)|refine Tc ?_|exact Tz)
 repeat (first|refine Ta ?_|(refine Tm ?_;intro _)|refine WO.does (zz (len:=4) (i:=3) rfl rfl (by decide) rfl) ?_|refine WO.acall (hc:=h4) (k:=?_)|refine Tc ?_|exact Tz)
 repeat (first|refine Ta ?_|(refine Tm ?_;intro _)|refine WO.acall (hc:=h5) (k:=?_)|refine WO.acall (hc:=h6) (k:=?_)|refine WO.acall (hc:=hU) (k:=?_)|refine Tc ?_|exact Tz)
 refine WC.adraw 25 (k:=?_)
 repeat (first|refine Da ?_|refine DQ.acall (hc:=m1) (k:=?_)|refine DQ.acall (hc:=m2) (k:=?_)|refine DQ.makes (fun s _=>ze (cs:=zb base++(zb a++(zb y++(zb b++(zb P1++zb P2))))) rfl (by decide) rfl) Dp.const Dp.const ?_|refine DQ.acallB 19 (fun s=>⟨s 19 0,24,zb base++(zb a++(zb y++(zb b++(zb P1++zb P2))))⟩) (fun s=>hC (s 19 0)) (fun s w hm=>Hs.seg Hs.here hm) ?_|refine DQ.does (fun s _=>yq) Dp.const ?_|refine Dc ?_)
 refine DQ.anil (k:=?_);intro sx _
 repeat (first|refine Tw ?_|(refine Tm ?_;intro _)|exact Tz)
 done
theorem abK (base a y b c S:Nat) (hp:p<zd) (hq:q<zd) (hbs:base<zd) (ha:a<zd) (hy:y<zd) (hb:b<zd) (hc:c<zd) (hS:S<zd) (hs:s.size≤68719476736) :
  Fn Tryz.prog 63 [yk p q g h,.string s,zi base,zi a,zi y,zi b,pfV c S] Tr (Is (.bool (ckB p q (yg s) base a y b c S))):=by
 unfold ckB;cases hB:(gIn p q base && gIn p q a && gIn p q y && gIn p q b && zJ c c q && zJ S S q) with
 | false=>rw[Bool.false_and];exact cL p q g h s base a y b c S hp hq hbs ha hy hb hc hS hB
 | true=>rw[Bool.true_and];exact cq p q g h s base a y b c S hp hq hbs ha hy hb hc hS hs hB
end
end Sx
end
section
open Go Go.RowKit Go.BigFrame
namespace Sx
abbrev vh (a b:Nat):List Value:=[.int .u64 ((wd 0 a:Nat):Int),.int .u64 ((wd 1 a:Nat):Int),.int .u64 ((wd 2 a:Nat):Int),.int .u64 ((wd 3 a:Nat):Int),.int .u64 ((wd 0 b:Nat):Int),.int .u64 ((wd 1 b:Nat):Int),.int .u64 ((wd 2 b:Nat):Int),.int .u64 ((wd 3 b:Nat):Int)]
theorem eG (op:BinOp) (x y:Operand) (a b:Array Value) (w:World):(eqGuard op 48 x y (.agg a) (.agg b)).run Tryz.prog w=.ok () w:=by cases op<;>kernel_rfl
end Sx
end
end Go.Proofs.YteibfbjpkjkejaaGreatDoor
